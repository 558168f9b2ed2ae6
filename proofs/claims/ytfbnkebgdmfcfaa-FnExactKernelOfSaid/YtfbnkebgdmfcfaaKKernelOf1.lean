/- Texts of this session in one: what functions of the program compute, and plain facts of it, under the conditions that each theorem names. -/
import Derived.Test.YtfbnkebgdmfcfaaKFimplalways
import Derived.Test.YtfbnkebgdmfcfaaKC01
import Derived.Test.YtfbnkebgdmfcfaaKC31
import Derived.Test.YtfbnkebgdmfcfaaKC32
namespace Go.Proofs.Ytfbnkebgdmfcfaa.Pr
open Go.RowKit Go.Proofs.YtfbnkebgdmfcfaaW.PrintWords Go.Proofs.YtfbnkebgdmfcfaaW.PrintLast Go.Proofs.YtfbnkebgdmfcfaaW.PrintMore
attribute [local go_sem] max2_int min2_int max_two min_two max_three min_three max_four min_four   -- for this text's walks alone
set_option linter.unusedVariables false
set_option linter.unusedSimpArgs false
/-! ### impl_KernelOf: function 52 -/
def impl_KernelOf.f (k : Nat) (a0_0 : Int) (l0_1 : List Int) (a1 : Int) (a2 : Int) : Option (List Int × Int) := (impl_kernelOf.f k a0_0 l0_1 a1 a2 (impl_always.f.getD false) ([] : List (List Int))).bind fun bt1024 => (some (bt1024.1, bt1024.2))
set_option maxHeartbeats 8000000 in
set_option maxRecDepth 100000 in
theorem impl_KernelOf.calls (k : Nat) (a0_0 : Int) (A0_1 : Option Addr) (c0_1 : Nat) (l0_1 : List Int) (a1 : Int) (a2 : Int) (r1 : List Int) (r2 : Int) (w : World) (hr0_1 : Kd.C (Kd.int .i64) w A0_1 l0_1.length l0_1) (hc0_1 : l0_1.length ≤ c0_1) (h : impl_KernelOf.f k a0_0 l0_1 a1 a2 = some (r1, r2)) :
  Calls Try.prog 52 #[.agg #[.int .i64 a0_0, .slice A0_1 l0_1.length c0_1], .int .i64 a1, .int .i64 a2] w fun e w' => ∃ v0_ : Value, e = .returned (.tuple #[v0_, .int .i64 r2]) ∧ Kd.R (Kd.int .i64) 2 w' w.heap.size (fun _ => True) v0_ r1 ∧ Below w.heap.size w w' := by
 have hu40 := Try.underlying40
 have HR0_1 := zA hr0_1
 have HC0_1 := zA hc0_1
 clear hr0_1 hc0_1
 have HB := zA (Below.refl w.heap.size w)
 have H : ((impl_kernelOf.f k a0_0 l0_1 a1 a2 (impl_always.f.getD false) ([] : List (List Int))).bind fun bt1024 => (some (bt1024.1, bt1024.2))) = some (r1, r2) := h
 clear h
 replace H := Option.bind_eq_some_iff.mp H
 obtain ⟨⟨t1024, t1027⟩, A40, H⟩ := H
 replace H : (some (t1024, t1027)) = some (r1, r2) := H
 have A4 := zA A40
 clear A40
 simp only [Option.some.injEq, Prod.mk.injEq] at H
 obtain ⟨rfl, rfl⟩ := H
 go_enter Try.func52, Try.ntmps52
 go_wp2_with (first | ((with_reducible refine gate_dst (N := 3) rfl ?_); refine bx 3 #[.int .i64 a0_0, .slice A0_1 l0_1.length c0_1] 40 ?_; intro gb1023 hg w5 hbox hb; have BK1023 := zA (hbox); have GW1023 := gq HB hg; have GE1023 := gq HB hg; replace HB := xH HB hb; have := geI GE1023; clear hb hbox hg; have hcz6_0 := bc BK1023 0; have hcz6_1 := bc BK1023 1; have hfz6_0 := bf BK1023 0; have hfz6_1 := bf BK1023 1) | ((with_reducible refine gate_callee (f := 108) rfl ?_); refine gL (some 11) Try.func108 #[.agg #[.int .i64 a0_0, .slice A0_1 l0_1.length c0_1], .int .i64 a1, .int .i64 a2, (.func (.func 92) #[] #[]), .slice none 0 0] ?_; (refine (impl_kernelOf.calls k a0_0 _ _ l0_1 a1 a2 _ (impl_always.f.getD false) _ _ ([] : List (List Int)) t1024 t1027 _ ?side1 ?side2 ?side3 ?side4 ?side5 A4.out).mono ?_); (case side1 => exact uC ((Kd.C_below HR0_1.out HB.out))); (case side2 => exact HC0_1.out); (case side3 => exact FnB.of Try.func92 (by kernel_rfl) rfl (fun W_ hW_ => calls_of_args (args' := #[]) (by simp) ((impl_always.calls  _ W_  rfl).mono fun e_ W2_ h_ => ⟨h_.1, h_.2.below⟩))); (case side4 => exact Kd.C_nil _ _); (case side5 => exact Nat.le_refl _); rintro e w7 ⟨v1025, rfl, ho0, hb⟩; refine ⟨_, rfl, ?_⟩; have HO1026 := zA (Kd.R_lower ho0 (below_size (uH HB.out))); replace BK1023 := xB BK1023 hb; replace HB := xH HB hb; (try clear hb); (try clear hb2); (try clear hk); (try clear hi); (try clear ho0)))
 go_ret2
 exact ⟨_, by first | rfl | (simp [errW_none, errW_some] <;> rfl) | (simp [*, errW_none, errW_some] <;> rfl), uR HO1026.out, uH HB.out⟩
/-! ### spec_KernelOf: function 51 -/
def spec_KernelOf.f (k : Nat) (a0_0 : Int) (l0_1 : List Int) (a1 : Int) (a2 : Int) : Option (List Int × Int) := (spec_l04Kernel.f k a0_0 l0_1 a1 a2).bind fun bt1000 => (some (bt1000.1, bt1000.2))
set_option maxHeartbeats 8000000 in
set_option maxRecDepth 100000 in
theorem spec_KernelOf.calls (k : Nat) (a0_0 : Int) (A0_1 : Option Addr) (c0_1 : Nat) (l0_1 : List Int) (a1 : Int) (a2 : Int) (r1 : List Int) (r2 : Int) (w : World) (hr0_1 : Kd.C (Kd.int .i64) w A0_1 l0_1.length l0_1) (hc0_1 : l0_1.length ≤ c0_1) (h : spec_KernelOf.f k a0_0 l0_1 a1 a2 = some (r1, r2)) :
  Calls Try.prog 51 #[.agg #[.int .i64 a0_0, .slice A0_1 l0_1.length c0_1], .int .i64 a1, .int .i64 a2] w fun e w' => ∃ v0_ : Value, e = .returned (.tuple #[v0_, .int .i64 r2]) ∧ Kd.R (Kd.int .i64) 2 w' w.heap.size (fun _ => True) v0_ r1 ∧ Below w.heap.size w w' := by
 have hu40 := Try.underlying40
 have HR0_1 := zA hr0_1
 have HC0_1 := zA hc0_1
 clear hr0_1 hc0_1
 have HB := zA (Below.refl w.heap.size w)
 have H : ((spec_l04Kernel.f k a0_0 l0_1 a1 a2).bind fun bt1000 => (some (bt1000.1, bt1000.2))) = some (r1, r2) := h
 clear h
 replace H := Option.bind_eq_some_iff.mp H
 obtain ⟨⟨t1000, t1003⟩, A40, H⟩ := H
 replace H : (some (t1000, t1003)) = some (r1, r2) := H
 have A4 := zA A40
 clear A40
 simp only [Option.some.injEq, Prod.mk.injEq] at H
 obtain ⟨rfl, rfl⟩ := H
 go_enter Try.func51, Try.ntmps51
 go_wp2_with (first | ((with_reducible refine gate_dst (N := 3) rfl ?_); refine bx 3 #[.int .i64 a0_0, .slice A0_1 l0_1.length c0_1] 40 ?_; intro gb999 hg w5 hbox hb; have BK999 := zA (hbox); have GW999 := gq HB hg; have GE999 := gq HB hg; replace HB := xH HB hb; have := geI GE999; clear hb hbox hg; have hcz6_0 := bc BK999 0; have hcz6_1 := bc BK999 1; have hfz6_0 := bf BK999 0; have hfz6_1 := bf BK999 1) | ((with_reducible refine gate_callee (f := 106) rfl ?_); refine gL (some 14) Try.func106 #[.agg #[.int .i64 a0_0, .slice A0_1 l0_1.length c0_1], .int .i64 a1, .int .i64 a2] ?_; (with_reducible refine (spec_l04Kernel.calls k a0_0 _ _ l0_1 a1 a2 t1000 t1003 _ ?side1 ?side2 A4.out).mono ?_); (case side1 => exact uC ((Kd.C_below HR0_1.out HB.out))); (case side2 => exact HC0_1.out); rintro e w7 ⟨v1001, rfl, ho0, hb⟩; refine ⟨_, rfl, ?_⟩; have HO1002 := zA (Kd.R_lower ho0 (below_size (uH HB.out))); replace BK999 := xB BK999 hb; replace HB := xH HB hb; (try clear hb); (try clear hb2); (try clear hk); (try clear hi); (try clear ho0)))
 go_ret2
 exact ⟨_, by first | rfl | (simp [errW_none, errW_some] <;> rfl) | (simp [*, errW_none, errW_some] <;> rfl), uR HO1002.out, uH HB.out⟩
/- KernelOf: for all arguments the program and the reference come to one value; no condition. -/
theorem KernelOf_both (p : Int) (l : List Int) (n a : Int) (hl : Sm l.length) : ∃ v : List Int × Int, Ev (fun k => spec_KernelOf.f k p l n a) v ∧ Ev (fun k => impl_KernelOf.f k p l n a) v ∧ Sm v.1.length := by
  have hc := implKernelOf_ev p l hl n a true [] (by simp [Sm]) (fun l h => by cases h)
  rw [List.all_nil, Bool.and_true] at hc
  have hc2 : Ev (fun k => impl_kernelOf.f k p l n a true []) (if momB p l = true then (if kerR p n a then kerV p l n.toNat a else ([], 2)) else ([], 1)) := by
    have e : (if kerR p n a ∧ true = true then kerV p l n.toNat a else ([], 2)) = (if kerR p n a then kerV p l n.toNat a else ([], 2)) := by
      by_cases g : kerR p n a
      · rw [if_pos g, if_pos ⟨g, rfl⟩]
      · rw [if_neg g, if_neg (fun h => g h.1)]
    rw [e] at hc
    exact hc
  refine ⟨if momB p l = true then (if kerR p n a then kerV p l n.toNat a else ([], 2)) else ([], 1), ?_, ?_, ?_⟩
  rotate_left
  rotate_left
  · by_cases h : momB p l = true
    · rw [if_pos h]
      by_cases g : kerR p n a
      · rw [if_pos g]
        unfold kerV
        have := kerP_len (momB.pm h) l n.toNat a
        have := g.1
        split
        · unfold Sm; dsimp only; omega
        · simp [Sm]
      · rw [if_neg g]; simp [Sm]
    · rw [if_neg h]; simp [Sm]
  · unfold spec_KernelOf.f
    exact Ev.bind (specKernel_ev p l hl n a) (Ev.now _)
  · unfold impl_KernelOf.f
    exact Ev.bind hc2 (Ev.now _)
end Go.Proofs.Ytfbnkebgdmfcfaa.Pr
