/- Texts of this session in one: what functions of the program compute, and plain facts of it, under the conditions that each theorem names. -/
import Derived.Test.YtfbnkebgdmfcfaaKFimplNormOf
import Derived.Test.YtfbnkebgdmfcfaaKFimplalways
import Derived.Test.YtfbnkebgdmfcfaaKFspecl04Polys
import Derived.Test.YtfbnkebgdmfcfaaKC01
import Derived.Test.YtfbnkebgdmfcfaaKC010
import Derived.Test.YtfbnkebgdmfcfaaKC05
import Derived.Test.YtfbnkebgdmfcfaaKC08
import Derived.Test.YtfbnkebgdmfcfaaKC09
namespace Go.Proofs.Ytfbnkebgdmfcfaa.Pr
open Go.RowKit Go.Proofs.YtfbnkebgdmfcfaaW.PrintWords Go.Proofs.YtfbnkebgdmfcfaaW.PrintLast Go.Proofs.YtfbnkebgdmfcfaaW.PrintMore
attribute [local go_sem] max2_int min2_int max_two min_two max_three min_three max_four min_four   -- for this text's walks alone
set_option linter.unusedVariables false
set_option linter.unusedSimpArgs false
/-! ### impl_NormsOf: function 42 -/
def impl_NormsOf.l0 : Nat → List Int → Int → Int → Int → List Int → Option (List Int × Int)
 | 0, _, _, _, _, _ => none
 | k + 1, x5, x16, x17, x531000, x531001 => if x17 < x16 then ((impl_NormOf.f k x531000 x531001 x17).bind fun bt533 => (if x5.length < 17592186044416 then (impl_NormsOf.l0 k (x5 ++ [bt533.1]) x16 (wrap64 (x17 + 1)) x531000 x531001) else (none))) else (some (x5, 0))
def impl_NormsOf.f (k : Nat) (a0_0 : Int) (l0_1 : List Int) : Option (List Int × Int) := (impl_momentsCode.f k a0_0 l0_1 (impl_always.f.getD false) ([] : List (List Int))).bind fun t531 => (if t531 = 0 then ((impl_Moments_order.f k a0_0 l0_1).bind fun t532 => (impl_NormsOf.l0 k ([] : List Int) (mn t532 12) 0 a0_0 l0_1)) else (some (([] : List Int), t531)))
set_option maxHeartbeats 8000000 in
set_option maxRecDepth 100000 in
theorem impl_NormsOf.calls (k : Nat) (a0_0 : Int) (A0_1 : Option Addr) (c0_1 : Nat) (l0_1 : List Int) (r1 : List Int) (r2 : Int) (w : World) (hr0_1 : Kd.C (Kd.int .i64) w A0_1 l0_1.length l0_1) (hc0_1 : l0_1.length ≤ c0_1) (h : impl_NormsOf.f k a0_0 l0_1 = some (r1, r2)) :
  Calls Try.prog 42 #[.agg #[.int .i64 a0_0, .slice A0_1 l0_1.length c0_1]] w fun e w' => ∃ v0_ : Value, e = .returned (.tuple #[v0_, .int .i64 r2]) ∧ Kd.R (Kd.int .i64) 2 w' w.heap.size (fun _ => True) v0_ r1 ∧ Below w.heap.size w w' := by
 have hu40 := Try.underlying40
 have HR0_1 := zA hr0_1
 have HC0_1 := zA hc0_1
 clear hr0_1 hc0_1
 have HB := zA (Below.refl w.heap.size w)
 have H : ((impl_momentsCode.f k a0_0 l0_1 (impl_always.f.getD false) ([] : List (List Int))).bind fun t531 => (if t531 = 0 then ((impl_Moments_order.f k a0_0 l0_1).bind fun t532 => (impl_NormsOf.l0 k ([] : List Int) (mn t532 12) 0 a0_0 l0_1)) else (some (([] : List Int), t531)))) = some (r1, r2) := h
 clear h
 replace H := Option.bind_eq_some_iff.mp H
 obtain ⟨t531, A20, H⟩ := H
 replace H : (if t531 = 0 then ((impl_Moments_order.f k a0_0 l0_1).bind fun t532 => (impl_NormsOf.l0 k ([] : List Int) (mn t532 12) 0 a0_0 l0_1)) else (some (([] : List Int), t531))) = some (r1, r2) := H
 have A2 := zA A20
 clear A20
 by_cases c3 : t531 = 0
 rotate_left
 ·rw [if_neg c3] at H
  have c3b0 : (t531 == 0) = false := beq_eq_false_iff_ne.mpr c3
  have c3b1 : (t531 != 0) = true := bne_iff_ne.mpr c3
  simp only [Option.some.injEq, Prod.mk.injEq] at H
  obtain ⟨rfl, rfl⟩ := H
  go_enter Try.func42, Try.ntmps42
  go_wp2_with (first | ((with_reducible refine gate_dst (N := 1) rfl ?_); refine bx 1 #[.int .i64 a0_0, .slice A0_1 l0_1.length c0_1] 40 ?_; intro gb530 hg w17 hbox hb; have BK530 := zA (hbox); have GW530 := gq HB hg; have GE530 := gq HB hg; replace HB := xH HB hb; have := geI GE530; clear hb hbox hg; have hcz18_0 := bc BK530 0; have hcz18_1 := bc BK530 1; have hfz18_0 := bf BK530 0; have hfz18_1 := bf BK530 1) | ((with_reducible refine gate_callee (f := 68) rfl ?_); refine gL (some 10) Try.func68 #[.agg #[.int .i64 a0_0, .slice A0_1 l0_1.length c0_1], (.func (.func 92) #[] #[]), .slice none 0 0] ?_; (refine (impl_momentsCode.calls k a0_0 _ _ l0_1 _ (impl_always.f.getD false) _ _ ([] : List (List Int)) t531 _ ?side1 ?side2 ?side3 ?side4 ?side5 A2.out).mono ?_); (case side1 => exact uC ((Kd.C_below HR0_1.out HB.out))); (case side2 => exact HC0_1.out); (case side3 => exact FnB.of Try.func92 (by kernel_rfl) rfl (fun W_ hW_ => calls_of_args (args' := #[]) (by simp) ((impl_always.calls  _ W_  rfl).mono fun e_ W2_ h_ => ⟨h_.1, h_.2.below⟩))); (case side4 => exact Kd.C_nil _ _); (case side5 => exact Nat.le_refl _); rintro e w19 ⟨rfl, hb⟩; refine ⟨_, rfl, ?_⟩; replace BK530 := xB BK530 hb; replace HB := xH HB hb; (try clear hb); (try clear hb2); (try clear hk); (try clear hi)))
  go_ret2
  exact ⟨_, by first | rfl | (simp [errW_none, errW_some] <;> rfl) | (simp [*, errW_none, errW_some] <;> rfl), by first | exact Kd.R_nil _ _ _ _ _ | exact Kd.N_nil _ _ _ _ _ | exact Kd.V_nil _ _ _ _ _ | exact Kd.Q_nil _ _ _ _ _ | exact Kd.S_nil _ _ _ _ _, uH HB.out⟩

 rw [if_pos c3] at H
 have c3b0 : (t531 == 0) = true := beq_iff_eq.mpr c3
 have c3b1 : (t531 != 0) = false := bne_eq_false_iff_eq.mpr c3
 clear c3
 replace H := Option.bind_eq_some_iff.mp H
 obtain ⟨t532, A40, H⟩ := H
 replace H : (impl_NormsOf.l0 k ([] : List Int) (mn t532 12) 0 a0_0 l0_1) = some (r1, r2) := H
 have A4 := zA A40
 clear A40
 obtain ⟨ji5, hji5⟩ : ∃ j_ : Int, (mn t532 12) = j_ := ⟨_, rfl⟩
 replace H : (impl_NormsOf.l0 k ([] : List Int) ji5 0 a0_0 l0_1) = some (r1, r2) := by first | (rw [hji5] at H; exact H) | (simp only [hji5] at H ⊢; exact H)
 (try rw [hji5] at A2)
 (try rw [hji5] at A4)
 (try (have hji5h : ji5 ≤ 12 := by (rw [← hji5]; unfold mn; (repeat' split) <;> omega)))
 (try (have hji5g : ji5 ≤ 64 := by omega))
 have hji5_ : (if 12 < t532 then 12 else t532) = ji5 := hji5
 have H' := zA H
 clear H
 go_enter Try.func42, Try.ntmps42
 go_wp2_with (first | ((with_reducible refine gate_dst (N := 1) rfl ?_); refine bx 1 #[.int .i64 a0_0, .slice A0_1 l0_1.length c0_1] 40 ?_; intro gb530 hg w6 hbox hb; have BK530 := zA (hbox); have GW530 := gq HB hg; have GE530 := gq HB hg; replace HB := xH HB hb; have := geI GE530; clear hb hbox hg; have hcz7_0 := bc BK530 0; have hcz7_1 := bc BK530 1; have hfz7_0 := bf BK530 0; have hfz7_1 := bf BK530 1) | ((with_reducible refine gate_callee (f := 68) rfl ?_); refine gL (some 10) Try.func68 #[.agg #[.int .i64 a0_0, .slice A0_1 l0_1.length c0_1], (.func (.func 92) #[] #[]), .slice none 0 0] ?_; (refine (impl_momentsCode.calls k a0_0 _ _ l0_1 _ (impl_always.f.getD false) _ _ ([] : List (List Int)) t531 _ ?side1 ?side2 ?side3 ?side4 ?side5 A2.out).mono ?_); (case side1 => exact uC ((Kd.C_below HR0_1.out HB.out))); (case side2 => exact HC0_1.out); (case side3 => exact FnB.of Try.func92 (by kernel_rfl) rfl (fun W_ hW_ => calls_of_args (args' := #[]) (by simp) ((impl_always.calls  _ W_  rfl).mono fun e_ W2_ h_ => ⟨h_.1, h_.2.below⟩))); (case side4 => exact Kd.C_nil _ _); (case side5 => exact Nat.le_refl _); rintro e w8 ⟨rfl, hb⟩; refine ⟨_, rfl, ?_⟩; replace BK530 := xB BK530 hb; replace HB := xH HB hb; (try clear hb); (try clear hb2); (try clear hk); (try clear hi); have hcz9_0 := bc BK530 0; have hcz9_1 := bc BK530 1; have hfz9_0 := bf BK530 0; have hfz9_1 := bf BK530 1) | ((with_reducible refine gate_callee (f := 93) rfl ?_); refine gL (some 15) Try.func93 #[.agg #[.int .i64 a0_0, .slice A0_1 l0_1.length c0_1]] ?_; (with_reducible refine (impl_Moments_order.calls k a0_0 _ _ l0_1 t532 _ ?side1 ?side2 A4.out).mono ?_); (case side1 => exact uC ((Kd.C_below HR0_1.out HB.out))); (case side2 => exact HC0_1.out); rintro e w10 ⟨rfl, hb⟩; refine ⟨_, rfl, ?_⟩; replace BK530 := xB BK530 hb; replace HB := xH HB hb; (try clear hb); (try clear hb2); (try clear hk); (try clear hi)))
 go_loopg [5, 17] k (fun kq v5 v17 w' => ∃ (x5_1 : List Int) (x17_1 : Int), v17 = .int .i64 x17_1 ∧ Aside0 (impl_NormsOf.l0 kq x5_1 ji5 x17_1 a0_0 l0_1 = some (r1, r2)) ∧ Aside0 (kq ≤ k) ∧ Aside0 (Kd.R (Kd.int .i64) 2 w' w.heap.size (fun _ => True) v5 x5_1) ∧ Aside0 (w'.heap[gb530]? = some (.cells #[.int .i64 a0_0, (.slice A0_1 l0_1.length c0_1)] 40 (0, 0))) ∧ Aside0 (Below w.heap.size w w'))
 case atStart => exact ⟨(([] : List Int)), (0), (by first | rfl | (simp; done) | (simp [*]; done)), H', ⟨Nat.le_refl _⟩, ⟨by first | exact Kd.R_nil _ _ _ _ _ | exact Kd.N_nil _ _ _ _ _ | exact Kd.V_nil _ _ _ _ _ | exact Kd.Q_nil _ _ _ _ _ | exact Kd.S_nil _ _ _ _ _⟩, ⟨uB BK530.out⟩, ⟨uH HB.out⟩⟩
 case round =>
  clear H'
  (try clear p2);(try clear c3);(try clear c3b0);(try clear c3b1);(try clear c4);(try clear c6);(try clear c9);(try clear hcz7_0);(try clear hcz7_1);(try clear hcz9_0);(try clear hcz9_1);(try clear hfz7_0);(try clear hfz7_1);(try clear hfz9_0);(try clear hfz9_1)
  obtain ⟨x5_1, x17_1, rfl, HA, HK1, HO_5, BK530, HB⟩ := hrel
  cases gk with
  | zero => exact absurd HA.out (by simp [impl_NormsOf.l0])
  | succ k1 =>
   have H := HA.out
   clear HA
   simp only [impl_NormsOf.l0] at H
   by_cases c11 : x17_1 < ji5
   rotate_left
   ·rw [if_neg c11] at H
    have c11b0 : decide (x17_1 < ji5) = false := decide_eq_false c11
    clear c11
    simp only [Option.some.injEq, Prod.mk.injEq] at H
    obtain ⟨rfl, rfl⟩ := H
    go_wp2
    go_ret2
    exact ⟨_, by first | rfl | (simp [errW_none, errW_some] <;> rfl) | (simp only [← hji5]; first | rfl | (simp [errW_none, errW_some] <;> rfl)) | (simp [*, errW_none, errW_some] <;> rfl), uR HO_5.out, uH HB.out⟩
   rw [if_pos c11] at H
   have c11b0 : decide (x17_1 < ji5) = true := decide_eq_true c11
   clear c11
   replace H := Option.bind_eq_some_iff.mp H
   obtain ⟨⟨t533, t534⟩, A120, H⟩ := H
   replace H : (if x5_1.length < 17592186044416 then (impl_NormsOf.l0 k1 (x5_1 ++ [t533]) ji5 (wrap64 (x17_1 + 1)) a0_0 l0_1) else (none)) = some (r1, r2) := H
   have A12 := zA A120
   clear A120
   by_cases c13 : x5_1.length < 17592186044416
   rotate_left
   ·rw [if_neg c13] at H
    exact absurd H (by simp)
   rw [if_pos c13] at H
   have LMc13 := zA c13
   clear c13
   obtain ⟨y535, hy535⟩ : ∃ y_ : List Int, y_ = (x5_1 ++ [t533]) := ⟨_, rfl⟩
   replace H : (impl_NormsOf.l0 k1 y535 ji5 (wrap64 (x17_1 + 1)) a0_0 l0_1) = some (r1, r2) := by first | (rw [hy535]; exact H) | exact H
   have Ny535 := zA hy535
   clear hy535
   have H' := zA H
   clear H
   have hcz14_0 := bc BK530 0
   have hcz14_1 := bc BK530 1
   have hfz14_0 := bf BK530 0
   have hfz14_1 := bf BK530 1
   go_wp2_with (first | ((with_reducible refine gate_callee (f := 37) rfl ?_); refine gL (some 23) Try.func37 #[.agg #[.int .i64 a0_0, .slice A0_1 l0_1.length c0_1], .int .i64 x17_1] ?_; (with_reducible refine (impl_NormOf.calls k1 a0_0 _ _ l0_1 x17_1 t533 t534 _ ?side1 ?side2 A12.out).mono ?_); (case side1 => exact uC ((Kd.C_below HR0_1.out HB.out))); (case side2 => exact HC0_1.out); rintro e w15 ⟨rfl, hb⟩; refine ⟨_, rfl, ?_⟩; replace HO_5 := xR HO_5 hb; replace BK530 := xB BK530 hb; replace HB := xH HB hb; (try clear hb); (try clear hb2); (try clear hk); (try clear hi)) | ((with_reducible refine gate_builtin (b := .append) (xs := #[.tmp 26, .tmp 28]) rfl ?_); at_builtin; refine Kd.R_append (Kd.int .i64) (w0 := w) w.heap.size rfl (.tmp 26) (.tmp 28) 22 2 (.int .i64 0) 8 rfl Try.underlying22 info2 rfl (by decide) (by omega) u5 x5_1 t533 [.int .i64 t533] (fun _ => True) (fun _ => False) rfl rfl ?aP (fun _ hk => hk.elim) ?aF ?aO ?aB ?aS ?aL ?_; (case aP => exact rfl); (case aB => exact (uH HB.out)); (case aF => exact (fun _ _ => trivial)); (case aO => exact (uR HO_5.out)); (case aS => exact (below_size (uH HB.out))); (case aL => have := LMc13.out; omega); intro v536 w16 ho hb hg hat; rw [← Ny535.out] at ho; replace BK530 := zA (blk_grown (g := gb530) (o := .cells #[.int .i64 a0_0, .slice A0_1 l0_1.length c0_1] 40 (0, 0)) (uB BK530.out) hg (Kd.R_ne HO_5.out BK530.out (by decide))); replace HB := zA (hb); have HO537 := zA (ho); clear HO_5 ho hb hg hat))
   go_roundg k1
   case measure => have := HK1.out; omega
   case rel => exact ⟨(y535), (wrap64 (x17_1 + 1)), (by first | rfl | (simp; done) | (simp [*]; done)), H', ⟨by have := HK1.out; omega⟩, ⟨uR HO537.out⟩, ⟨uB BK530.out⟩, ⟨uH HB.out⟩⟩
/-! ### spec_NormsOf: function 41 -/
def spec_NormsOf.l0 : Nat → List Int → Int → Int → List Int → Option (List Int × Int)
 | 0, _, _, _, _ => none
 | k + 1, x4, x5, x517000, x517001 => (spec_l02Order.f k x517000 x517001).bind fun t521 => (if x5 < (mn t521 12) then ((spec_l04Polys.f k x517000 x517001 x5).bind fun t522 => (if 0 ≤ x5 then (if x5 < (t522.length : Int) then ((spec_l04Norm.f k x517000 x517001 (rd_L1 t522 x5) 0).bind fun t526 => (if x4.length < 17592186044416 then (spec_NormsOf.l0 k (x4 ++ [t526]) (wrap64 (x5 + 1)) x517000 x517001) else (none))) else (none)) else (none))) else (some (x4, 0)))
def spec_NormsOf.f (k : Nat) (a0_0 : Int) (l0_1 : List Int) : Option (List Int × Int) := (spec_l02Are.f k a0_0 l0_1).bind fun t517 => (if t517 = true then (spec_NormsOf.l0 k (([] : List Int)) 0 a0_0 l0_1) else (some (([] : List Int), 1)))
def spec_NormsOf.T7 : Bool × List (List Nat × List Nat) := (true, [([], []), ([], []), ([], []), ([], []), ([2, 3], [2, 3]), ([], []), ([4, 5], [4, 5]), ([6], [6]), ([1, 7, 4], [1, 7]), ([8], [8]), ([0, 9, 8], [0, 9]), ([10, 10, 0, 1, 2, 3, 4, 5, 6, 7, 8, 9, 10], [0, 10])])
def spec_NormsOf.B7 : List Nat := [0, 0, 0, 0, 12, 0, 60, 124, 254, 510, 1023, 2047]
theorem spec_NormsOf.tab7 : rtab .any (opsOf Try.f41 7) = spec_NormsOf.T7 := by kernel_rfl
theorem spec_NormsOf.bits7 : waitsOk spec_NormsOf.T7.2 spec_NormsOf.B7 = true := by kernel_rfl
set_option maxHeartbeats 8000000 in
set_option maxRecDepth 100000 in
theorem spec_NormsOf.calls (k : Nat) (a0_0 : Int) (A0_1 : Option Addr) (c0_1 : Nat) (l0_1 : List Int) (r1 : List Int) (r2 : Int) (w : World) (hr0_1 : Kd.C (Kd.int .i64) w A0_1 l0_1.length l0_1) (hc0_1 : l0_1.length ≤ c0_1) (h : spec_NormsOf.f k a0_0 l0_1 = some (r1, r2)) :
  Calls Try.prog 41 #[.agg #[.int .i64 a0_0, .slice A0_1 l0_1.length c0_1]] w fun e w' => ∃ v0_ : Value, e = .returned (.tuple #[v0_, .int .i64 r2]) ∧ Kd.R (Kd.int .i64) 2 w' w.heap.size (fun _ => True) v0_ r1 ∧ Below w.heap.size w w' := by
 have hu40 := Try.underlying40
 have HR0_1 := zA hr0_1
 have HC0_1 := zA hc0_1
 clear hr0_1 hc0_1
 have HB := zA (Below.refl w.heap.size w)
 have H : ((spec_l02Are.f k a0_0 l0_1).bind fun t517 => (if t517 = true then (spec_NormsOf.l0 k (([] : List Int)) 0 a0_0 l0_1) else (some (([] : List Int), 1)))) = some (r1, r2) := h
 clear h
 replace H := Option.bind_eq_some_iff.mp H
 obtain ⟨t517, A20, H⟩ := H
 replace H : (if t517 = true then (spec_NormsOf.l0 k (([] : List Int)) 0 a0_0 l0_1) else (some (([] : List Int), 1))) = some (r1, r2) := H
 have A2 := zA A20
 clear A20
 by_cases c3 : t517 = true
 ·subst c3
  have H1 : (spec_NormsOf.l0 k (([] : List Int)) 0 a0_0 l0_1) = some (r1, r2) := by rw [if_pos rfl] at H; exact H
  clear H
  have H := H1
  clear H1
  obtain ⟨y518, hy518⟩ : ∃ y_ : List Int, y_ = (([] : List Int)) := ⟨_, rfl⟩
  replace H : (spec_NormsOf.l0 k y518 0 a0_0 l0_1) = some (r1, r2) := by first | (rw [hy518]; exact H) | exact H
  have Ny518 := zA hy518
  clear hy518
  have H' := zA H
  clear H
  go_enter Try.func41, Try.ntmps41
  go_wp2_with (first | ((with_reducible refine gate_dst (N := 1) rfl ?_); refine bx 1 #[.int .i64 a0_0, .slice A0_1 l0_1.length c0_1] 40 ?_; intro gb516 hg w4 hbox hb; have BK516 := zA (hbox); have GW516 := gq HB hg; have GE516 := gq HB hg; replace HB := xH HB hb; have := geI GE516; clear hb hbox hg; have hcz5_0 := bc BK516 0; have hcz5_1 := bc BK516 1; have hfz5_0 := bf BK516 0; have hfz5_1 := bf BK516 1) | ((with_reducible refine gate_callee (f := 61) rfl ?_); refine gL (some 7) Try.func61 #[.agg #[.int .i64 a0_0, .slice A0_1 l0_1.length c0_1]] ?_; (with_reducible refine (spec_l02Are.calls k a0_0 _ _ l0_1 true _ ?side1 ?side2 A2.out).mono ?_); (case side1 => exact uC ((Kd.C_below HR0_1.out HB.out))); (case side2 => exact HC0_1.out); rintro e w6 ⟨rfl, hb⟩; refine ⟨_, rfl, ?_⟩; replace BK516 := xB BK516 hb; replace HB := xH HB hb; (try clear hb); (try clear hb2); (try clear hk); (try clear hi)) | ((with_reducible refine gate_dst (N := 9) rfl ?_); refine Kd.R_lit (Kd.int .i64) _ 2 ?hg (N := 9) ?hd (xs := ([] : List Int)) (inner := []) (ok := fun _ => True) (okp := fun _ => True) ?hr ?hp (fun _ hk => hk) trivial (Below.refl _ _) (Nat.le_refl _) (by simp) ?_; (case hd => rfl); (case hg => rfl); (case hr => first | (go_simp; done) | (go_simp; rfl)); (case hp => exact (Reps.none _ _)); intro v519 w7 ho8 hb hg_ hnew_; clear hg_ hnew_; (first | rw [← Ny518.out] at ho8 | (simp only [Int.reduceToNat] at ho8; rw [← Ny518.out] at ho8)); have HO520 := zA (Kd.R_lower ho8 (below_size (uH HB.out))); replace BK516 := xB BK516 hb; replace HB := xH HB hb; clear hb ho8))
  go_loopg [4, 5] k (fun kq v4 v5 w' => ∃ (x4_1 : List Int) (x5_1 : Int), v5 = .int .i64 x5_1 ∧ Aside0 (spec_NormsOf.l0 kq x4_1 x5_1 a0_0 l0_1 = some (r1, r2)) ∧ Aside0 (kq ≤ k) ∧ Aside0 (Kd.R (Kd.int .i64) 2 w' w.heap.size (fun _ => True) v4 x4_1) ∧ Aside0 (w'.heap[gb516]? = some (.cells #[.int .i64 a0_0, (.slice A0_1 l0_1.length c0_1)] 40 (0, 0))) ∧ Aside0 (Below w.heap.size w w'))
  case atStart => exact ⟨(y518), (0), (by first | rfl | (simp; done) | (simp [*]; done)), H', ⟨Nat.le_refl _⟩, ⟨uR HO520.out⟩, ⟨uB BK516.out⟩, ⟨uH HB.out⟩⟩
  case round =>
   clear H'
   (try clear p2);(try clear c3);(try clear c4);(try clear c6);(try clear hcz5_0);(try clear hcz5_1);(try clear hfz5_0);(try clear hfz5_1)
   obtain ⟨x4_1, x5_1, rfl, HA, HK1, HO_4, BK516, HB⟩ := hrel
   cases gk with
   | zero => exact absurd HA.out (by simp [spec_NormsOf.l0])
   | succ k1 =>
    have H := HA.out
    clear HA
    simp only [spec_NormsOf.l0] at H
    replace H := Option.bind_eq_some_iff.mp H
    obtain ⟨t521, A90, H⟩ := H
    replace H : (if x5_1 < (mn t521 12) then ((spec_l04Polys.f k1 a0_0 l0_1 x5_1).bind fun t522 => (if 0 ≤ x5_1 then (if x5_1 < (t522.length : Int) then ((spec_l04Norm.f k1 a0_0 l0_1 (rd_L1 t522 x5_1) 0).bind fun t526 => (if x4_1.length < 17592186044416 then (spec_NormsOf.l0 k1 (x4_1 ++ [t526]) (wrap64 (x5_1 + 1)) a0_0 l0_1) else (none))) else (none)) else (none))) else (some (x4_1, 0))) = some (r1, r2) := H
    have A9 := zA A90
    clear A90
    obtain ⟨ji10, hji10⟩ : ∃ j_ : Int, (mn t521 12) = j_ := ⟨_, rfl⟩
    replace H : (if x5_1 < (ji10) then ((spec_l04Polys.f k1 a0_0 l0_1 x5_1).bind fun t522 => (if 0 ≤ x5_1 then (if x5_1 < (t522.length : Int) then ((spec_l04Norm.f k1 a0_0 l0_1 (rd_L1 t522 x5_1) 0).bind fun t526 => (if x4_1.length < 17592186044416 then (spec_NormsOf.l0 k1 (x4_1 ++ [t526]) (wrap64 (x5_1 + 1)) a0_0 l0_1) else (none))) else (none)) else (none))) else (some (x4_1, 0))) = some (r1, r2) := by first | (rw [hji10] at H; exact H) | (simp only [hji10] at H ⊢; exact H)
    (try rw [hji10] at A9)
    (try (have hji10h : ji10 ≤ 12 := by (rw [← hji10]; unfold mn; (repeat' split) <;> omega)))
    (try (have hji10g : ji10 ≤ 64 := by omega))
    have hji10_ : (if 12 < t521 then 12 else t521) = ji10 := hji10
    by_cases c11 : x5_1 < (ji10)
    rotate_left
    ·rw [if_neg c11] at H
     have c11b0 : decide (x5_1 < (ji10)) = false := decide_eq_false c11
     clear c11
     simp only [Option.some.injEq, Prod.mk.injEq] at H
     obtain ⟨rfl, rfl⟩ := H
     have hcz24_0 := bc BK516 0
     have hcz24_1 := bc BK516 1
     have hfz24_0 := bf BK516 0
     have hfz24_1 := bf BK516 1
     go_wp2_with (first | ((with_reducible refine gate_callee (f := 91) rfl ?_); refine gL (some 12) Try.func91 #[.agg #[.int .i64 a0_0, .slice A0_1 l0_1.length c0_1]] ?_; (with_reducible refine (spec_l02Order.calls k1 a0_0 _ _ l0_1 t521 _ ?side1 ?side2 A9.out).mono ?_); (case side1 => exact uC ((Kd.C_below HR0_1.out HB.out))); (case side2 => exact HC0_1.out); rintro e w25 ⟨rfl, hb⟩; refine ⟨_, rfl, ?_⟩; replace HO_4 := xR HO_4 hb; replace BK516 := xB BK516 hb; replace HB := xH HB hb; (try clear hb); (try clear hb2); (try clear hk); (try clear hi)))
     go_ret2
     exact ⟨_, by first | rfl | (simp [errW_none, errW_some] <;> rfl) | (simp only [← hji10]; first | rfl | (simp [errW_none, errW_some] <;> rfl)) | (simp [*, errW_none, errW_some] <;> rfl), uR HO_4.out, uH HB.out⟩
    rw [if_pos c11] at H
    have c11b0 : decide (x5_1 < (ji10)) = true := decide_eq_true c11
    clear c11
    replace H := Option.bind_eq_some_iff.mp H
    obtain ⟨t522, A120, H⟩ := H
    replace H : (if 0 ≤ x5_1 then (if x5_1 < (t522.length : Int) then ((spec_l04Norm.f k1 a0_0 l0_1 (rd_L1 t522 x5_1) 0).bind fun t526 => (if x4_1.length < 17592186044416 then (spec_NormsOf.l0 k1 (x4_1 ++ [t526]) (wrap64 (x5_1 + 1)) a0_0 l0_1) else (none))) else (none)) else (none)) = some (r1, r2) := H
    have A12 := zA A120
    clear A120
    by_cases c13 : 0 ≤ x5_1
    rotate_left
    ·rw [if_neg c13] at H
     exact absurd H (by simp)
    rw [if_pos c13] at H
    have c13b0 : decide (0 ≤ x5_1) = true := decide_eq_true c13
    clear c13
    by_cases c14 : x5_1 < (t522.length : Int)
    rotate_left
    ·rw [if_neg c14] at H
     exact absurd H (by simp)
    rw [if_pos c14] at H
    have c14b0 : decide (x5_1 < (t522.length : Int)) = true := decide_eq_true c14
    clear c14
    replace H := Option.bind_eq_some_iff.mp H
    obtain ⟨t526, A150, H⟩ := H
    replace H : (if x4_1.length < 17592186044416 then (spec_NormsOf.l0 k1 (x4_1 ++ [t526]) (wrap64 (x5_1 + 1)) a0_0 l0_1) else (none)) = some (r1, r2) := H
    have A15 := zA A150
    clear A150
    by_cases c16 : x4_1.length < 17592186044416
    rotate_left
    ·rw [if_neg c16] at H
     exact absurd H (by simp)
    rw [if_pos c16] at H
    have LMc16 := zA c16
    clear c16
    obtain ⟨y527, hy527⟩ : ∃ y_ : List Int, y_ = (x4_1 ++ [t526]) := ⟨_, rfl⟩
    replace H : (spec_NormsOf.l0 k1 y527 (wrap64 (x5_1 + 1)) a0_0 l0_1) = some (r1, r2) := by first | (rw [hy527]; exact H) | exact H
    have Ny527 := zA hy527
    clear hy527
    have H' := zA H
    clear H
    have hcz17_0 := bc BK516 0
    have hcz17_1 := bc BK516 1
    have hfz17_0 := bf BK516 0
    have hfz17_1 := bf BK516 1
    try go_wp2_with (first | ((with_reducible refine gate_callee (f := 91) rfl ?_); refine gL (some 12) Try.func91 #[.agg #[.int .i64 a0_0, .slice A0_1 l0_1.length c0_1]] ?_; (with_reducible refine (spec_l02Order.calls k1 a0_0 _ _ l0_1 t521 _ ?side1 ?side2 A9.out).mono ?_); (case side1 => exact uC ((Kd.C_below HR0_1.out HB.out))); (case side2 => exact HC0_1.out); rintro e w18 ⟨rfl, hb⟩; refine ⟨_, rfl, ?_⟩; replace HO_4 := xR HO_4 hb; replace BK516 := xB BK516 hb; replace HB := xH HB hb; (try clear hb); (try clear hb2); (try clear hk); (try clear hi)))
    replace HO_4 := zA (Kd.R_drew HO_4.out)
    replace BK516 := zA (blk_drew BK516.out)
    replace HB := zA (below_drew1 HB.out)
    refine start_ (n := 12) (S := fun w' => w'.cell? ⟨gb516, 0, none⟩ = some (.int .i64 a0_0) ∧ w'.cell? ⟨gb516, 1, none⟩ = some (.slice A0_1 l0_1.length c0_1)) (ds := [9, 10]) #[false, false, false, false, false, false, false, false, false, false, false, false] (by kernel_rfl) rfl rfl ⟨bcu BK516 0, bcu BK516 1⟩ (fun hHeld => ?_); refine with_tabW spec_NormsOf.tab7 spec_NormsOf.bits7 (fun HT_ HW_ => ?_)
    generalize w18.drew = w19 at HO_4 BK516 HB hHeld ⊢
    refine pu_ 0 17 (bl 12 1) HT_ ?_
    refine pu_ 3 20 (bl 12 9) HT_ ?_
    refine pu_ 5 22 (bl 12 41) HT_ ?_
    refine ta_ 1 18 (bl 12 43) HT_ HW_ hHeld ?_
    refine ta_ 2 19 (bl 12 47) HT_ HW_ hHeld ?_
    refine on_ 4 (some 21) (bl 12 63) HT_ (fun K hK => ?_)
    refine gS Try.func85 #[.agg #[.int .i64 a0_0, .slice A0_1 l0_1.length c0_1], .int .i64 x5_1] ?_
    with_reducible refine (spec_l04Polys.calls k1 a0_0 _ _ l0_1 x5_1 t522 _ ?side1 ?side2 A12.out).mono ?_
    (case side1 => exact uC ((Kd.C_below HR0_1.out HB.out)))
    (case side2 => exact HC0_1.out)
    rintro e w20 ⟨v523, rfl, ho0, hb⟩
    refine ⟨_, rfl, ?_⟩
    have HO524 := zA (Kd.N_lower (Kd.N_mono (ok' := fun k_ => some k_ ≠ (u4 : Value).ownBlock ∧ k_ ≠ gb516) ho0 (fun k_ hk_ => ⟨(Kd.fresh' (Kd.R_lt (uR HO_4.out)) k_ hk_), (Kd.freshB (g := gb516) (o := .cells #[.int .i64 a0_0, .slice A0_1 l0_1.length c0_1] 40 (0, 0)) (uB BK516.out) k_ hk_)⟩)) (below_size (uH HB.out)))
    replace HO_4 := xR HO_4 hb
    replace BK516 := xB BK516 hb
    replace HB := xH HB hb
    (try clear hb); (try clear hb2); (try clear hk); (try clear hi); (try clear ho0)
    obtain ⟨Ao21, co21, eo21⟩ := Kd.N_slice HO524.out
    (first | subst eo21 | (injection eo21 with f1_ f2_ f3_; have f4_ := f1_.symm; have f5_ := f3_.symm; clear f1_ f2_ f3_; subst f4_; subst f5_))
    have p525 : 0 ≤ (x5_1 : Int) := of_decide_eq_true (by first | (with_reducible assumption) | assumption)
    have q525 : x5_1 < (t522.length : Int) := of_decide_eq_true (by first | (with_reducible assumption) | assumption)
    obtain ⟨ad525, A525_0, c525_0, e525, hx525_0, hl525_0, hi525_0⟩ := at_L1 (Kd.N_reads' HO524.out).2.2 x5_1 p525 q525
    cases e525
    obtain ⟨ce525, hce525, hMe525, hcc525⟩ := Kd.N_get HO524.out [] x5_1 p525 (by first | exact q525 | exact of_decide_eq_true (by first | (with_reducible assumption) | assumption) | (have e_ := (Kd.N_reads' HO524.out).1; omega))
    obtain ⟨ua525_0, uc525_0, rfl, ul525_0, ge525_0⟩ := Kd.FK_slice_open hMe525
    have hv525_0 := hcc525 0 _ rfl
    rw [Nat.add_zero, show ((Kd.slice 2 (Kd.int .i64))).sz = 1 from rfl, Nat.mul_one] at hv525_0
    replace hv525_0 := Option.some.inj (hv525_0.symm.trans hx525_0)
    injection hv525_0 with hva_ hvn_ hvc_
    rw [hva_] at ge525_0
    rw [hvc_] at ul525_0
    have HL525_0 := zA (show Kd.V (Kd.int .i64) 2 _ w.heap.size _ _ (rd_L1 t522 x5_1) from Kd.V_mk ul525_0 ge525_0)
    clear hva_ hvn_ hvc_ ge525_0 ul525_0
    clear hcc525 hce525
    have HR525_0 := zA hi525_0
    have HC525_0 := zA hl525_0
    clear hi525_0 hl525_0
    replace p525 := eq_true p525
    replace q525 := eq_true q525
    refine hK.out _ _ ⟨bcu BK516 0, bcu BK516 1⟩ (fun hHeld => ?_)
    clear hK K
    refine no_ 21 ?_
    refine pu_ 6 23 (bl 12 127) HT_ ?_
    refine lo_ 7 24 (bl 12 255) HT_ hHeld ?_
    refine on_ 8 (some 25) (bl 12 511) HT_ (fun K hK => ?_)
    refine gS Try.func84 #[.agg #[.int .i64 a0_0, .slice A0_1 l0_1.length c0_1], .slice A525_0 (rd_L1 t522 x5_1).length c525_0, .int .i64 0] ?_
    with_reducible refine (spec_l04Norm.calls k1 a0_0 _ _ l0_1 _ _ (rd_L1 t522 x5_1) 0 t526 _ ?side1 ?side2 ?side3 ?side4 A15.out).mono ?_
    (case side1 => exact uC ((Kd.C_below HR0_1.out HB.out)))
    (case side2 => exact HC0_1.out)
    (case side3 => repeat (first | exact (by repeat (first | (with_reducible exact HR525_0.out) | (with_reducible refine Kd.C_alloc ?_ _) | (with_reducible refine Kd.C_drewN ?_ _) | (with_reducible refine Kd.C_drew ?_) | exact HR525_0.out)) | (with_reducible refine Kd.C_alloc ?_ _) | (with_reducible refine Kd.C_drewN ?_ _) | (with_reducible refine Kd.C_drew ?_)))
    (case side4 => exact HC525_0.out)
    rintro e w22 ⟨rfl, hb⟩
    refine ⟨_, rfl, ?_⟩
    replace HO_4 := xR HO_4 hb
    replace HO524 := zA (Kd.N_below (by (with_reducible repeat (first | apply Kd.N_alloc | apply Kd.N_drewN | apply Kd.N_drew)); exact HO524.out) hb)
    replace HL525_0 := zA (Kd.V_below (by (with_reducible repeat (first | apply Kd.V_alloc | apply Kd.V_drewN | apply Kd.V_drew)); exact HL525_0.out) hb)
    replace BK516 := xB BK516 hb
    replace HR525_0 := zA (Kd.C_below (by repeat (first | (with_reducible exact HR525_0.out) | (with_reducible refine Kd.C_alloc ?_ _) | (with_reducible refine Kd.C_drewN ?_ _) | (with_reducible refine Kd.C_drew ?_) | exact HR525_0.out)) hb)
    replace HB := xH HB hb
    (try clear hb); (try clear hb2); (try clear hk); (try clear hi)
    refine hK.out _ _ ⟨bcu BK516 0, bcu BK516 1⟩ (fun hHeld => ?_)
    clear hK K
    refine no_ 25 ?_
    refine last_ (i := 9) (N := some 26) (bl 12 1023) rfl rfl (one_of HT_.out (by kernel_rfl)) (by decide) (fun K hK => ?_)
    refine value_ (w1 := ?_) (v := ?_) (by rfl) rfl ?_ ?_
    rotate_left 2
    ·go_simp
     constructor
     ·rfl
     ·rfl
    refine hK.out _ _ ?_
    clear hK K
    refine no_ 26 ?_
    refine last_ (i := 10) (N := some 27) (bl 12 2047) rfl rfl (one_of HT_.out (by kernel_rfl)) (by decide) (fun K hK => ?_)
    refine Kd.R_append_step (Kd.int .i64) (w0 := w) w.heap.size (by rfl) (.tmp 17) (.tmp 26) 22 2 (.int .i64 0) 8 rfl Try.underlying22 info2 rfl (by decide) (by omega) u4 x4_1 t526 [.int .i64 t526] (fun _ => True) (fun _ => False) rfl rfl ?aP (fun _ hk => hk.elim) ?aF ?aO ?aB ?aS ?aL ?_
    (case aP => exact rfl)
    (case aB => exact (uH HB.out))
    (case aF => exact (fun _ _ => trivial))
    (case aO => exact (uR HO_4.out))
    (case aS => exact (below_size (uH HB.out)))
    (case aL => have := LMc16.out; omega)
    intro v528 w23 ho hb hg hat
    rw [← Ny527.out] at ho
    replace BK516 := zA (blk_grown (g := gb516) (o := .cells #[.int .i64 a0_0, .slice A0_1 l0_1.length c0_1] 40 (0, 0)) (uB BK516.out) hg (Kd.R_ne HO_4.out BK516.out (by decide)))
    replace HO524 := zA (Kd.N_afterv (ok := (fun k_ => k_ ≠ gb516)) (by (with_reducible repeat (first | apply Kd.N_alloc | apply Kd.N_drewN | apply Kd.N_drew)); exact Kd.N_mono HO524.out (fun _ hk => ⟨hk.2, hk.1⟩)) hg hat)
    replace HL525_0 := zA (Kd.V_afterv (ok := (fun k_ => ax k_ (.slice (some ad525) t522.length co21) ∧ k_ ≠ gb516)) (by (with_reducible repeat (first | apply Kd.V_alloc | apply Kd.V_drewN | apply Kd.V_drew)); exact Kd.V_mono HL525_0.out (fun _ hk => ⟨⟨hk.2, hk.1.2⟩, hk.1.1⟩)) hg hat)
    replace HB := zA (hb)
    have HO529 := zA (ho)
    clear HO_4
    clear ho hb hg hat
    refine hK.out _ _ ?_
    clear hK K
    refine no_ 27 ?_
    refine pu_ 11 4 (bl 12 4095) HT_ ?_
    refine done_ (done_of HT_.out (by kernel_rfl)) ?_
    try go_wp2
    go_roundg k1
    case measure => have := HK1.out; omega
    case rel => exact ⟨(y527), (wrap64 (x5_1 + 1)), (by first | rfl | (simp; done) | (simp [*]; done)), H', ⟨by have := HK1.out; omega⟩, ⟨uR HO529.out⟩, ⟨uB BK516.out⟩, ⟨uH HB.out⟩⟩
 ·replace c3 := Bool.eq_false_iff.mpr c3
  subst c3
  have H1 : (some (([] : List Int), 1)) = some (r1, r2) := by rw [if_neg (show ¬ (false = true) by decide)] at H; exact H
  clear H
  have H := H1
  clear H1
  simp only [Option.some.injEq, Prod.mk.injEq] at H
  obtain ⟨rfl, rfl⟩ := H
  go_enter Try.func41, Try.ntmps41
  go_wp2_with (first | ((with_reducible refine gate_dst (N := 1) rfl ?_); refine bx 1 #[.int .i64 a0_0, .slice A0_1 l0_1.length c0_1] 40 ?_; intro gb516 hg w26 hbox hb; have BK516 := zA (hbox); have GW516 := gq HB hg; have GE516 := gq HB hg; replace HB := xH HB hb; have := geI GE516; clear hb hbox hg; have hcz27_0 := bc BK516 0; have hcz27_1 := bc BK516 1; have hfz27_0 := bf BK516 0; have hfz27_1 := bf BK516 1) | ((with_reducible refine gate_callee (f := 61) rfl ?_); refine gL (some 7) Try.func61 #[.agg #[.int .i64 a0_0, .slice A0_1 l0_1.length c0_1]] ?_; (with_reducible refine (spec_l02Are.calls k a0_0 _ _ l0_1 false _ ?side1 ?side2 A2.out).mono ?_); (case side1 => exact uC ((Kd.C_below HR0_1.out HB.out))); (case side2 => exact HC0_1.out); rintro e w28 ⟨rfl, hb⟩; refine ⟨_, rfl, ?_⟩; replace BK516 := xB BK516 hb; replace HB := xH HB hb; (try clear hb); (try clear hb2); (try clear hk); (try clear hi)))
  go_ret2
  exact ⟨_, by first | rfl | (simp [errW_none, errW_some] <;> rfl) | (simp [*, errW_none, errW_some] <;> rfl), by first | exact Kd.R_nil _ _ _ _ _ | exact Kd.N_nil _ _ _ _ _ | exact Kd.V_nil _ _ _ _ _ | exact Kd.Q_nil _ _ _ _ _ | exact Kd.S_nil _ _ _ _ _, uH HB.out⟩
/- The program's NormOf where the norm is told; no condition. -/
theorem implNormOf_ev {p : Int} {l : List Int} (h : momB p l = true) (hl : Sm l.length) {k : Nat} (hk : (k : Int) ≤ ordV p l) (c3 : 2 * k + 1 ≤ l.length) : Ev (fun n => impl_NormOf.f n p l (k : Int)) (mNorm p l (mP p l k) 0, 0) := by
  have hp := momB.pm h
  have nl := momB.nm h
  have hlen := momB.len h
  have hc := momentsCode_ev p l hl true [] (by simp [Sm]) (fun l h => by cases h)
  rw [h] at hc
  have h1 : impl_NormOf_1.f (k : Int) = some true := by
    unfold impl_NormOf_1.f
    rw [order12, decide_eq_true (by omega)]; rfl
  have hu := implUpTo_ev hp nl hlen.2 hlen.1 k (by omega)
  rw [if_pos ⟨hk, by omega⟩] at hu
  have e1 : wrap64 (2 * (k : Int)) = 2 * (k : Int) := wrap_id (by omega) (by omega)
  have e2 : wrap64 (2 * (k : Int) + 1) = 2 * (k : Int) + 1 := wrap_id (by omega) (by omega)
  have hol := mP_len hp l k
  have h2 := mP_nm hp l k
  unfold impl_NormOf.f
  refine Ev.bindE h1 (Ev.bind hc (Ev.pos rfl (Ev.bind hu (Ev.pos rfl (Ev.bindE (a := (l.length : Int)) rfl (Ev.step (fun k => by rw [impl_NormOf.j0]) ?_))))))
  rw [e1, e2, decide_eq_false (by omega)]
  refine Ev.neg (by decide) (Ev.bindE (a := p) rfl ?_)
  simp only [mPolys_len]
  rw [rdL_nat, mPolys_get p l (Nat.le_refl k)]
  exact Ev.pos (by omega) (Ev.pos (by omega) (Ev.bind (implMul_ev hp _ _ h2 h2 (by unfold Sm; omega) (by unfold Sm; omega) (by unfold Sm; omega)) (Ev.bind (implNormP_ev hp nl hlen.2 (by omega)) (Ev.now _))))
/- NormsOf: for all arguments the program and the reference come to one value; no condition. -/
theorem mn_eq {a : Nat} (h : a ≤ 12) : mn (a : Int) 12 = (a : Int) := by
  unfold mn; split <;> omega
theorem mNorms_len (p : Int) (l : List Int) (i : Nat) : (mNorms p l i).length = i := by simp [mNorms]
section
variable {p : Int} {l : List Int} (h : momB p l = true) (hl : Sm l.length) {m : Nat} (hm : ordV p l = (m : Int)) (hm2 : 2 * m ≤ l.length + 1)
include h hl hm hm2
theorem specNorms_l0 (d : Nat) : ∀ i : Nat, i + d = m → Ev (fun n => spec_NormsOf.l0 n (mNorms p l i) (i : Int) p l) (mNorms p l m, 0) := by
  have hp := momB.pm h
  have nl := momB.nm h
  have hlen := momB.len h
  have ho := specOrd_ev hp nl hlen.2
  rw [hm] at ho
  induction d with
  | zero =>
    intro i hi
    obtain rfl : i = m := by omega
    refine Ev.step (fun n => by rw [spec_NormsOf.l0]) (Ev.bind ho ?_)
    rw [mn_eq (by omega)]
    exact Ev.neg (by omega) (Ev.now _)
  | succ d ih =>
    intro i hi
    have hol := mP_len hp l i
    refine Ev.step (fun n => by rw [spec_NormsOf.l0]) (Ev.bind ho ?_)
    rw [mn_eq (by omega)]
    refine Ev.pos (by omega) (Ev.bind (specPolys_ev hp nl hlen.2 (k := i) (by omega)) ?_)
    rw [mPolys_len, rdL_nat, mPolys_get p l (Nat.le_refl i), mNorms_len, wsucc (i := i) (n := 1000) (by omega) (by omega)]
    refine Ev.pos (by omega) (Ev.pos (by omega) (Ev.bind (specNorm_ev hp nl hlen.2 (mP_nm hp l i) 0 (by omega)) (Ev.pos (by omega) ?_)))
    rw [← mNorms_succ]
    exact ih (i + 1) (by omega)
theorem implNorms_l0 (d : Nat) : ∀ i : Nat, i + d = m → Ev (fun n => impl_NormsOf.l0 n (mNorms p l i) (m : Int) (i : Int) p l) (mNorms p l m, 0) := by
  have hlen := momB.len h
  induction d with
  | zero =>
    intro i hi
    obtain rfl : i = m := by omega
    refine Ev.step (fun n => by rw [impl_NormsOf.l0]) ?_
    exact Ev.neg (by omega) (Ev.now _)
  | succ d ih =>
    intro i hi
    refine Ev.step (fun n => by rw [impl_NormsOf.l0]) ?_
    rw [mNorms_len, wsucc (i := i) (n := 1000) (by omega) (by omega)]
    refine Ev.pos (by omega) (Ev.bind (implNormOf_ev h hl (k := i) (by omega) (by omega)) (Ev.pos (by omega) ?_))
    rw [← mNorms_succ]
    exact ih (i + 1) (by omega)
end
theorem NormsOf_both (p : Int) (l : List Int) (hl : Sm l.length) : ∃ v : List Int × Int, Ev (fun k => spec_NormsOf.f k p l) v ∧ Ev (fun k => impl_NormsOf.f k p l) v ∧ Sm v.1.length := by
  have hc := momentsCode_ev p l hl true [] (by simp [Sm]) (fun l h => by cases h)
  have hs := specAre_ev p l hl
  by_cases h : momB p l = true
  · rw [h] at hc hs
    have hp := momB.pm h
    have nl := momB.nm h
    have hlen := momB.len h
    obtain ⟨m, hm, hm2⟩ := ordV_nat p l
    have ho := implOrd_ev hp nl hlen.2
    rw [hm] at ho
    refine ⟨(mNorms p l m, 0), ?_, ?_, by rw [mNorms_len]; unfold Sm; omega⟩
    · unfold spec_NormsOf.f
      exact Ev.bind hs (Ev.pos rfl (specNorms_l0 h hl hm hm2 m 0 (by omega)))
    · unfold impl_NormsOf.f
      refine Ev.bind hc (Ev.pos rfl (Ev.bind ho ?_))
      rw [mn_eq (by omega)]
      exact implNorms_l0 h hl hm hm2 m 0 (by omega)
  · rw [Bool.eq_false_iff.2 h] at hc hs
    refine ⟨([], 1), ?_, ?_, by simp [Sm]⟩
    · unfold spec_NormsOf.f
      exact Ev.bind hs (Ev.neg (by decide) (Ev.now _))
    · unfold impl_NormsOf.f
      exact Ev.bind hc (Ev.neg (by simp) (Ev.now _))
end Go.Proofs.Ytfbnkebgdmfcfaa.Pr
