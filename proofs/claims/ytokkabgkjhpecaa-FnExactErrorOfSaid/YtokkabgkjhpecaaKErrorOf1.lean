/- Texts of this session in one: what functions of the program compute, and plain facts of it, under the conditions that each theorem names. -/
import Derived.Test.YtokkabgkjhpecaaKFspecl07Is
import Derived.Test.YtokkabgkjhpecaaKC01
import Derived.Test.YtokkabgkjhpecaaKC03
import Derived.Test.YtokkabgkjhpecaaKC04
import Derived.Test.YtokkabgkjhpecaaKC05
import Derived.Test.YtokkabgkjhpecaaKC06
import Derived.Test.YtokkabgkjhpecaaKC07
import Derived.Test.YtokkabgkjhpecaaKC08
/- Printed by a program of this session out of the translation: what these functions of the program compute, under the conditions that each theorem names. -/
namespace Go.Proofs.Ytokkabgkjhpecaa.Pr
open Go.RowKit Go.Proofs.YtokkabgkjhpecaaW.PrintWords Go.Proofs.YtokkabgkjhpecaaW.PrintLast Go.Proofs.YtokkabgkjhpecaaW.PrintMore
attribute [local go_sem] max2_int min2_int max_two min_two max_three min_three max_four min_four   -- for this text's walks alone
set_option linter.unusedVariables false
set_option linter.unusedSimpArgs false

/-! ### impl_Moments_isShort: function 65 -/
def impl_Moments_isShort.f (a0_0 : Int) (l0_1 : List Int) (l1 : List Int) : Option (Bool) := some (decide ((l1.length : Int) ≤ (l0_1.length : Int)))
set_option maxHeartbeats 8000000 in
set_option maxRecDepth 100000 in
theorem impl_Moments_isShort.calls (a0_0 : Int) (A0_1 : Option Addr) (c0_1 : Nat) (l0_1 : List Int) (A1 : Option Addr) (c1 : Nat) (l1 : List Int) (r : Bool) (w : World) (hr0_1 : Kd.C (Kd.int .i64) w A0_1 l0_1.length l0_1) (hc0_1 : l0_1.length ≤ c0_1) (hr1 : Kd.C (Kd.int .i64) w A1 l1.length l1) (hc1 : l1.length ≤ c1) (h : impl_Moments_isShort.f a0_0 l0_1 l1 = some r) :
  Calls Try.prog 65 #[.agg #[.int .i64 a0_0, .slice A0_1 l0_1.length c0_1], .slice A1 l1.length c1] w fun e w' => e = .returned (.bool r) ∧ Below w.heap.size w w' := by
 have hu31 := Try.underlying31
 have HR0_1 := zA hr0_1
 have HC0_1 := zA hc0_1
 clear hr0_1 hc0_1
 have HR1 := zA hr1
 have HC1 := zA hc1
 clear hr1 hc1
 have HB := zA (Below.refl w.heap.size w)
 have H : (some (decide ((l1.length : Int) ≤ (l0_1.length : Int)))) = some r := h
 clear h
 obtain rfl := Option.some.inj H
 go_enter Try.func65, Try.ntmps65
 go_wp2_with (first | ((with_reducible refine gate_dst (N := 2) rfl ?_); refine box_event ?hg (N := 2) ?hd (cs := #[.int .i64 a0_0, .slice A0_1 l0_1.length c0_1]) (t := 31) ?hr ?_; (case hd => rfl); (case hg => rfl); (case hr => first | (go_simp; done) | (go_simp; rfl)); intro gb204 hg w3 hbox hb; have n0_ := xH HB hb; have n1_ := zA (hbox); have n2_ := zA ((by rw [hg]; exact (below_size (uH HB.out)) : w.heap.size ≤ gb204)); have n3_ := zA ((by rw [hg]; exact (below_size (uH HB.out)) : w.heap.size ≤ gb204)); clear HB; have HB := n0_; have BK204 := n1_; have GW204 := n2_; have GE204 := n3_; have := geI GE204; clear n0_ n1_ n2_ n3_ hb hbox hg; have hcz4_0 : w3.cell? ⟨gb204, 0, none⟩ = some (.int .i64 a0_0) := (blk_cell BK204.out 0).trans rfl; have hcz4_1 : w3.cell? ⟨gb204, 1, none⟩ = some (.slice A0_1 l0_1.length c0_1) := (blk_cell BK204.out 1).trans rfl; have hfz4_0 := blk_frozen BK204.out 0; have hfz4_1 := blk_frozen BK204.out 1))
 go_ret
 exact ⟨by first | rfl | (simp [errW_none, errW_some] <;> rfl) | (simp [*, errW_none, errW_some] <;> rfl), uH HB.out⟩

end Go.Proofs.Ytokkabgkjhpecaa.Pr
/- Printed by a program of this session out of the translation: what these functions of the program compute, under the conditions that each theorem names. -/
namespace Go.Proofs.Ytokkabgkjhpecaa.Pr
open Go.RowKit Go.Proofs.YtokkabgkjhpecaaW.PrintWords Go.Proofs.YtokkabgkjhpecaaW.PrintLast Go.Proofs.YtokkabgkjhpecaaW.PrintMore
attribute [local go_sem] max2_int min2_int max_two min_two max_three min_three max_four min_four   -- for this text's walks alone
set_option linter.unusedVariables false
set_option linter.unusedSimpArgs false

/-! ### impl_ErrorOf_1: function 64 -/
def impl_ErrorOf_1.f (a0_0 : Int) (l0_1 : List Int) (l1_0 : List Int) : Option (Bool) := (impl_Moments_isShort.f a0_0 l0_1 l1_0).bind fun t205 => (some t205)
set_option maxHeartbeats 8000000 in
set_option maxRecDepth 100000 in
theorem impl_ErrorOf_1.calls (gc0 : Nat) (a0_0 : Int) (A0_1 : Option Addr) (c0_1 : Nat) (l0_1 : List Int) (gc1 : Nat) (A1_0 : Option Addr) (c1_0 : Nat) (l1_0 : List Int) (r : Bool) (w : World) (hb0 : w.heap[gc0]? = some (.cells #[.int .i64 a0_0, .slice A0_1 l0_1.length c0_1] 31 (0, 0))) (hr0_1 : Kd.C (Kd.int .i64) w A0_1 l0_1.length l0_1) (hc0_1 : l0_1.length ≤ c0_1) (hb1 : w.heap[gc1]? = some (.cells #[.slice A1_0 l1_0.length c1_0] 22 (0, 0))) (hr1_0 : Kd.C (Kd.int .i64) w A1_0 l1_0.length l1_0) (hc1_0 : l1_0.length ≤ c1_0) (h : impl_ErrorOf_1.f a0_0 l0_1 l1_0 = some r) :
  Calls Try.prog 64 #[.pointer (some ⟨gc0, 0, none⟩), .pointer (some ⟨gc1, 0, none⟩)] w fun e w' => e = .returned (.bool r) ∧ Below w.heap.size w w' := by
 have hu31 := Try.underlying31
 have HR0_1 := zA hr0_1
 have HC0_1 := zA hc0_1
 clear hr0_1 hc0_1
 have HR1_0 := zA hr1_0
 have HC1_0 := zA hc1_0
 clear hr1_0 hc1_0
 have BK0 := zA hb0
 clear hb0
 have BK1 := zA hb1
 clear hb1
 have HB := zA (Below.refl w.heap.size w)
 have H : ((impl_Moments_isShort.f a0_0 l0_1 l1_0).bind fun t205 => (some t205)) = some r := h
 clear h
 replace H := Option.bind_eq_some_iff.mp H
 obtain ⟨t205, A30, H⟩ := H
 replace H : (some t205) = some r := H
 have A3 := zA A30
 clear A30
 obtain rfl := Option.some.inj H
 have hcz4_0 : w.cell? ⟨gc0, 0, none⟩ = some (.int .i64 a0_0) := (blk_cell BK0.out 0).trans rfl
 have hcz4_1 : w.cell? ⟨gc0, 1, none⟩ = some (.slice A0_1 l0_1.length c0_1) := (blk_cell BK0.out 1).trans rfl
 have hfz4_0 := blk_frozen BK0.out 0
 have hfz4_1 := blk_frozen BK0.out 1
 have hcz5_0 : w.cell? ⟨gc1, 0, none⟩ = some (.slice A1_0 l1_0.length c1_0) := (blk_cell BK1.out 0).trans rfl
 have hfz5_0 := blk_frozen BK1.out 0
 go_enter Try.func64, Try.ntmps64
 go_wp2_with (first | ((with_reducible refine gate_callee (f := 65) rfl ?_); refine goesL_ (some 5) rfl rfl Try.func65 (by kernel_rfl) rfl #[.agg #[.int .i64 a0_0, .slice A0_1 l0_1.length c0_1], .slice A1_0 l1_0.length c1_0] rfl (by (try simp only [la, lb, lc]); first | done | rfl | (simp only [ld, le]; rfl)) ?_; (with_reducible refine (impl_Moments_isShort.calls a0_0 _ _ l0_1 _ _ l1_0 t205 _ ?side1 ?side2 ?side3 ?side4 A3.out).mono ?_); (case side1 => exact uC HR0_1.out); (case side2 => exact HC0_1.out); (case side3 => exact uC HR1_0.out); (case side4 => exact HC1_0.out); rintro e w6 ⟨rfl, hb⟩; refine ⟨_, rfl, ?_⟩; have n0_ := xB BK0 hb; have n1_ := xB BK1 hb; have n2_ := xH HB hb; clear BK0 BK1 HB; have BK0 := n0_; have BK1 := n1_; have HB := n2_; clear n0_ n1_ n2_; (try clear hb); (try clear hb2); (try clear hk); (try clear hi)))
 go_ret
 exact ⟨by first | rfl | (simp [errW_none, errW_some] <;> rfl) | (simp [*, errW_none, errW_some] <;> rfl), uH HB.out⟩

end Go.Proofs.Ytokkabgkjhpecaa.Pr
/- Printed by a program of this session out of the translation: what these functions of the program compute, under the conditions that each theorem names. -/
namespace Go.Proofs.Ytokkabgkjhpecaa.Pr
open Go.RowKit Go.Proofs.YtokkabgkjhpecaaW.PrintWords Go.Proofs.YtokkabgkjhpecaaW.PrintLast Go.Proofs.YtokkabgkjhpecaaW.PrintMore
attribute [local go_sem] max2_int min2_int max_two min_two max_three min_three max_four min_four   -- for this text's walks alone
set_option linter.unusedVariables false
set_option linter.unusedSimpArgs false

/-! ### impl_ErrorOf: function 21 -/
def impl_ErrorOf.f (k : Nat) (a0_0 : Int) (l0_1 : List Int) (a1_0 : Int) (l1_1 : List Int) (l1_2 : List Int) (l2 : List Int) : Option (Int × Int) := (impl_ErrorOf_1.f a0_0 l0_1 l2).bind fun t228 => ((impl_bothCode.f k a0_0 l0_1 a1_0 l1_1 l1_2 t228 (([l2] : List (List Int)))).bind fun t232 => (if t232 = 0 then ((impl_Moments_errorFor.f k a0_0 l0_1 a1_0 l1_1 l1_2 l2).bind fun t233 => (some (t233, 0))) else (some (0, t232))))
theorem impl_ErrorOf.mono : ∀ a0 a1 a2 a3 a4 a5 k, LeO (impl_ErrorOf.f k a0 a1 a2 a3 a4 a5) (impl_ErrorOf.f (k + 1) a0 a1 a2 a3 a4 a5) := by
 intro a0 a1 a2 a3 a4 a5 k
 unfold impl_ErrorOf.f
 repeat' first
   | (with_reducible exact impl_Moments_errorFor.mono _ _ _ _ _ _ _)
   | (with_reducible exact impl_bothCode.mono _ _ _ _ _ _ _ _)
   | (with_reducible exact LeO.refl _)
   | (with_reducible exact LeO.none _)
   | (with_reducible refine LeO.ite ?_ ?_)
   | (with_reducible refine LeO.bind ?_ (fun _ => ?_))
   | exact impl_Moments_errorFor.mono _ _ _ _ _ _ _
   | exact impl_bothCode.mono _ _ _ _ _ _ _ _
   | exact LeO.none _
   | refine LeO.ite ?_ ?_
   | refine LeO.bind ?_ (fun _ => ?_)
set_option maxHeartbeats 8000000 in
set_option maxRecDepth 100000 in
theorem impl_ErrorOf.calls (k : Nat) (a0_0 : Int) (A0_1 : Option Addr) (c0_1 : Nat) (l0_1 : List Int) (a1_0 : Int) (A1_1 : Option Addr) (c1_1 : Nat) (l1_1 : List Int) (A1_2 : Option Addr) (c1_2 : Nat) (l1_2 : List Int) (P2_ : Nat → Prop) (A2 : Option Addr) (c2 : Nat) (l2 : List Int) (r1 : Int) (r2 : Int) (w : World) (hr0_1 : Kd.C (Kd.int .i64) w A0_1 l0_1.length l0_1) (hc0_1 : l0_1.length ≤ c0_1) (hr1_1 : Kd.C (Kd.int .i64) w A1_1 l1_1.length l1_1) (hc1_1 : l1_1.length ≤ c1_1) (hr1_2 : Kd.C (Kd.int .i64) w A1_2 l1_2.length l1_2) (hc1_2 : l1_2.length ≤ c1_2) (hs2 : Kd.V (Kd.int .i64) 2 w w.heap.size (fun k_ => P2_ k_) (.slice A2 l2.length c2) l2) (h : impl_ErrorOf.f k a0_0 l0_1 a1_0 l1_1 l1_2 l2 = some (r1, r2)) :
  Calls Try.prog 21 #[.agg #[.int .i64 a0_0, .slice A0_1 l0_1.length c0_1], .agg #[.int .i64 a1_0, .slice A1_1 l1_1.length c1_1, .slice A1_2 l1_2.length c1_2], .slice A2 l2.length c2] w fun e w' => e = .returned (.tuple #[.int .i64 r1, .int .i64 r2]) ∧ Below w.heap.size w w' := by
 have hu31 := Try.underlying31
 have hu33 := Try.underlying33
 have hmf : ∀ (fn_ : Fn) (first_ cap_ : Array Value) (w_ : World), (Instr.makeFunc fn_ first_ cap_).run Try.prog w_ = .ok (.func fn_ first_ cap_) w_ := fun _ _ _ _ => rfl
 have HR0_1 := zA hr0_1
 have HC0_1 := zA hc0_1
 clear hr0_1 hc0_1
 have HR1_1 := zA hr1_1
 have HC1_1 := zA hc1_1
 clear hr1_1 hc1_1
 have HR1_2 := zA hr1_2
 have HC1_2 := zA hc1_2
 clear hr1_2 hc1_2
 have HO2 := zA (show Kd.V (Kd.int .i64) 2 w w.heap.size (fun k_ => (P2_ k_ ∨ w.heap.size ≤ k_)) (.slice A2 l2.length c2) l2 from Kd.V_mono hs2 (fun k_ hk => .inl hk))
 have HB := zA (Below.refl w.heap.size w)
 have H : ((impl_ErrorOf_1.f a0_0 l0_1 l2).bind fun t228 => ((impl_bothCode.f k a0_0 l0_1 a1_0 l1_1 l1_2 t228 (([l2] : List (List Int)))).bind fun t232 => (if t232 = 0 then ((impl_Moments_errorFor.f k a0_0 l0_1 a1_0 l1_1 l1_2 l2).bind fun t233 => (some (t233, 0))) else (some (0, t232))))) = some (r1, r2) := h
 clear h
 replace H := Option.bind_eq_some_iff.mp H
 obtain ⟨t228, A40, H⟩ := H
 replace H : ((impl_bothCode.f k a0_0 l0_1 a1_0 l1_1 l1_2 t228 (([l2] : List (List Int)))).bind fun t232 => (if t232 = 0 then ((impl_Moments_errorFor.f k a0_0 l0_1 a1_0 l1_1 l1_2 l2).bind fun t233 => (some (t233, 0))) else (some (0, t232)))) = some (r1, r2) := H
 have A4 := zA A40
 clear A40
 obtain ⟨y229, hy229⟩ : ∃ y_ : List (List Int), y_ = (([l2] : List (List Int))) := ⟨_, rfl⟩
 replace H : ((impl_bothCode.f k a0_0 l0_1 a1_0 l1_1 l1_2 t228 y229).bind fun t232 => (if t232 = 0 then ((impl_Moments_errorFor.f k a0_0 l0_1 a1_0 l1_1 l1_2 l2).bind fun t233 => (some (t233, 0))) else (some (0, t232)))) = some (r1, r2) := by first | (rw [hy229]; with_reducible exact H) | (have H2_ := (Option.bind_some _ _).symm.trans H; rw [hy229]; with_reducible exact H2_) | (have H2_ := (Option.bind_some _ _).symm.trans H; with_reducible exact H2_) | with_reducible exact H | (rw [hy229]; exact H) | exact H
 have Ny229 := zA hy229
 clear hy229
 replace H := Option.bind_eq_some_iff.mp H
 obtain ⟨t232, A50, H⟩ := H
 replace H : (if t232 = 0 then ((impl_Moments_errorFor.f k a0_0 l0_1 a1_0 l1_1 l1_2 l2).bind fun t233 => (some (t233, 0))) else (some (0, t232))) = some (r1, r2) := H
 have A5 := zA A50
 clear A50
 by_cases c6 : t232 = 0
 ·rw [if_pos c6] at H
  have c6b0 : (t232 == 0) = true := beq_iff_eq.mpr c6
  have c6b1 : (t232 != 0) = false := bne_eq_false_iff_eq.mpr c6
  clear c6
  replace H := Option.bind_eq_some_iff.mp H
  obtain ⟨t233, A70, H⟩ := H
  replace H : (some (t233, 0)) = some (r1, r2) := H
  have A7 := zA A70
  clear A70
  simp only [Option.some.injEq, Prod.mk.injEq] at H
  obtain ⟨rfl, rfl⟩ := H
  go_enter Try.func21, Try.ntmps21
  go_wp2_with (first | ((with_reducible refine gate_dst (N := 3) rfl ?_); refine box_event ?hg (N := 3) ?hd (cs := #[.int .i64 a0_0, .slice A0_1 l0_1.length c0_1]) (t := 31) ?hr ?_; (case hd => rfl); (case hg => rfl); (case hr => first | (go_simp; done) | (go_simp; rfl)); intro gb225 hg w8 hbox hb; have n0_ := zA (Kd.V_below (Kd.V_elderB (by (with_reducible repeat (first | apply Kd.V_alloc | apply Kd.V_drewN | apply Kd.V_drew)); exact HO2.out) gb225 (Nat.le_of_eq hg.symm)) hb); have n1_ := xH HB hb; have n2_ := zA (hbox); have n3_ := zA ((by rw [hg]; exact (below_size (uH HB.out)) : w.heap.size ≤ gb225)); have n4_ := zA ((by rw [hg]; exact (below_size (uH HB.out)) : w.heap.size ≤ gb225)); clear HO2 HB; have HO2 := n0_; have HB := n1_; have BK225 := n2_; have GW225 := n3_; have GE225 := n4_; have := geI GE225; clear n0_ n1_ n2_ n3_ n4_ hb hbox hg) | ((with_reducible refine gate_dst (N := 4) rfl ?_); refine box_event ?hg (N := 4) ?hd (cs := #[.int .i64 a1_0, .slice A1_1 l1_1.length c1_1, .slice A1_2 l1_2.length c1_2]) (t := 33) ?hr ?_; (case hd => rfl); (case hg => rfl); (case hr => first | (go_simp; done) | (go_simp; rfl)); intro gb226 hg w9 hbox hb; have n0_ := zA (Kd.V_below (Kd.V_elderB (by (with_reducible repeat (first | apply Kd.V_alloc | apply Kd.V_drewN | apply Kd.V_drew)); exact HO2.out) gb226 (Nat.le_of_eq hg.symm)) hb); have n1_ := xB BK225 hb; have n2_ := xH HB hb; have n3_ := zA (hbox); have n4_ := zA ((by rw [hg]; exact (below_size (uH HB.out)) : w.heap.size ≤ gb226)); have n5_ := zA ((by rw [hg]; exact (below_size (uH HB.out)) : w.heap.size ≤ gb226)); have n6_ := zA ((by rw [hg]; exact neL BK225 : gb225 ≠ gb226)); have n7_ := zA ((by rw [hg]; exact neG BK225 : gb226 ≠ gb225)); clear HO2 BK225 HB; have HO2 := n0_; have BK225 := n1_; have HB := n2_; have BK226 := n3_; have GW226 := n4_; have GE226 := n5_; have := geI GE226; have NB225_226 := n6_; have NB226_225 := n7_; clear n0_ n1_ n2_ n3_ n4_ n5_ n6_ n7_ hb hbox hg) | ((with_reducible refine gate_dst (N := 5) rfl ?_); refine box_event ?hg (N := 5) ?hd (cs := #[.slice A2 l2.length c2]) (t := 22) ?hr ?_; (case hd => rfl); (case hg => rfl); (case hr => first | (go_simp; done) | (go_simp; rfl)); intro gb227 hg w10 hbox hb; have n0_ := zA (Kd.V_below (Kd.V_elderB (by (with_reducible repeat (first | apply Kd.V_alloc | apply Kd.V_drewN | apply Kd.V_drew)); exact HO2.out) gb227 (Nat.le_of_eq hg.symm)) hb); have n1_ := xB BK225 hb; have n2_ := xB BK226 hb; have n3_ := xH HB hb; have n4_ := zA (hbox); have n5_ := zA ((by rw [hg]; exact (below_size (uH HB.out)) : w.heap.size ≤ gb227)); have n6_ := zA ((by rw [hg]; exact (below_size (uH HB.out)) : w.heap.size ≤ gb227)); have n7_ := zA ((by rw [hg]; exact neL BK225 : gb225 ≠ gb227)); have n8_ := zA ((by rw [hg]; exact neG BK225 : gb227 ≠ gb225)); have n9_ := zA ((by rw [hg]; exact neL BK226 : gb226 ≠ gb227)); have n10_ := zA ((by rw [hg]; exact neG BK226 : gb227 ≠ gb226)); clear HO2 BK225 BK226 HB; have HO2 := n0_; have BK225 := n1_; have BK226 := n2_; have HB := n3_; have BK227 := n4_; have GW227 := n5_; have GE227 := n6_; have := geI GE227; have NB225_227 := n7_; have NB227_225 := n8_; have NB226_227 := n9_; have NB227_226 := n10_; clear n0_ n1_ n2_ n3_ n4_ n5_ n6_ n7_ n8_ n9_ n10_ hb hbox hg; have hnb11 := NB225_226.out; have hnc11 := NB226_225.out; have hnb12 := NB225_227.out; have hnc12 := NB227_225.out; have hcz13_0 : w10.cell? ⟨gb225, 0, none⟩ = some (.int .i64 a0_0) := (blk_cell BK225.out 0).trans rfl; have hcz13_1 : w10.cell? ⟨gb225, 1, none⟩ = some (.slice A0_1 l0_1.length c0_1) := (blk_cell BK225.out 1).trans rfl; have hfz13_0 := blk_frozen BK225.out 0; have hfz13_1 := blk_frozen BK225.out 1; have hnb14 := NB226_227.out; have hnc14 := NB227_226.out; have hcz15_0 : w10.cell? ⟨gb226, 0, none⟩ = some (.int .i64 a1_0) := (blk_cell BK226.out 0).trans rfl; have hcz15_1 : w10.cell? ⟨gb226, 1, none⟩ = some (.slice A1_1 l1_1.length c1_1) := (blk_cell BK226.out 1).trans rfl; have hcz15_2 : w10.cell? ⟨gb226, 2, none⟩ = some (.slice A1_2 l1_2.length c1_2) := (blk_cell BK226.out 2).trans rfl; have hfz15_0 := blk_frozen BK226.out 0; have hfz15_1 := blk_frozen BK226.out 1; have hfz15_2 := blk_frozen BK226.out 2; have hcz16_0 : w10.cell? ⟨gb227, 0, none⟩ = some (.slice A2 l2.length c2) := (blk_cell BK227.out 0).trans rfl; have hfz16_0 := blk_frozen BK227.out 0) | ((with_reducible refine gate_dst (N := 13) rfl ?_); refine Kd.N_lit (Kd.slice 2 (Kd.int .i64)) _ 22 ?hg (N' := 13) ?hd (xs := ([l2] : List (List Int))) (inner := [.slice A2 l2.length c2]) (ok := (fun k_ => (P2_ k_ ∨ w.heap.size ≤ k_) ∧ k_ ≠ gb225 ∧ k_ ≠ gb226 ∧ k_ ≠ gb227)) (okp := (fun k_ => (P2_ k_ ∨ w.heap.size ≤ k_) ∧ k_ ≠ gb225 ∧ k_ ≠ gb226 ∧ k_ ≠ gb227)) ?hr ?hp (fun _ hk => hk) ((show ∀ k_, w10.heap.size ≤ k_ → (fun k_ => (P2_ k_ ∨ w.heap.size ≤ k_) ∧ k_ ≠ gb225 ∧ k_ ≠ gb226 ∧ k_ ≠ gb227) k_ from fun k_ hk => ⟨(.inr (Nat.le_trans (below_size (uH HB.out)) hk)), Kd.freshB (g := gb225) (o := .cells #[.int .i64 a0_0, .slice A0_1 l0_1.length c0_1] 31 (0, 0)) (uB BK225.out) k_ hk, Kd.freshB (g := gb226) (o := .cells #[.int .i64 a1_0, .slice A1_1 l1_1.length c1_1, .slice A1_2 l1_2.length c1_2] 33 (0, 0)) (uB BK226.out) k_ hk, Kd.freshB (g := gb227) (o := .cells #[.slice A2 l2.length c2] 22 (0, 0)) (uB BK227.out) k_ hk⟩) _ (Nat.le_refl _)) (Below.refl _ _) (Nat.le_refl _) (by simp) ?_; (case hd => rfl); (case hg => rfl); (case hr => first | (go_simp; done) | (go_simp; rfl)); (case hp => exact (Reps.one (show Kd.FK (Kd.slice 2 (Kd.int .i64)) _ _ l2 [.slice A2 l2.length c2] from (Kd.FK_slice_mk (Kd.V_reads' (Kd.V_mono (ok' := (fun k_ => (P2_ k_ ∨ w.heap.size ≤ k_) ∧ k_ ≠ gb225 ∧ k_ ≠ gb226 ∧ k_ ≠ gb227)) (HO2.out) (fun k_ hk => ⟨hk.1.1.1, ⟨hk.1.1.2, ⟨hk.1.2, hk.2⟩⟩⟩))).2.1 (Kd.V_F (Kd.V_mono (ok' := (fun k_ => (P2_ k_ ∨ w.heap.size ≤ k_) ∧ k_ ≠ gb225 ∧ k_ ≠ gb226 ∧ k_ ≠ gb227)) (HO2.out) (fun k_ hk => ⟨hk.1.1.1, ⟨hk.1.1.2, ⟨hk.1.2, hk.2⟩⟩⟩))))) (Reps.none _ _))); intro v230 w17 ho18 hb hg_ hnew_; clear hg_ hnew_; (first | rw [← Ny229.out] at ho18 | (simp only [Int.reduceToNat] at ho18; rw [← Ny229.out] at ho18)); have n0_ := zA (Kd.V_elder' (by (with_reducible repeat (first | apply Kd.V_alloc | apply Kd.V_drewN | apply Kd.V_drew)); exact HO2.out) (Kd.N_base ho18) hb); have n1_ := zA (Kd.N_lower ho18 (below_size (uH HB.out))); have n2_ := xB BK225 hb; have n3_ := xB BK226 hb; have n4_ := xB BK227 hb; have n5_ := xH HB hb; clear HO2 BK225 BK226 BK227 HB; have HO2 := n0_; have HO231 := n1_; have BK225 := n2_; have BK226 := n3_; have BK227 := n4_; have HB := n5_; clear n0_ n1_ n2_ n3_ n4_ n5_ hb ho18; obtain ⟨Ao19, co19, eo19⟩ := Kd.N_slice HO231.out; subst eo19) | ((with_reducible refine gate_callee (f := 63) rfl ?_); refine goesL_ (some 14) rfl rfl Try.func63 (by kernel_rfl) rfl #[.agg #[.int .i64 a0_0, .slice A0_1 l0_1.length c0_1], .agg #[.int .i64 a1_0, .slice A1_1 l1_1.length c1_1, .slice A1_2 l1_2.length c1_2], (.func (.func 64) #[] #[.pointer (some ⟨gb225, 0, none⟩), .pointer (some ⟨gb227, 0, none⟩)]), .slice Ao19 y229.length co19] rfl (by (try simp only [la, lb, lc]); first | done | rfl | (simp only [ld, le]; rfl)) ?_; (with_reducible refine (impl_bothCode.calls k a0_0 _ _ l0_1 a1_0 _ _ l1_1 _ _ l1_2 _ t228 _ _ y229 t232 _ ?side1 ?side2 ?side3 ?side4 ?side5 ?side6 ?side7 ?side8 ?side9 A5.out).mono ?_); (case side1 => exact uC ((Kd.C_below HR0_1.out HB.out))); (case side2 => exact HC0_1.out); (case side3 => exact uC ((Kd.C_below HR1_1.out HB.out))); (case side4 => exact HC1_1.out); (case side5 => exact uC ((Kd.C_below HR1_2.out HB.out))); (case side6 => exact HC1_2.out); (case side7 => exact FnB.of Try.func64 (by kernel_rfl) rfl (fun W_ hW_ => calls_of_args (args' := #[.pointer (some ⟨gb225, 0, none⟩), .pointer (some ⟨gb227, 0, none⟩)]) (by simp) ((impl_ErrorOf_1.calls _ a0_0 _ _ l0_1 _ _ _ l2 _ W_ (blk_below (g := gb225) (o := .cells #[.int .i64 a0_0, .slice A0_1 l0_1.length c0_1] 31 (0, 0)) (uB BK225.out) hW_) (Kd.C_below (by exact uC ((Kd.C_below HR0_1.out HB.out))) hW_) (by exact HC0_1.out) (blk_below (g := gb227) (o := .cells #[.slice A2 l2.length c2] 22 (0, 0)) (uB BK227.out) hW_) (Kd.C_below (by exact uC ((Kd.V_reads' HO2.out).2.2)) hW_) (by exact (Kd.V_reads' HO2.out).2.1) A4.out).mono fun e_ W2_ h_ => ⟨h_.1, h_.2⟩))); (case side8 => exact uC ((Kd.N_reads' HO231.out).2.2)); (case side9 => exact (Kd.N_reads' HO231.out).2.1); rintro e w20 ⟨rfl, hb⟩; refine ⟨_, rfl, ?_⟩; have n0_ := zA (Kd.V_below (by (with_reducible repeat (first | apply Kd.V_alloc | apply Kd.V_drewN | apply Kd.V_drew)); exact HO2.out) hb); have n1_ := zA (Kd.N_below (by (with_reducible repeat (first | apply Kd.N_alloc | apply Kd.N_drewN | apply Kd.N_drew)); exact HO231.out) hb); have n2_ := xB BK225 hb; have n3_ := xB BK226 hb; have n4_ := xB BK227 hb; have n5_ := xH HB hb; clear HO2 HO231 BK225 BK226 BK227 HB; have HO2 := n0_; have HO231 := n1_; have BK225 := n2_; have BK226 := n3_; have BK227 := n4_; have HB := n5_; clear n0_ n1_ n2_ n3_ n4_ n5_; (try clear hb); (try clear hb2); (try clear hk); (try clear hi); have hcz21_0 : w20.cell? ⟨gb225, 0, none⟩ = some (.int .i64 a0_0) := (blk_cell BK225.out 0).trans rfl; have hcz21_1 : w20.cell? ⟨gb225, 1, none⟩ = some (.slice A0_1 l0_1.length c0_1) := (blk_cell BK225.out 1).trans rfl; have hfz21_0 := blk_frozen BK225.out 0; have hfz21_1 := blk_frozen BK225.out 1; have hcz22_0 : w20.cell? ⟨gb226, 0, none⟩ = some (.int .i64 a1_0) := (blk_cell BK226.out 0).trans rfl; have hcz22_1 : w20.cell? ⟨gb226, 1, none⟩ = some (.slice A1_1 l1_1.length c1_1) := (blk_cell BK226.out 1).trans rfl; have hcz22_2 : w20.cell? ⟨gb226, 2, none⟩ = some (.slice A1_2 l1_2.length c1_2) := (blk_cell BK226.out 2).trans rfl; have hfz22_0 := blk_frozen BK226.out 0; have hfz22_1 := blk_frozen BK226.out 1; have hfz22_2 := blk_frozen BK226.out 2; have hcz23_0 : w20.cell? ⟨gb227, 0, none⟩ = some (.slice A2 l2.length c2) := (blk_cell BK227.out 0).trans rfl; have hfz23_0 := blk_frozen BK227.out 0) | ((with_reducible refine gate_callee (f := 66) rfl ?_); refine goesL_ (some 21) rfl rfl Try.func66 (by kernel_rfl) rfl #[.agg #[.int .i64 a0_0, .slice A0_1 l0_1.length c0_1], .agg #[.int .i64 a1_0, .slice A1_1 l1_1.length c1_1, .slice A1_2 l1_2.length c1_2], .slice A2 l2.length c2] rfl (by (try simp only [la, lb, lc]); first | done | rfl | (simp only [ld, le]; rfl)) ?_; (with_reducible refine (impl_Moments_errorFor.calls k a0_0 _ _ l0_1 a1_0 _ _ l1_1 _ _ l1_2 _ _ l2 t233 _ ?side1 ?side2 ?side3 ?side4 ?side5 ?side6 ?side7 ?side8 A7.out).mono ?_); (case side1 => exact uC ((Kd.C_below HR0_1.out HB.out))); (case side2 => exact HC0_1.out); (case side3 => exact uC ((Kd.C_below HR1_1.out HB.out))); (case side4 => exact HC1_1.out); (case side5 => exact uC ((Kd.C_below HR1_2.out HB.out))); (case side6 => exact HC1_2.out); (case side7 => exact uC ((Kd.V_reads' HO2.out).2.2)); (case side8 => exact (Kd.V_reads' HO2.out).2.1); rintro e w24 ⟨rfl, hb⟩; refine ⟨_, rfl, ?_⟩; have n0_ := zA (Kd.V_below (by (with_reducible repeat (first | apply Kd.V_alloc | apply Kd.V_drewN | apply Kd.V_drew)); exact HO2.out) hb); have n1_ := zA (Kd.N_below (by (with_reducible repeat (first | apply Kd.N_alloc | apply Kd.N_drewN | apply Kd.N_drew)); exact HO231.out) hb); have n2_ := xB BK225 hb; have n3_ := xB BK226 hb; have n4_ := xB BK227 hb; have n5_ := xH HB hb; clear HO2 HO231 BK225 BK226 BK227 HB; have HO2 := n0_; have HO231 := n1_; have BK225 := n2_; have BK226 := n3_; have BK227 := n4_; have HB := n5_; clear n0_ n1_ n2_ n3_ n4_ n5_; (try clear hb); (try clear hb2); (try clear hk); (try clear hi)))
  go_ret2
  exact ⟨by first | rfl | (simp [errW_none, errW_some] <;> rfl) | (simp [*, errW_none, errW_some] <;> rfl), uH HB.out⟩
 ·rw [if_neg c6] at H
  have c6b0 : (t232 == 0) = false := beq_eq_false_iff_ne.mpr c6
  have c6b1 : (t232 != 0) = true := bne_iff_ne.mpr c6
  simp only [Option.some.injEq, Prod.mk.injEq] at H
  obtain ⟨rfl, rfl⟩ := H
  go_enter Try.func21, Try.ntmps21
  go_wp2_with (first | ((with_reducible refine gate_dst (N := 3) rfl ?_); refine box_event ?hg (N := 3) ?hd (cs := #[.int .i64 a0_0, .slice A0_1 l0_1.length c0_1]) (t := 31) ?hr ?_; (case hd => rfl); (case hg => rfl); (case hr => first | (go_simp; done) | (go_simp; rfl)); intro gb225 hg w25 hbox hb; have n0_ := zA (Kd.V_below (Kd.V_elderB (by (with_reducible repeat (first | apply Kd.V_alloc | apply Kd.V_drewN | apply Kd.V_drew)); exact HO2.out) gb225 (Nat.le_of_eq hg.symm)) hb); have n1_ := xH HB hb; have n2_ := zA (hbox); have n3_ := zA ((by rw [hg]; exact (below_size (uH HB.out)) : w.heap.size ≤ gb225)); have n4_ := zA ((by rw [hg]; exact (below_size (uH HB.out)) : w.heap.size ≤ gb225)); clear HO2 HB; have HO2 := n0_; have HB := n1_; have BK225 := n2_; have GW225 := n3_; have GE225 := n4_; have := geI GE225; clear n0_ n1_ n2_ n3_ n4_ hb hbox hg) | ((with_reducible refine gate_dst (N := 4) rfl ?_); refine box_event ?hg (N := 4) ?hd (cs := #[.int .i64 a1_0, .slice A1_1 l1_1.length c1_1, .slice A1_2 l1_2.length c1_2]) (t := 33) ?hr ?_; (case hd => rfl); (case hg => rfl); (case hr => first | (go_simp; done) | (go_simp; rfl)); intro gb226 hg w26 hbox hb; have n0_ := zA (Kd.V_below (Kd.V_elderB (by (with_reducible repeat (first | apply Kd.V_alloc | apply Kd.V_drewN | apply Kd.V_drew)); exact HO2.out) gb226 (Nat.le_of_eq hg.symm)) hb); have n1_ := xB BK225 hb; have n2_ := xH HB hb; have n3_ := zA (hbox); have n4_ := zA ((by rw [hg]; exact (below_size (uH HB.out)) : w.heap.size ≤ gb226)); have n5_ := zA ((by rw [hg]; exact (below_size (uH HB.out)) : w.heap.size ≤ gb226)); have n6_ := zA ((by rw [hg]; exact neL BK225 : gb225 ≠ gb226)); have n7_ := zA ((by rw [hg]; exact neG BK225 : gb226 ≠ gb225)); clear HO2 BK225 HB; have HO2 := n0_; have BK225 := n1_; have HB := n2_; have BK226 := n3_; have GW226 := n4_; have GE226 := n5_; have := geI GE226; have NB225_226 := n6_; have NB226_225 := n7_; clear n0_ n1_ n2_ n3_ n4_ n5_ n6_ n7_ hb hbox hg) | ((with_reducible refine gate_dst (N := 5) rfl ?_); refine box_event ?hg (N := 5) ?hd (cs := #[.slice A2 l2.length c2]) (t := 22) ?hr ?_; (case hd => rfl); (case hg => rfl); (case hr => first | (go_simp; done) | (go_simp; rfl)); intro gb227 hg w27 hbox hb; have n0_ := zA (Kd.V_below (Kd.V_elderB (by (with_reducible repeat (first | apply Kd.V_alloc | apply Kd.V_drewN | apply Kd.V_drew)); exact HO2.out) gb227 (Nat.le_of_eq hg.symm)) hb); have n1_ := xB BK225 hb; have n2_ := xB BK226 hb; have n3_ := xH HB hb; have n4_ := zA (hbox); have n5_ := zA ((by rw [hg]; exact (below_size (uH HB.out)) : w.heap.size ≤ gb227)); have n6_ := zA ((by rw [hg]; exact (below_size (uH HB.out)) : w.heap.size ≤ gb227)); have n7_ := zA ((by rw [hg]; exact neL BK225 : gb225 ≠ gb227)); have n8_ := zA ((by rw [hg]; exact neG BK225 : gb227 ≠ gb225)); have n9_ := zA ((by rw [hg]; exact neL BK226 : gb226 ≠ gb227)); have n10_ := zA ((by rw [hg]; exact neG BK226 : gb227 ≠ gb226)); clear HO2 BK225 BK226 HB; have HO2 := n0_; have BK225 := n1_; have BK226 := n2_; have HB := n3_; have BK227 := n4_; have GW227 := n5_; have GE227 := n6_; have := geI GE227; have NB225_227 := n7_; have NB227_225 := n8_; have NB226_227 := n9_; have NB227_226 := n10_; clear n0_ n1_ n2_ n3_ n4_ n5_ n6_ n7_ n8_ n9_ n10_ hb hbox hg; have hnb28 := NB225_226.out; have hnc28 := NB226_225.out; have hnb29 := NB225_227.out; have hnc29 := NB227_225.out; have hcz30_0 : w27.cell? ⟨gb225, 0, none⟩ = some (.int .i64 a0_0) := (blk_cell BK225.out 0).trans rfl; have hcz30_1 : w27.cell? ⟨gb225, 1, none⟩ = some (.slice A0_1 l0_1.length c0_1) := (blk_cell BK225.out 1).trans rfl; have hfz30_0 := blk_frozen BK225.out 0; have hfz30_1 := blk_frozen BK225.out 1; have hnb31 := NB226_227.out; have hnc31 := NB227_226.out; have hcz32_0 : w27.cell? ⟨gb226, 0, none⟩ = some (.int .i64 a1_0) := (blk_cell BK226.out 0).trans rfl; have hcz32_1 : w27.cell? ⟨gb226, 1, none⟩ = some (.slice A1_1 l1_1.length c1_1) := (blk_cell BK226.out 1).trans rfl; have hcz32_2 : w27.cell? ⟨gb226, 2, none⟩ = some (.slice A1_2 l1_2.length c1_2) := (blk_cell BK226.out 2).trans rfl; have hfz32_0 := blk_frozen BK226.out 0; have hfz32_1 := blk_frozen BK226.out 1; have hfz32_2 := blk_frozen BK226.out 2; have hcz33_0 : w27.cell? ⟨gb227, 0, none⟩ = some (.slice A2 l2.length c2) := (blk_cell BK227.out 0).trans rfl; have hfz33_0 := blk_frozen BK227.out 0) | ((with_reducible refine gate_dst (N := 13) rfl ?_); refine Kd.N_lit (Kd.slice 2 (Kd.int .i64)) _ 22 ?hg (N' := 13) ?hd (xs := ([l2] : List (List Int))) (inner := [.slice A2 l2.length c2]) (ok := (fun k_ => (P2_ k_ ∨ w.heap.size ≤ k_) ∧ k_ ≠ gb225 ∧ k_ ≠ gb226 ∧ k_ ≠ gb227)) (okp := (fun k_ => (P2_ k_ ∨ w.heap.size ≤ k_) ∧ k_ ≠ gb225 ∧ k_ ≠ gb226 ∧ k_ ≠ gb227)) ?hr ?hp (fun _ hk => hk) ((show ∀ k_, w27.heap.size ≤ k_ → (fun k_ => (P2_ k_ ∨ w.heap.size ≤ k_) ∧ k_ ≠ gb225 ∧ k_ ≠ gb226 ∧ k_ ≠ gb227) k_ from fun k_ hk => ⟨(.inr (Nat.le_trans (below_size (uH HB.out)) hk)), Kd.freshB (g := gb225) (o := .cells #[.int .i64 a0_0, .slice A0_1 l0_1.length c0_1] 31 (0, 0)) (uB BK225.out) k_ hk, Kd.freshB (g := gb226) (o := .cells #[.int .i64 a1_0, .slice A1_1 l1_1.length c1_1, .slice A1_2 l1_2.length c1_2] 33 (0, 0)) (uB BK226.out) k_ hk, Kd.freshB (g := gb227) (o := .cells #[.slice A2 l2.length c2] 22 (0, 0)) (uB BK227.out) k_ hk⟩) _ (Nat.le_refl _)) (Below.refl _ _) (Nat.le_refl _) (by simp) ?_; (case hd => rfl); (case hg => rfl); (case hr => first | (go_simp; done) | (go_simp; rfl)); (case hp => exact (Reps.one (show Kd.FK (Kd.slice 2 (Kd.int .i64)) _ _ l2 [.slice A2 l2.length c2] from (Kd.FK_slice_mk (Kd.V_reads' (Kd.V_mono (ok' := (fun k_ => (P2_ k_ ∨ w.heap.size ≤ k_) ∧ k_ ≠ gb225 ∧ k_ ≠ gb226 ∧ k_ ≠ gb227)) (HO2.out) (fun k_ hk => ⟨hk.1.1.1, ⟨hk.1.1.2, ⟨hk.1.2, hk.2⟩⟩⟩))).2.1 (Kd.V_F (Kd.V_mono (ok' := (fun k_ => (P2_ k_ ∨ w.heap.size ≤ k_) ∧ k_ ≠ gb225 ∧ k_ ≠ gb226 ∧ k_ ≠ gb227)) (HO2.out) (fun k_ hk => ⟨hk.1.1.1, ⟨hk.1.1.2, ⟨hk.1.2, hk.2⟩⟩⟩))))) (Reps.none _ _))); intro v230 w34 ho35 hb hg_ hnew_; clear hg_ hnew_; (first | rw [← Ny229.out] at ho35 | (simp only [Int.reduceToNat] at ho35; rw [← Ny229.out] at ho35)); have n0_ := zA (Kd.V_elder' (by (with_reducible repeat (first | apply Kd.V_alloc | apply Kd.V_drewN | apply Kd.V_drew)); exact HO2.out) (Kd.N_base ho35) hb); have n1_ := zA (Kd.N_lower ho35 (below_size (uH HB.out))); have n2_ := xB BK225 hb; have n3_ := xB BK226 hb; have n4_ := xB BK227 hb; have n5_ := xH HB hb; clear HO2 BK225 BK226 BK227 HB; have HO2 := n0_; have HO231 := n1_; have BK225 := n2_; have BK226 := n3_; have BK227 := n4_; have HB := n5_; clear n0_ n1_ n2_ n3_ n4_ n5_ hb ho35; obtain ⟨Ao36, co36, eo36⟩ := Kd.N_slice HO231.out; subst eo36) | ((with_reducible refine gate_callee (f := 63) rfl ?_); refine goesL_ (some 14) rfl rfl Try.func63 (by kernel_rfl) rfl #[.agg #[.int .i64 a0_0, .slice A0_1 l0_1.length c0_1], .agg #[.int .i64 a1_0, .slice A1_1 l1_1.length c1_1, .slice A1_2 l1_2.length c1_2], (.func (.func 64) #[] #[.pointer (some ⟨gb225, 0, none⟩), .pointer (some ⟨gb227, 0, none⟩)]), .slice Ao36 y229.length co36] rfl (by (try simp only [la, lb, lc]); first | done | rfl | (simp only [ld, le]; rfl)) ?_; (with_reducible refine (impl_bothCode.calls k a0_0 _ _ l0_1 a1_0 _ _ l1_1 _ _ l1_2 _ t228 _ _ y229 t232 _ ?side1 ?side2 ?side3 ?side4 ?side5 ?side6 ?side7 ?side8 ?side9 A5.out).mono ?_); (case side1 => exact uC ((Kd.C_below HR0_1.out HB.out))); (case side2 => exact HC0_1.out); (case side3 => exact uC ((Kd.C_below HR1_1.out HB.out))); (case side4 => exact HC1_1.out); (case side5 => exact uC ((Kd.C_below HR1_2.out HB.out))); (case side6 => exact HC1_2.out); (case side7 => exact FnB.of Try.func64 (by kernel_rfl) rfl (fun W_ hW_ => calls_of_args (args' := #[.pointer (some ⟨gb225, 0, none⟩), .pointer (some ⟨gb227, 0, none⟩)]) (by simp) ((impl_ErrorOf_1.calls _ a0_0 _ _ l0_1 _ _ _ l2 _ W_ (blk_below (g := gb225) (o := .cells #[.int .i64 a0_0, .slice A0_1 l0_1.length c0_1] 31 (0, 0)) (uB BK225.out) hW_) (Kd.C_below (by exact uC ((Kd.C_below HR0_1.out HB.out))) hW_) (by exact HC0_1.out) (blk_below (g := gb227) (o := .cells #[.slice A2 l2.length c2] 22 (0, 0)) (uB BK227.out) hW_) (Kd.C_below (by exact uC ((Kd.V_reads' HO2.out).2.2)) hW_) (by exact (Kd.V_reads' HO2.out).2.1) A4.out).mono fun e_ W2_ h_ => ⟨h_.1, h_.2⟩))); (case side8 => exact uC ((Kd.N_reads' HO231.out).2.2)); (case side9 => exact (Kd.N_reads' HO231.out).2.1); rintro e w37 ⟨rfl, hb⟩; refine ⟨_, rfl, ?_⟩; have n0_ := zA (Kd.V_below (by (with_reducible repeat (first | apply Kd.V_alloc | apply Kd.V_drewN | apply Kd.V_drew)); exact HO2.out) hb); have n1_ := zA (Kd.N_below (by (with_reducible repeat (first | apply Kd.N_alloc | apply Kd.N_drewN | apply Kd.N_drew)); exact HO231.out) hb); have n2_ := xB BK225 hb; have n3_ := xB BK226 hb; have n4_ := xB BK227 hb; have n5_ := xH HB hb; clear HO2 HO231 BK225 BK226 BK227 HB; have HO2 := n0_; have HO231 := n1_; have BK225 := n2_; have BK226 := n3_; have BK227 := n4_; have HB := n5_; clear n0_ n1_ n2_ n3_ n4_ n5_; (try clear hb); (try clear hb2); (try clear hk); (try clear hi)))
  go_ret2
  exact ⟨by first | rfl | (simp [errW_none, errW_some] <;> rfl) | (simp [*, errW_none, errW_some] <;> rfl), uH HB.out⟩

end Go.Proofs.Ytokkabgkjhpecaa.Pr
/- Printed by a program of this session out of the translation: what these functions of the program compute, under the conditions that each theorem names. -/
namespace Go.Proofs.Ytokkabgkjhpecaa.Pr
open Go.RowKit Go.Proofs.YtokkabgkjhpecaaW.PrintWords Go.Proofs.YtokkabgkjhpecaaW.PrintLast Go.Proofs.YtokkabgkjhpecaaW.PrintMore
attribute [local go_sem] max2_int min2_int max_two min_two max_three min_three max_four min_four   -- for this text's walks alone
set_option linter.unusedVariables false
set_option linter.unusedSimpArgs false

/-! ### spec_l07Apply: function 61 -/
def spec_l07Apply.l0 : Nat → List Int → Int → Int → Int → List Int → Option (Int)
 | 0, _, _, _, _, _ => none
 | k + 1, x1, x5, x6, x124000, x124001 => if x6 < (x1.length : Int) then (if 0 ≤ x6 then (if x6 < (x124001.length : Int) then (if x124000 = 0 then (none) else (spec_l07Apply.l0 k x1 (Int.tmod (wrap64 (x5 + (wrap64 ((rd x1 x6) * (rd x124001 x6))))) x124000) (wrap64 (x6 + 1)) x124000 x124001)) else (none)) else (none)) else (some x5)
def spec_l07Apply.f (k : Nat) (a0_0 : Int) (l0_1 : List Int) (l1 : List Int) : Option (Int) := spec_l07Apply.l0 k l1 0 0 a0_0 l0_1
theorem spec_l07Apply.mono_l : ∀ k, (∀ y0 y1 y2 y3 y4, LeO (spec_l07Apply.l0 k y0 y1 y2 y3 y4) (spec_l07Apply.l0 (k + 1) y0 y1 y2 y3 y4))
 | 0 => fun _ _ _ _ _ r h => by simp [spec_l07Apply.l0] at h
 | k + 1 => by
  have ih0 := spec_l07Apply.mono_l k
  ·intro y0 y1 y2 y3 y4
   unfold spec_l07Apply.l0
   repeat' first
   | (with_reducible exact ih0 _ _ _ _ _)
   | (with_reducible exact LeO.refl _)
   | (with_reducible exact LeO.none _)
   | (with_reducible refine LeO.ite ?_ ?_)
   | (with_reducible refine LeO.bind ?_ (fun _ => ?_))
   | exact ih0 _ _ _ _ _
   | exact LeO.none _
   | refine LeO.ite ?_ ?_
   | refine LeO.bind ?_ (fun _ => ?_)
theorem spec_l07Apply.mono : ∀ a0 a1 a2 k, LeO (spec_l07Apply.f k a0 a1 a2) (spec_l07Apply.f (k + 1) a0 a1 a2) := by
 intro a0 a1 a2 k
 have ih0 := spec_l07Apply.mono_l k
 unfold spec_l07Apply.f
 repeat' first
   | (with_reducible exact ih0 _ _ _ _ _)
   | (with_reducible exact LeO.refl _)
   | (with_reducible exact LeO.none _)
   | (with_reducible refine LeO.ite ?_ ?_)
   | (with_reducible refine LeO.bind ?_ (fun _ => ?_))
   | exact ih0 _ _ _ _ _
   | exact LeO.none _
   | refine LeO.ite ?_ ?_
   | refine LeO.bind ?_ (fun _ => ?_)
set_option maxHeartbeats 8000000 in
set_option maxRecDepth 100000 in
theorem spec_l07Apply.calls (k : Nat) (a0_0 : Int) (A0_1 : Option Addr) (c0_1 : Nat) (l0_1 : List Int) (A1 : Option Addr) (c1 : Nat) (l1 : List Int) (r : Int) (w : World) (hr0_1 : Kd.C (Kd.int .i64) w A0_1 l0_1.length l0_1) (hc0_1 : l0_1.length ≤ c0_1) (hr1 : Kd.C (Kd.int .i64) w A1 l1.length l1) (hc1 : l1.length ≤ c1) (h : spec_l07Apply.f k a0_0 l0_1 l1 = some r) :
  Calls Try.prog 61 #[.agg #[.int .i64 a0_0, .slice A0_1 l0_1.length c0_1], .slice A1 l1.length c1] w fun e w' => e = .returned (.int .i64 r) ∧ Below w.heap.size w w' := by
 have hu31 := Try.underlying31
 have HR0_1 := zA hr0_1
 have HC0_1 := zA hc0_1
 clear hr0_1 hc0_1
 have HR1 := zA hr1
 have HC1 := zA hc1
 clear hr1 hc1
 have HB := zA (Below.refl w.heap.size w)
 have H : (spec_l07Apply.l0 k l1 0 0 a0_0 l0_1) = some r := h
 clear h
 have H' := zA H
 clear H
 go_enter Try.func61, Try.ntmps61
 go_wp2_with (first | ((with_reducible refine gate_dst (N := 2) rfl ?_); refine box_event ?hg (N := 2) ?hd (cs := #[.int .i64 a0_0, .slice A0_1 l0_1.length c0_1]) (t := 31) ?hr ?_; (case hd => rfl); (case hg => rfl); (case hr => first | (go_simp; done) | (go_simp; rfl)); intro gb123 hg w3 hbox hb; have n0_ := xH HB hb; have n1_ := zA (hbox); have n2_ := zA ((by rw [hg]; exact (below_size (uH HB.out)) : w.heap.size ≤ gb123)); have n3_ := zA ((by rw [hg]; exact (below_size (uH HB.out)) : w.heap.size ≤ gb123)); clear HB; have HB := n0_; have BK123 := n1_; have GW123 := n2_; have GE123 := n3_; have := geI GE123; clear n0_ n1_ n2_ n3_ hb hbox hg))
 repeat (go_quiet (first | ((with_reducible refine gate_dst (N := 2) rfl ?_); refine box_event ?hg (N := 2) ?hd (cs := #[.int .i64 a0_0, .slice A0_1 l0_1.length c0_1]) (t := 31) ?hr ?_; (case hd => rfl); (case hg => rfl); (case hr => first | (go_simp; done) | (go_simp; rfl)); intro gb123 hg w3 hbox hb; have n0_ := xH HB hb; have n1_ := zA (hbox); have n2_ := zA ((by rw [hg]; exact (below_size (uH HB.out)) : w.heap.size ≤ gb123)); have n3_ := zA ((by rw [hg]; exact (below_size (uH HB.out)) : w.heap.size ≤ gb123)); clear HB; have HB := n0_; have BK123 := n1_; have GW123 := n2_; have GE123 := n3_; have := geI GE123; clear n0_ n1_ n2_ n3_ hb hbox hg)); try go_wp2_with (first | ((with_reducible refine gate_dst (N := 2) rfl ?_); refine box_event ?hg (N := 2) ?hd (cs := #[.int .i64 a0_0, .slice A0_1 l0_1.length c0_1]) (t := 31) ?hr ?_; (case hd => rfl); (case hg => rfl); (case hr => first | (go_simp; done) | (go_simp; rfl)); intro gb123 hg w3 hbox hb; have n0_ := xH HB hb; have n1_ := zA (hbox); have n2_ := zA ((by rw [hg]; exact (below_size (uH HB.out)) : w.heap.size ≤ gb123)); have n3_ := zA ((by rw [hg]; exact (below_size (uH HB.out)) : w.heap.size ≤ gb123)); clear HB; have HB := n0_; have BK123 := n1_; have GW123 := n2_; have GE123 := n3_; have := geI GE123; clear n0_ n1_ n2_ n3_ hb hbox hg)))
 go_loopg [5, 6] k (fun kq v5 v6 w' => ∃ (x5_1 : Int) (x6_1 : Int), v5 = .int .i64 x5_1 ∧ v6 = .int .i64 x6_1 ∧ Aside0 (spec_l07Apply.l0 kq l1 x5_1 x6_1 a0_0 l0_1 = some r) ∧ Aside0 (kq ≤ k) ∧ Aside0 (w'.heap[gb123]? = some (.cells #[.int .i64 a0_0, (.slice A0_1 l0_1.length c0_1)] 31 (0, 0))) ∧ Aside0 (Below w.heap.size w w'))
 case atStart => exact ⟨(0), (0), (by first | rfl | (simp; done) | (simp [*]; done)), (by first | rfl | (simp; done) | (simp [*]; done)), H', ⟨Nat.le_refl _⟩, ⟨uB BK123.out⟩, ⟨uH HB.out⟩⟩
 case round =>
  clear H'
  try clear c1
  try clear p2
  obtain ⟨x5_1, x6_1, rfl, rfl, HA, HK1, BK123, HB⟩ := hrel
  cases gk with
  | zero => exact absurd HA.out (by simp [spec_l07Apply.l0])
  | succ k1 =>
   have H := HA.out
   clear HA
   simp only [spec_l07Apply.l0] at H
   by_cases c4 : x6_1 < (l1.length : Int)
   ·rw [if_pos c4] at H
    have c4b0 : decide (x6_1 < (l1.length : Int)) = true := decide_eq_true c4
    clear c4
    by_cases c5 : 0 ≤ x6_1
    ·rw [if_pos c5] at H
     have c5b0 : decide (0 ≤ x6_1) = true := decide_eq_true c5
     clear c5
     by_cases c6 : x6_1 < (l0_1.length : Int)
     ·rw [if_pos c6] at H
      have c6b0 : decide (x6_1 < (l0_1.length : Int)) = true := decide_eq_true c6
      clear c6
      by_cases c7 : a0_0 = 0
      ·rw [if_pos c7] at H
       exact absurd H (by simp)
      ·rw [if_neg c7] at H
       have c7b0 : (a0_0 == 0) = false := beq_eq_false_iff_ne.mpr c7
       have c7b1 : (a0_0 != 0) = true := bne_iff_ne.mpr c7
       have H' := zA H
       clear H
       have p124 : 0 ≤ (x6_1 : Int) := of_decide_eq_true (by first | (with_reducible assumption) | assumption)
       have q124 : x6_1 < (l1.length : Int) := of_decide_eq_true (by first | (with_reducible assumption) | assumption)
       obtain ⟨ad124, e124, hx124_0⟩ := Kd.at_int HR1.out x6_1 p124 q124
       cases e124
       replace hx124_0 := (HB.out.cell (World.block_lt_of_cell? w _ hx124_0)).trans hx124_0
       replace p124 := eq_true p124
       replace q124 := eq_true q124
       have hcz8_0 : wr.cell? ⟨gb123, 0, none⟩ = some (.int .i64 a0_0) := (blk_cell BK123.out 0).trans rfl
       have hcz8_1 : wr.cell? ⟨gb123, 1, none⟩ = some (.slice A0_1 l0_1.length c0_1) := (blk_cell BK123.out 1).trans rfl
       have hfz8_0 := blk_frozen BK123.out 0
       have hfz8_1 := blk_frozen BK123.out 1
       have p125 : 0 ≤ (x6_1 : Int) := of_decide_eq_true (by first | (with_reducible assumption) | assumption)
       have q125 : x6_1 < (l0_1.length : Int) := of_decide_eq_true (by first | (with_reducible assumption) | assumption)
       obtain ⟨ad125, e125, hx125_0⟩ := Kd.at_int HR0_1.out x6_1 p125 q125
       cases e125
       replace hx125_0 := (HB.out.cell (World.block_lt_of_cell? w _ hx125_0)).trans hx125_0
       replace p125 := eq_true p125
       replace q125 := eq_true q125
       go_wp2
       repeat (go_quiet (fail); try go_wp2)
       go_roundg k1
       case measure => have := HK1.out; omega
       case rel => exact ⟨(Int.tmod (wrap64 (x5_1 + (wrap64 ((rd l1 x6_1) * (rd l0_1 x6_1))))) a0_0), (wrap64 (x6_1 + 1)), (by first | rfl | (simp; done) | (simp [*]; done)), (by first | rfl | (simp; done) | (simp [*]; done)), H', ⟨by have := HK1.out; omega⟩, ⟨uB BK123.out⟩, ⟨uH HB.out⟩⟩
     ·rw [if_neg c6] at H
      exact absurd H (by simp)
    ·rw [if_neg c5] at H
     exact absurd H (by simp)
   ·rw [if_neg c4] at H
    have c4b0 : decide (x6_1 < (l1.length : Int)) = false := decide_eq_false c4
    clear c4
    obtain rfl := Option.some.inj H
    go_wp2
    repeat (go_quiet (fail); try go_wp2)
    go_ret
    exact ⟨by first | rfl | (simp [errW_none, errW_some] <;> rfl) | (simp [*, errW_none, errW_some] <;> rfl), uH HB.out⟩

end Go.Proofs.Ytokkabgkjhpecaa.Pr
/- Printed by a program of this session out of the translation: what these functions of the program compute, under the conditions that each theorem names. -/
namespace Go.Proofs.Ytokkabgkjhpecaa.Pr
open Go.RowKit Go.Proofs.YtokkabgkjhpecaaW.PrintWords Go.Proofs.YtokkabgkjhpecaaW.PrintLast Go.Proofs.YtokkabgkjhpecaaW.PrintMore
attribute [local go_sem] max2_int min2_int max_two min_two max_three min_three max_four min_four   -- for this text's walks alone
set_option linter.unusedVariables false
set_option linter.unusedSimpArgs false

/-! ### spec_ErrorOf: function 17 -/
mutual
def spec_ErrorOf.j0 : Nat → List Int → Bool → Int → List Int → Int → List Int → List Int → Option (Int × Int)
 | 0, _, _, _, _, _, _, _ => none
 | k + 1, x2, x8, x132000, x132001, x133000, x133001, x133002 => if x8 = true then (some (0, 1)) else (if x132000 = x133000 then (spec_ErrorOf.j1 k x2 (decide ((x2.length : Int) > (x132001.length : Int))) x132000 x132001 x133000 x133001 x133002) else (spec_ErrorOf.j1 k x2 true x132000 x132001 x133000 x133001 x133002))
def spec_ErrorOf.j1 : Nat → List Int → Bool → Int → List Int → Int → List Int → List Int → Option (Int × Int)
 | 0, _, _, _, _, _, _, _ => none
 | k + 1, x2, x24, x132000, x132001, x133000, x133001, x133002 => if x24 = true then (some (0, 2)) else ((spec_l07Apply.f k x132000 x132001 x2).bind fun t136 => ((spec_l07Sum.f k x133000 x133001 x133002 x2).bind fun t137 => ((spec_l01Mod.f x132000 (wrap64 (t136 - t137))).bind fun t138 => (some (t138, 0)))))
end
def spec_ErrorOf.f (k : Nat) (a0_0 : Int) (l0_1 : List Int) (a1_0 : Int) (l1_1 : List Int) (l1_2 : List Int) (l2 : List Int) : Option (Int × Int) := (spec_l02Are.f k a0_0 l0_1).bind fun t133 => (if t133 = true then ((spec_l07Is.f k a1_0 l1_1 l1_2).bind fun t134 => (if t134 = true then ((spec_l01Poly.f k a0_0 l2).bind fun t135 => (spec_ErrorOf.j0 k l2 (!t135) a0_0 l0_1 a1_0 l1_1 l1_2)) else (spec_ErrorOf.j0 k l2 true a0_0 l0_1 a1_0 l1_1 l1_2))) else (spec_ErrorOf.j0 k l2 true a0_0 l0_1 a1_0 l1_1 l1_2))
theorem spec_ErrorOf.mono_l : ∀ k, (∀ y0 y1 y2 y3 y4 y5 y6, LeO (spec_ErrorOf.j0 k y0 y1 y2 y3 y4 y5 y6) (spec_ErrorOf.j0 (k + 1) y0 y1 y2 y3 y4 y5 y6)) ∧ (∀ y0 y1 y2 y3 y4 y5 y6, LeO (spec_ErrorOf.j1 k y0 y1 y2 y3 y4 y5 y6) (spec_ErrorOf.j1 (k + 1) y0 y1 y2 y3 y4 y5 y6))
 | 0 => ⟨fun _ _ _ _ _ _ _ r h => by simp [spec_ErrorOf.j0] at h, fun _ _ _ _ _ _ _ r h => by simp [spec_ErrorOf.j1] at h⟩
 | k + 1 => by
  obtain ⟨ih0, ih1⟩ := spec_ErrorOf.mono_l k
  refine ⟨?_, ?_⟩
  ·intro y0 y1 y2 y3 y4 y5 y6
   unfold spec_ErrorOf.j0
   repeat' first
   | (with_reducible exact ih0 _ _ _ _ _ _ _)
   | (with_reducible exact ih1 _ _ _ _ _ _ _)
   | (with_reducible exact spec_l01Poly.mono _ _ _)
   | (with_reducible exact spec_l02Are.mono _ _ _)
   | (with_reducible exact spec_l07Apply.mono _ _ _ _)
   | (with_reducible exact spec_l07Is.mono _ _ _ _)
   | (with_reducible exact spec_l07Sum.mono _ _ _ _ _)
   | (with_reducible exact LeO.refl _)
   | (with_reducible exact LeO.none _)
   | (with_reducible refine LeO.ite ?_ ?_)
   | (with_reducible refine LeO.bind ?_ (fun _ => ?_))
   | exact ih0 _ _ _ _ _ _ _
   | exact ih1 _ _ _ _ _ _ _
   | exact spec_l01Poly.mono _ _ _
   | exact spec_l02Are.mono _ _ _
   | exact spec_l07Apply.mono _ _ _ _
   | exact spec_l07Is.mono _ _ _ _
   | exact spec_l07Sum.mono _ _ _ _ _
   | exact LeO.none _
   | refine LeO.ite ?_ ?_
   | refine LeO.bind ?_ (fun _ => ?_)
  ·intro y0 y1 y2 y3 y4 y5 y6
   unfold spec_ErrorOf.j1
   repeat' first
   | (with_reducible exact ih0 _ _ _ _ _ _ _)
   | (with_reducible exact ih1 _ _ _ _ _ _ _)
   | (with_reducible exact spec_l01Poly.mono _ _ _)
   | (with_reducible exact spec_l02Are.mono _ _ _)
   | (with_reducible exact spec_l07Apply.mono _ _ _ _)
   | (with_reducible exact spec_l07Is.mono _ _ _ _)
   | (with_reducible exact spec_l07Sum.mono _ _ _ _ _)
   | (with_reducible exact LeO.refl _)
   | (with_reducible exact LeO.none _)
   | (with_reducible refine LeO.ite ?_ ?_)
   | (with_reducible refine LeO.bind ?_ (fun _ => ?_))
   | exact ih0 _ _ _ _ _ _ _
   | exact ih1 _ _ _ _ _ _ _
   | exact spec_l01Poly.mono _ _ _
   | exact spec_l02Are.mono _ _ _
   | exact spec_l07Apply.mono _ _ _ _
   | exact spec_l07Is.mono _ _ _ _
   | exact spec_l07Sum.mono _ _ _ _ _
   | exact LeO.none _
   | refine LeO.ite ?_ ?_
   | refine LeO.bind ?_ (fun _ => ?_)
theorem spec_ErrorOf.mono : ∀ a0 a1 a2 a3 a4 a5 k, LeO (spec_ErrorOf.f k a0 a1 a2 a3 a4 a5) (spec_ErrorOf.f (k + 1) a0 a1 a2 a3 a4 a5) := by
 intro a0 a1 a2 a3 a4 a5 k
 obtain ⟨ih0, ih1⟩ := spec_ErrorOf.mono_l k
 unfold spec_ErrorOf.f
 repeat' first
   | (with_reducible exact ih0 _ _ _ _ _ _ _)
   | (with_reducible exact ih1 _ _ _ _ _ _ _)
   | (with_reducible exact spec_l01Poly.mono _ _ _)
   | (with_reducible exact spec_l02Are.mono _ _ _)
   | (with_reducible exact spec_l07Apply.mono _ _ _ _)
   | (with_reducible exact spec_l07Is.mono _ _ _ _)
   | (with_reducible exact spec_l07Sum.mono _ _ _ _ _)
   | (with_reducible exact LeO.refl _)
   | (with_reducible exact LeO.none _)
   | (with_reducible refine LeO.ite ?_ ?_)
   | (with_reducible refine LeO.bind ?_ (fun _ => ?_))
   | exact ih0 _ _ _ _ _ _ _
   | exact ih1 _ _ _ _ _ _ _
   | exact spec_l01Poly.mono _ _ _
   | exact spec_l02Are.mono _ _ _
   | exact spec_l07Apply.mono _ _ _ _
   | exact spec_l07Is.mono _ _ _ _
   | exact spec_l07Sum.mono _ _ _ _ _
   | exact LeO.none _
   | refine LeO.ite ?_ ?_
   | refine LeO.bind ?_ (fun _ => ?_)
def spec_ErrorOf.T5 : Bool × List (List Nat × List Nat) := (true, [([], []), ([0], [0]), ([], []), ([], []), ([2, 3], [2, 3]), ([], []), ([], []), ([5, 6, 4], [5, 6]), ([4, 7], [4, 7]), ([1, 8, 7], [1, 8]), ([9, 9, 0, 1, 2, 3, 4, 5, 6, 7, 8, 9], [9]), ([10, 0, 1, 2, 3, 4, 5, 6, 7, 8, 9, 10], [])])
def spec_ErrorOf.B5 : List Nat := [0, 1, 0, 0, 12, 0, 0, 124, 252, 511, 1023, 2047]
theorem spec_ErrorOf.tab5 : rtab .any (opsOf Try.f17 5) = spec_ErrorOf.T5 := by kernel_rfl
theorem spec_ErrorOf.bits5 : waitsOk spec_ErrorOf.T5.2 spec_ErrorOf.B5 = true := by kernel_rfl
set_option maxHeartbeats 8000000 in
set_option maxRecDepth 100000 in
theorem spec_ErrorOf.calls (k : Nat) (a0_0 : Int) (A0_1 : Option Addr) (c0_1 : Nat) (l0_1 : List Int) (a1_0 : Int) (A1_1 : Option Addr) (c1_1 : Nat) (l1_1 : List Int) (A1_2 : Option Addr) (c1_2 : Nat) (l1_2 : List Int) (A2 : Option Addr) (c2 : Nat) (l2 : List Int) (r1 : Int) (r2 : Int) (w : World) (hr0_1 : Kd.C (Kd.int .i64) w A0_1 l0_1.length l0_1) (hc0_1 : l0_1.length ≤ c0_1) (hr1_1 : Kd.C (Kd.int .i64) w A1_1 l1_1.length l1_1) (hc1_1 : l1_1.length ≤ c1_1) (hr1_2 : Kd.C (Kd.int .i64) w A1_2 l1_2.length l1_2) (hc1_2 : l1_2.length ≤ c1_2) (hr2 : Kd.C (Kd.int .i64) w A2 l2.length l2) (hc2 : l2.length ≤ c2) (h : spec_ErrorOf.f k a0_0 l0_1 a1_0 l1_1 l1_2 l2 = some (r1, r2)) :
  Calls Try.prog 17 #[.agg #[.int .i64 a0_0, .slice A0_1 l0_1.length c0_1], .agg #[.int .i64 a1_0, .slice A1_1 l1_1.length c1_1, .slice A1_2 l1_2.length c1_2], .slice A2 l2.length c2] w fun e w' => e = .returned (.tuple #[.int .i64 r1, .int .i64 r2]) ∧ Below w.heap.size w w' := by
 have hu31 := Try.underlying31
 have hu33 := Try.underlying33
 have HR0_1 := zA hr0_1
 have HC0_1 := zA hc0_1
 clear hr0_1 hc0_1
 have HR1_1 := zA hr1_1
 have HC1_1 := zA hc1_1
 clear hr1_1 hc1_1
 have HR1_2 := zA hr1_2
 have HC1_2 := zA hc1_2
 clear hr1_2 hc1_2
 have HR2 := zA hr2
 have HC2 := zA hc2
 clear hr2 hc2
 have HB := zA (Below.refl w.heap.size w)
 have H : ((spec_l02Are.f k a0_0 l0_1).bind fun t133 => (if t133 = true then ((spec_l07Is.f k a1_0 l1_1 l1_2).bind fun t134 => (if t134 = true then ((spec_l01Poly.f k a0_0 l2).bind fun t135 => (spec_ErrorOf.j0 k l2 (!t135) a0_0 l0_1 a1_0 l1_1 l1_2)) else (spec_ErrorOf.j0 k l2 true a0_0 l0_1 a1_0 l1_1 l1_2))) else (spec_ErrorOf.j0 k l2 true a0_0 l0_1 a1_0 l1_1 l1_2))) = some (r1, r2) := h
 clear h
 have HC4 := zA H
 clear H
 go_enter Try.func17, Try.ntmps17
 go_upto_region 1 with (first | ((with_reducible refine gate_dst (N := 3) rfl ?_); (try (refine gate_guard (by rfl) ?_; dsimp only)); refine box_event ?hg (N := 3) ?hd (cs := #[.int .i64 a0_0, .slice A0_1 l0_1.length c0_1]) (t := 31) ?hr ?_; (case hd => rfl); (case hg => rfl); (case hr => first | (go_simp; done) | (go_simp; rfl)); intro gb131 hg w5 hbox hb; have n0_ := xH HB hb; have n1_ := zA (hbox); have n2_ := zA ((by rw [hg]; exact (below_size (uH HB.out)) : w.heap.size ≤ gb131)); have n3_ := zA ((by rw [hg]; exact (below_size (uH HB.out)) : w.heap.size ≤ gb131)); clear HB; have HB := n0_; have BK131 := n1_; have GW131 := n2_; have GE131 := n3_; have := geI GE131; clear n0_ n1_ n2_ n3_ hb hbox hg) | ((with_reducible refine gate_dst (N := 4) rfl ?_); (try (refine gate_guard (by rfl) ?_; dsimp only)); refine box_event ?hg (N := 4) ?hd (cs := #[.int .i64 a1_0, .slice A1_1 l1_1.length c1_1, .slice A1_2 l1_2.length c1_2]) (t := 33) ?hr ?_; (case hd => rfl); (case hg => rfl); (case hr => first | (go_simp; done) | (go_simp; rfl)); intro gb132 hg w6 hbox hb; have n0_ := xB BK131 hb; have n1_ := xH HB hb; have n2_ := zA (hbox); have n3_ := zA ((by rw [hg]; exact (below_size (uH HB.out)) : w.heap.size ≤ gb132)); have n4_ := zA ((by rw [hg]; exact (below_size (uH HB.out)) : w.heap.size ≤ gb132)); have n5_ := zA ((by rw [hg]; exact neL BK131 : gb131 ≠ gb132)); have n6_ := zA ((by rw [hg]; exact neG BK131 : gb132 ≠ gb131)); clear BK131 HB; have BK131 := n0_; have HB := n1_; have BK132 := n2_; have GW132 := n3_; have GE132 := n4_; have := geI GE132; have NB131_132 := n5_; have NB132_131 := n6_; clear n0_ n1_ n2_ n3_ n4_ n5_ n6_ hb hbox hg))
 (try simp only [Act.put, ls, lz, ln])
 go_cut [8] (fun v8 wc => ∃ (kq : Nat) (x8_3 : Bool), v8 = .bool x8_3 ∧ Aside0 (spec_ErrorOf.j0 kq l2 x8_3 a0_0 l0_1 a1_0 l1_1 l1_2 = some (r1, r2)) ∧ Aside0 (kq ≤ k) ∧ Aside0 (wc.heap[gb131]? = some (.cells #[.int .i64 a0_0, (.slice A0_1 l0_1.length c0_1)] 31 (0, 0))) ∧ Aside0 (wc.heap[gb132]? = some (.cells #[.int .i64 a1_0, (.slice A1_1 l1_1.length c1_1), (.slice A1_2 l1_2.length c1_2)] 33 (0, 0))) ∧ Aside0 (Below w.heap.size w wc))
 case first =>
  have H := HC4.out
  clear HC4
  replace H := Option.bind_eq_some_iff.mp H
  obtain ⟨t133, A70, H⟩ := H
  replace H : (if t133 = true then ((spec_l07Is.f k a1_0 l1_1 l1_2).bind fun t134 => (if t134 = true then ((spec_l01Poly.f k a0_0 l2).bind fun t135 => (spec_ErrorOf.j0 k l2 (!t135) a0_0 l0_1 a1_0 l1_1 l1_2)) else (spec_ErrorOf.j0 k l2 true a0_0 l0_1 a1_0 l1_1 l1_2))) else (spec_ErrorOf.j0 k l2 true a0_0 l0_1 a1_0 l1_1 l1_2)) = some (r1, r2) := H
  have A7 := zA A70
  clear A70
  by_cases c8 : t133 = true
  ·subst c8
   have H1 : ((spec_l07Is.f k a1_0 l1_1 l1_2).bind fun t134 => (if t134 = true then ((spec_l01Poly.f k a0_0 l2).bind fun t135 => (spec_ErrorOf.j0 k l2 (!t135) a0_0 l0_1 a1_0 l1_1 l1_2)) else (spec_ErrorOf.j0 k l2 true a0_0 l0_1 a1_0 l1_1 l1_2))) = some (r1, r2) := by rw [if_pos rfl] at H; exact H
   clear H
   have H := H1
   clear H1
   replace H := Option.bind_eq_some_iff.mp H
   obtain ⟨t134, A90, H⟩ := H
   replace H : (if t134 = true then ((spec_l01Poly.f k a0_0 l2).bind fun t135 => (spec_ErrorOf.j0 k l2 (!t135) a0_0 l0_1 a1_0 l1_1 l1_2)) else (spec_ErrorOf.j0 k l2 true a0_0 l0_1 a1_0 l1_1 l1_2)) = some (r1, r2) := H
   have A9 := zA A90
   clear A90
   by_cases c10 : t134 = true
   ·subst c10
    have H1 : ((spec_l01Poly.f k a0_0 l2).bind fun t135 => (spec_ErrorOf.j0 k l2 (!t135) a0_0 l0_1 a1_0 l1_1 l1_2)) = some (r1, r2) := by rw [if_pos rfl] at H; exact H
    clear H
    have H := H1
    clear H1
    replace H := Option.bind_eq_some_iff.mp H
    obtain ⟨t135, A110, H⟩ := H
    replace H : (spec_ErrorOf.j0 k l2 (!t135) a0_0 l0_1 a1_0 l1_1 l1_2) = some (r1, r2) := H
    have A11 := zA A110
    clear A110
    have H' := zA H
    clear H
    have hnb12 := NB131_132.out; have hnc12 := NB132_131.out
    have hcz13_0 : w6.cell? ⟨gb131, 0, none⟩ = some (.int .i64 a0_0) := (blk_cell BK131.out 0).trans rfl
    have hcz13_1 : w6.cell? ⟨gb131, 1, none⟩ = some (.slice A0_1 l0_1.length c0_1) := (blk_cell BK131.out 1).trans rfl
    have hfz13_0 := blk_frozen BK131.out 0
    have hfz13_1 := blk_frozen BK131.out 1
    go_wp2_with (first | ((with_reducible refine gate_callee (f := 57) rfl ?_); refine goesL_ (some 10) rfl rfl Try.func57 (by kernel_rfl) rfl #[.agg #[.int .i64 a0_0, .slice A0_1 l0_1.length c0_1]] rfl (by (try simp only [la, lb, lc]); first | done | rfl | (simp only [ld, le]; rfl)) ?_; (with_reducible refine (spec_l02Are.calls k a0_0 _ _ l0_1 true _ ?side1 ?side2 A7.out).mono ?_); (case side1 => exact uC ((Kd.C_below HR0_1.out HB.out))); (case side2 => exact HC0_1.out); rintro e w14 ⟨rfl, hb⟩; refine ⟨_, rfl, ?_⟩; have n0_ := xB BK131 hb; have n1_ := xB BK132 hb; have n2_ := xH HB hb; clear BK131 BK132 HB; have BK131 := n0_; have BK132 := n1_; have HB := n2_; clear n0_ n1_ n2_; (try clear hb); (try clear hb2); (try clear hk); (try clear hi); have hcz15_0 : w14.cell? ⟨gb132, 0, none⟩ = some (.int .i64 a1_0) := (blk_cell BK132.out 0).trans rfl; have hcz15_1 : w14.cell? ⟨gb132, 1, none⟩ = some (.slice A1_1 l1_1.length c1_1) := (blk_cell BK132.out 1).trans rfl; have hcz15_2 : w14.cell? ⟨gb132, 2, none⟩ = some (.slice A1_2 l1_2.length c1_2) := (blk_cell BK132.out 2).trans rfl; have hfz15_0 := blk_frozen BK132.out 0; have hfz15_1 := blk_frozen BK132.out 1; have hfz15_2 := blk_frozen BK132.out 2) | (go_at_call 58; (with_reducible refine (spec_l07Is.calls k a1_0 _ _ l1_1 _ _ l1_2 true _ ?side1 ?side2 ?side3 ?side4 A9.out).mono ?_); (case side1 => exact uC ((Kd.C_below HR1_1.out HB.out))); (case side2 => exact HC1_1.out); (case side3 => exact uC ((Kd.C_below HR1_2.out HB.out))); (case side4 => exact HC1_2.out); rintro e w16 ⟨rfl, hb⟩; have n0_ := xB BK131 hb; have n1_ := xB BK132 hb; have n2_ := xH HB hb; clear BK131 BK132 HB; have BK131 := n0_; have BK132 := n1_; have HB := n2_; clear n0_ n1_ n2_; (try clear hb); (try clear hb2); (try clear hk); (try clear hi); have hcz17_0 : w16.cell? ⟨gb131, 0, none⟩ = some (.int .i64 a0_0) := (blk_cell BK131.out 0).trans rfl; have hcz17_1 : w16.cell? ⟨gb131, 1, none⟩ = some (.slice A0_1 l0_1.length c0_1) := (blk_cell BK131.out 1).trans rfl; have hfz17_0 := blk_frozen BK131.out 0; have hfz17_1 := blk_frozen BK131.out 1) | (go_at_call 59; (with_reducible refine (spec_l01Poly.calls k a0_0 _ _ l2 t135 _ ?side1 ?side2 A11.out).mono ?_); (case side1 => exact uC ((Kd.C_below HR2.out HB.out))); (case side2 => exact HC2.out); rintro e w' ⟨rfl, ⟨nd, rfl⟩⟩))
    go_meet
    case rel => exact ⟨_, (!t135), (by first | rfl | (simp; done) | (simp [*]; done)), H', ⟨by first | omega | exact Nat.le_refl _⟩, ⟨uB BK131.out⟩, ⟨uB BK132.out⟩, ⟨uH HB.out⟩⟩
   ·replace c10 := Bool.eq_false_iff.mpr c10
    subst c10
    have H1 : (spec_ErrorOf.j0 k l2 true a0_0 l0_1 a1_0 l1_1 l1_2) = some (r1, r2) := by rw [if_neg (show ¬ (false = true) by decide)] at H; exact H
    clear H
    have H := H1
    clear H1
    have H' := zA H
    clear H
    have hnb18 := NB131_132.out; have hnc18 := NB132_131.out
    have hcz19_0 : w6.cell? ⟨gb131, 0, none⟩ = some (.int .i64 a0_0) := (blk_cell BK131.out 0).trans rfl
    have hcz19_1 : w6.cell? ⟨gb131, 1, none⟩ = some (.slice A0_1 l0_1.length c0_1) := (blk_cell BK131.out 1).trans rfl
    have hfz19_0 := blk_frozen BK131.out 0
    have hfz19_1 := blk_frozen BK131.out 1
    go_wp2_with (first | ((with_reducible refine gate_callee (f := 57) rfl ?_); refine goesL_ (some 10) rfl rfl Try.func57 (by kernel_rfl) rfl #[.agg #[.int .i64 a0_0, .slice A0_1 l0_1.length c0_1]] rfl (by (try simp only [la, lb, lc]); first | done | rfl | (simp only [ld, le]; rfl)) ?_; (with_reducible refine (spec_l02Are.calls k a0_0 _ _ l0_1 true _ ?side1 ?side2 A7.out).mono ?_); (case side1 => exact uC ((Kd.C_below HR0_1.out HB.out))); (case side2 => exact HC0_1.out); rintro e w20 ⟨rfl, hb⟩; refine ⟨_, rfl, ?_⟩; have n0_ := xB BK131 hb; have n1_ := xB BK132 hb; have n2_ := xH HB hb; clear BK131 BK132 HB; have BK131 := n0_; have BK132 := n1_; have HB := n2_; clear n0_ n1_ n2_; (try clear hb); (try clear hb2); (try clear hk); (try clear hi); have hcz21_0 : w20.cell? ⟨gb132, 0, none⟩ = some (.int .i64 a1_0) := (blk_cell BK132.out 0).trans rfl; have hcz21_1 : w20.cell? ⟨gb132, 1, none⟩ = some (.slice A1_1 l1_1.length c1_1) := (blk_cell BK132.out 1).trans rfl; have hcz21_2 : w20.cell? ⟨gb132, 2, none⟩ = some (.slice A1_2 l1_2.length c1_2) := (blk_cell BK132.out 2).trans rfl; have hfz21_0 := blk_frozen BK132.out 0; have hfz21_1 := blk_frozen BK132.out 1; have hfz21_2 := blk_frozen BK132.out 2) | (go_at_call 58; (with_reducible refine (spec_l07Is.calls k a1_0 _ _ l1_1 _ _ l1_2 false _ ?side1 ?side2 ?side3 ?side4 A9.out).mono ?_); (case side1 => exact uC ((Kd.C_below HR1_1.out HB.out))); (case side2 => exact HC1_1.out); (case side3 => exact uC ((Kd.C_below HR1_2.out HB.out))); (case side4 => exact HC1_2.out); rintro e w22 ⟨rfl, hb⟩; have n0_ := xB BK131 hb; have n1_ := xB BK132 hb; have n2_ := xH HB hb; clear BK131 BK132 HB; have BK131 := n0_; have BK132 := n1_; have HB := n2_; clear n0_ n1_ n2_; (try clear hb); (try clear hb2); (try clear hk); (try clear hi)))
    go_meet
    case rel => exact ⟨_, (true), (by first | rfl | (simp; done) | (simp [*]; done)), H', ⟨by first | omega | exact Nat.le_refl _⟩, ⟨uB BK131.out⟩, ⟨uB BK132.out⟩, ⟨uH HB.out⟩⟩
  ·replace c8 := Bool.eq_false_iff.mpr c8
   subst c8
   have H1 : (spec_ErrorOf.j0 k l2 true a0_0 l0_1 a1_0 l1_1 l1_2) = some (r1, r2) := by rw [if_neg (show ¬ (false = true) by decide)] at H; exact H
   clear H
   have H := H1
   clear H1
   have H' := zA H
   clear H
   have hnb23 := NB131_132.out; have hnc23 := NB132_131.out
   have hcz24_0 : w6.cell? ⟨gb131, 0, none⟩ = some (.int .i64 a0_0) := (blk_cell BK131.out 0).trans rfl
   have hcz24_1 : w6.cell? ⟨gb131, 1, none⟩ = some (.slice A0_1 l0_1.length c0_1) := (blk_cell BK131.out 1).trans rfl
   have hfz24_0 := blk_frozen BK131.out 0
   have hfz24_1 := blk_frozen BK131.out 1
   go_wp2_with (first | ((with_reducible refine gate_callee (f := 57) rfl ?_); refine goesL_ (some 10) rfl rfl Try.func57 (by kernel_rfl) rfl #[.agg #[.int .i64 a0_0, .slice A0_1 l0_1.length c0_1]] rfl (by (try simp only [la, lb, lc]); first | done | rfl | (simp only [ld, le]; rfl)) ?_; (with_reducible refine (spec_l02Are.calls k a0_0 _ _ l0_1 false _ ?side1 ?side2 A7.out).mono ?_); (case side1 => exact uC ((Kd.C_below HR0_1.out HB.out))); (case side2 => exact HC0_1.out); rintro e w25 ⟨rfl, hb⟩; refine ⟨_, rfl, ?_⟩; have n0_ := xB BK131 hb; have n1_ := xB BK132 hb; have n2_ := xH HB hb; clear BK131 BK132 HB; have BK131 := n0_; have BK132 := n1_; have HB := n2_; clear n0_ n1_ n2_; (try clear hb); (try clear hb2); (try clear hk); (try clear hi)))
   go_meet
   case rel => exact ⟨_, (true), (by first | rfl | (simp; done) | (simp [*]; done)), H', ⟨by first | omega | exact Nat.le_refl _⟩, ⟨uB BK131.out⟩, ⟨uB BK132.out⟩, ⟨uH HB.out⟩⟩
 case rest =>
  clear HC4
  try clear c1
  try clear c2
  try clear p2
  try clear c5
  try clear c8
  try clear c10
  try clear c12
  try clear c17
  try clear c18
  try clear c23
  try clear hcz13_0
  try clear hcz13_1
  try clear hcz15_0
  try clear hcz15_1
  try clear hcz15_2
  try clear hcz17_0
  try clear hcz17_1
  try clear hcz19_0
  try clear hcz19_1
  try clear hcz21_0
  try clear hcz21_1
  try clear hcz21_2
  try clear hcz24_0
  try clear hcz24_1
  try clear hfz13_0
  try clear hfz13_1
  try clear hfz15_0
  try clear hfz15_1
  try clear hfz15_2
  try clear hfz17_0
  try clear hfz17_1
  try clear hfz19_0
  try clear hfz19_1
  try clear hfz21_0
  try clear hfz21_1
  try clear hfz21_2
  try clear hfz24_0
  try clear hfz24_1
  obtain ⟨kq, x8_3, rfl, HA, HJ3, BK131, BK132, HB⟩ := hcut
  cases kq with
  | zero => exact absurd HA.out (by simp [spec_ErrorOf.j0])
  | succ kj3 =>
   have H := HA.out
   clear HA
   simp only [spec_ErrorOf.j0] at H
   by_cases c26 : x8_3 = true
   ·subst c26
    have H1 : (some (0, 1)) = some (r1, r2) := by rw [if_pos rfl] at H; exact H
    clear H
    have H := H1
    clear H1
    simp only [Option.some.injEq, Prod.mk.injEq] at H
    obtain ⟨rfl, rfl⟩ := H
    go_wp2
    go_ret2
    exact ⟨by first | rfl | (simp [errW_none, errW_some] <;> rfl) | (simp [*, errW_none, errW_some] <;> rfl), uH HB.out⟩
   ·replace c26 := Bool.eq_false_iff.mpr c26
    subst c26
    have H1 : (if a0_0 = a1_0 then (spec_ErrorOf.j1 kj3 l2 (decide ((l2.length : Int) > (l0_1.length : Int))) a0_0 l0_1 a1_0 l1_1 l1_2) else (spec_ErrorOf.j1 kj3 l2 true a0_0 l0_1 a1_0 l1_1 l1_2)) = some (r1, r2) := by rw [if_neg (show ¬ (false = true) by decide)] at H; exact H
    clear H
    have H := H1
    clear H1
    have HC27 := zA H
    clear H
    go_upto_region 3 with (fail)
    go_cut [24] (fun v24 wc => ∃ (kq : Nat) (x24_26 : Bool), v24 = .bool x24_26 ∧ Aside0 (spec_ErrorOf.j1 kq l2 x24_26 a0_0 l0_1 a1_0 l1_1 l1_2 = some (r1, r2)) ∧ Aside0 (kq ≤ kj3) ∧ Aside0 (wc.heap[gb131]? = some (.cells #[.int .i64 a0_0, (.slice A0_1 l0_1.length c0_1)] 31 (0, 0))) ∧ Aside0 (wc.heap[gb132]? = some (.cells #[.int .i64 a1_0, (.slice A1_1 l1_1.length c1_1), (.slice A1_2 l1_2.length c1_2)] 33 (0, 0))) ∧ Aside0 (Below w.heap.size w wc))
    case first =>
     have H := HC27.out
     clear HC27
     by_cases c28 : a0_0 = a1_0
     ·rw [if_pos c28] at H
      have c28b0 : (a0_0 == a1_0) = true := beq_iff_eq.mpr c28
      have c28b1 : (a0_0 != a1_0) = false := bne_eq_false_iff_eq.mpr c28
      clear c28
      (first | rw [c28b0] | (simp only [i64_w, i32_w]; rw [c28b0]) | skip)
      have H' := zA H
      clear H
      have hnb29 := NB131_132.out; have hnc29 := NB132_131.out
      have hcz30_0 : wc.cell? ⟨gb131, 0, none⟩ = some (.int .i64 a0_0) := (blk_cell BK131.out 0).trans rfl
      have hcz30_1 : wc.cell? ⟨gb131, 1, none⟩ = some (.slice A0_1 l0_1.length c0_1) := (blk_cell BK131.out 1).trans rfl
      have hfz30_0 := blk_frozen BK131.out 0
      have hfz30_1 := blk_frozen BK131.out 1
      have hcz31_0 : wc.cell? ⟨gb132, 0, none⟩ = some (.int .i64 a1_0) := (blk_cell BK132.out 0).trans rfl
      have hcz31_1 : wc.cell? ⟨gb132, 1, none⟩ = some (.slice A1_1 l1_1.length c1_1) := (blk_cell BK132.out 1).trans rfl
      have hcz31_2 : wc.cell? ⟨gb132, 2, none⟩ = some (.slice A1_2 l1_2.length c1_2) := (blk_cell BK132.out 2).trans rfl
      have hfz31_0 := blk_frozen BK132.out 0
      have hfz31_1 := blk_frozen BK132.out 1
      have hfz31_2 := blk_frozen BK132.out 2
      go_wp2
      go_meet
      case rel => exact ⟨_, (decide ((l2.length : Int) > (l0_1.length : Int))), (by first | rfl | (simp; done) | (simp [*]; done)), H', ⟨by have := HJ3.out; first | omega | exact Nat.le_refl _⟩, ⟨uB BK131.out⟩, ⟨uB BK132.out⟩, ⟨uH HB.out⟩⟩
     ·rw [if_neg c28] at H
      have c28b0 : (a0_0 == a1_0) = false := beq_eq_false_iff_ne.mpr c28
      have c28b1 : (a0_0 != a1_0) = true := bne_iff_ne.mpr c28
      (first | rw [c28b0] | (simp only [i64_w, i32_w]; rw [c28b0]) | skip)
      have H' := zA H
      clear H
      have hnb32 := NB131_132.out; have hnc32 := NB132_131.out
      have hcz33_0 : wc.cell? ⟨gb131, 0, none⟩ = some (.int .i64 a0_0) := (blk_cell BK131.out 0).trans rfl
      have hcz33_1 : wc.cell? ⟨gb131, 1, none⟩ = some (.slice A0_1 l0_1.length c0_1) := (blk_cell BK131.out 1).trans rfl
      have hfz33_0 := blk_frozen BK131.out 0
      have hfz33_1 := blk_frozen BK131.out 1
      have hcz34_0 : wc.cell? ⟨gb132, 0, none⟩ = some (.int .i64 a1_0) := (blk_cell BK132.out 0).trans rfl
      have hcz34_1 : wc.cell? ⟨gb132, 1, none⟩ = some (.slice A1_1 l1_1.length c1_1) := (blk_cell BK132.out 1).trans rfl
      have hcz34_2 : wc.cell? ⟨gb132, 2, none⟩ = some (.slice A1_2 l1_2.length c1_2) := (blk_cell BK132.out 2).trans rfl
      have hfz34_0 := blk_frozen BK132.out 0
      have hfz34_1 := blk_frozen BK132.out 1
      have hfz34_2 := blk_frozen BK132.out 2
      go_wp2
      go_meet
      case rel => exact ⟨_, (true), (by first | rfl | (simp; done) | (simp [*]; done)), H', ⟨by have := HJ3.out; first | omega | exact Nat.le_refl _⟩, ⟨uB BK131.out⟩, ⟨uB BK132.out⟩, ⟨uH HB.out⟩⟩
    case rest =>
     clear HC27
     try clear c1
     try clear c2
     try clear p2
     try clear c3
     try clear c5
     try clear c8
     try clear c10
     try clear c12
     try clear c17
     try clear c18
     try clear c23
     try clear c26
     try clear c28
     try clear c28b0
     try clear c28b1
     try clear c29
     try clear c32
     try clear hcz13_0
     try clear hcz13_1
     try clear hcz15_0
     try clear hcz15_1
     try clear hcz15_2
     try clear hcz17_0
     try clear hcz17_1
     try clear hcz19_0
     try clear hcz19_1
     try clear hcz21_0
     try clear hcz21_1
     try clear hcz21_2
     try clear hcz24_0
     try clear hcz24_1
     try clear hcz30_0
     try clear hcz30_1
     try clear hcz31_0
     try clear hcz31_1
     try clear hcz31_2
     try clear hcz33_0
     try clear hcz33_1
     try clear hcz34_0
     try clear hcz34_1
     try clear hcz34_2
     try clear hfz13_0
     try clear hfz13_1
     try clear hfz15_0
     try clear hfz15_1
     try clear hfz15_2
     try clear hfz17_0
     try clear hfz17_1
     try clear hfz19_0
     try clear hfz19_1
     try clear hfz21_0
     try clear hfz21_1
     try clear hfz21_2
     try clear hfz24_0
     try clear hfz24_1
     try clear hfz30_0
     try clear hfz30_1
     try clear hfz31_0
     try clear hfz31_1
     try clear hfz31_2
     try clear hfz33_0
     try clear hfz33_1
     try clear hfz34_0
     try clear hfz34_1
     try clear hfz34_2
     try clear p2
     obtain ⟨kq, x24_26, rfl, HA, HJ26, BK131, BK132, HB⟩ := hcut
     cases kq with
     | zero => exact absurd HA.out (by simp [spec_ErrorOf.j1])
     | succ kj26 =>
      have H := HA.out
      clear HA
      simp only [spec_ErrorOf.j1] at H
      by_cases c35 : x24_26 = true
      ·subst c35
       have H1 : (some (0, 2)) = some (r1, r2) := by rw [if_pos rfl] at H; exact H
       clear H
       have H := H1
       clear H1
       simp only [Option.some.injEq, Prod.mk.injEq] at H
       obtain ⟨rfl, rfl⟩ := H
       go_wp2
       go_ret2
       exact ⟨by first | rfl | (simp [errW_none, errW_some] <;> rfl) | (simp [*, errW_none, errW_some] <;> rfl), uH HB.out⟩
      ·replace c35 := Bool.eq_false_iff.mpr c35
       subst c35
       have H1 : ((spec_l07Apply.f kj26 a0_0 l0_1 l2).bind fun t136 => ((spec_l07Sum.f kj26 a1_0 l1_1 l1_2 l2).bind fun t137 => ((spec_l01Mod.f a0_0 (wrap64 (t136 - t137))).bind fun t138 => (some (t138, 0))))) = some (r1, r2) := by rw [if_neg (show ¬ (false = true) by decide)] at H; exact H
       clear H
       have H := H1
       clear H1
       replace H := Option.bind_eq_some_iff.mp H
       obtain ⟨t136, A360, H⟩ := H
       replace H : ((spec_l07Sum.f kj26 a1_0 l1_1 l1_2 l2).bind fun t137 => ((spec_l01Mod.f a0_0 (wrap64 (t136 - t137))).bind fun t138 => (some (t138, 0)))) = some (r1, r2) := H
       have A36 := zA A360
       clear A360
       replace H := Option.bind_eq_some_iff.mp H
       obtain ⟨t137, A370, H⟩ := H
       replace H : ((spec_l01Mod.f a0_0 (wrap64 (t136 - t137))).bind fun t138 => (some (t138, 0))) = some (r1, r2) := H
       have A37 := zA A370
       clear A370
       replace H := Option.bind_eq_some_iff.mp H
       obtain ⟨t138, A380, H⟩ := H
       replace H : (some (t138, 0)) = some (r1, r2) := H
       have A38 := zA A380
       clear A380
       simp only [Option.some.injEq, Prod.mk.injEq] at H
       obtain ⟨rfl, rfl⟩ := H
       try go_wp2
       have n0_ := zA (blk_drew BK131.out)
       have n1_ := zA (blk_drew BK132.out)
       have n2_ := zA (below_drew1 HB.out)
       clear BK131 BK132 HB
       have BK131 := n0_; have BK132 := n1_; have HB := n2_
       clear n0_ n1_ n2_
       refine start_ (n := 12) (S := fun w' => w'.cell? ⟨gb131, 0, none⟩ = some (.int .i64 a0_0) ∧ w'.cell? ⟨gb131, 1, none⟩ = some (.slice A0_1 l0_1.length c0_1) ∧ w'.cell? ⟨gb132, 0, none⟩ = some (.int .i64 a1_0) ∧ w'.cell? ⟨gb132, 1, none⟩ = some (.slice A1_1 l1_1.length c1_1) ∧ w'.cell? ⟨gb132, 2, none⟩ = some (.slice A1_2 l1_2.length c1_2)) (ds := []) #[false, false, false, false, false, false, false, false, false, false, false, false] (by kernel_rfl) rfl rfl ⟨(blk_cell BK131.out 0).trans rfl, (blk_cell BK131.out 1).trans rfl, (blk_cell BK132.out 0).trans rfl, (blk_cell BK132.out 1).trans rfl, (blk_cell BK132.out 2).trans rfl⟩ (fun hHeld => ?_); refine with_tabW spec_ErrorOf.tab5 spec_ErrorOf.bits5 (fun HT_ HW_ => ?_)
       generalize wc.drew = w39 at BK131 BK132 HB hHeld ⊢
       refine pu_ 0 38 (bl 12 1) HT_ ?_
       refine pu_ 3 41 (bl 12 9) HT_ ?_
       refine pu_ 6 44 (bl 12 73) HT_ ?_
       refine ta_ 1 39 (bl 12 75) HT_ HW_ hHeld ?_
       refine ta_ 2 40 (bl 12 79) HT_ HW_ hHeld ?_
       refine ta_ 5 43 (bl 12 111) HT_ HW_ hHeld ?_
       refine on_ 4 (some 42) (bl 12 127) HT_ (fun K hK => ?_)
       refine goes_ Try.func61 (by kernel_rfl) rfl #[.agg #[.int .i64 a0_0, .slice A0_1 l0_1.length c0_1], .slice A2 l2.length c2] (by rfl) rfl rfl (by (try simp only [la, lb, lc]); first | done | rfl | (simp only [ld, le]; rfl)) ?_
       with_reducible refine (spec_l07Apply.calls kj26 a0_0 _ _ l0_1 _ _ l2 t136 _ ?side1 ?side2 ?side3 ?side4 A36.out).mono ?_
       (case side1 => exact uC ((Kd.C_below HR0_1.out HB.out)))
       (case side2 => exact HC0_1.out)
       (case side3 => exact uC ((Kd.C_below HR2.out HB.out)))
       (case side4 => exact HC2.out)
       rintro e w40 ⟨rfl, hb⟩
       refine ⟨_, rfl, ?_⟩
       have n0_ := xB BK131 hb
       have n1_ := xB BK132 hb
       have n2_ := xH HB hb
       clear BK131 BK132 HB
       have BK131 := n0_; have BK132 := n1_; have HB := n2_
       clear n0_ n1_ n2_
       (try clear hb); (try clear hb2); (try clear hk); (try clear hi)
       refine hK.out _ _ ⟨(blk_cell BK131.out 0).trans rfl, (blk_cell BK131.out 1).trans rfl, (blk_cell BK132.out 0).trans rfl, (blk_cell BK132.out 1).trans rfl, (blk_cell BK132.out 2).trans rfl⟩ (fun hHeld => ?_)
       clear hK K
       refine no_ 42 ?_
       refine on_ 7 (some 45) (bl 12 255) HT_ (fun K hK => ?_)
       refine goes_ Try.func62 (by kernel_rfl) rfl #[.agg #[.int .i64 a1_0, .slice A1_1 l1_1.length c1_1, .slice A1_2 l1_2.length c1_2], .slice A2 l2.length c2] (by rfl) rfl rfl (by (try simp only [la, lb, lc]); first | done | rfl | (simp only [ld, le]; rfl)) ?_
       with_reducible refine (spec_l07Sum.calls kj26 a1_0 _ _ l1_1 _ _ l1_2 _ _ l2 t137 _ ?side1 ?side2 ?side3 ?side4 ?side5 ?side6 A37.out).mono ?_
       (case side1 => exact uC ((Kd.C_below HR1_1.out HB.out)))
       (case side2 => exact HC1_1.out)
       (case side3 => exact uC ((Kd.C_below HR1_2.out HB.out)))
       (case side4 => exact HC1_2.out)
       (case side5 => exact uC ((Kd.C_below HR2.out HB.out)))
       (case side6 => exact HC2.out)
       rintro e w41 ⟨rfl, hb⟩
       refine ⟨_, rfl, ?_⟩
       have n0_ := xB BK131 hb
       have n1_ := xB BK132 hb
       have n2_ := xH HB hb
       clear BK131 BK132 HB
       have BK131 := n0_; have BK132 := n1_; have HB := n2_
       clear n0_ n1_ n2_
       (try clear hb); (try clear hb2); (try clear hk); (try clear hi)
       refine hK.out _ _ ⟨(blk_cell BK131.out 0).trans rfl, (blk_cell BK131.out 1).trans rfl, (blk_cell BK132.out 0).trans rfl, (blk_cell BK132.out 1).trans rfl, (blk_cell BK132.out 2).trans rfl⟩ (fun hHeld => ?_)
       clear hK K
       refine no_ 45 ?_
       refine pu_ 8 46 (bl 12 511) HT_ ?_
       refine on_ 9 (some 47) (bl 12 1023) HT_ (fun K hK => ?_)
       refine goes_ Try.func60 (by kernel_rfl) rfl #[.int .i64 a0_0, .int .i64 (wrap64 (t136 - t137))] (by rfl) rfl rfl (by (try simp only [la, lb, lc]); first | done | rfl | (simp only [ld, le]; rfl)) ?_
       with_reducible refine (spec_l01Mod.calls a0_0 (wrap64 (t136 - t137)) t138 _ A38.out).mono ?_
       rintro e w' ⟨rfl, ⟨nd, rfl⟩⟩
       refine ⟨_, rfl, ?_⟩
       refine hK.out _ _ ⟨(blk_cell BK131.out 0).trans rfl, (blk_cell BK131.out 1).trans rfl, (blk_cell BK132.out 0).trans rfl, (blk_cell BK132.out 1).trans rfl, (blk_cell BK132.out 2).trans rfl⟩ (fun hHeld => ?_)
       clear hK K
       refine no_ 47 ?_
       refine pu_ 10 6 (bl 12 2047) HT_ ?_
       refine pu_ 11 7 (bl 12 4095) HT_ ?_
       refine done_ (done_of HT_.out (by kernel_rfl)) ?_
       try go_wp2
       go_ret2
       exact ⟨by first | rfl | (simp [errW_none, errW_some] <;> rfl) | (simp [*, errW_none, errW_some] <;> rfl), uH HB.out⟩

end Go.Proofs.Ytokkabgkjhpecaa.Pr
/- Small facts of polynomials; no condition. -/
namespace Go.Proofs.Ytokkabgkjhpecaa.Pr
open Go.RowKit Go.Proofs.YtokkabgkjhpecaaW.PrintWords Go.Proofs.YtokkabgkjhpecaaW.PrintLast Go.Proofs.YtokkabgkjhpecaaW.PrintMore

theorem polyB.nm {p : Int} {f : List Int} (h : polyB p f = true) : Nm p f := by
  simp only [polyB, Bool.and_eq_true, decide_eq_true_eq] at h; exact h.1
theorem polyB.len {p : Int} {f : List Int} (h : polyB p f = true) : f.length ≤ 25 := by
  simp only [polyB, Bool.and_eq_true, decide_eq_true_eq] at h; exact h.2.1
theorem one_all (p : Int) (f : List Int) : [f].all (polyB p) = polyB p f := by simp
end Go.Proofs.Ytokkabgkjhpecaa.Pr
