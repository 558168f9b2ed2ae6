/- Printed by a program of this session out of the translation: what these functions of the program compute, under the conditions that each theorem names. -/
import Derived.Test.YtokkabgkjhpecaaKC01
import Derived.Test.YtokkabgkjhpecaaKC06
import Derived.Test.YtokkabgkjhpecaaKC02
import Derived.Test.YtokkabgkjhpecaaKC03
import Derived.Test.YtokkabgkjhpecaaKDegreeOfRule1
import Derived.Test.YtokkabgkjhpecaaKFimplDegreeOfRule
namespace Go.Proofs.Ytokkabgkjhpecaa.Pr
open Go.RowKit Go.Proofs.YtokkabgkjhpecaaW.PrintWords Go.Proofs.YtokkabgkjhpecaaW.PrintLast Go.Proofs.YtokkabgkjhpecaaW.PrintMore
attribute [local go_sem] max2_int min2_int max_two min_two max_three min_three max_four min_four   -- for this text's walks alone
set_option linter.unusedVariables false
set_option linter.unusedSimpArgs false

/-! ### laws_FnExactDegreeOfRule: function 4 -/
def laws_FnExactDegreeOfRule.j0 : Nat → Bool → Int → List Int → Int → List Int → List Int → Int → List Int → Int → List Int → List Int → Option (Bool)
 | 0, _, _, _, _, _, _, _, _, _, _, _ => none
 | k + 1, x47, x332000, x332001, x333000, x333001, x333002, x353000, x353001, x361000, x361001, x361002 => if x47 = true then (some false) else ((laws_toMoments.f k x332000 x332001).bind fun bt363 => ((laws_eqMoments.f k x353000 x353001 bt363.1 bt363.2).bind fun t367 => (if t367 = true then ((laws_toRule.f k x333000 x333001 x333002).bind fun bt368 => ((laws_eqRule.f k x361000 x361001 x361002 bt368.1 bt368.2.1 bt368.2.2).bind fun t375 => (if t375 = true then (some true) else (some false)))) else (some false))))
def laws_FnExactDegreeOfRule.f (k : Nat) (a0_0 : Int) (l0_1 : List Int) (a1_0 : Int) (l1_1 : List Int) (l1_2 : List Int) : Option (Bool) := (laws_szMoments.f a0_0 l0_1 1048576).bind fun t333 => (if t333 < 0 then (some true) else ((laws_szRule.f a1_0 l1_1 l1_2 t333).bind fun t334 => (if t334 < 0 then (some true) else ((laws_toMoments.f k a0_0 l0_1).bind fun bt335 => ((laws_toRule.f k a1_0 l1_1 l1_2).bind fun bt339 => ((spec_DegreeOfRule.f k bt335.1 bt335.2 bt339.1 bt339.2.1 bt339.2.2).bind fun bt346 => ((laws_toMoments.f k a0_0 l0_1).bind fun bt348 => ((laws_toRule.f k a1_0 l1_1 l1_2).bind fun bt353 => ((impl_DegreeOfRule.f k bt348.1 bt348.2 bt353.1 bt353.2.1 bt353.2.2).bind fun bt361 => (if bt361.1 = bt346.1 then (laws_FnExactDegreeOfRule.j0 k (bt361.2 != bt346.2) a0_0 l0_1 a1_0 l1_1 l1_2 bt348.1 bt348.2 bt353.1 bt353.2.1 bt353.2.2) else (laws_FnExactDegreeOfRule.j0 k true a0_0 l0_1 a1_0 l1_1 l1_2 bt348.1 bt348.2 bt353.1 bt353.2.1 bt353.2.2)))))))))))
theorem laws_FnExactDegreeOfRule.mono_l : ∀ k, (∀ y0 y1 y2 y3 y4 y5 y6 y7 y8 y9 y10, LeO (laws_FnExactDegreeOfRule.j0 k y0 y1 y2 y3 y4 y5 y6 y7 y8 y9 y10) (laws_FnExactDegreeOfRule.j0 (k + 1) y0 y1 y2 y3 y4 y5 y6 y7 y8 y9 y10))
 | 0 => fun _ _ _ _ _ _ _ _ _ _ _ r h => by simp [laws_FnExactDegreeOfRule.j0] at h
 | k + 1 => by
  have ih0 := laws_FnExactDegreeOfRule.mono_l k
  ·intro y0 y1 y2 y3 y4 y5 y6 y7 y8 y9 y10
   unfold laws_FnExactDegreeOfRule.j0
   repeat' first
   | (with_reducible exact ih0 _ _ _ _ _ _ _ _ _ _ _)
   | (with_reducible exact impl_DegreeOfRule.mono _ _ _ _ _ _)
   | (with_reducible exact laws_eqMoments.mono _ _ _ _ _)
   | (with_reducible exact laws_eqRule.mono _ _ _ _ _ _ _)
   | (with_reducible exact laws_toMoments.mono _ _ _)
   | (with_reducible exact laws_toRule.mono _ _ _ _)
   | (with_reducible exact spec_DegreeOfRule.mono _ _ _ _ _ _)
   | (with_reducible exact LeO.refl _)
   | (with_reducible exact LeO.none _)
   | (with_reducible refine LeO.ite ?_ ?_)
   | (with_reducible refine LeO.bind ?_ (fun _ => ?_))
   | exact ih0 _ _ _ _ _ _ _ _ _ _ _
   | exact impl_DegreeOfRule.mono _ _ _ _ _ _
   | exact laws_eqMoments.mono _ _ _ _ _
   | exact laws_eqRule.mono _ _ _ _ _ _ _
   | exact laws_toMoments.mono _ _ _
   | exact laws_toRule.mono _ _ _ _
   | exact spec_DegreeOfRule.mono _ _ _ _ _ _
   | exact LeO.none _
   | refine LeO.ite ?_ ?_
   | refine LeO.bind ?_ (fun _ => ?_)
theorem laws_FnExactDegreeOfRule.mono : ∀ a0 a1 a2 a3 a4 k, LeO (laws_FnExactDegreeOfRule.f k a0 a1 a2 a3 a4) (laws_FnExactDegreeOfRule.f (k + 1) a0 a1 a2 a3 a4) := by
 intro a0 a1 a2 a3 a4 k
 have ih0 := laws_FnExactDegreeOfRule.mono_l k
 unfold laws_FnExactDegreeOfRule.f
 repeat' first
   | (with_reducible exact ih0 _ _ _ _ _ _ _ _ _ _ _)
   | (with_reducible exact impl_DegreeOfRule.mono _ _ _ _ _ _)
   | (with_reducible exact laws_eqMoments.mono _ _ _ _ _)
   | (with_reducible exact laws_eqRule.mono _ _ _ _ _ _ _)
   | (with_reducible exact laws_toMoments.mono _ _ _)
   | (with_reducible exact laws_toRule.mono _ _ _ _)
   | (with_reducible exact spec_DegreeOfRule.mono _ _ _ _ _ _)
   | (with_reducible exact LeO.refl _)
   | (with_reducible exact LeO.none _)
   | (with_reducible refine LeO.ite ?_ ?_)
   | (with_reducible refine LeO.bind ?_ (fun _ => ?_))
   | exact ih0 _ _ _ _ _ _ _ _ _ _ _
   | exact impl_DegreeOfRule.mono _ _ _ _ _ _
   | exact laws_eqMoments.mono _ _ _ _ _
   | exact laws_eqRule.mono _ _ _ _ _ _ _
   | exact laws_toMoments.mono _ _ _
   | exact laws_toRule.mono _ _ _ _
   | exact spec_DegreeOfRule.mono _ _ _ _ _ _
   | exact LeO.none _
   | refine LeO.ite ?_ ?_
   | refine LeO.bind ?_ (fun _ => ?_)
def laws_FnExactDegreeOfRule.T8 : Bool × List (List Nat × List Nat) := (true, [([], []), ([0], [0]), ([], []), ([2, 1], [2]), ([1, 3, 3], [1, 3]), ([4], [4]), ([5], [5]), ([5], [5]), ([6, 4, 0, 1, 2, 3, 4, 5, 6], [6]), ([7, 8, 0, 1, 2, 3, 4, 5, 6, 7, 8], [7])])
def laws_FnExactDegreeOfRule.B8 : List Nat := [0, 1, 0, 7, 15, 31, 63, 63, 127, 511]
theorem laws_FnExactDegreeOfRule.tab8 : rtab .any (opsOf Try.f4 8) = laws_FnExactDegreeOfRule.T8 := by kernel_rfl
theorem laws_FnExactDegreeOfRule.bits8 : waitsOk laws_FnExactDegreeOfRule.T8.2 laws_FnExactDegreeOfRule.B8 = true := by kernel_rfl
set_option maxHeartbeats 8000000 in
set_option maxRecDepth 100000 in
theorem laws_FnExactDegreeOfRule.calls (k : Nat) (a0_0 : Int) (A0_1 : Option Addr) (c0_1 : Nat) (l0_1 : List Int) (a1_0 : Int) (A1_1 : Option Addr) (c1_1 : Nat) (l1_1 : List Int) (A1_2 : Option Addr) (c1_2 : Nat) (l1_2 : List Int) (r : Bool) (hr_ : r = true) (w : World) (hr0_1 : Kd.C (Kd.int .i64) w A0_1 l0_1.length l0_1) (hc0_1 : l0_1.length ≤ c0_1) (hr1_1 : Kd.C (Kd.int .i64) w A1_1 l1_1.length l1_1) (hc1_1 : l1_1.length ≤ c1_1) (hr1_2 : Kd.C (Kd.int .i64) w A1_2 l1_2.length l1_2) (hc1_2 : l1_2.length ≤ c1_2) (h : laws_FnExactDegreeOfRule.f k a0_0 l0_1 a1_0 l1_1 l1_2 = some r) :
  Calls Try.prog 4 #[.agg #[.int .i64 a0_0, .slice A0_1 l0_1.length c0_1], .agg #[.int .i64 a1_0, .slice A1_1 l1_1.length c1_1, .slice A1_2 l1_2.length c1_2]] w fun e w' => e = .returned (.bool r) ∧ Below w.heap.size w w' := by
 have hu24 := Try.underlying24
 have hu26 := Try.underlying26
 have hu31 := Try.underlying31
 have hu33 := Try.underlying33
 have HRT := zA hr_
 clear hr_
 have HR0_1 := zA hr0_1
 have HC0_1 := zA hc0_1
 clear hr0_1 hc0_1
 have HR1_1 := zA hr1_1
 have HC1_1 := zA hc1_1
 clear hr1_1 hc1_1
 have HR1_2 := zA hr1_2
 have HC1_2 := zA hc1_2
 clear hr1_2 hc1_2
 have HB := zA (Below.refl w.heap.size w)
 have H : ((laws_szMoments.f a0_0 l0_1 1048576).bind fun t333 => (if t333 < 0 then (some true) else ((laws_szRule.f a1_0 l1_1 l1_2 t333).bind fun t334 => (if t334 < 0 then (some true) else ((laws_toMoments.f k a0_0 l0_1).bind fun bt335 => ((laws_toRule.f k a1_0 l1_1 l1_2).bind fun bt339 => ((spec_DegreeOfRule.f k bt335.1 bt335.2 bt339.1 bt339.2.1 bt339.2.2).bind fun bt346 => ((laws_toMoments.f k a0_0 l0_1).bind fun bt348 => ((laws_toRule.f k a1_0 l1_1 l1_2).bind fun bt353 => ((impl_DegreeOfRule.f k bt348.1 bt348.2 bt353.1 bt353.2.1 bt353.2.2).bind fun bt361 => (if bt361.1 = bt346.1 then (laws_FnExactDegreeOfRule.j0 k (bt361.2 != bt346.2) a0_0 l0_1 a1_0 l1_1 l1_2 bt348.1 bt348.2 bt353.1 bt353.2.1 bt353.2.2) else (laws_FnExactDegreeOfRule.j0 k true a0_0 l0_1 a1_0 l1_1 l1_2 bt348.1 bt348.2 bt353.1 bt353.2.1 bt353.2.2)))))))))))) = some r := h
 clear h
 replace H := Option.bind_eq_some_iff.mp H
 obtain ⟨t333, A30, H⟩ := H
 replace H : (if t333 < 0 then (some true) else ((laws_szRule.f a1_0 l1_1 l1_2 t333).bind fun t334 => (if t334 < 0 then (some true) else ((laws_toMoments.f k a0_0 l0_1).bind fun bt335 => ((laws_toRule.f k a1_0 l1_1 l1_2).bind fun bt339 => ((spec_DegreeOfRule.f k bt335.1 bt335.2 bt339.1 bt339.2.1 bt339.2.2).bind fun bt346 => ((laws_toMoments.f k a0_0 l0_1).bind fun bt348 => ((laws_toRule.f k a1_0 l1_1 l1_2).bind fun bt353 => ((impl_DegreeOfRule.f k bt348.1 bt348.2 bt353.1 bt353.2.1 bt353.2.2).bind fun bt361 => (if bt361.1 = bt346.1 then (laws_FnExactDegreeOfRule.j0 k (bt361.2 != bt346.2) a0_0 l0_1 a1_0 l1_1 l1_2 bt348.1 bt348.2 bt353.1 bt353.2.1 bt353.2.2) else (laws_FnExactDegreeOfRule.j0 k true a0_0 l0_1 a1_0 l1_1 l1_2 bt348.1 bt348.2 bt353.1 bt353.2.1 bt353.2.2))))))))))) = some r := H
 have A3 := zA A30
 clear A30
 by_cases c4 : t333 < 0
 ·rw [if_pos c4] at H
  have c4b0 : decide (t333 < 0) = true := decide_eq_true c4
  clear c4
  obtain rfl := Option.some.inj H
  go_enter Try.func4, Try.ntmps4
  go_wp2_with (first | ((with_reducible refine gate_dst (N := 2) rfl ?_); refine box_event ?hg (N := 2) ?hd (cs := #[.int .i64 a0_0, .slice A0_1 l0_1.length c0_1]) (t := 24) ?hr ?_; (case hd => rfl); (case hg => rfl); (case hr => first | (go_simp; done) | (go_simp; rfl)); intro gb331 hg w5 hbox hb; have n0_ := xH HB hb; have n1_ := zA (hbox); have n2_ := zA ((by rw [hg]; exact (below_size (uH HB.out)) : w.heap.size ≤ gb331)); have n3_ := zA ((by rw [hg]; exact (below_size (uH HB.out)) : w.heap.size ≤ gb331)); clear HB; have HB := n0_; have BK331 := n1_; have GW331 := n2_; have GE331 := n3_; have := geI GE331; clear n0_ n1_ n2_ n3_ hb hbox hg) | ((with_reducible refine gate_dst (N := 3) rfl ?_); refine box_event ?hg (N := 3) ?hd (cs := #[.int .i64 a1_0, .slice A1_1 l1_1.length c1_1, .slice A1_2 l1_2.length c1_2]) (t := 26) ?hr ?_; (case hd => rfl); (case hg => rfl); (case hr => first | (go_simp; done) | (go_simp; rfl)); intro gb332 hg w6 hbox hb; have n0_ := xB BK331 hb; have n1_ := xH HB hb; have n2_ := zA (hbox); have n3_ := zA ((by rw [hg]; exact (below_size (uH HB.out)) : w.heap.size ≤ gb332)); have n4_ := zA ((by rw [hg]; exact (below_size (uH HB.out)) : w.heap.size ≤ gb332)); have n5_ := zA ((by rw [hg]; exact neL BK331 : gb331 ≠ gb332)); have n6_ := zA ((by rw [hg]; exact neG BK331 : gb332 ≠ gb331)); clear BK331 HB; have BK331 := n0_; have HB := n1_; have BK332 := n2_; have GW332 := n3_; have GE332 := n4_; have := geI GE332; have NB331_332 := n5_; have NB332_331 := n6_; clear n0_ n1_ n2_ n3_ n4_ n5_ n6_ hb hbox hg; have hnb7 := NB331_332.out; have hnc7 := NB332_331.out; have hcz8_0 : w6.cell? ⟨gb331, 0, none⟩ = some (.int .i64 a0_0) := (blk_cell BK331.out 0).trans rfl; have hcz8_1 : w6.cell? ⟨gb331, 1, none⟩ = some (.slice A0_1 l0_1.length c0_1) := (blk_cell BK331.out 1).trans rfl; have hfz8_0 := blk_frozen BK331.out 0; have hfz8_1 := blk_frozen BK331.out 1) | ((with_reducible refine gate_callee (f := 15) rfl ?_); refine goesL_ (some 14) rfl rfl Try.func15 (by kernel_rfl) rfl #[.agg #[.int .i64 a0_0, .slice A0_1 l0_1.length c0_1], .int .i64 1048576] rfl (by (try simp only [la, lb, lc]); first | done | rfl | (simp only [ld, le]; rfl)) ?_; (with_reducible refine (laws_szMoments.calls a0_0 _ _ l0_1 1048576 t333 _ ?side1 ?side2 A3.out).mono ?_); (case side1 => exact uC ((Kd.C_below HR0_1.out HB.out))); (case side2 => exact HC0_1.out); rintro e w9 ⟨rfl, hb⟩; refine ⟨_, rfl, ?_⟩; have n0_ := xB BK331 hb; have n1_ := xB BK332 hb; have n2_ := xH HB hb; clear BK331 BK332 HB; have BK331 := n0_; have BK332 := n1_; have HB := n2_; clear n0_ n1_ n2_; (try clear hb); (try clear hb2); (try clear hk); (try clear hi)))
  go_ret
  exact ⟨by first | rfl | (simp [errW_none, errW_some] <;> rfl) | (simp [*, errW_none, errW_some] <;> rfl), uH HB.out⟩
 ·rw [if_neg c4] at H
  have c4b0 : decide (t333 < 0) = false := decide_eq_false c4
  clear c4
  replace H := Option.bind_eq_some_iff.mp H
  obtain ⟨t334, A100, H⟩ := H
  replace H : (if t334 < 0 then (some true) else ((laws_toMoments.f k a0_0 l0_1).bind fun bt335 => ((laws_toRule.f k a1_0 l1_1 l1_2).bind fun bt339 => ((spec_DegreeOfRule.f k bt335.1 bt335.2 bt339.1 bt339.2.1 bt339.2.2).bind fun bt346 => ((laws_toMoments.f k a0_0 l0_1).bind fun bt348 => ((laws_toRule.f k a1_0 l1_1 l1_2).bind fun bt353 => ((impl_DegreeOfRule.f k bt348.1 bt348.2 bt353.1 bt353.2.1 bt353.2.2).bind fun bt361 => (if bt361.1 = bt346.1 then (laws_FnExactDegreeOfRule.j0 k (bt361.2 != bt346.2) a0_0 l0_1 a1_0 l1_1 l1_2 bt348.1 bt348.2 bt353.1 bt353.2.1 bt353.2.2) else (laws_FnExactDegreeOfRule.j0 k true a0_0 l0_1 a1_0 l1_1 l1_2 bt348.1 bt348.2 bt353.1 bt353.2.1 bt353.2.2))))))))) = some r := H
  have A10 := zA A100
  clear A100
  by_cases c11 : t334 < 0
  ·rw [if_pos c11] at H
   have c11b0 : decide (t334 < 0) = true := decide_eq_true c11
   clear c11
   obtain rfl := Option.some.inj H
   go_enter Try.func4, Try.ntmps4
   go_wp2_with (first | ((with_reducible refine gate_dst (N := 2) rfl ?_); refine box_event ?hg (N := 2) ?hd (cs := #[.int .i64 a0_0, .slice A0_1 l0_1.length c0_1]) (t := 24) ?hr ?_; (case hd => rfl); (case hg => rfl); (case hr => first | (go_simp; done) | (go_simp; rfl)); intro gb331 hg w12 hbox hb; have n0_ := xH HB hb; have n1_ := zA (hbox); have n2_ := zA ((by rw [hg]; exact (below_size (uH HB.out)) : w.heap.size ≤ gb331)); have n3_ := zA ((by rw [hg]; exact (below_size (uH HB.out)) : w.heap.size ≤ gb331)); clear HB; have HB := n0_; have BK331 := n1_; have GW331 := n2_; have GE331 := n3_; have := geI GE331; clear n0_ n1_ n2_ n3_ hb hbox hg) | ((with_reducible refine gate_dst (N := 3) rfl ?_); refine box_event ?hg (N := 3) ?hd (cs := #[.int .i64 a1_0, .slice A1_1 l1_1.length c1_1, .slice A1_2 l1_2.length c1_2]) (t := 26) ?hr ?_; (case hd => rfl); (case hg => rfl); (case hr => first | (go_simp; done) | (go_simp; rfl)); intro gb332 hg w13 hbox hb; have n0_ := xB BK331 hb; have n1_ := xH HB hb; have n2_ := zA (hbox); have n3_ := zA ((by rw [hg]; exact (below_size (uH HB.out)) : w.heap.size ≤ gb332)); have n4_ := zA ((by rw [hg]; exact (below_size (uH HB.out)) : w.heap.size ≤ gb332)); have n5_ := zA ((by rw [hg]; exact neL BK331 : gb331 ≠ gb332)); have n6_ := zA ((by rw [hg]; exact neG BK331 : gb332 ≠ gb331)); clear BK331 HB; have BK331 := n0_; have HB := n1_; have BK332 := n2_; have GW332 := n3_; have GE332 := n4_; have := geI GE332; have NB331_332 := n5_; have NB332_331 := n6_; clear n0_ n1_ n2_ n3_ n4_ n5_ n6_ hb hbox hg; have hnb14 := NB331_332.out; have hnc14 := NB332_331.out; have hcz15_0 : w13.cell? ⟨gb331, 0, none⟩ = some (.int .i64 a0_0) := (blk_cell BK331.out 0).trans rfl; have hcz15_1 : w13.cell? ⟨gb331, 1, none⟩ = some (.slice A0_1 l0_1.length c0_1) := (blk_cell BK331.out 1).trans rfl; have hfz15_0 := blk_frozen BK331.out 0; have hfz15_1 := blk_frozen BK331.out 1) | ((with_reducible refine gate_callee (f := 15) rfl ?_); refine goesL_ (some 14) rfl rfl Try.func15 (by kernel_rfl) rfl #[.agg #[.int .i64 a0_0, .slice A0_1 l0_1.length c0_1], .int .i64 1048576] rfl (by (try simp only [la, lb, lc]); first | done | rfl | (simp only [ld, le]; rfl)) ?_; (with_reducible refine (laws_szMoments.calls a0_0 _ _ l0_1 1048576 t333 _ ?side1 ?side2 A3.out).mono ?_); (case side1 => exact uC ((Kd.C_below HR0_1.out HB.out))); (case side2 => exact HC0_1.out); rintro e w16 ⟨rfl, hb⟩; refine ⟨_, rfl, ?_⟩; have n0_ := xB BK331 hb; have n1_ := xB BK332 hb; have n2_ := xH HB hb; clear BK331 BK332 HB; have BK331 := n0_; have BK332 := n1_; have HB := n2_; clear n0_ n1_ n2_; (try clear hb); (try clear hb2); (try clear hk); (try clear hi); have hcz17_0 : w16.cell? ⟨gb332, 0, none⟩ = some (.int .i64 a1_0) := (blk_cell BK332.out 0).trans rfl; have hcz17_1 : w16.cell? ⟨gb332, 1, none⟩ = some (.slice A1_1 l1_1.length c1_1) := (blk_cell BK332.out 1).trans rfl; have hcz17_2 : w16.cell? ⟨gb332, 2, none⟩ = some (.slice A1_2 l1_2.length c1_2) := (blk_cell BK332.out 2).trans rfl; have hfz17_0 := blk_frozen BK332.out 0; have hfz17_1 := blk_frozen BK332.out 1; have hfz17_2 := blk_frozen BK332.out 2) | ((with_reducible refine gate_callee (f := 16) rfl ?_); refine goesL_ (some 19) rfl rfl Try.func16 (by kernel_rfl) rfl #[.agg #[.int .i64 a1_0, .slice A1_1 l1_1.length c1_1, .slice A1_2 l1_2.length c1_2], .int .i64 t333] rfl (by (try simp only [la, lb, lc]); first | done | rfl | (simp only [ld, le]; rfl)) ?_; (with_reducible refine (laws_szRule.calls a1_0 _ _ l1_1 _ _ l1_2 t333 t334 _ ?side1 ?side2 ?side3 ?side4 A10.out).mono ?_); (case side1 => exact uC ((Kd.C_below HR1_1.out HB.out))); (case side2 => exact HC1_1.out); (case side3 => exact uC ((Kd.C_below HR1_2.out HB.out))); (case side4 => exact HC1_2.out); rintro e w18 ⟨rfl, hb⟩; refine ⟨_, rfl, ?_⟩; have n0_ := xB BK331 hb; have n1_ := xB BK332 hb; have n2_ := xH HB hb; clear BK331 BK332 HB; have BK331 := n0_; have BK332 := n1_; have HB := n2_; clear n0_ n1_ n2_; (try clear hb); (try clear hb2); (try clear hk); (try clear hi)))
   go_ret
   exact ⟨by first | rfl | (simp [errW_none, errW_some] <;> rfl) | (simp [*, errW_none, errW_some] <;> rfl), uH HB.out⟩
  ·rw [if_neg c11] at H
   have c11b0 : decide (t334 < 0) = false := decide_eq_false c11
   clear c11
   replace H := Option.bind_eq_some_iff.mp H
   obtain ⟨⟨t335, t336⟩, A190, H⟩ := H
   replace H : ((laws_toRule.f k a1_0 l1_1 l1_2).bind fun bt339 => ((spec_DegreeOfRule.f k t335 t336 bt339.1 bt339.2.1 bt339.2.2).bind fun bt346 => ((laws_toMoments.f k a0_0 l0_1).bind fun bt348 => ((laws_toRule.f k a1_0 l1_1 l1_2).bind fun bt353 => ((impl_DegreeOfRule.f k bt348.1 bt348.2 bt353.1 bt353.2.1 bt353.2.2).bind fun bt361 => (if bt361.1 = bt346.1 then (laws_FnExactDegreeOfRule.j0 k (bt361.2 != bt346.2) a0_0 l0_1 a1_0 l1_1 l1_2 bt348.1 bt348.2 bt353.1 bt353.2.1 bt353.2.2) else (laws_FnExactDegreeOfRule.j0 k true a0_0 l0_1 a1_0 l1_1 l1_2 bt348.1 bt348.2 bt353.1 bt353.2.1 bt353.2.2))))))) = some r := H
   have A19 := zA A190
   clear A190
   replace H := Option.bind_eq_some_iff.mp H
   obtain ⟨⟨t339, t340, t343⟩, A200, H⟩ := H
   replace H : ((spec_DegreeOfRule.f k t335 t336 t339 t340 t343).bind fun bt346 => ((laws_toMoments.f k a0_0 l0_1).bind fun bt348 => ((laws_toRule.f k a1_0 l1_1 l1_2).bind fun bt353 => ((impl_DegreeOfRule.f k bt348.1 bt348.2 bt353.1 bt353.2.1 bt353.2.2).bind fun bt361 => (if bt361.1 = bt346.1 then (laws_FnExactDegreeOfRule.j0 k (bt361.2 != bt346.2) a0_0 l0_1 a1_0 l1_1 l1_2 bt348.1 bt348.2 bt353.1 bt353.2.1 bt353.2.2) else (laws_FnExactDegreeOfRule.j0 k true a0_0 l0_1 a1_0 l1_1 l1_2 bt348.1 bt348.2 bt353.1 bt353.2.1 bt353.2.2)))))) = some r := H
   have A20 := zA A200
   clear A200
   replace H := Option.bind_eq_some_iff.mp H
   obtain ⟨⟨t346, t347⟩, A210, H⟩ := H
   replace H : ((laws_toMoments.f k a0_0 l0_1).bind fun bt348 => ((laws_toRule.f k a1_0 l1_1 l1_2).bind fun bt353 => ((impl_DegreeOfRule.f k bt348.1 bt348.2 bt353.1 bt353.2.1 bt353.2.2).bind fun bt361 => (if bt361.1 = t346 then (laws_FnExactDegreeOfRule.j0 k (bt361.2 != t347) a0_0 l0_1 a1_0 l1_1 l1_2 bt348.1 bt348.2 bt353.1 bt353.2.1 bt353.2.2) else (laws_FnExactDegreeOfRule.j0 k true a0_0 l0_1 a1_0 l1_1 l1_2 bt348.1 bt348.2 bt353.1 bt353.2.1 bt353.2.2))))) = some r := H
   have A21 := zA A210
   clear A210
   replace H := Option.bind_eq_some_iff.mp H
   obtain ⟨⟨t348, t349⟩, A220, H⟩ := H
   replace H : ((laws_toRule.f k a1_0 l1_1 l1_2).bind fun bt353 => ((impl_DegreeOfRule.f k t348 t349 bt353.1 bt353.2.1 bt353.2.2).bind fun bt361 => (if bt361.1 = t346 then (laws_FnExactDegreeOfRule.j0 k (bt361.2 != t347) a0_0 l0_1 a1_0 l1_1 l1_2 t348 t349 bt353.1 bt353.2.1 bt353.2.2) else (laws_FnExactDegreeOfRule.j0 k true a0_0 l0_1 a1_0 l1_1 l1_2 t348 t349 bt353.1 bt353.2.1 bt353.2.2)))) = some r := H
   have A22 := zA A220
   clear A220
   replace H := Option.bind_eq_some_iff.mp H
   obtain ⟨⟨t353, t354, t357⟩, A230, H⟩ := H
   replace H : ((impl_DegreeOfRule.f k t348 t349 t353 t354 t357).bind fun bt361 => (if bt361.1 = t346 then (laws_FnExactDegreeOfRule.j0 k (bt361.2 != t347) a0_0 l0_1 a1_0 l1_1 l1_2 t348 t349 t353 t354 t357) else (laws_FnExactDegreeOfRule.j0 k true a0_0 l0_1 a1_0 l1_1 l1_2 t348 t349 t353 t354 t357))) = some r := H
   have A23 := zA A230
   clear A230
   replace H := Option.bind_eq_some_iff.mp H
   obtain ⟨⟨t361, t362⟩, A240, H⟩ := H
   replace H : (if t361 = t346 then (laws_FnExactDegreeOfRule.j0 k (t362 != t347) a0_0 l0_1 a1_0 l1_1 l1_2 t348 t349 t353 t354 t357) else (laws_FnExactDegreeOfRule.j0 k true a0_0 l0_1 a1_0 l1_1 l1_2 t348 t349 t353 t354 t357)) = some r := H
   have A24 := zA A240
   clear A240
   have HC25 := zA H
   clear H
   go_enter Try.func4, Try.ntmps4
   try go_wp2_with (first | ((with_reducible refine gate_dst (N := 2) rfl ?_); refine box_event ?hg (N := 2) ?hd (cs := #[.int .i64 a0_0, .slice A0_1 l0_1.length c0_1]) (t := 24) ?hr ?_; (case hd => rfl); (case hg => rfl); (case hr => first | (go_simp; done) | (go_simp; rfl)); intro gb331 hg w26 hbox hb; have n0_ := xH HB hb; have n1_ := zA (hbox); have n2_ := zA ((by rw [hg]; exact (below_size (uH HB.out)) : w.heap.size ≤ gb331)); have n3_ := zA ((by rw [hg]; exact (below_size (uH HB.out)) : w.heap.size ≤ gb331)); clear HB; have HB := n0_; have BK331 := n1_; have GW331 := n2_; have GE331 := n3_; have := geI GE331; clear n0_ n1_ n2_ n3_ hb hbox hg) | ((with_reducible refine gate_dst (N := 3) rfl ?_); refine box_event ?hg (N := 3) ?hd (cs := #[.int .i64 a1_0, .slice A1_1 l1_1.length c1_1, .slice A1_2 l1_2.length c1_2]) (t := 26) ?hr ?_; (case hd => rfl); (case hg => rfl); (case hr => first | (go_simp; done) | (go_simp; rfl)); intro gb332 hg w27 hbox hb; have n0_ := xB BK331 hb; have n1_ := xH HB hb; have n2_ := zA (hbox); have n3_ := zA ((by rw [hg]; exact (below_size (uH HB.out)) : w.heap.size ≤ gb332)); have n4_ := zA ((by rw [hg]; exact (below_size (uH HB.out)) : w.heap.size ≤ gb332)); have n5_ := zA ((by rw [hg]; exact neL BK331 : gb331 ≠ gb332)); have n6_ := zA ((by rw [hg]; exact neG BK331 : gb332 ≠ gb331)); clear BK331 HB; have BK331 := n0_; have HB := n1_; have BK332 := n2_; have GW332 := n3_; have GE332 := n4_; have := geI GE332; have NB331_332 := n5_; have NB332_331 := n6_; clear n0_ n1_ n2_ n3_ n4_ n5_ n6_ hb hbox hg; have hnb28 := NB331_332.out; have hnc28 := NB332_331.out; have hcz29_0 : w27.cell? ⟨gb331, 0, none⟩ = some (.int .i64 a0_0) := (blk_cell BK331.out 0).trans rfl; have hcz29_1 : w27.cell? ⟨gb331, 1, none⟩ = some (.slice A0_1 l0_1.length c0_1) := (blk_cell BK331.out 1).trans rfl; have hfz29_0 := blk_frozen BK331.out 0; have hfz29_1 := blk_frozen BK331.out 1) | ((with_reducible refine gate_callee (f := 15) rfl ?_); refine goesL_ (some 14) rfl rfl Try.func15 (by kernel_rfl) rfl #[.agg #[.int .i64 a0_0, .slice A0_1 l0_1.length c0_1], .int .i64 1048576] rfl (by (try simp only [la, lb, lc]); first | done | rfl | (simp only [ld, le]; rfl)) ?_; (with_reducible refine (laws_szMoments.calls a0_0 _ _ l0_1 1048576 t333 _ ?side1 ?side2 A3.out).mono ?_); (case side1 => exact uC ((Kd.C_below HR0_1.out HB.out))); (case side2 => exact HC0_1.out); rintro e w30 ⟨rfl, hb⟩; refine ⟨_, rfl, ?_⟩; have n0_ := xB BK331 hb; have n1_ := xB BK332 hb; have n2_ := xH HB hb; clear BK331 BK332 HB; have BK331 := n0_; have BK332 := n1_; have HB := n2_; clear n0_ n1_ n2_; (try clear hb); (try clear hb2); (try clear hk); (try clear hi); have hcz31_0 : w30.cell? ⟨gb332, 0, none⟩ = some (.int .i64 a1_0) := (blk_cell BK332.out 0).trans rfl; have hcz31_1 : w30.cell? ⟨gb332, 1, none⟩ = some (.slice A1_1 l1_1.length c1_1) := (blk_cell BK332.out 1).trans rfl; have hcz31_2 : w30.cell? ⟨gb332, 2, none⟩ = some (.slice A1_2 l1_2.length c1_2) := (blk_cell BK332.out 2).trans rfl; have hfz31_0 := blk_frozen BK332.out 0; have hfz31_1 := blk_frozen BK332.out 1; have hfz31_2 := blk_frozen BK332.out 2) | ((with_reducible refine gate_callee (f := 16) rfl ?_); refine goesL_ (some 19) rfl rfl Try.func16 (by kernel_rfl) rfl #[.agg #[.int .i64 a1_0, .slice A1_1 l1_1.length c1_1, .slice A1_2 l1_2.length c1_2], .int .i64 t333] rfl (by (try simp only [la, lb, lc]); first | done | rfl | (simp only [ld, le]; rfl)) ?_; (with_reducible refine (laws_szRule.calls a1_0 _ _ l1_1 _ _ l1_2 t333 t334 _ ?side1 ?side2 ?side3 ?side4 A10.out).mono ?_); (case side1 => exact uC ((Kd.C_below HR1_1.out HB.out))); (case side2 => exact HC1_1.out); (case side3 => exact uC ((Kd.C_below HR1_2.out HB.out))); (case side4 => exact HC1_2.out); rintro e w32 ⟨rfl, hb⟩; refine ⟨_, rfl, ?_⟩; have n0_ := xB BK331 hb; have n1_ := xB BK332 hb; have n2_ := xH HB hb; clear BK331 BK332 HB; have BK331 := n0_; have BK332 := n1_; have HB := n2_; clear n0_ n1_ n2_; (try clear hb); (try clear hb2); (try clear hk); (try clear hi)))
   have n0_ := zA (blk_drew BK331.out)
   have n1_ := zA (blk_drew BK332.out)
   have n2_ := zA (below_drew1 HB.out)
   clear BK331 BK332 HB
   have BK331 := n0_; have BK332 := n1_; have HB := n2_
   clear n0_ n1_ n2_
   refine start_ (n := 10) (S := fun w' => w'.cell? ⟨gb331, 0, none⟩ = some (.int .i64 a0_0) ∧ w'.cell? ⟨gb331, 1, none⟩ = some (.slice A0_1 l0_1.length c0_1) ∧ w'.cell? ⟨gb332, 0, none⟩ = some (.int .i64 a1_0) ∧ w'.cell? ⟨gb332, 1, none⟩ = some (.slice A1_1 l1_1.length c1_1) ∧ w'.cell? ⟨gb332, 2, none⟩ = some (.slice A1_2 l1_2.length c1_2)) (ds := []) #[false, false, false, false, false, false, false, false, false, false] (by kernel_rfl) rfl rfl ⟨(blk_cell BK331.out 0).trans rfl, (blk_cell BK331.out 1).trans rfl, (blk_cell BK332.out 0).trans rfl, (blk_cell BK332.out 1).trans rfl, (blk_cell BK332.out 2).trans rfl⟩ (fun hHeld => ?_); refine with_tabW laws_FnExactDegreeOfRule.tab8 laws_FnExactDegreeOfRule.bits8 (fun HT_ HW_ => ?_)
   generalize w32.drew = w33 at BK331 BK332 HB hHeld ⊢
   refine ta_ 0 23 (bl 10 1) HT_ HW_ hHeld ?_
   refine ta_ 2 25 (bl 10 5) HT_ HW_ hHeld ?_
   refine on_ 1 (some 24) (bl 10 7) HT_ (fun K hK => ?_)
   refine goes_ Try.func18 (by kernel_rfl) rfl #[.agg #[.int .i64 a0_0, .slice A0_1 l0_1.length c0_1]] (by rfl) rfl rfl (by (try simp only [la, lb, lc]); first | done | rfl | (simp only [ld, le]; rfl)) ?_
   with_reducible refine (laws_toMoments.calls k a0_0 _ _ l0_1 t335 t336 _ ?side1 ?side2 A19.out).mono ?_
   (case side1 => exact uC ((Kd.C_below HR0_1.out HB.out)))
   (case side2 => exact HC0_1.out)
   rintro e w34 ⟨v337, rfl, ho0, hb⟩
   refine ⟨_, rfl, ?_⟩
   have n0_ := zA (Kd.R_lower ho0 (below_size (uH HB.out)))
   have n1_ := xB BK331 hb
   have n2_ := xB BK332 hb
   have n3_ := xH HB hb
   clear BK331 BK332 HB
   have HO338 := n0_; have BK331 := n1_; have BK332 := n2_; have HB := n3_
   clear n0_ n1_ n2_ n3_
   (try clear hb); (try clear hb2); (try clear hk); (try clear hi); (try clear ho0)
   refine hK.out _ _ ⟨(blk_cell BK331.out 0).trans rfl, (blk_cell BK331.out 1).trans rfl, (blk_cell BK332.out 0).trans rfl, (blk_cell BK332.out 1).trans rfl, (blk_cell BK332.out 2).trans rfl⟩ (fun hHeld => ?_)
   clear hK K
   refine no_ 24 ?_
   refine on_ 3 (some 26) (bl 10 15) HT_ (fun K hK => ?_)
   refine goes_ Try.func19 (by kernel_rfl) rfl #[.agg #[.int .i64 a1_0, .slice A1_1 l1_1.length c1_1, .slice A1_2 l1_2.length c1_2]] (by rfl) rfl rfl (by (try simp only [la, lb, lc]); first | done | rfl | (simp only [ld, le]; rfl)) ?_
   with_reducible refine (laws_toRule.calls k a1_0 _ _ l1_1 _ _ l1_2 t339 t340 t343 _ ?side1 ?side2 ?side3 ?side4 A20.out).mono ?_
   (case side1 => exact uC ((Kd.C_below HR1_1.out HB.out)))
   (case side2 => exact HC1_1.out)
   (case side3 => exact uC ((Kd.C_below HR1_2.out HB.out)))
   (case side4 => exact HC1_2.out)
   rintro e w35 ⟨v341, v344, rfl, ho0, ho1, hb⟩
   refine ⟨_, rfl, ?_⟩
   have n0_ := zA (Kd.R_mono (Kd.R_told (Kd.R_told (Kd.R_old (uR HO338.out) hb) (Kd.R_base ho0)) (Kd.R_base ho1)) (fun _ h_ => h_.1))
   have n1_ := zA (Kd.R_lower (Kd.R_new' ho0 (Kd.R_lt (uR HO338.out))) (below_size (uH HB.out)))
   have n2_ := zA (Kd.R_lower (Kd.R_new' ho1 (Kd.R_lt (uR HO338.out))) (below_size (uH HB.out)))
   have n3_ := xB BK331 hb
   have n4_ := xB BK332 hb
   have n5_ := xH HB hb
   clear HO338 BK331 BK332 HB
   have HO338 := n0_; have HO342 := n1_; have HO345 := n2_; have BK331 := n3_; have BK332 := n4_; have HB := n5_
   clear n0_ n1_ n2_ n3_ n4_ n5_
   (try clear hb); (try clear hb2); (try clear hk); (try clear hi); (try clear ho0); (try clear ho1)
   obtain ⟨Ao36, co36, eo36⟩ := Kd.R_slice HO338.out
   (first | subst eo36 | (injection eo36 with f1_ f2_ f3_; have f4_ := f1_.symm; have f5_ := f3_.symm; clear f1_ f2_ f3_; subst f4_; subst f5_))
   obtain ⟨Ao37, co37, eo37⟩ := Kd.R_slice HO342.out
   (first | subst eo37 | (injection eo37 with f1_ f2_ f3_; have f4_ := f1_.symm; have f5_ := f3_.symm; clear f1_ f2_ f3_; subst f4_; subst f5_))
   obtain ⟨Ao38, co38, eo38⟩ := Kd.R_slice HO345.out
   (first | subst eo38 | (injection eo38 with f1_ f2_ f3_; have f4_ := f1_.symm; have f5_ := f3_.symm; clear f1_ f2_ f3_; subst f4_; subst f5_))
   refine hK.out _ _ ⟨(blk_cell BK331.out 0).trans rfl, (blk_cell BK331.out 1).trans rfl, (blk_cell BK332.out 0).trans rfl, (blk_cell BK332.out 1).trans rfl, (blk_cell BK332.out 2).trans rfl⟩ (fun hHeld => ?_)
   clear hK K
   refine no_ 26 ?_
   refine on_ 4 (some 27) (bl 10 31) HT_ (fun K hK => ?_)
   refine goes_ Try.func25 (by kernel_rfl) rfl #[.agg #[.int .i64 t335, .slice Ao36 t336.length co36], .agg #[.int .i64 t339, .slice Ao37 t340.length co37, .slice Ao38 t343.length co38]] (by rfl) rfl rfl (by (try simp only [la, lb, lc]); first | done | rfl | (simp only [ld, le]; rfl)) ?_
   with_reducible refine (spec_DegreeOfRule.calls k t335 _ _ t336 t339 _ _ t340 _ _ t343 t346 t347 _ ?side1 ?side2 ?side3 ?side4 ?side5 ?side6 A21.out).mono ?_
   (case side1 => exact uC ((Kd.R_reads' HO338.out).2.2))
   (case side2 => exact (Kd.R_reads' HO338.out).2.1)
   (case side3 => exact uC ((Kd.R_reads' HO342.out).2.2))
   (case side4 => exact (Kd.R_reads' HO342.out).2.1)
   (case side5 => exact uC ((Kd.R_reads' HO345.out).2.2))
   (case side6 => exact (Kd.R_reads' HO345.out).2.1)
   rintro e w39 ⟨rfl, hb⟩
   refine ⟨_, rfl, ?_⟩
   have n0_ := xR HO338 hb
   have n1_ := xR HO342 hb
   have n2_ := xR HO345 hb
   have n3_ := xB BK331 hb
   have n4_ := xB BK332 hb
   have n5_ := xH HB hb
   clear HO338 HO342 HO345 BK331 BK332 HB
   have HO338 := n0_; have HO342 := n1_; have HO345 := n2_; have BK331 := n3_; have BK332 := n4_; have HB := n5_
   clear n0_ n1_ n2_ n3_ n4_ n5_
   (try clear hb); (try clear hb2); (try clear hk); (try clear hi)
   refine hK.out _ _ ⟨(blk_cell BK331.out 0).trans rfl, (blk_cell BK331.out 1).trans rfl, (blk_cell BK332.out 0).trans rfl, (blk_cell BK332.out 1).trans rfl, (blk_cell BK332.out 2).trans rfl⟩ (fun hHeld => ?_)
   clear hK K
   refine no_ 27 ?_
   refine pu_ 5 22 (bl 10 63) HT_ ?_
   refine pu_ 6 28 (bl 10 127) HT_ ?_
   refine pu_ 7 29 (bl 10 255) HT_ ?_
   refine pu_ 8 6 (bl 10 511) HT_ ?_
   refine pu_ 9 7 (bl 10 1023) HT_ ?_
   refine done_ (done_of HT_.out (by kernel_rfl)) ?_
   have hcz40_0 : w39.cell? ⟨gb331, 0, none⟩ = some (.int .i64 a0_0) := (blk_cell BK331.out 0).trans rfl
   have hcz40_1 : w39.cell? ⟨gb331, 1, none⟩ = some (.slice A0_1 l0_1.length c0_1) := (blk_cell BK331.out 1).trans rfl
   have hfz40_0 := blk_frozen BK331.out 0
   have hfz40_1 := blk_frozen BK331.out 1
   go_upto_region 12 with (first | ((with_reducible refine gate_callee (f := 18) rfl ?_); refine goesL_ (some 31) rfl rfl Try.func18 (by kernel_rfl) rfl #[.agg #[.int .i64 a0_0, .slice A0_1 l0_1.length c0_1]] rfl (by (try simp only [la, lb, lc]); first | done | rfl | (simp only [ld, le]; rfl)) ?_; (with_reducible refine (laws_toMoments.calls k a0_0 _ _ l0_1 t348 t349 _ ?side1 ?side2 A22.out).mono ?_); (case side1 => exact uC ((Kd.C_below HR0_1.out HB.out))); (case side2 => exact HC0_1.out); rintro e w41 ⟨v350, rfl, ho0, hb⟩; refine ⟨_, rfl, ?_⟩; have n0_ := zA (Kd.R_elder' (uR HO338.out) (Kd.R_base ho0) hb); have n1_ := zA (Kd.R_elder' (uR HO342.out) (Kd.R_base ho0) hb); have n2_ := zA (Kd.R_elder' (uR HO345.out) (Kd.R_base ho0) hb); have n3_ := zA (Kd.R_lower (Kd.R_new' (Kd.R_new' (Kd.R_new' ho0 (Kd.R_lt (uR HO338.out))) (Kd.R_lt (uR HO342.out))) (Kd.R_lt (uR HO345.out))) (below_size (uH HB.out))); have n4_ := xB BK331 hb; have n5_ := xB BK332 hb; have n6_ := xH HB hb; clear HO338 HO342 HO345 BK331 BK332 HB; have HO338 := n0_; have HO342 := n1_; have HO345 := n2_; have HO351 := n3_; have BK331 := n4_; have BK332 := n5_; have HB := n6_; clear n0_ n1_ n2_ n3_ n4_ n5_ n6_; (try clear hb); (try clear hb2); (try clear hk); (try clear hi); (try clear ho0)) | ((with_reducible refine gate_dst (N := 8) rfl ?_); refine box_event ?hg (N := 8) ?hd (cs := #[.int .i64 0, .slice none 0 0]) (t := 31) ?hr ?_; (case hd => rfl); (case hg => rfl); (case hr => first | (go_simp; done) | (go_simp; rfl)); intro gb352 hg w42 hbox hb; have n0_ := xR HO338 hb; have n1_ := xR HO342 hb; have n2_ := xR HO345 hb; have n3_ := xR HO351 hb; have n4_ := xB BK331 hb; have n5_ := xB BK332 hb; have n6_ := xH HB hb; have n7_ := zA (hbox); have n8_ := zA ((by rw [hg]; exact (below_size (uH HB.out)) : w.heap.size ≤ gb352)); have n9_ := zA ((by rw [hg]; exact (below_size (uH HB.out)) : w.heap.size ≤ gb352)); have n10_ := zA ((by rw [hg]; exact neL BK331 : gb331 ≠ gb352)); have n11_ := zA ((by rw [hg]; exact neG BK331 : gb352 ≠ gb331)); have n12_ := zA ((by rw [hg]; exact neL BK332 : gb332 ≠ gb352)); have n13_ := zA ((by rw [hg]; exact neG BK332 : gb352 ≠ gb332)); clear HO338 HO342 HO345 HO351 BK331 BK332 HB; have HO338 := n0_; have HO342 := n1_; have HO345 := n2_; have HO351 := n3_; have BK331 := n4_; have BK332 := n5_; have HB := n6_; have BK352 := n7_; have GW352 := n8_; have GE352 := n9_; have := geI GE352; have NB331_352 := n10_; have NB352_331 := n11_; have NB332_352 := n12_; have NB352_332 := n13_; clear n0_ n1_ n2_ n3_ n4_ n5_ n6_ n7_ n8_ n9_ n10_ n11_ n12_ n13_ hb hbox hg; have hnb43 := NB352_331.out; have hnc43 := NB331_352.out; have hnb44 := NB352_332.out; have hnc44 := NB332_352.out; have hcz45_0 : w42.cell? ⟨gb352, 0, none⟩ = some (.int .i64 0) := (blk_cell BK352.out 0).trans rfl; have hcz45_1 : w42.cell? ⟨gb352, 1, none⟩ = some (.slice none 0 0) := (blk_cell BK352.out 1).trans rfl; have hfz45_0 := blk_frozen BK352.out 0; have hfz45_1 := blk_frozen BK352.out 1; obtain ⟨Ao46, co46, eo46⟩ := Kd.R_slice HO351.out; subst eo46; have hcz47_0 : w42.cell? ⟨gb332, 0, none⟩ = some (.int .i64 a1_0) := (blk_cell BK332.out 0).trans rfl; have hcz47_1 : w42.cell? ⟨gb332, 1, none⟩ = some (.slice A1_1 l1_1.length c1_1) := (blk_cell BK332.out 1).trans rfl; have hcz47_2 : w42.cell? ⟨gb332, 2, none⟩ = some (.slice A1_2 l1_2.length c1_2) := (blk_cell BK332.out 2).trans rfl; have hfz47_0 := blk_frozen BK332.out 0; have hfz47_1 := blk_frozen BK332.out 1; have hfz47_2 := blk_frozen BK332.out 2) | ((with_reducible refine gate_callee (f := 19) rfl ?_); refine goesL_ (some 33) rfl rfl Try.func19 (by kernel_rfl) rfl #[.agg #[.int .i64 a1_0, .slice A1_1 l1_1.length c1_1, .slice A1_2 l1_2.length c1_2]] rfl (by (try simp only [la, lb, lc]); first | done | rfl | (simp only [ld, le]; rfl)) ?_; (with_reducible refine (laws_toRule.calls k a1_0 _ _ l1_1 _ _ l1_2 t353 t354 t357 _ ?side1 ?side2 ?side3 ?side4 A23.out).mono ?_); (case side1 => exact Kd.C_below HR1_1.out (uH HB.out)); (case side2 => exact HC1_1.out); (case side3 => exact Kd.C_below HR1_2.out (uH HB.out)); (case side4 => exact HC1_2.out); rintro e w48 ⟨v355, v358, rfl, ho0, ho1, hb⟩; refine ⟨_, rfl, ?_⟩; have n0_ := zA (Kd.R_mono (Kd.R_told (Kd.R_told (Kd.R_old (uR ((Kd.R_mono (Kd.R_far (p := ⟨gb352, 1, none⟩) (Kd.R_far (p := ⟨gb352, 0, none⟩) (Kd.R_types HO338.out BK352.out (by decide)) (fun _ hk => hk.2) (.int .i64 t348)) (fun _ hk => hk.2) (.slice Ao46 t349.length co46)) (fun _ h_ => h_.1)))) hb) (Kd.R_base ho0)) (Kd.R_base ho1)) (fun _ h_ => h_.1)); have n1_ := zA (Kd.R_mono (Kd.R_told (Kd.R_told (Kd.R_old (uR ((Kd.R_mono (Kd.R_far (p := ⟨gb352, 1, none⟩) (Kd.R_far (p := ⟨gb352, 0, none⟩) (Kd.R_types HO342.out BK352.out (by decide)) (fun _ hk => hk.2) (.int .i64 t348)) (fun _ hk => hk.2) (.slice Ao46 t349.length co46)) (fun _ h_ => h_.1)))) hb) (Kd.R_base ho0)) (Kd.R_base ho1)) (fun _ h_ => h_.1)); have n2_ := zA (Kd.R_mono (Kd.R_told (Kd.R_told (Kd.R_old (uR ((Kd.R_mono (Kd.R_far (p := ⟨gb352, 1, none⟩) (Kd.R_far (p := ⟨gb352, 0, none⟩) (Kd.R_types HO345.out BK352.out (by decide)) (fun _ hk => hk.2) (.int .i64 t348)) (fun _ hk => hk.2) (.slice Ao46 t349.length co46)) (fun _ h_ => h_.1)))) hb) (Kd.R_base ho0)) (Kd.R_base ho1)) (fun _ h_ => h_.1)); have n3_ := zA (Kd.R_mono (Kd.R_told (Kd.R_told (Kd.R_old (uR ((Kd.R_mono (Kd.R_far (p := ⟨gb352, 1, none⟩) (Kd.R_far (p := ⟨gb352, 0, none⟩) (Kd.R_types HO351.out BK352.out (by decide)) (fun _ hk => hk.2) (.int .i64 t348)) (fun _ hk => hk.2) (.slice Ao46 t349.length co46)) (fun _ h_ => h_.1)))) hb) (Kd.R_base ho0)) (Kd.R_base ho1)) (fun _ h_ => h_.1)); have n4_ := zA (Kd.R_lower (Kd.R_new' (Kd.R_new' (Kd.R_new' (Kd.R_new' ho0 (Kd.R_lt (uR ((Kd.R_mono (Kd.R_far (p := ⟨gb352, 1, none⟩) (Kd.R_far (p := ⟨gb352, 0, none⟩) (Kd.R_types HO338.out BK352.out (by decide)) (fun _ hk => hk.2) (.int .i64 t348)) (fun _ hk => hk.2) (.slice Ao46 t349.length co46)) (fun _ h_ => h_.1)))))) (Kd.R_lt (uR ((Kd.R_mono (Kd.R_far (p := ⟨gb352, 1, none⟩) (Kd.R_far (p := ⟨gb352, 0, none⟩) (Kd.R_types HO342.out BK352.out (by decide)) (fun _ hk => hk.2) (.int .i64 t348)) (fun _ hk => hk.2) (.slice Ao46 t349.length co46)) (fun _ h_ => h_.1)))))) (Kd.R_lt (uR ((Kd.R_mono (Kd.R_far (p := ⟨gb352, 1, none⟩) (Kd.R_far (p := ⟨gb352, 0, none⟩) (Kd.R_types HO345.out BK352.out (by decide)) (fun _ hk => hk.2) (.int .i64 t348)) (fun _ hk => hk.2) (.slice Ao46 t349.length co46)) (fun _ h_ => h_.1)))))) (Kd.R_lt (uR ((Kd.R_mono (Kd.R_far (p := ⟨gb352, 1, none⟩) (Kd.R_far (p := ⟨gb352, 0, none⟩) (Kd.R_types HO351.out BK352.out (by decide)) (fun _ hk => hk.2) (.int .i64 t348)) (fun _ hk => hk.2) (.slice Ao46 t349.length co46)) (fun _ h_ => h_.1)))))) (below_size (uH HB.out))); have n5_ := zA (Kd.R_lower (Kd.R_new' (Kd.R_new' (Kd.R_new' (Kd.R_new' ho1 (Kd.R_lt (uR ((Kd.R_mono (Kd.R_far (p := ⟨gb352, 1, none⟩) (Kd.R_far (p := ⟨gb352, 0, none⟩) (Kd.R_types HO338.out BK352.out (by decide)) (fun _ hk => hk.2) (.int .i64 t348)) (fun _ hk => hk.2) (.slice Ao46 t349.length co46)) (fun _ h_ => h_.1)))))) (Kd.R_lt (uR ((Kd.R_mono (Kd.R_far (p := ⟨gb352, 1, none⟩) (Kd.R_far (p := ⟨gb352, 0, none⟩) (Kd.R_types HO342.out BK352.out (by decide)) (fun _ hk => hk.2) (.int .i64 t348)) (fun _ hk => hk.2) (.slice Ao46 t349.length co46)) (fun _ h_ => h_.1)))))) (Kd.R_lt (uR ((Kd.R_mono (Kd.R_far (p := ⟨gb352, 1, none⟩) (Kd.R_far (p := ⟨gb352, 0, none⟩) (Kd.R_types HO345.out BK352.out (by decide)) (fun _ hk => hk.2) (.int .i64 t348)) (fun _ hk => hk.2) (.slice Ao46 t349.length co46)) (fun _ h_ => h_.1)))))) (Kd.R_lt (uR ((Kd.R_mono (Kd.R_far (p := ⟨gb352, 1, none⟩) (Kd.R_far (p := ⟨gb352, 0, none⟩) (Kd.R_types HO351.out BK352.out (by decide)) (fun _ hk => hk.2) (.int .i64 t348)) (fun _ hk => hk.2) (.slice Ao46 t349.length co46)) (fun _ h_ => h_.1)))))) (below_size (uH HB.out))); have n6_ := zA (blk_below (g := gb331) (o := .cells #[.int .i64 a0_0, .slice A0_1 l0_1.length c0_1] 24 (0, 0)) (by (with_reducible repeat (first | refine blk_drewN ?_ _ | refine blk_drew ?_ | refine blk_alloc ?_ _)); refine blk_far ?_ NB331_352.out _; (with_reducible repeat (first | refine blk_drewN ?_ _ | refine blk_drew ?_ | refine blk_alloc ?_ _)); refine blk_far ?_ NB331_352.out _; (with_reducible repeat (first | refine blk_drewN ?_ _ | refine blk_drew ?_ | refine blk_alloc ?_ _)); exact BK331.out) hb); have n7_ := zA (blk_below (g := gb332) (o := .cells #[.int .i64 a1_0, .slice A1_1 l1_1.length c1_1, .slice A1_2 l1_2.length c1_2] 26 (0, 0)) (by (with_reducible repeat (first | refine blk_drewN ?_ _ | refine blk_drew ?_ | refine blk_alloc ?_ _)); refine blk_far ?_ NB332_352.out _; (with_reducible repeat (first | refine blk_drewN ?_ _ | refine blk_drew ?_ | refine blk_alloc ?_ _)); refine blk_far ?_ NB332_352.out _; (with_reducible repeat (first | refine blk_drewN ?_ _ | refine blk_drew ?_ | refine blk_alloc ?_ _)); exact BK332.out) hb); have n8_ := zA (blk_below (g := gb352) (o := .cells #[.int .i64 t348, .slice Ao46 t349.length co46] 31 (0, 0)) (by (with_reducible repeat (first | refine blk_drewN ?_ _ | refine blk_drew ?_ | refine blk_alloc ?_ _)); refine blk_put (cs := #[.int .i64 t348, .slice none 0 0]) ?_ 1 _ rfl; (with_reducible repeat (first | refine blk_drewN ?_ _ | refine blk_drew ?_ | refine blk_alloc ?_ _)); refine blk_put (cs := #[.int .i64 0, .slice none 0 0]) ?_ 0 _ rfl; (with_reducible repeat (first | refine blk_drewN ?_ _ | refine blk_drew ?_ | refine blk_alloc ?_ _)); exact BK352.out) hb); have n9_ := xH HB hb; clear HO338 HO342 HO345 HO351 BK331 BK332 BK352 HB; have HO338 := n0_; have HO342 := n1_; have HO345 := n2_; have HO351 := n3_; have HO356 := n4_; have HO359 := n5_; have BK331 := n6_; have BK332 := n7_; have BK352 := n8_; have HB := n9_; clear n0_ n1_ n2_ n3_ n4_ n5_ n6_ n7_ n8_ n9_; (try clear hb); (try clear hb2); (try clear hk); (try clear hi); (try clear ho0); (try clear ho1)) | ((with_reducible refine gate_dst (N := 9) rfl ?_); refine box_event ?hg (N := 9) ?hd (cs := #[.int .i64 0, .slice none 0 0, .slice none 0 0]) (t := 33) ?hr ?_; (case hd => rfl); (case hg => rfl); (case hr => first | (go_simp; done) | (go_simp; rfl)); intro gb360 hg w49 hbox hb; have n0_ := xR HO338 hb; have n1_ := xR HO342 hb; have n2_ := xR HO345 hb; have n3_ := xR HO351 hb; have n4_ := xR HO356 hb; have n5_ := xR HO359 hb; have n6_ := xB BK331 hb; have n7_ := xB BK332 hb; have n8_ := xB BK352 hb; have n9_ := xH HB hb; have n10_ := zA (hbox); have n11_ := zA ((by rw [hg]; exact (below_size (uH HB.out)) : w.heap.size ≤ gb360)); have n12_ := zA ((by rw [hg]; exact (below_size (uH HB.out)) : w.heap.size ≤ gb360)); have n13_ := zA ((by rw [hg]; exact neL BK331 : gb331 ≠ gb360)); have n14_ := zA ((by rw [hg]; exact neG BK331 : gb360 ≠ gb331)); have n15_ := zA ((by rw [hg]; exact neL BK332 : gb332 ≠ gb360)); have n16_ := zA ((by rw [hg]; exact neG BK332 : gb360 ≠ gb332)); have n17_ := zA ((by rw [hg]; exact neL BK352 : gb352 ≠ gb360)); have n18_ := zA ((by rw [hg]; exact neG BK352 : gb360 ≠ gb352)); clear HO338 HO342 HO345 HO351 HO356 HO359 BK331 BK332 BK352 HB; have HO338 := n0_; have HO342 := n1_; have HO345 := n2_; have HO351 := n3_; have HO356 := n4_; have HO359 := n5_; have BK331 := n6_; have BK332 := n7_; have BK352 := n8_; have HB := n9_; have BK360 := n10_; have GW360 := n11_; have GE360 := n12_; have := geI GE360; have NB331_360 := n13_; have NB360_331 := n14_; have NB332_360 := n15_; have NB360_332 := n16_; have NB352_360 := n17_; have NB360_352 := n18_; clear n0_ n1_ n2_ n3_ n4_ n5_ n6_ n7_ n8_ n9_ n10_ n11_ n12_ n13_ n14_ n15_ n16_ n17_ n18_ hb hbox hg; have hnb50 := NB360_331.out; have hnc50 := NB331_360.out; have hnb51 := NB360_332.out; have hnc51 := NB332_360.out; have hnb52 := NB360_352.out; have hnc52 := NB352_360.out; have hcz53_0 : w49.cell? ⟨gb360, 0, none⟩ = some (.int .i64 0) := (blk_cell BK360.out 0).trans rfl; have hcz53_1 : w49.cell? ⟨gb360, 1, none⟩ = some (.slice none 0 0) := (blk_cell BK360.out 1).trans rfl; have hcz53_2 : w49.cell? ⟨gb360, 2, none⟩ = some (.slice none 0 0) := (blk_cell BK360.out 2).trans rfl; have hfz53_0 := blk_frozen BK360.out 0; have hfz53_1 := blk_frozen BK360.out 1; have hfz53_2 := blk_frozen BK360.out 2; obtain ⟨Ao54, co54, eo54⟩ := Kd.R_slice HO356.out; subst eo54; obtain ⟨Ao55, co55, eo55⟩ := Kd.R_slice HO359.out; subst eo55; have hcz56_0 : w49.cell? ⟨gb352, 0, none⟩ = some (.int .i64 t348) := (blk_cell BK352.out 0).trans rfl; have hcz56_1 : w49.cell? ⟨gb352, 1, none⟩ = some (.slice Ao46 t349.length co46) := (blk_cell BK352.out 1).trans rfl; have hfz56_0 := blk_frozen BK352.out 0; have hfz56_1 := blk_frozen BK352.out 1) | ((with_reducible refine gate_callee (f := 26) rfl ?_); refine goesL_ (some 37) rfl rfl Try.func26 (by kernel_rfl) rfl #[.agg #[.int .i64 t348, .slice Ao46 t349.length co46], .agg #[.int .i64 t353, .slice Ao54 t354.length co54, .slice Ao55 t357.length co55]] rfl (by (try simp only [la, lb, lc]); first | done | rfl | (simp only [ld, le]; rfl)) ?_; (with_reducible refine (impl_DegreeOfRule.calls k t348 _ _ t349 t353 _ _ t354 _ _ t357 t361 t362 _ ?side1 ?side2 ?side3 ?side4 ?side5 ?side6 A24.out).mono ?_); (case side1 => refine (Kd.R_reads' (e := 2) (base := w.heap.size) (ok := fun k_ => (((((True ∧ some k_ ≠ (.slice Ao36 t336.length co36 : Value).ownBlock) ∧ some k_ ≠ (.slice Ao37 t340.length co37 : Value).ownBlock) ∧ some k_ ≠ (.slice Ao38 t343.length co38 : Value).ownBlock) ∧ some k_ ≠ (.slice Ao54 t354.length co54 : Value).ownBlock) ∧ some k_ ≠ (.slice Ao55 t357.length co55 : Value).ownBlock)) (n := t349.length) (c := co46) ?_).2.2; exact (uR ((Kd.R_mono (Kd.R_far (p := ⟨gb360, 2, none⟩) (Kd.R_far (p := ⟨gb360, 1, none⟩) (Kd.R_far (p := ⟨gb360, 0, none⟩) (Kd.R_types HO351.out BK360.out (by decide)) (fun _ hk => hk.2) (.int .i64 t353)) (fun _ hk => hk.2) (.slice Ao54 t354.length co54)) (fun _ hk => hk.2) (.slice Ao55 t357.length co55)) (fun _ h_ => h_.1))))); (case side2 => exact (Kd.R_reads' HO351.out).2.1); (case side3 => refine (Kd.R_reads' (e := 2) (base := w.heap.size) (ok := fun k_ => ((((some k_ ≠ (.slice Ao55 t357.length co55 : Value).ownBlock ∧ some k_ ≠ (.slice Ao36 t336.length co36 : Value).ownBlock) ∧ some k_ ≠ (.slice Ao37 t340.length co37 : Value).ownBlock) ∧ some k_ ≠ (.slice Ao38 t343.length co38 : Value).ownBlock) ∧ some k_ ≠ (.slice Ao46 t349.length co46 : Value).ownBlock)) (n := t354.length) (c := co54) ?_).2.2; exact (uR ((Kd.R_mono (Kd.R_far (p := ⟨gb360, 2, none⟩) (Kd.R_far (p := ⟨gb360, 1, none⟩) (Kd.R_far (p := ⟨gb360, 0, none⟩) (Kd.R_types HO356.out BK360.out (by decide)) (fun _ hk => hk.2) (.int .i64 t353)) (fun _ hk => hk.2) (.slice Ao54 t354.length co54)) (fun _ hk => hk.2) (.slice Ao55 t357.length co55)) (fun _ h_ => h_.1))))); (case side4 => exact (Kd.R_reads' HO356.out).2.1); (case side5 => refine (Kd.R_reads' (e := 2) (base := w.heap.size) (ok := fun k_ => ((((some k_ ≠ (.slice Ao54 t354.length co54 : Value).ownBlock ∧ some k_ ≠ (.slice Ao36 t336.length co36 : Value).ownBlock) ∧ some k_ ≠ (.slice Ao37 t340.length co37 : Value).ownBlock) ∧ some k_ ≠ (.slice Ao38 t343.length co38 : Value).ownBlock) ∧ some k_ ≠ (.slice Ao46 t349.length co46 : Value).ownBlock)) (n := t357.length) (c := co55) ?_).2.2; exact (uR ((Kd.R_mono (Kd.R_far (p := ⟨gb360, 2, none⟩) (Kd.R_far (p := ⟨gb360, 1, none⟩) (Kd.R_far (p := ⟨gb360, 0, none⟩) (Kd.R_types HO359.out BK360.out (by decide)) (fun _ hk => hk.2) (.int .i64 t353)) (fun _ hk => hk.2) (.slice Ao54 t354.length co54)) (fun _ hk => hk.2) (.slice Ao55 t357.length co55)) (fun _ h_ => h_.1))))); (case side6 => exact (Kd.R_reads' HO359.out).2.1); rintro e w57 ⟨rfl, hb⟩; refine ⟨_, rfl, ?_⟩; have n0_ := zA (Kd.R_below (uR ((Kd.R_mono (Kd.R_far (p := ⟨gb360, 2, none⟩) (Kd.R_far (p := ⟨gb360, 1, none⟩) (Kd.R_far (p := ⟨gb360, 0, none⟩) (Kd.R_types HO338.out BK360.out (by decide)) (fun _ hk => hk.2) (.int .i64 t353)) (fun _ hk => hk.2) (.slice Ao54 t354.length co54)) (fun _ hk => hk.2) (.slice Ao55 t357.length co55)) (fun _ h_ => h_.1)))) hb); have n1_ := zA (Kd.R_below (uR ((Kd.R_mono (Kd.R_far (p := ⟨gb360, 2, none⟩) (Kd.R_far (p := ⟨gb360, 1, none⟩) (Kd.R_far (p := ⟨gb360, 0, none⟩) (Kd.R_types HO342.out BK360.out (by decide)) (fun _ hk => hk.2) (.int .i64 t353)) (fun _ hk => hk.2) (.slice Ao54 t354.length co54)) (fun _ hk => hk.2) (.slice Ao55 t357.length co55)) (fun _ h_ => h_.1)))) hb); have n2_ := zA (Kd.R_below (uR ((Kd.R_mono (Kd.R_far (p := ⟨gb360, 2, none⟩) (Kd.R_far (p := ⟨gb360, 1, none⟩) (Kd.R_far (p := ⟨gb360, 0, none⟩) (Kd.R_types HO345.out BK360.out (by decide)) (fun _ hk => hk.2) (.int .i64 t353)) (fun _ hk => hk.2) (.slice Ao54 t354.length co54)) (fun _ hk => hk.2) (.slice Ao55 t357.length co55)) (fun _ h_ => h_.1)))) hb); have n3_ := zA (Kd.R_below (uR ((Kd.R_mono (Kd.R_far (p := ⟨gb360, 2, none⟩) (Kd.R_far (p := ⟨gb360, 1, none⟩) (Kd.R_far (p := ⟨gb360, 0, none⟩) (Kd.R_types HO351.out BK360.out (by decide)) (fun _ hk => hk.2) (.int .i64 t353)) (fun _ hk => hk.2) (.slice Ao54 t354.length co54)) (fun _ hk => hk.2) (.slice Ao55 t357.length co55)) (fun _ h_ => h_.1)))) hb); have n4_ := zA (Kd.R_below (uR ((Kd.R_mono (Kd.R_far (p := ⟨gb360, 2, none⟩) (Kd.R_far (p := ⟨gb360, 1, none⟩) (Kd.R_far (p := ⟨gb360, 0, none⟩) (Kd.R_types HO356.out BK360.out (by decide)) (fun _ hk => hk.2) (.int .i64 t353)) (fun _ hk => hk.2) (.slice Ao54 t354.length co54)) (fun _ hk => hk.2) (.slice Ao55 t357.length co55)) (fun _ h_ => h_.1)))) hb); have n5_ := zA (Kd.R_below (uR ((Kd.R_mono (Kd.R_far (p := ⟨gb360, 2, none⟩) (Kd.R_far (p := ⟨gb360, 1, none⟩) (Kd.R_far (p := ⟨gb360, 0, none⟩) (Kd.R_types HO359.out BK360.out (by decide)) (fun _ hk => hk.2) (.int .i64 t353)) (fun _ hk => hk.2) (.slice Ao54 t354.length co54)) (fun _ hk => hk.2) (.slice Ao55 t357.length co55)) (fun _ h_ => h_.1)))) hb); have n6_ := zA (blk_below (g := gb331) (o := .cells #[.int .i64 a0_0, .slice A0_1 l0_1.length c0_1] 24 (0, 0)) (by (with_reducible repeat (first | refine blk_drewN ?_ _ | refine blk_drew ?_ | refine blk_alloc ?_ _)); refine blk_far ?_ NB331_360.out _; (with_reducible repeat (first | refine blk_drewN ?_ _ | refine blk_drew ?_ | refine blk_alloc ?_ _)); refine blk_far ?_ NB331_360.out _; (with_reducible repeat (first | refine blk_drewN ?_ _ | refine blk_drew ?_ | refine blk_alloc ?_ _)); refine blk_far ?_ NB331_360.out _; (with_reducible repeat (first | refine blk_drewN ?_ _ | refine blk_drew ?_ | refine blk_alloc ?_ _)); exact BK331.out) hb); have n7_ := zA (blk_below (g := gb332) (o := .cells #[.int .i64 a1_0, .slice A1_1 l1_1.length c1_1, .slice A1_2 l1_2.length c1_2] 26 (0, 0)) (by (with_reducible repeat (first | refine blk_drewN ?_ _ | refine blk_drew ?_ | refine blk_alloc ?_ _)); refine blk_far ?_ NB332_360.out _; (with_reducible repeat (first | refine blk_drewN ?_ _ | refine blk_drew ?_ | refine blk_alloc ?_ _)); refine blk_far ?_ NB332_360.out _; (with_reducible repeat (first | refine blk_drewN ?_ _ | refine blk_drew ?_ | refine blk_alloc ?_ _)); refine blk_far ?_ NB332_360.out _; (with_reducible repeat (first | refine blk_drewN ?_ _ | refine blk_drew ?_ | refine blk_alloc ?_ _)); exact BK332.out) hb); have n8_ := zA (blk_below (g := gb352) (o := .cells #[.int .i64 t348, .slice Ao46 t349.length co46] 31 (0, 0)) (by (with_reducible repeat (first | refine blk_drewN ?_ _ | refine blk_drew ?_ | refine blk_alloc ?_ _)); refine blk_far ?_ NB352_360.out _; (with_reducible repeat (first | refine blk_drewN ?_ _ | refine blk_drew ?_ | refine blk_alloc ?_ _)); refine blk_far ?_ NB352_360.out _; (with_reducible repeat (first | refine blk_drewN ?_ _ | refine blk_drew ?_ | refine blk_alloc ?_ _)); refine blk_far ?_ NB352_360.out _; (with_reducible repeat (first | refine blk_drewN ?_ _ | refine blk_drew ?_ | refine blk_alloc ?_ _)); exact BK352.out) hb); have n9_ := zA (blk_below (g := gb360) (o := .cells #[.int .i64 t353, .slice Ao54 t354.length co54, .slice Ao55 t357.length co55] 33 (0, 0)) (by (with_reducible repeat (first | refine blk_drewN ?_ _ | refine blk_drew ?_ | refine blk_alloc ?_ _)); refine blk_put (cs := #[.int .i64 t353, .slice Ao54 t354.length co54, .slice none 0 0]) ?_ 2 _ rfl; (with_reducible repeat (first | refine blk_drewN ?_ _ | refine blk_drew ?_ | refine blk_alloc ?_ _)); refine blk_put (cs := #[.int .i64 t353, .slice none 0 0, .slice none 0 0]) ?_ 1 _ rfl; (with_reducible repeat (first | refine blk_drewN ?_ _ | refine blk_drew ?_ | refine blk_alloc ?_ _)); refine blk_put (cs := #[.int .i64 0, .slice none 0 0, .slice none 0 0]) ?_ 0 _ rfl; (with_reducible repeat (first | refine blk_drewN ?_ _ | refine blk_drew ?_ | refine blk_alloc ?_ _)); exact BK360.out) hb); have n10_ := xH HB hb; clear HO338 HO342 HO345 HO351 HO356 HO359 BK331 BK332 BK352 BK360 HB; have HO338 := n0_; have HO342 := n1_; have HO345 := n2_; have HO351 := n3_; have HO356 := n4_; have HO359 := n5_; have BK331 := n6_; have BK332 := n7_; have BK352 := n8_; have BK360 := n9_; have HB := n10_; clear n0_ n1_ n2_ n3_ n4_ n5_ n6_ n7_ n8_ n9_ n10_; (try clear hb); (try clear hb2); (try clear hk); (try clear hi)))
   (try simp only [Act.put, ls, lz, ln])
   go_cut [47] (fun v47 wc => ∃ (kq : Nat) (x47_24 : Bool), v47 = .bool x47_24 ∧ Aside0 (laws_FnExactDegreeOfRule.j0 kq x47_24 a0_0 l0_1 a1_0 l1_1 l1_2 t348 t349 t353 t354 t357 = some r) ∧ Aside0 (kq ≤ k) ∧ Aside0 (Kd.R (Kd.int .i64) 2 wc w.heap.size (fun k_ => some k_ ≠ ((.slice Ao54 t354.length co54) : Value).ownBlock ∧ some k_ ≠ ((.slice Ao55 t357.length co55) : Value).ownBlock) (.slice Ao46 t349.length co46) t349) ∧ Aside0 (Kd.R (Kd.int .i64) 2 wc w.heap.size (fun k_ => some k_ ≠ ((.slice Ao46 t349.length co46) : Value).ownBlock ∧ some k_ ≠ ((.slice Ao55 t357.length co55) : Value).ownBlock) (.slice Ao54 t354.length co54) t354) ∧ Aside0 (Kd.R (Kd.int .i64) 2 wc w.heap.size (fun k_ => some k_ ≠ ((.slice Ao46 t349.length co46) : Value).ownBlock ∧ some k_ ≠ ((.slice Ao54 t354.length co54) : Value).ownBlock) (.slice Ao55 t357.length co55) t357) ∧ Aside0 (wc.heap[gb331]? = some (.cells #[.int .i64 a0_0, (.slice A0_1 l0_1.length c0_1)] 24 (0, 0))) ∧ Aside0 (wc.heap[gb332]? = some (.cells #[.int .i64 a1_0, (.slice A1_1 l1_1.length c1_1), (.slice A1_2 l1_2.length c1_2)] 26 (0, 0))) ∧ Aside0 (wc.heap[gb352]? = some (.cells #[.int .i64 t348, (.slice Ao46 t349.length co46)] 31 (0, 0))) ∧ Aside0 (wc.heap[gb360]? = some (.cells #[.int .i64 t353, (.slice Ao54 t354.length co54), (.slice Ao55 t357.length co55)] 33 (0, 0))) ∧ Aside0 (Below w.heap.size w wc))
   case first =>
    have H := HC25.out
    clear HC25
    by_cases c58 : t361 = t346
    ·rw [if_pos c58] at H
     have c58b0 : (t361 == t346) = true := beq_iff_eq.mpr c58
     have c58b1 : (t361 != t346) = false := bne_eq_false_iff_eq.mpr c58
     clear c58
     (first | rw [c58b0] | (simp only [i64_w, i32_w]; rw [c58b0]) | skip)
     have H' := zA H
     clear H
     go_wp2
     go_meet
     case rel => exact ⟨_, ((t362 != t347)), (by first | rfl | (simp; done) | (simp [*]; done)), H', ⟨by first | omega | exact Nat.le_refl _⟩, ⟨uR (Kd.R_mono HO351.out (fun _ hk => ⟨hk.1.2, hk.2⟩))⟩, ⟨uR (Kd.R_mono HO356.out (fun _ hk => ⟨hk.2, hk.1.1.1.1⟩))⟩, ⟨uR (Kd.R_mono HO359.out (fun _ hk => ⟨hk.2, hk.1.1.1.1⟩))⟩, ⟨uB BK331.out⟩, ⟨uB BK332.out⟩, ⟨uB BK352.out⟩, ⟨uB BK360.out⟩, ⟨uH HB.out⟩⟩
    ·rw [if_neg c58] at H
     have c58b0 : (t361 == t346) = false := beq_eq_false_iff_ne.mpr c58
     have c58b1 : (t361 != t346) = true := bne_iff_ne.mpr c58
     (first | rw [c58b0] | (simp only [i64_w, i32_w]; rw [c58b0]) | skip)
     have H' := zA H
     clear H
     go_wp2
     go_meet
     case rel => exact ⟨_, (true), (by first | rfl | (simp; done) | (simp [*]; done)), H', ⟨by first | omega | exact Nat.le_refl _⟩, ⟨uR (Kd.R_mono HO351.out (fun _ hk => ⟨hk.1.2, hk.2⟩))⟩, ⟨uR (Kd.R_mono HO356.out (fun _ hk => ⟨hk.2, hk.1.1.1.1⟩))⟩, ⟨uR (Kd.R_mono HO359.out (fun _ hk => ⟨hk.2, hk.1.1.1.1⟩))⟩, ⟨uB BK331.out⟩, ⟨uB BK332.out⟩, ⟨uB BK352.out⟩, ⟨uB BK360.out⟩, ⟨uH HB.out⟩⟩
   case rest =>
    clear HC25
    try clear c1
    try clear c2
    try clear p2
    try clear c4
    try clear c4b0
    try clear c5
    try clear c7
    try clear c11
    try clear c11b0
    try clear c14
    try clear c15
    try clear c16
    try clear c18
    try clear c19
    try clear c25
    try clear c26
    try clear c28
    try clear c43
    try clear c44
    try clear c50
    try clear c51
    try clear c52
    try clear c58
    try clear c58b0
    try clear c58b1
    try clear hcz15_0
    try clear hcz15_1
    try clear hcz17_0
    try clear hcz17_1
    try clear hcz17_2
    try clear hcz29_0
    try clear hcz29_1
    try clear hcz31_0
    try clear hcz31_1
    try clear hcz31_2
    try clear hcz40_0
    try clear hcz40_1
    try clear hcz45_0
    try clear hcz45_1
    try clear hcz47_0
    try clear hcz47_1
    try clear hcz47_2
    try clear hcz53_0
    try clear hcz53_1
    try clear hcz53_2
    try clear hcz56_0
    try clear hcz56_1
    try clear hcz8_0
    try clear hcz8_1
    try clear hfz15_0
    try clear hfz15_1
    try clear hfz17_0
    try clear hfz17_1
    try clear hfz17_2
    try clear hfz29_0
    try clear hfz29_1
    try clear hfz31_0
    try clear hfz31_1
    try clear hfz31_2
    try clear hfz40_0
    try clear hfz40_1
    try clear hfz45_0
    try clear hfz45_1
    try clear hfz47_0
    try clear hfz47_1
    try clear hfz47_2
    try clear hfz53_0
    try clear hfz53_1
    try clear hfz53_2
    try clear hfz56_0
    try clear hfz56_1
    try clear hfz8_0
    try clear hfz8_1
    obtain ⟨kq, x47_24, rfl, HA, HJ24, HO_353001, HO_361001, HO_361002, BK331, BK332, BK352, BK360, HB⟩ := hcut
    cases kq with
    | zero => exact absurd HA.out (by simp [laws_FnExactDegreeOfRule.j0])
    | succ kj24 =>
     have H := HA.out
     clear HA
     simp only [laws_FnExactDegreeOfRule.j0] at H
     by_cases c59 : x47_24 = true
     ·subst c59
      have H1 : (some false) = some r := by rw [if_pos rfl] at H; exact H
      clear H
      have H := H1
      clear H1
      rw [HRT.out] at H
      exact absurd H (by simp)
     ·replace c59 := Bool.eq_false_iff.mpr c59
      subst c59
      have H1 : ((laws_toMoments.f kj24 a0_0 l0_1).bind fun bt363 => ((laws_eqMoments.f kj24 t348 t349 bt363.1 bt363.2).bind fun t367 => (if t367 = true then ((laws_toRule.f kj24 a1_0 l1_1 l1_2).bind fun bt368 => ((laws_eqRule.f kj24 t353 t354 t357 bt368.1 bt368.2.1 bt368.2.2).bind fun t375 => (if t375 = true then (some true) else (some false)))) else (some false)))) = some r := by rw [if_neg (show ¬ (false = true) by decide)] at H; exact H
      clear H
      have H := H1
      clear H1
      replace H := Option.bind_eq_some_iff.mp H
      obtain ⟨⟨t363, t364⟩, A600, H⟩ := H
      replace H : ((laws_eqMoments.f kj24 t348 t349 t363 t364).bind fun t367 => (if t367 = true then ((laws_toRule.f kj24 a1_0 l1_1 l1_2).bind fun bt368 => ((laws_eqRule.f kj24 t353 t354 t357 bt368.1 bt368.2.1 bt368.2.2).bind fun t375 => (if t375 = true then (some true) else (some false)))) else (some false))) = some r := H
      have A60 := zA A600
      clear A600
      replace H := Option.bind_eq_some_iff.mp H
      obtain ⟨t367, A610, H⟩ := H
      replace H : (if t367 = true then ((laws_toRule.f kj24 a1_0 l1_1 l1_2).bind fun bt368 => ((laws_eqRule.f kj24 t353 t354 t357 bt368.1 bt368.2.1 bt368.2.2).bind fun t375 => (if t375 = true then (some true) else (some false)))) else (some false)) = some r := H
      have A61 := zA A610
      clear A610
      by_cases c62 : t367 = true
      ·subst c62
       have H1 : ((laws_toRule.f kj24 a1_0 l1_1 l1_2).bind fun bt368 => ((laws_eqRule.f kj24 t353 t354 t357 bt368.1 bt368.2.1 bt368.2.2).bind fun t375 => (if t375 = true then (some true) else (some false)))) = some r := by rw [if_pos rfl] at H; exact H
       clear H
       have H := H1
       clear H1
       replace H := Option.bind_eq_some_iff.mp H
       obtain ⟨⟨t368, t369, t372⟩, A630, H⟩ := H
       replace H : ((laws_eqRule.f kj24 t353 t354 t357 t368 t369 t372).bind fun t375 => (if t375 = true then (some true) else (some false))) = some r := H
       have A63 := zA A630
       clear A630
       replace H := Option.bind_eq_some_iff.mp H
       obtain ⟨t375, A640, H⟩ := H
       replace H : (if t375 = true then (some true) else (some false)) = some r := H
       have A64 := zA A640
       clear A640
       by_cases c65 : t375 = true
       ·subst c65
        have H1 : (some true) = some r := by rw [if_pos rfl] at H; exact H
        clear H
        have H := H1
        clear H1
        obtain rfl := Option.some.inj H
        try go_wp2
        have n0_ := zA (Kd.R_drew HO_353001.out)
        have n1_ := zA (Kd.R_drew HO_361001.out)
        have n2_ := zA (Kd.R_drew HO_361002.out)
        have n3_ := zA (blk_drew BK331.out)
        have n4_ := zA (blk_drew BK332.out)
        have n5_ := zA (blk_drew BK352.out)
        have n6_ := zA (blk_drew BK360.out)
        have n7_ := zA (below_drew1 HB.out)
        clear HO_353001 HO_361001 HO_361002 BK331 BK332 BK352 BK360 HB
        have HO_353001 := n0_; have HO_361001 := n1_; have HO_361002 := n2_; have BK331 := n3_; have BK332 := n4_; have BK352 := n5_; have BK360 := n6_; have HB := n7_
        clear n0_ n1_ n2_ n3_ n4_ n5_ n6_ n7_
        refine start_ (n := 5) (S := fun w' => w'.cell? ⟨gb352, 0, none⟩ = some (.int .i64 t348) ∧ w'.cell? ⟨gb352, 1, none⟩ = some (.slice Ao46 t349.length co46) ∧ w'.cell? ⟨gb331, 0, none⟩ = some (.int .i64 a0_0) ∧ w'.cell? ⟨gb331, 1, none⟩ = some (.slice A0_1 l0_1.length c0_1)) (ds := []) #[false, false, false, false, false] (by kernel_rfl) rfl rfl ⟨(blk_cell BK352.out 0).trans rfl, (blk_cell BK352.out 1).trans rfl, (blk_cell BK331.out 0).trans rfl, (blk_cell BK331.out 1).trans rfl⟩ (fun hHeld => ?_)
        generalize wc.drew = w66 at HO_353001 HO_361001 HO_361002 BK331 BK332 BK352 BK360 HB hHeld ⊢
        refine take_ (i := 0) (N := some 48) (v := ?_) (a' := ?_) (bl 5 1) rfl rfl (by kernel_rfl) (fun _ _ _ h => h) (Or.inl ⟨by rfl, ?_⟩) hHeld ?_ ?_
        rotate_left
        ·rintro w' ⟨s0, s1, s2, s3⟩
         go_simp
         with_reducible rfl
        rotate_left
        ·simp only [Act.put, ls, lz, ln, i64_w, i32_w]
         rfl
        refine take_ (i := 1) (N := some 49) (v := ?_) (a' := ?_) (bl 5 3) rfl rfl (by kernel_rfl) (fun _ _ _ h => h) (Or.inl ⟨by rfl, ?_⟩) hHeld ?_ ?_
        rotate_left
        ·rintro w' ⟨s0, s1, s2, s3⟩
         go_simp
         with_reducible rfl
        rotate_left
        ·simp only [Act.put, ls, lz, ln, i64_w, i32_w]
         rfl
        refine one_ (i := 2) (N := some 50) (bl 5 7) rfl rfl (by kernel_rfl) (by decide) (fun K hK => ?_)
        refine goes_ Try.func18 (by kernel_rfl) rfl #[.agg #[.int .i64 a0_0, .slice A0_1 l0_1.length c0_1]] (by rfl) rfl rfl (by (try simp only [la, lb, lc]); first | done | rfl | (simp only [ld, le]; rfl)) ?_
        with_reducible refine (laws_toMoments.calls kj24 a0_0 _ _ l0_1 t363 t364 _ ?side1 ?side2 A60.out).mono ?_
        (case side1 => exact uC ((Kd.C_below HR0_1.out HB.out)))
        (case side2 => exact HC0_1.out)
        rintro e w67 ⟨v365, rfl, ho0, hb⟩
        refine ⟨_, rfl, ?_⟩
        have n0_ := zA (Kd.R_elder' (uR HO_353001.out) (Kd.R_base ho0) hb)
        have n1_ := zA (Kd.R_elder' (uR HO_361001.out) (Kd.R_base ho0) hb)
        have n2_ := zA (Kd.R_elder' (uR HO_361002.out) (Kd.R_base ho0) hb)
        have n3_ := zA (Kd.R_lower (Kd.R_new' (Kd.R_new' (Kd.R_new' ho0 (Kd.R_lt (uR HO_353001.out))) (Kd.R_lt (uR HO_361001.out))) (Kd.R_lt (uR HO_361002.out))) (below_size (uH HB.out)))
        have n4_ := xB BK331 hb
        have n5_ := xB BK332 hb
        have n6_ := xB BK352 hb
        have n7_ := xB BK360 hb
        have n8_ := xH HB hb
        clear HO_353001 HO_361001 HO_361002 BK331 BK332 BK352 BK360 HB
        have HO_353001 := n0_; have HO_361001 := n1_; have HO_361002 := n2_; have HO366 := n3_; have BK331 := n4_; have BK332 := n5_; have BK352 := n6_; have BK360 := n7_; have HB := n8_
        clear n0_ n1_ n2_ n3_ n4_ n5_ n6_ n7_ n8_
        (try clear hb); (try clear hb2); (try clear hk); (try clear hi); (try clear ho0)
        obtain ⟨Ao68, co68, eo68⟩ := Kd.R_slice HO366.out
        (first | subst eo68 | (injection eo68 with f1_ f2_ f3_; have f4_ := f1_.symm; have f5_ := f3_.symm; clear f1_ f2_ f3_; subst f4_; subst f5_))
        refine hK.out _ _ ⟨(blk_cell BK352.out 0).trans rfl, (blk_cell BK352.out 1).trans rfl, (blk_cell BK331.out 0).trans rfl, (blk_cell BK331.out 1).trans rfl⟩ (fun hHeld => ?_)
        clear hK K
        refine no_ 50 ?_
        refine one_ (i := 3) (N := some 51) (bl 5 15) rfl rfl (by kernel_rfl) (by decide) (fun K hK => ?_)
        refine goes_ Try.func22 (by kernel_rfl) rfl #[.agg #[.int .i64 t348, .slice Ao46 t349.length co46], .agg #[.int .i64 t363, .slice Ao68 t364.length co68]] (by rfl) rfl rfl (by (try simp only [la, lb, lc]); first | done | rfl | (simp only [ld, le]; rfl)) ?_
        with_reducible refine (laws_eqMoments.calls kj24 t348 _ _ t349 t363 _ _ t364 true _ ?side1 ?side2 ?side3 ?side4 A61.out).mono ?_
        (case side1 => exact uC ((Kd.R_reads' HO_353001.out).2.2))
        (case side2 => exact (Kd.R_reads' HO_353001.out).2.1)
        (case side3 => exact uC ((Kd.R_reads' HO366.out).2.2))
        (case side4 => exact (Kd.R_reads' HO366.out).2.1)
        rintro e w69 ⟨rfl, hb⟩
        refine ⟨_, rfl, ?_⟩
        have n0_ := xR HO_353001 hb
        have n1_ := xR HO_361001 hb
        have n2_ := xR HO_361002 hb
        have n3_ := xR HO366 hb
        have n4_ := xB BK331 hb
        have n5_ := xB BK332 hb
        have n6_ := xB BK352 hb
        have n7_ := xB BK360 hb
        have n8_ := xH HB hb
        clear HO_353001 HO_361001 HO_361002 HO366 BK331 BK332 BK352 BK360 HB
        have HO_353001 := n0_; have HO_361001 := n1_; have HO_361002 := n2_; have HO366 := n3_; have BK331 := n4_; have BK332 := n5_; have BK352 := n6_; have BK360 := n7_; have HB := n8_
        clear n0_ n1_ n2_ n3_ n4_ n5_ n6_ n7_ n8_
        (try clear hb); (try clear hb2); (try clear hk); (try clear hi)
        refine hK.out _ _ ⟨(blk_cell BK352.out 0).trans rfl, (blk_cell BK352.out 1).trans rfl, (blk_cell BK331.out 0).trans rfl, (blk_cell BK331.out 1).trans rfl⟩ (fun hHeld => ?_)
        clear hK K
        refine no_ 51 ?_
        refine pure_ (i := 4) (N := some 52) (v := ?_) (a' := ?_) (bl 5 31) rfl rfl (by kernel_rfl) (fun _ _ _ h => h) (Or.inl ⟨by rfl, ?_⟩) ?_ ?_
        rotate_left
        ·intro w'
         go_simp
         with_reducible rfl
        rotate_left
        ·simp only [Act.put, ls, lz, ln, i64_w, i32_w]
         rfl
        refine done_ (by kernel_rfl) ?_
        try go_wp2
        have n0_ := zA (Kd.R_drew HO_353001.out)
        have n1_ := zA (Kd.R_drew HO_361001.out)
        have n2_ := zA (Kd.R_drew HO_361002.out)
        have n3_ := zA (Kd.R_drew HO366.out)
        have n4_ := zA (blk_drew BK331.out)
        have n5_ := zA (blk_drew BK332.out)
        have n6_ := zA (blk_drew BK352.out)
        have n7_ := zA (blk_drew BK360.out)
        have n8_ := zA (below_drew1 HB.out)
        clear HO_353001 HO_361001 HO_361002 HO366 BK331 BK332 BK352 BK360 HB
        have HO_353001 := n0_; have HO_361001 := n1_; have HO_361002 := n2_; have HO366 := n3_; have BK331 := n4_; have BK332 := n5_; have BK352 := n6_; have BK360 := n7_; have HB := n8_
        clear n0_ n1_ n2_ n3_ n4_ n5_ n6_ n7_ n8_
        refine start_ (n := 5) (S := fun w' => w'.cell? ⟨gb360, 0, none⟩ = some (.int .i64 t353) ∧ w'.cell? ⟨gb360, 1, none⟩ = some (.slice Ao54 t354.length co54) ∧ w'.cell? ⟨gb360, 2, none⟩ = some (.slice Ao55 t357.length co55) ∧ w'.cell? ⟨gb332, 0, none⟩ = some (.int .i64 a1_0) ∧ w'.cell? ⟨gb332, 1, none⟩ = some (.slice A1_1 l1_1.length c1_1) ∧ w'.cell? ⟨gb332, 2, none⟩ = some (.slice A1_2 l1_2.length c1_2)) (ds := []) #[false, false, false, false, false] (by kernel_rfl) rfl rfl ⟨(blk_cell BK360.out 0).trans rfl, (blk_cell BK360.out 1).trans rfl, (blk_cell BK360.out 2).trans rfl, (blk_cell BK332.out 0).trans rfl, (blk_cell BK332.out 1).trans rfl, (blk_cell BK332.out 2).trans rfl⟩ (fun hHeld => ?_)
        generalize w69.drew = w70 at HO_353001 HO_361001 HO_361002 HO366 BK331 BK332 BK352 BK360 HB hHeld ⊢
        refine take_ (i := 0) (N := some 53) (v := ?_) (a' := ?_) (bl 5 1) rfl rfl (by kernel_rfl) (fun _ _ _ h => h) (Or.inl ⟨by rfl, ?_⟩) hHeld ?_ ?_
        rotate_left
        ·rintro w' ⟨s0, s1, s2, s3, s4, s5⟩
         go_simp
         with_reducible rfl
        rotate_left
        ·simp only [Act.put, ls, lz, ln, i64_w, i32_w]
         rfl
        refine take_ (i := 1) (N := some 54) (v := ?_) (a' := ?_) (bl 5 3) rfl rfl (by kernel_rfl) (fun _ _ _ h => h) (Or.inl ⟨by rfl, ?_⟩) hHeld ?_ ?_
        rotate_left
        ·rintro w' ⟨s0, s1, s2, s3, s4, s5⟩
         go_simp
         with_reducible rfl
        rotate_left
        ·simp only [Act.put, ls, lz, ln, i64_w, i32_w]
         rfl
        refine one_ (i := 2) (N := some 55) (bl 5 7) rfl rfl (by kernel_rfl) (by decide) (fun K hK => ?_)
        refine goes_ Try.func19 (by kernel_rfl) rfl #[.agg #[.int .i64 a1_0, .slice A1_1 l1_1.length c1_1, .slice A1_2 l1_2.length c1_2]] (by rfl) rfl rfl (by (try simp only [la, lb, lc]); first | done | rfl | (simp only [ld, le]; rfl)) ?_
        with_reducible refine (laws_toRule.calls kj24 a1_0 _ _ l1_1 _ _ l1_2 t368 t369 t372 _ ?side1 ?side2 ?side3 ?side4 A63.out).mono ?_
        (case side1 => exact uC ((Kd.C_below HR1_1.out HB.out)))
        (case side2 => exact HC1_1.out)
        (case side3 => exact uC ((Kd.C_below HR1_2.out HB.out)))
        (case side4 => exact HC1_2.out)
        rintro e w71 ⟨v370, v373, rfl, ho0, ho1, hb⟩
        refine ⟨_, rfl, ?_⟩
        have n0_ := zA (Kd.R_mono (Kd.R_told (Kd.R_told (Kd.R_old (uR HO_353001.out) hb) (Kd.R_base ho0)) (Kd.R_base ho1)) (fun _ h_ => h_.1))
        have n1_ := zA (Kd.R_mono (Kd.R_told (Kd.R_told (Kd.R_old (uR HO_361001.out) hb) (Kd.R_base ho0)) (Kd.R_base ho1)) (fun _ h_ => h_.1))
        have n2_ := zA (Kd.R_mono (Kd.R_told (Kd.R_told (Kd.R_old (uR HO_361002.out) hb) (Kd.R_base ho0)) (Kd.R_base ho1)) (fun _ h_ => h_.1))
        have n3_ := zA (Kd.R_mono (Kd.R_told (Kd.R_told (Kd.R_old (uR HO366.out) hb) (Kd.R_base ho0)) (Kd.R_base ho1)) (fun _ h_ => h_.1))
        have n4_ := zA (Kd.R_lower (Kd.R_new' (Kd.R_new' (Kd.R_new' (Kd.R_new' ho0 (Kd.R_lt (uR HO_353001.out))) (Kd.R_lt (uR HO_361001.out))) (Kd.R_lt (uR HO_361002.out))) (Kd.R_lt (uR HO366.out))) (below_size (uH HB.out)))
        have n5_ := zA (Kd.R_lower (Kd.R_new' (Kd.R_new' (Kd.R_new' (Kd.R_new' ho1 (Kd.R_lt (uR HO_353001.out))) (Kd.R_lt (uR HO_361001.out))) (Kd.R_lt (uR HO_361002.out))) (Kd.R_lt (uR HO366.out))) (below_size (uH HB.out)))
        have n6_ := xB BK331 hb
        have n7_ := xB BK332 hb
        have n8_ := xB BK352 hb
        have n9_ := xB BK360 hb
        have n10_ := xH HB hb
        clear HO_353001 HO_361001 HO_361002 HO366 BK331 BK332 BK352 BK360 HB
        have HO_353001 := n0_; have HO_361001 := n1_; have HO_361002 := n2_; have HO366 := n3_; have HO371 := n4_; have HO374 := n5_; have BK331 := n6_; have BK332 := n7_; have BK352 := n8_; have BK360 := n9_; have HB := n10_
        clear n0_ n1_ n2_ n3_ n4_ n5_ n6_ n7_ n8_ n9_ n10_
        (try clear hb); (try clear hb2); (try clear hk); (try clear hi); (try clear ho0); (try clear ho1)
        obtain ⟨Ao72, co72, eo72⟩ := Kd.R_slice HO371.out
        (first | subst eo72 | (injection eo72 with f1_ f2_ f3_; have f4_ := f1_.symm; have f5_ := f3_.symm; clear f1_ f2_ f3_; subst f4_; subst f5_))
        obtain ⟨Ao73, co73, eo73⟩ := Kd.R_slice HO374.out
        (first | subst eo73 | (injection eo73 with f1_ f2_ f3_; have f4_ := f1_.symm; have f5_ := f3_.symm; clear f1_ f2_ f3_; subst f4_; subst f5_))
        refine hK.out _ _ ⟨(blk_cell BK360.out 0).trans rfl, (blk_cell BK360.out 1).trans rfl, (blk_cell BK360.out 2).trans rfl, (blk_cell BK332.out 0).trans rfl, (blk_cell BK332.out 1).trans rfl, (blk_cell BK332.out 2).trans rfl⟩ (fun hHeld => ?_)
        clear hK K
        refine no_ 55 ?_
        refine one_ (i := 3) (N := some 56) (bl 5 15) rfl rfl (by kernel_rfl) (by decide) (fun K hK => ?_)
        refine goes_ Try.func23 (by kernel_rfl) rfl #[.agg #[.int .i64 t353, .slice Ao54 t354.length co54, .slice Ao55 t357.length co55], .agg #[.int .i64 t368, .slice Ao72 t369.length co72, .slice Ao73 t372.length co73]] (by rfl) rfl rfl (by (try simp only [la, lb, lc]); first | done | rfl | (simp only [ld, le]; rfl)) ?_
        with_reducible refine (laws_eqRule.calls kj24 t353 _ _ t354 _ _ t357 t368 _ _ t369 _ _ t372 true _ ?side1 ?side2 ?side3 ?side4 ?side5 ?side6 ?side7 ?side8 A64.out).mono ?_
        (case side1 => exact uC ((Kd.R_reads' HO_361001.out).2.2))
        (case side2 => exact (Kd.R_reads' HO_361001.out).2.1)
        (case side3 => exact uC ((Kd.R_reads' HO_361002.out).2.2))
        (case side4 => exact (Kd.R_reads' HO_361002.out).2.1)
        (case side5 => exact uC ((Kd.R_reads' HO371.out).2.2))
        (case side6 => exact (Kd.R_reads' HO371.out).2.1)
        (case side7 => exact uC ((Kd.R_reads' HO374.out).2.2))
        (case side8 => exact (Kd.R_reads' HO374.out).2.1)
        rintro e w74 ⟨rfl, hb⟩
        refine ⟨_, rfl, ?_⟩
        have n0_ := xR HO_353001 hb
        have n1_ := xR HO_361001 hb
        have n2_ := xR HO_361002 hb
        have n3_ := xR HO366 hb
        have n4_ := xR HO371 hb
        have n5_ := xR HO374 hb
        have n6_ := xB BK331 hb
        have n7_ := xB BK332 hb
        have n8_ := xB BK352 hb
        have n9_ := xB BK360 hb
        have n10_ := xH HB hb
        clear HO_353001 HO_361001 HO_361002 HO366 HO371 HO374 BK331 BK332 BK352 BK360 HB
        have HO_353001 := n0_; have HO_361001 := n1_; have HO_361002 := n2_; have HO366 := n3_; have HO371 := n4_; have HO374 := n5_; have BK331 := n6_; have BK332 := n7_; have BK352 := n8_; have BK360 := n9_; have HB := n10_
        clear n0_ n1_ n2_ n3_ n4_ n5_ n6_ n7_ n8_ n9_ n10_
        (try clear hb); (try clear hb2); (try clear hk); (try clear hi)
        refine hK.out _ _ ⟨(blk_cell BK360.out 0).trans rfl, (blk_cell BK360.out 1).trans rfl, (blk_cell BK360.out 2).trans rfl, (blk_cell BK332.out 0).trans rfl, (blk_cell BK332.out 1).trans rfl, (blk_cell BK332.out 2).trans rfl⟩ (fun hHeld => ?_)
        clear hK K
        refine no_ 56 ?_
        refine pure_ (i := 4) (N := some 57) (v := ?_) (a' := ?_) (bl 5 31) rfl rfl (by kernel_rfl) (fun _ _ _ h => h) (Or.inl ⟨by rfl, ?_⟩) ?_ ?_
        rotate_left
        ·intro w'
         go_simp
         with_reducible rfl
        rotate_left
        ·simp only [Act.put, ls, lz, ln, i64_w, i32_w]
         rfl
        refine done_ (by kernel_rfl) ?_
        try go_wp2
        go_ret
        exact ⟨by first | rfl | (simp [errW_none, errW_some] <;> rfl) | (simp [*, errW_none, errW_some] <;> rfl), uH HB.out⟩
       ·replace c65 := Bool.eq_false_iff.mpr c65
        subst c65
        have H1 : (some false) = some r := by rw [if_neg (show ¬ (false = true) by decide)] at H; exact H
        clear H
        have H := H1
        clear H1
        rw [HRT.out] at H
        exact absurd H (by simp)
      ·replace c62 := Bool.eq_false_iff.mpr c62
       subst c62
       have H1 : (some false) = some r := by rw [if_neg (show ¬ (false = true) by decide)] at H; exact H
       clear H
       have H := H1
       clear H1
       rw [HRT.out] at H
       exact absurd H (by simp)

/-- THE ONE PURE STATEMENT of laws_FnExactDegreeOfRule: yours. -/
def laws_FnExactDegreeOfRule.Pure : Prop := ∀ (a0_0 : Int) (l0_1 : List Int) (a1_0 : Int) (l1_1 : List Int) (l1_2 : List Int), (Lit.int .i64 a0_0).wf = true → l0_1.length ≤ maxLen → (∀ x ∈ l0_1, (Lit.int .i64 x).wf = true) → (Lit.int .i64 a1_0).wf = true → l1_1.length ≤ maxLen → (∀ x ∈ l1_1, (Lit.int .i64 x).wf = true) → l1_2.length ≤ maxLen → (∀ x ∈ l1_2, (Lit.int .i64 x).wf = true) → ∃ k, laws_FnExactDegreeOfRule.f k a0_0 l0_1 a1_0 l1_1 l1_2 = some true
theorem laws_FnExactDegreeOfRule.walk (P : laws_FnExactDegreeOfRule.Pure) (a0_0 : Int) (a0_1 : Option Addr) (len0_1 cap0_1 : Nat) (z0_1 : List Int) (a1_0 : Int) (a1_1 : Option Addr) (len1_1 cap1_1 : Nat) (z1_1 : List Int) (a1_2 : Option Addr) (len1_2 cap1_2 : Nat) (z1_2 : List Int) (w : World) (w0_0 : (Lit.int .i64 a0_0).wf = true) (w0_1 : (a0_1 = none ∧ len0_1 = 0 ∧ cap0_1 = 0 ∧ z0_1 = []) ∨ ∃ x, a0_1 = some x ∧ len0_1 ≤ cap0_1 ∧ cap0_1 ≤ maxLen ∧ z0_1.length = cap0_1 ∧ (∀ i, i < z0_1.length → w.cell? (x.add i) = some (.int .i64 (z0_1.getD i 0))) ∧ ∀ n ∈ z0_1, (Lit.int .i64 n).wf = true) (w1_0 : (Lit.int .i64 a1_0).wf = true) (w1_1 : (a1_1 = none ∧ len1_1 = 0 ∧ cap1_1 = 0 ∧ z1_1 = []) ∨ ∃ x, a1_1 = some x ∧ len1_1 ≤ cap1_1 ∧ cap1_1 ≤ maxLen ∧ z1_1.length = cap1_1 ∧ (∀ i, i < z1_1.length → w.cell? (x.add i) = some (.int .i64 (z1_1.getD i 0))) ∧ ∀ n ∈ z1_1, (Lit.int .i64 n).wf = true) (w1_2 : (a1_2 = none ∧ len1_2 = 0 ∧ cap1_2 = 0 ∧ z1_2 = []) ∨ ∃ x, a1_2 = some x ∧ len1_2 ≤ cap1_2 ∧ cap1_2 ≤ maxLen ∧ z1_2.length = cap1_2 ∧ (∀ i, i < z1_2.length → w.cell? (x.add i) = some (.int .i64 (z1_2.getD i 0))) ∧ ∀ n ∈ z1_2, (Lit.int .i64 n).wf = true) :
  Calls Try.prog 4 #[.agg #[.int .i64 a0_0, .slice a0_1 len0_1 cap0_1], .agg #[.int .i64 a1_0, .slice a1_1 len1_1 cap1_1, .slice a1_2 len1_2 cap1_2]] w fun e w' => e = .returned (.bool true) ∧ Below w.heap.size w w' := by
 obtain ⟨l0_1, rfl, hr0_1, hm0_1, hw0_1, hc0_1⟩ := ReadsInt.ofRowC w0_1
 obtain ⟨l1_1, rfl, hr1_1, hm1_1, hw1_1, hc1_1⟩ := ReadsInt.ofRowC w1_1
 obtain ⟨l1_2, rfl, hr1_2, hm1_2, hw1_2, hc1_2⟩ := ReadsInt.ofRowC w1_2
 obtain ⟨k, h⟩ := P a0_0 l0_1 a1_0 l1_1 l1_2 w0_0 hm0_1 hw0_1 w1_0 hm1_1 hw1_1 hm1_2 hw1_2
 refine (laws_FnExactDegreeOfRule.calls k a0_0 _ _ l0_1 a1_0 _ _ l1_1 _ _ l1_2 true rfl w (Kd.C_of_reads (d := (0 : Int)) (h1 := fun _ => rfl) hr0_1) hc0_1 (Kd.C_of_reads (d := (0 : Int)) (h1 := fun _ => rfl) hr1_1) hc1_1 (Kd.C_of_reads (d := (0 : Int)) (h1 := fun _ => rfl) hr1_2) hc1_2 h).mono ?_
 rintro e w' ⟨rfl, hd⟩
 exact ⟨rfl, hd⟩

end Go.Proofs.Ytokkabgkjhpecaa.Pr
