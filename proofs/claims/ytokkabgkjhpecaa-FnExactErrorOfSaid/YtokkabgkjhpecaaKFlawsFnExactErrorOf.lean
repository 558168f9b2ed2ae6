/- Printed by a program of this session out of the translation: what these functions of the program compute, under the conditions that each theorem names. -/
import Derived.Test.YtokkabgkjhpecaaKC01
import Derived.Test.YtokkabgkjhpecaaKC06
import Derived.Test.YtokkabgkjhpecaaKC02
import Derived.Test.YtokkabgkjhpecaaKErrorOf1
import Derived.Test.YtokkabgkjhpecaaKC03
namespace Go.Proofs.Ytokkabgkjhpecaa.Pr
open Go.RowKit Go.Proofs.YtokkabgkjhpecaaW.PrintWords Go.Proofs.YtokkabgkjhpecaaW.PrintLast Go.Proofs.YtokkabgkjhpecaaW.PrintMore
attribute [local go_sem] max2_int min2_int max_two min_two max_three min_three max_four min_four   -- for this text's walks alone
set_option linter.unusedVariables false
set_option linter.unusedSimpArgs false

/-! ### laws_FnExactErrorOf: function 3 -/
def laws_FnExactErrorOf.j0 : Nat → List Int → List Int → Bool → Int → List Int → Int → List Int → List Int → Int → List Int → Int → List Int → List Int → Option (Bool)
 | 0, _, _, _, _, _, _, _, _, _, _, _, _, _ => none
 | k + 1, x2, x12, x58, x244000, x244001, x245000, x245001, x245002, x268000, x268001, x276000, x276001, x276002 => if x58 = true then (some false) else ((laws_toMoments.f k x244000 x244001).bind fun bt281 => ((laws_eqMoments.f k x268000 x268001 bt281.1 bt281.2).bind fun t285 => (if t285 = true then ((laws_toRule.f k x245000 x245001 x245002).bind fun bt286 => ((laws_eqRule.f k x276000 x276001 x276002 bt286.1 bt286.2.1 bt286.2.2).bind fun t293 => (if t293 = true then ((laws_toInt64S.f k x2).bind fun t294 => ((laws_eqInt64S.f k x12 t294).bind fun t297 => (if t297 = true then (some true) else (some false)))) else (some false)))) else (some false))))
def laws_FnExactErrorOf.f (k : Nat) (a0_0 : Int) (l0_1 : List Int) (a1_0 : Int) (l1_1 : List Int) (l1_2 : List Int) (l2 : List Int) : Option (Bool) := if (l2.length : Int) > 1048576 then (some true) else ((laws_szMoments.f a0_0 l0_1 1048576).bind fun t245 => (if t245 < 0 then (some true) else ((laws_szRule.f a1_0 l1_1 l1_2 t245).bind fun t246 => (if t246 < 0 then (some true) else ((laws_toMoments.f k a0_0 l0_1).bind fun bt247 => ((laws_toRule.f k a1_0 l1_1 l1_2).bind fun bt251 => ((laws_toInt64S.f k l2).bind fun t258 => ((spec_ErrorOf.f k bt247.1 bt247.2 bt251.1 bt251.2.1 bt251.2.2 t258).bind fun bt261 => ((laws_toMoments.f k a0_0 l0_1).bind fun bt263 => ((laws_toRule.f k a1_0 l1_1 l1_2).bind fun bt268 => ((laws_toInt64S.f k l2).bind fun t276 => ((impl_ErrorOf.f k bt263.1 bt263.2 bt268.1 bt268.2.1 bt268.2.2 t276).bind fun bt279 => (if bt279.1 = bt261.1 then (laws_FnExactErrorOf.j0 k l2 t276 (bt279.2 != bt261.2) a0_0 l0_1 a1_0 l1_1 l1_2 bt263.1 bt263.2 bt268.1 bt268.2.1 bt268.2.2) else (laws_FnExactErrorOf.j0 k l2 t276 true a0_0 l0_1 a1_0 l1_1 l1_2 bt263.1 bt263.2 bt268.1 bt268.2.1 bt268.2.2))))))))))))))
theorem laws_FnExactErrorOf.mono_l : ∀ k, (∀ y0 y1 y2 y3 y4 y5 y6 y7 y8 y9 y10 y11 y12, LeO (laws_FnExactErrorOf.j0 k y0 y1 y2 y3 y4 y5 y6 y7 y8 y9 y10 y11 y12) (laws_FnExactErrorOf.j0 (k + 1) y0 y1 y2 y3 y4 y5 y6 y7 y8 y9 y10 y11 y12))
 | 0 => fun _ _ _ _ _ _ _ _ _ _ _ _ _ r h => by simp [laws_FnExactErrorOf.j0] at h
 | k + 1 => by
  have ih0 := laws_FnExactErrorOf.mono_l k
  ·intro y0 y1 y2 y3 y4 y5 y6 y7 y8 y9 y10 y11 y12
   unfold laws_FnExactErrorOf.j0
   repeat' first
   | (with_reducible exact ih0 _ _ _ _ _ _ _ _ _ _ _ _ _)
   | (with_reducible exact impl_ErrorOf.mono _ _ _ _ _ _ _)
   | (with_reducible exact laws_eqInt64S.mono _ _ _)
   | (with_reducible exact laws_eqMoments.mono _ _ _ _ _)
   | (with_reducible exact laws_eqRule.mono _ _ _ _ _ _ _)
   | (with_reducible exact laws_toInt64S.mono _ _)
   | (with_reducible exact laws_toMoments.mono _ _ _)
   | (with_reducible exact laws_toRule.mono _ _ _ _)
   | (with_reducible exact spec_ErrorOf.mono _ _ _ _ _ _ _)
   | (with_reducible exact LeO.refl _)
   | (with_reducible exact LeO.none _)
   | (with_reducible refine LeO.ite ?_ ?_)
   | (with_reducible refine LeO.bind ?_ (fun _ => ?_))
   | exact ih0 _ _ _ _ _ _ _ _ _ _ _ _ _
   | exact impl_ErrorOf.mono _ _ _ _ _ _ _
   | exact laws_eqInt64S.mono _ _ _
   | exact laws_eqMoments.mono _ _ _ _ _
   | exact laws_eqRule.mono _ _ _ _ _ _ _
   | exact laws_toInt64S.mono _ _
   | exact laws_toMoments.mono _ _ _
   | exact laws_toRule.mono _ _ _ _
   | exact spec_ErrorOf.mono _ _ _ _ _ _ _
   | exact LeO.none _
   | refine LeO.ite ?_ ?_
   | refine LeO.bind ?_ (fun _ => ?_)
theorem laws_FnExactErrorOf.mono : ∀ a0 a1 a2 a3 a4 a5 k, LeO (laws_FnExactErrorOf.f k a0 a1 a2 a3 a4 a5) (laws_FnExactErrorOf.f (k + 1) a0 a1 a2 a3 a4 a5) := by
 intro a0 a1 a2 a3 a4 a5 k
 have ih0 := laws_FnExactErrorOf.mono_l k
 unfold laws_FnExactErrorOf.f
 repeat' first
   | (with_reducible exact ih0 _ _ _ _ _ _ _ _ _ _ _ _ _)
   | (with_reducible exact impl_ErrorOf.mono _ _ _ _ _ _ _)
   | (with_reducible exact laws_eqInt64S.mono _ _ _)
   | (with_reducible exact laws_eqMoments.mono _ _ _ _ _)
   | (with_reducible exact laws_eqRule.mono _ _ _ _ _ _ _)
   | (with_reducible exact laws_toInt64S.mono _ _)
   | (with_reducible exact laws_toMoments.mono _ _ _)
   | (with_reducible exact laws_toRule.mono _ _ _ _)
   | (with_reducible exact spec_ErrorOf.mono _ _ _ _ _ _ _)
   | (with_reducible exact LeO.refl _)
   | (with_reducible exact LeO.none _)
   | (with_reducible refine LeO.ite ?_ ?_)
   | (with_reducible refine LeO.bind ?_ (fun _ => ?_))
   | exact ih0 _ _ _ _ _ _ _ _ _ _ _ _ _
   | exact impl_ErrorOf.mono _ _ _ _ _ _ _
   | exact laws_eqInt64S.mono _ _ _
   | exact laws_eqMoments.mono _ _ _ _ _
   | exact laws_eqRule.mono _ _ _ _ _ _ _
   | exact laws_toInt64S.mono _ _
   | exact laws_toMoments.mono _ _ _
   | exact laws_toRule.mono _ _ _ _
   | exact spec_ErrorOf.mono _ _ _ _ _ _ _
   | exact LeO.none _
   | refine LeO.ite ?_ ?_
   | refine LeO.bind ?_ (fun _ => ?_)
def laws_FnExactErrorOf.T10 : Bool × List (List Nat × List Nat) := (true, [([], []), ([0], [0]), ([], []), ([2, 1], [2]), ([], []), ([4, 3], [4]), ([1, 3, 5, 5], [1, 3, 5]), ([6], [6]), ([7], [7]), ([7], [7]), ([8, 6, 0, 1, 2, 3, 4, 5, 6, 7, 8], [8]), ([9, 10, 0, 1, 2, 3, 4, 5, 6, 7, 8, 9, 10], [9])])
def laws_FnExactErrorOf.B10 : List Nat := [0, 1, 0, 7, 0, 31, 63, 127, 255, 255, 511, 2047]
theorem laws_FnExactErrorOf.tab10 : rtab .any (opsOf Try.f3 10) = laws_FnExactErrorOf.T10 := by kernel_rfl
theorem laws_FnExactErrorOf.bits10 : waitsOk laws_FnExactErrorOf.T10.2 laws_FnExactErrorOf.B10 = true := by kernel_rfl
set_option maxHeartbeats 8000000 in
set_option maxRecDepth 100000 in
theorem laws_FnExactErrorOf.calls (k : Nat) (a0_0 : Int) (A0_1 : Option Addr) (c0_1 : Nat) (l0_1 : List Int) (a1_0 : Int) (A1_1 : Option Addr) (c1_1 : Nat) (l1_1 : List Int) (A1_2 : Option Addr) (c1_2 : Nat) (l1_2 : List Int) (A2 : Option Addr) (c2 : Nat) (l2 : List Int) (r : Bool) (hr_ : r = true) (w : World) (hr0_1 : Kd.C (Kd.int .i64) w A0_1 l0_1.length l0_1) (hc0_1 : l0_1.length ≤ c0_1) (hr1_1 : Kd.C (Kd.int .i64) w A1_1 l1_1.length l1_1) (hc1_1 : l1_1.length ≤ c1_1) (hr1_2 : Kd.C (Kd.int .i64) w A1_2 l1_2.length l1_2) (hc1_2 : l1_2.length ≤ c1_2) (hr2 : Kd.C (Kd.int .i64) w A2 l2.length l2) (hc2 : l2.length ≤ c2) (h : laws_FnExactErrorOf.f k a0_0 l0_1 a1_0 l1_1 l1_2 l2 = some r) :
  Calls Try.prog 3 #[.agg #[.int .i64 a0_0, .slice A0_1 l0_1.length c0_1], .agg #[.int .i64 a1_0, .slice A1_1 l1_1.length c1_1, .slice A1_2 l1_2.length c1_2], .slice A2 l2.length c2] w fun e w' => e = .returned (.bool r) ∧ Below w.heap.size w w' := by
 have hu24 := Try.underlying24
 have hu26 := Try.underlying26
 have hu31 := Try.underlying31
 have hu33 := Try.underlying33
 have HRT := zA hr_
 clear hr_
 have HR0_1 := zA hr0_1
 have HC0_1 := zA hc0_1
 clear hr0_1 hc0_1
 have HR1_1 := zA hr1_1
 have HC1_1 := zA hc1_1
 clear hr1_1 hc1_1
 have HR1_2 := zA hr1_2
 have HC1_2 := zA hc1_2
 clear hr1_2 hc1_2
 have HR2 := zA hr2
 have HC2 := zA hc2
 clear hr2 hc2
 have HB := zA (Below.refl w.heap.size w)
 have H : (if (l2.length : Int) > 1048576 then (some true) else ((laws_szMoments.f a0_0 l0_1 1048576).bind fun t245 => (if t245 < 0 then (some true) else ((laws_szRule.f a1_0 l1_1 l1_2 t245).bind fun t246 => (if t246 < 0 then (some true) else ((laws_toMoments.f k a0_0 l0_1).bind fun bt247 => ((laws_toRule.f k a1_0 l1_1 l1_2).bind fun bt251 => ((laws_toInt64S.f k l2).bind fun t258 => ((spec_ErrorOf.f k bt247.1 bt247.2 bt251.1 bt251.2.1 bt251.2.2 t258).bind fun bt261 => ((laws_toMoments.f k a0_0 l0_1).bind fun bt263 => ((laws_toRule.f k a1_0 l1_1 l1_2).bind fun bt268 => ((laws_toInt64S.f k l2).bind fun t276 => ((impl_ErrorOf.f k bt263.1 bt263.2 bt268.1 bt268.2.1 bt268.2.2 t276).bind fun bt279 => (if bt279.1 = bt261.1 then (laws_FnExactErrorOf.j0 k l2 t276 (bt279.2 != bt261.2) a0_0 l0_1 a1_0 l1_1 l1_2 bt263.1 bt263.2 bt268.1 bt268.2.1 bt268.2.2) else (laws_FnExactErrorOf.j0 k l2 t276 true a0_0 l0_1 a1_0 l1_1 l1_2 bt263.1 bt263.2 bt268.1 bt268.2.1 bt268.2.2))))))))))))))) = some r := h
 clear h
 by_cases c4 : (l2.length : Int) > 1048576
 ·rw [if_pos c4] at H
  have c4b0 : decide (1048576 < (l2.length : Int)) = true := decide_eq_true c4
  have c4b1 : decide (1048576 < l2.length) = true := decide_eq_true (by omega)
  clear c4
  obtain rfl := Option.some.inj H
  go_enter Try.func3, Try.ntmps3
  go_wp2_with (first | ((with_reducible refine gate_dst (N := 3) rfl ?_); refine box_event ?hg (N := 3) ?hd (cs := #[.int .i64 a0_0, .slice A0_1 l0_1.length c0_1]) (t := 24) ?hr ?_; (case hd => rfl); (case hg => rfl); (case hr => first | (go_simp; done) | (go_simp; rfl)); intro gb243 hg w5 hbox hb; have n0_ := xH HB hb; have n1_ := zA (hbox); have n2_ := zA ((by rw [hg]; exact (below_size (uH HB.out)) : w.heap.size ≤ gb243)); have n3_ := zA ((by rw [hg]; exact (below_size (uH HB.out)) : w.heap.size ≤ gb243)); clear HB; have HB := n0_; have BK243 := n1_; have GW243 := n2_; have GE243 := n3_; have := geI GE243; clear n0_ n1_ n2_ n3_ hb hbox hg) | ((with_reducible refine gate_dst (N := 4) rfl ?_); refine box_event ?hg (N := 4) ?hd (cs := #[.int .i64 a1_0, .slice A1_1 l1_1.length c1_1, .slice A1_2 l1_2.length c1_2]) (t := 26) ?hr ?_; (case hd => rfl); (case hg => rfl); (case hr => first | (go_simp; done) | (go_simp; rfl)); intro gb244 hg w6 hbox hb; have n0_ := xB BK243 hb; have n1_ := xH HB hb; have n2_ := zA (hbox); have n3_ := zA ((by rw [hg]; exact (below_size (uH HB.out)) : w.heap.size ≤ gb244)); have n4_ := zA ((by rw [hg]; exact (below_size (uH HB.out)) : w.heap.size ≤ gb244)); have n5_ := zA ((by rw [hg]; exact neL BK243 : gb243 ≠ gb244)); have n6_ := zA ((by rw [hg]; exact neG BK243 : gb244 ≠ gb243)); clear BK243 HB; have BK243 := n0_; have HB := n1_; have BK244 := n2_; have GW244 := n3_; have GE244 := n4_; have := geI GE244; have NB243_244 := n5_; have NB244_243 := n6_; clear n0_ n1_ n2_ n3_ n4_ n5_ n6_ hb hbox hg))
  go_ret
  exact ⟨by first | rfl | (simp [errW_none, errW_some] <;> rfl) | (simp [*, errW_none, errW_some] <;> rfl), uH HB.out⟩
 ·rw [if_neg c4] at H
  have c4b0 : decide (1048576 < (l2.length : Int)) = false := decide_eq_false c4
  have c4b1 : decide (1048576 < l2.length) = false := decide_eq_false (by omega)
  clear c4
  replace H := Option.bind_eq_some_iff.mp H
  obtain ⟨t245, A70, H⟩ := H
  replace H : (if t245 < 0 then (some true) else ((laws_szRule.f a1_0 l1_1 l1_2 t245).bind fun t246 => (if t246 < 0 then (some true) else ((laws_toMoments.f k a0_0 l0_1).bind fun bt247 => ((laws_toRule.f k a1_0 l1_1 l1_2).bind fun bt251 => ((laws_toInt64S.f k l2).bind fun t258 => ((spec_ErrorOf.f k bt247.1 bt247.2 bt251.1 bt251.2.1 bt251.2.2 t258).bind fun bt261 => ((laws_toMoments.f k a0_0 l0_1).bind fun bt263 => ((laws_toRule.f k a1_0 l1_1 l1_2).bind fun bt268 => ((laws_toInt64S.f k l2).bind fun t276 => ((impl_ErrorOf.f k bt263.1 bt263.2 bt268.1 bt268.2.1 bt268.2.2 t276).bind fun bt279 => (if bt279.1 = bt261.1 then (laws_FnExactErrorOf.j0 k l2 t276 (bt279.2 != bt261.2) a0_0 l0_1 a1_0 l1_1 l1_2 bt263.1 bt263.2 bt268.1 bt268.2.1 bt268.2.2) else (laws_FnExactErrorOf.j0 k l2 t276 true a0_0 l0_1 a1_0 l1_1 l1_2 bt263.1 bt263.2 bt268.1 bt268.2.1 bt268.2.2))))))))))))) = some r := H
  have A7 := zA A70
  clear A70
  by_cases c8 : t245 < 0
  ·rw [if_pos c8] at H
   have c8b0 : decide (t245 < 0) = true := decide_eq_true c8
   clear c8
   obtain rfl := Option.some.inj H
   go_enter Try.func3, Try.ntmps3
   go_wp2_with (first | ((with_reducible refine gate_dst (N := 3) rfl ?_); refine box_event ?hg (N := 3) ?hd (cs := #[.int .i64 a0_0, .slice A0_1 l0_1.length c0_1]) (t := 24) ?hr ?_; (case hd => rfl); (case hg => rfl); (case hr => first | (go_simp; done) | (go_simp; rfl)); intro gb243 hg w9 hbox hb; have n0_ := xH HB hb; have n1_ := zA (hbox); have n2_ := zA ((by rw [hg]; exact (below_size (uH HB.out)) : w.heap.size ≤ gb243)); have n3_ := zA ((by rw [hg]; exact (below_size (uH HB.out)) : w.heap.size ≤ gb243)); clear HB; have HB := n0_; have BK243 := n1_; have GW243 := n2_; have GE243 := n3_; have := geI GE243; clear n0_ n1_ n2_ n3_ hb hbox hg) | ((with_reducible refine gate_dst (N := 4) rfl ?_); refine box_event ?hg (N := 4) ?hd (cs := #[.int .i64 a1_0, .slice A1_1 l1_1.length c1_1, .slice A1_2 l1_2.length c1_2]) (t := 26) ?hr ?_; (case hd => rfl); (case hg => rfl); (case hr => first | (go_simp; done) | (go_simp; rfl)); intro gb244 hg w10 hbox hb; have n0_ := xB BK243 hb; have n1_ := xH HB hb; have n2_ := zA (hbox); have n3_ := zA ((by rw [hg]; exact (below_size (uH HB.out)) : w.heap.size ≤ gb244)); have n4_ := zA ((by rw [hg]; exact (below_size (uH HB.out)) : w.heap.size ≤ gb244)); have n5_ := zA ((by rw [hg]; exact neL BK243 : gb243 ≠ gb244)); have n6_ := zA ((by rw [hg]; exact neG BK243 : gb244 ≠ gb243)); clear BK243 HB; have BK243 := n0_; have HB := n1_; have BK244 := n2_; have GW244 := n3_; have GE244 := n4_; have := geI GE244; have NB243_244 := n5_; have NB244_243 := n6_; clear n0_ n1_ n2_ n3_ n4_ n5_ n6_ hb hbox hg; have hnb11 := NB243_244.out; have hnc11 := NB244_243.out; have hcz12_0 : w10.cell? ⟨gb243, 0, none⟩ = some (.int .i64 a0_0) := (blk_cell BK243.out 0).trans rfl; have hcz12_1 : w10.cell? ⟨gb243, 1, none⟩ = some (.slice A0_1 l0_1.length c0_1) := (blk_cell BK243.out 1).trans rfl; have hfz12_0 := blk_frozen BK243.out 0; have hfz12_1 := blk_frozen BK243.out 1) | ((with_reducible refine gate_callee (f := 15) rfl ?_); refine goesL_ (some 20) rfl rfl Try.func15 (by kernel_rfl) rfl #[.agg #[.int .i64 a0_0, .slice A0_1 l0_1.length c0_1], .int .i64 1048576] rfl (by (try simp only [la, lb, lc]); first | done | rfl | (simp only [ld, le]; rfl)) ?_; (with_reducible refine (laws_szMoments.calls a0_0 _ _ l0_1 1048576 t245 _ ?side1 ?side2 A7.out).mono ?_); (case side1 => exact uC ((Kd.C_below HR0_1.out HB.out))); (case side2 => exact HC0_1.out); rintro e w13 ⟨rfl, hb⟩; refine ⟨_, rfl, ?_⟩; have n0_ := xB BK243 hb; have n1_ := xB BK244 hb; have n2_ := xH HB hb; clear BK243 BK244 HB; have BK243 := n0_; have BK244 := n1_; have HB := n2_; clear n0_ n1_ n2_; (try clear hb); (try clear hb2); (try clear hk); (try clear hi)))
   go_ret
   exact ⟨by first | rfl | (simp [errW_none, errW_some] <;> rfl) | (simp [*, errW_none, errW_some] <;> rfl), uH HB.out⟩
  ·rw [if_neg c8] at H
   have c8b0 : decide (t245 < 0) = false := decide_eq_false c8
   clear c8
   replace H := Option.bind_eq_some_iff.mp H
   obtain ⟨t246, A140, H⟩ := H
   replace H : (if t246 < 0 then (some true) else ((laws_toMoments.f k a0_0 l0_1).bind fun bt247 => ((laws_toRule.f k a1_0 l1_1 l1_2).bind fun bt251 => ((laws_toInt64S.f k l2).bind fun t258 => ((spec_ErrorOf.f k bt247.1 bt247.2 bt251.1 bt251.2.1 bt251.2.2 t258).bind fun bt261 => ((laws_toMoments.f k a0_0 l0_1).bind fun bt263 => ((laws_toRule.f k a1_0 l1_1 l1_2).bind fun bt268 => ((laws_toInt64S.f k l2).bind fun t276 => ((impl_ErrorOf.f k bt263.1 bt263.2 bt268.1 bt268.2.1 bt268.2.2 t276).bind fun bt279 => (if bt279.1 = bt261.1 then (laws_FnExactErrorOf.j0 k l2 t276 (bt279.2 != bt261.2) a0_0 l0_1 a1_0 l1_1 l1_2 bt263.1 bt263.2 bt268.1 bt268.2.1 bt268.2.2) else (laws_FnExactErrorOf.j0 k l2 t276 true a0_0 l0_1 a1_0 l1_1 l1_2 bt263.1 bt263.2 bt268.1 bt268.2.1 bt268.2.2))))))))))) = some r := H
   have A14 := zA A140
   clear A140
   by_cases c15 : t246 < 0
   ·rw [if_pos c15] at H
    have c15b0 : decide (t246 < 0) = true := decide_eq_true c15
    clear c15
    obtain rfl := Option.some.inj H
    go_enter Try.func3, Try.ntmps3
    go_wp2_with (first | ((with_reducible refine gate_dst (N := 3) rfl ?_); refine box_event ?hg (N := 3) ?hd (cs := #[.int .i64 a0_0, .slice A0_1 l0_1.length c0_1]) (t := 24) ?hr ?_; (case hd => rfl); (case hg => rfl); (case hr => first | (go_simp; done) | (go_simp; rfl)); intro gb243 hg w16 hbox hb; have n0_ := xH HB hb; have n1_ := zA (hbox); have n2_ := zA ((by rw [hg]; exact (below_size (uH HB.out)) : w.heap.size ≤ gb243)); have n3_ := zA ((by rw [hg]; exact (below_size (uH HB.out)) : w.heap.size ≤ gb243)); clear HB; have HB := n0_; have BK243 := n1_; have GW243 := n2_; have GE243 := n3_; have := geI GE243; clear n0_ n1_ n2_ n3_ hb hbox hg) | ((with_reducible refine gate_dst (N := 4) rfl ?_); refine box_event ?hg (N := 4) ?hd (cs := #[.int .i64 a1_0, .slice A1_1 l1_1.length c1_1, .slice A1_2 l1_2.length c1_2]) (t := 26) ?hr ?_; (case hd => rfl); (case hg => rfl); (case hr => first | (go_simp; done) | (go_simp; rfl)); intro gb244 hg w17 hbox hb; have n0_ := xB BK243 hb; have n1_ := xH HB hb; have n2_ := zA (hbox); have n3_ := zA ((by rw [hg]; exact (below_size (uH HB.out)) : w.heap.size ≤ gb244)); have n4_ := zA ((by rw [hg]; exact (below_size (uH HB.out)) : w.heap.size ≤ gb244)); have n5_ := zA ((by rw [hg]; exact neL BK243 : gb243 ≠ gb244)); have n6_ := zA ((by rw [hg]; exact neG BK243 : gb244 ≠ gb243)); clear BK243 HB; have BK243 := n0_; have HB := n1_; have BK244 := n2_; have GW244 := n3_; have GE244 := n4_; have := geI GE244; have NB243_244 := n5_; have NB244_243 := n6_; clear n0_ n1_ n2_ n3_ n4_ n5_ n6_ hb hbox hg; have hnb18 := NB243_244.out; have hnc18 := NB244_243.out; have hcz19_0 : w17.cell? ⟨gb243, 0, none⟩ = some (.int .i64 a0_0) := (blk_cell BK243.out 0).trans rfl; have hcz19_1 : w17.cell? ⟨gb243, 1, none⟩ = some (.slice A0_1 l0_1.length c0_1) := (blk_cell BK243.out 1).trans rfl; have hfz19_0 := blk_frozen BK243.out 0; have hfz19_1 := blk_frozen BK243.out 1) | ((with_reducible refine gate_callee (f := 15) rfl ?_); refine goesL_ (some 20) rfl rfl Try.func15 (by kernel_rfl) rfl #[.agg #[.int .i64 a0_0, .slice A0_1 l0_1.length c0_1], .int .i64 1048576] rfl (by (try simp only [la, lb, lc]); first | done | rfl | (simp only [ld, le]; rfl)) ?_; (with_reducible refine (laws_szMoments.calls a0_0 _ _ l0_1 1048576 t245 _ ?side1 ?side2 A7.out).mono ?_); (case side1 => exact uC ((Kd.C_below HR0_1.out HB.out))); (case side2 => exact HC0_1.out); rintro e w20 ⟨rfl, hb⟩; refine ⟨_, rfl, ?_⟩; have n0_ := xB BK243 hb; have n1_ := xB BK244 hb; have n2_ := xH HB hb; clear BK243 BK244 HB; have BK243 := n0_; have BK244 := n1_; have HB := n2_; clear n0_ n1_ n2_; (try clear hb); (try clear hb2); (try clear hk); (try clear hi); have hcz21_0 : w20.cell? ⟨gb244, 0, none⟩ = some (.int .i64 a1_0) := (blk_cell BK244.out 0).trans rfl; have hcz21_1 : w20.cell? ⟨gb244, 1, none⟩ = some (.slice A1_1 l1_1.length c1_1) := (blk_cell BK244.out 1).trans rfl; have hcz21_2 : w20.cell? ⟨gb244, 2, none⟩ = some (.slice A1_2 l1_2.length c1_2) := (blk_cell BK244.out 2).trans rfl; have hfz21_0 := blk_frozen BK244.out 0; have hfz21_1 := blk_frozen BK244.out 1; have hfz21_2 := blk_frozen BK244.out 2) | ((with_reducible refine gate_callee (f := 16) rfl ?_); refine goesL_ (some 25) rfl rfl Try.func16 (by kernel_rfl) rfl #[.agg #[.int .i64 a1_0, .slice A1_1 l1_1.length c1_1, .slice A1_2 l1_2.length c1_2], .int .i64 t245] rfl (by (try simp only [la, lb, lc]); first | done | rfl | (simp only [ld, le]; rfl)) ?_; (with_reducible refine (laws_szRule.calls a1_0 _ _ l1_1 _ _ l1_2 t245 t246 _ ?side1 ?side2 ?side3 ?side4 A14.out).mono ?_); (case side1 => exact uC ((Kd.C_below HR1_1.out HB.out))); (case side2 => exact HC1_1.out); (case side3 => exact uC ((Kd.C_below HR1_2.out HB.out))); (case side4 => exact HC1_2.out); rintro e w22 ⟨rfl, hb⟩; refine ⟨_, rfl, ?_⟩; have n0_ := xB BK243 hb; have n1_ := xB BK244 hb; have n2_ := xH HB hb; clear BK243 BK244 HB; have BK243 := n0_; have BK244 := n1_; have HB := n2_; clear n0_ n1_ n2_; (try clear hb); (try clear hb2); (try clear hk); (try clear hi)))
    go_ret
    exact ⟨by first | rfl | (simp [errW_none, errW_some] <;> rfl) | (simp [*, errW_none, errW_some] <;> rfl), uH HB.out⟩
   ·rw [if_neg c15] at H
    have c15b0 : decide (t246 < 0) = false := decide_eq_false c15
    clear c15
    replace H := Option.bind_eq_some_iff.mp H
    obtain ⟨⟨t247, t248⟩, A230, H⟩ := H
    replace H : ((laws_toRule.f k a1_0 l1_1 l1_2).bind fun bt251 => ((laws_toInt64S.f k l2).bind fun t258 => ((spec_ErrorOf.f k t247 t248 bt251.1 bt251.2.1 bt251.2.2 t258).bind fun bt261 => ((laws_toMoments.f k a0_0 l0_1).bind fun bt263 => ((laws_toRule.f k a1_0 l1_1 l1_2).bind fun bt268 => ((laws_toInt64S.f k l2).bind fun t276 => ((impl_ErrorOf.f k bt263.1 bt263.2 bt268.1 bt268.2.1 bt268.2.2 t276).bind fun bt279 => (if bt279.1 = bt261.1 then (laws_FnExactErrorOf.j0 k l2 t276 (bt279.2 != bt261.2) a0_0 l0_1 a1_0 l1_1 l1_2 bt263.1 bt263.2 bt268.1 bt268.2.1 bt268.2.2) else (laws_FnExactErrorOf.j0 k l2 t276 true a0_0 l0_1 a1_0 l1_1 l1_2 bt263.1 bt263.2 bt268.1 bt268.2.1 bt268.2.2))))))))) = some r := H
    have A23 := zA A230
    clear A230
    replace H := Option.bind_eq_some_iff.mp H
    obtain ⟨⟨t251, t252, t255⟩, A240, H⟩ := H
    replace H : ((laws_toInt64S.f k l2).bind fun t258 => ((spec_ErrorOf.f k t247 t248 t251 t252 t255 t258).bind fun bt261 => ((laws_toMoments.f k a0_0 l0_1).bind fun bt263 => ((laws_toRule.f k a1_0 l1_1 l1_2).bind fun bt268 => ((laws_toInt64S.f k l2).bind fun t276 => ((impl_ErrorOf.f k bt263.1 bt263.2 bt268.1 bt268.2.1 bt268.2.2 t276).bind fun bt279 => (if bt279.1 = bt261.1 then (laws_FnExactErrorOf.j0 k l2 t276 (bt279.2 != bt261.2) a0_0 l0_1 a1_0 l1_1 l1_2 bt263.1 bt263.2 bt268.1 bt268.2.1 bt268.2.2) else (laws_FnExactErrorOf.j0 k l2 t276 true a0_0 l0_1 a1_0 l1_1 l1_2 bt263.1 bt263.2 bt268.1 bt268.2.1 bt268.2.2)))))))) = some r := H
    have A24 := zA A240
    clear A240
    replace H := Option.bind_eq_some_iff.mp H
    obtain ⟨t258, A250, H⟩ := H
    replace H : ((spec_ErrorOf.f k t247 t248 t251 t252 t255 t258).bind fun bt261 => ((laws_toMoments.f k a0_0 l0_1).bind fun bt263 => ((laws_toRule.f k a1_0 l1_1 l1_2).bind fun bt268 => ((laws_toInt64S.f k l2).bind fun t276 => ((impl_ErrorOf.f k bt263.1 bt263.2 bt268.1 bt268.2.1 bt268.2.2 t276).bind fun bt279 => (if bt279.1 = bt261.1 then (laws_FnExactErrorOf.j0 k l2 t276 (bt279.2 != bt261.2) a0_0 l0_1 a1_0 l1_1 l1_2 bt263.1 bt263.2 bt268.1 bt268.2.1 bt268.2.2) else (laws_FnExactErrorOf.j0 k l2 t276 true a0_0 l0_1 a1_0 l1_1 l1_2 bt263.1 bt263.2 bt268.1 bt268.2.1 bt268.2.2))))))) = some r := H
    have A25 := zA A250
    clear A250
    replace H := Option.bind_eq_some_iff.mp H
    obtain ⟨⟨t261, t262⟩, A260, H⟩ := H
    replace H : ((laws_toMoments.f k a0_0 l0_1).bind fun bt263 => ((laws_toRule.f k a1_0 l1_1 l1_2).bind fun bt268 => ((laws_toInt64S.f k l2).bind fun t276 => ((impl_ErrorOf.f k bt263.1 bt263.2 bt268.1 bt268.2.1 bt268.2.2 t276).bind fun bt279 => (if bt279.1 = t261 then (laws_FnExactErrorOf.j0 k l2 t276 (bt279.2 != t262) a0_0 l0_1 a1_0 l1_1 l1_2 bt263.1 bt263.2 bt268.1 bt268.2.1 bt268.2.2) else (laws_FnExactErrorOf.j0 k l2 t276 true a0_0 l0_1 a1_0 l1_1 l1_2 bt263.1 bt263.2 bt268.1 bt268.2.1 bt268.2.2)))))) = some r := H
    have A26 := zA A260
    clear A260
    replace H := Option.bind_eq_some_iff.mp H
    obtain ⟨⟨t263, t264⟩, A270, H⟩ := H
    replace H : ((laws_toRule.f k a1_0 l1_1 l1_2).bind fun bt268 => ((laws_toInt64S.f k l2).bind fun t276 => ((impl_ErrorOf.f k t263 t264 bt268.1 bt268.2.1 bt268.2.2 t276).bind fun bt279 => (if bt279.1 = t261 then (laws_FnExactErrorOf.j0 k l2 t276 (bt279.2 != t262) a0_0 l0_1 a1_0 l1_1 l1_2 t263 t264 bt268.1 bt268.2.1 bt268.2.2) else (laws_FnExactErrorOf.j0 k l2 t276 true a0_0 l0_1 a1_0 l1_1 l1_2 t263 t264 bt268.1 bt268.2.1 bt268.2.2))))) = some r := H
    have A27 := zA A270
    clear A270
    replace H := Option.bind_eq_some_iff.mp H
    obtain ⟨⟨t268, t269, t272⟩, A280, H⟩ := H
    replace H : ((laws_toInt64S.f k l2).bind fun t276 => ((impl_ErrorOf.f k t263 t264 t268 t269 t272 t276).bind fun bt279 => (if bt279.1 = t261 then (laws_FnExactErrorOf.j0 k l2 t276 (bt279.2 != t262) a0_0 l0_1 a1_0 l1_1 l1_2 t263 t264 t268 t269 t272) else (laws_FnExactErrorOf.j0 k l2 t276 true a0_0 l0_1 a1_0 l1_1 l1_2 t263 t264 t268 t269 t272)))) = some r := H
    have A28 := zA A280
    clear A280
    replace H := Option.bind_eq_some_iff.mp H
    obtain ⟨t276, A290, H⟩ := H
    replace H : ((impl_ErrorOf.f k t263 t264 t268 t269 t272 t276).bind fun bt279 => (if bt279.1 = t261 then (laws_FnExactErrorOf.j0 k l2 t276 (bt279.2 != t262) a0_0 l0_1 a1_0 l1_1 l1_2 t263 t264 t268 t269 t272) else (laws_FnExactErrorOf.j0 k l2 t276 true a0_0 l0_1 a1_0 l1_1 l1_2 t263 t264 t268 t269 t272))) = some r := H
    have A29 := zA A290
    clear A290
    replace H := Option.bind_eq_some_iff.mp H
    obtain ⟨⟨t279, t280⟩, A300, H⟩ := H
    replace H : (if t279 = t261 then (laws_FnExactErrorOf.j0 k l2 t276 (t280 != t262) a0_0 l0_1 a1_0 l1_1 l1_2 t263 t264 t268 t269 t272) else (laws_FnExactErrorOf.j0 k l2 t276 true a0_0 l0_1 a1_0 l1_1 l1_2 t263 t264 t268 t269 t272)) = some r := H
    have A30 := zA A300
    clear A300
    have HC31 := zA H
    clear H
    go_enter Try.func3, Try.ntmps3
    try go_wp2_with (first | ((with_reducible refine gate_dst (N := 3) rfl ?_); refine box_event ?hg (N := 3) ?hd (cs := #[.int .i64 a0_0, .slice A0_1 l0_1.length c0_1]) (t := 24) ?hr ?_; (case hd => rfl); (case hg => rfl); (case hr => first | (go_simp; done) | (go_simp; rfl)); intro gb243 hg w32 hbox hb; have n0_ := xH HB hb; have n1_ := zA (hbox); have n2_ := zA ((by rw [hg]; exact (below_size (uH HB.out)) : w.heap.size ≤ gb243)); have n3_ := zA ((by rw [hg]; exact (below_size (uH HB.out)) : w.heap.size ≤ gb243)); clear HB; have HB := n0_; have BK243 := n1_; have GW243 := n2_; have GE243 := n3_; have := geI GE243; clear n0_ n1_ n2_ n3_ hb hbox hg) | ((with_reducible refine gate_dst (N := 4) rfl ?_); refine box_event ?hg (N := 4) ?hd (cs := #[.int .i64 a1_0, .slice A1_1 l1_1.length c1_1, .slice A1_2 l1_2.length c1_2]) (t := 26) ?hr ?_; (case hd => rfl); (case hg => rfl); (case hr => first | (go_simp; done) | (go_simp; rfl)); intro gb244 hg w33 hbox hb; have n0_ := xB BK243 hb; have n1_ := xH HB hb; have n2_ := zA (hbox); have n3_ := zA ((by rw [hg]; exact (below_size (uH HB.out)) : w.heap.size ≤ gb244)); have n4_ := zA ((by rw [hg]; exact (below_size (uH HB.out)) : w.heap.size ≤ gb244)); have n5_ := zA ((by rw [hg]; exact neL BK243 : gb243 ≠ gb244)); have n6_ := zA ((by rw [hg]; exact neG BK243 : gb244 ≠ gb243)); clear BK243 HB; have BK243 := n0_; have HB := n1_; have BK244 := n2_; have GW244 := n3_; have GE244 := n4_; have := geI GE244; have NB243_244 := n5_; have NB244_243 := n6_; clear n0_ n1_ n2_ n3_ n4_ n5_ n6_ hb hbox hg; have hnb34 := NB243_244.out; have hnc34 := NB244_243.out; have hcz35_0 : w33.cell? ⟨gb243, 0, none⟩ = some (.int .i64 a0_0) := (blk_cell BK243.out 0).trans rfl; have hcz35_1 : w33.cell? ⟨gb243, 1, none⟩ = some (.slice A0_1 l0_1.length c0_1) := (blk_cell BK243.out 1).trans rfl; have hfz35_0 := blk_frozen BK243.out 0; have hfz35_1 := blk_frozen BK243.out 1) | ((with_reducible refine gate_callee (f := 15) rfl ?_); refine goesL_ (some 20) rfl rfl Try.func15 (by kernel_rfl) rfl #[.agg #[.int .i64 a0_0, .slice A0_1 l0_1.length c0_1], .int .i64 1048576] rfl (by (try simp only [la, lb, lc]); first | done | rfl | (simp only [ld, le]; rfl)) ?_; (with_reducible refine (laws_szMoments.calls a0_0 _ _ l0_1 1048576 t245 _ ?side1 ?side2 A7.out).mono ?_); (case side1 => exact uC ((Kd.C_below HR0_1.out HB.out))); (case side2 => exact HC0_1.out); rintro e w36 ⟨rfl, hb⟩; refine ⟨_, rfl, ?_⟩; have n0_ := xB BK243 hb; have n1_ := xB BK244 hb; have n2_ := xH HB hb; clear BK243 BK244 HB; have BK243 := n0_; have BK244 := n1_; have HB := n2_; clear n0_ n1_ n2_; (try clear hb); (try clear hb2); (try clear hk); (try clear hi); have hcz37_0 : w36.cell? ⟨gb244, 0, none⟩ = some (.int .i64 a1_0) := (blk_cell BK244.out 0).trans rfl; have hcz37_1 : w36.cell? ⟨gb244, 1, none⟩ = some (.slice A1_1 l1_1.length c1_1) := (blk_cell BK244.out 1).trans rfl; have hcz37_2 : w36.cell? ⟨gb244, 2, none⟩ = some (.slice A1_2 l1_2.length c1_2) := (blk_cell BK244.out 2).trans rfl; have hfz37_0 := blk_frozen BK244.out 0; have hfz37_1 := blk_frozen BK244.out 1; have hfz37_2 := blk_frozen BK244.out 2) | ((with_reducible refine gate_callee (f := 16) rfl ?_); refine goesL_ (some 25) rfl rfl Try.func16 (by kernel_rfl) rfl #[.agg #[.int .i64 a1_0, .slice A1_1 l1_1.length c1_1, .slice A1_2 l1_2.length c1_2], .int .i64 t245] rfl (by (try simp only [la, lb, lc]); first | done | rfl | (simp only [ld, le]; rfl)) ?_; (with_reducible refine (laws_szRule.calls a1_0 _ _ l1_1 _ _ l1_2 t245 t246 _ ?side1 ?side2 ?side3 ?side4 A14.out).mono ?_); (case side1 => exact uC ((Kd.C_below HR1_1.out HB.out))); (case side2 => exact HC1_1.out); (case side3 => exact uC ((Kd.C_below HR1_2.out HB.out))); (case side4 => exact HC1_2.out); rintro e w38 ⟨rfl, hb⟩; refine ⟨_, rfl, ?_⟩; have n0_ := xB BK243 hb; have n1_ := xB BK244 hb; have n2_ := xH HB hb; clear BK243 BK244 HB; have BK243 := n0_; have BK244 := n1_; have HB := n2_; clear n0_ n1_ n2_; (try clear hb); (try clear hb2); (try clear hk); (try clear hi)))
    have n0_ := zA (blk_drew BK243.out)
    have n1_ := zA (blk_drew BK244.out)
    have n2_ := zA (below_drew1 HB.out)
    clear BK243 BK244 HB
    have BK243 := n0_; have BK244 := n1_; have HB := n2_
    clear n0_ n1_ n2_
    refine start_ (n := 12) (S := fun w' => w'.cell? ⟨gb243, 0, none⟩ = some (.int .i64 a0_0) ∧ w'.cell? ⟨gb243, 1, none⟩ = some (.slice A0_1 l0_1.length c0_1) ∧ w'.cell? ⟨gb244, 0, none⟩ = some (.int .i64 a1_0) ∧ w'.cell? ⟨gb244, 1, none⟩ = some (.slice A1_1 l1_1.length c1_1) ∧ w'.cell? ⟨gb244, 2, none⟩ = some (.slice A1_2 l1_2.length c1_2)) (ds := []) #[false, false, false, false, false, false, false, false, false, false, false, false] (by kernel_rfl) rfl rfl ⟨(blk_cell BK243.out 0).trans rfl, (blk_cell BK243.out 1).trans rfl, (blk_cell BK244.out 0).trans rfl, (blk_cell BK244.out 1).trans rfl, (blk_cell BK244.out 2).trans rfl⟩ (fun hHeld => ?_); refine with_tabW laws_FnExactErrorOf.tab10 laws_FnExactErrorOf.bits10 (fun HT_ HW_ => ?_)
    generalize w38.drew = w39 at BK243 BK244 HB hHeld ⊢
    refine pu_ 4 33 (bl 12 16) HT_ ?_
    refine ta_ 0 29 (bl 12 17) HT_ HW_ hHeld ?_
    refine ta_ 2 31 (bl 12 21) HT_ HW_ hHeld ?_
    refine on_ 1 (some 30) (bl 12 23) HT_ (fun K hK => ?_)
    refine goes_ Try.func18 (by kernel_rfl) rfl #[.agg #[.int .i64 a0_0, .slice A0_1 l0_1.length c0_1]] (by rfl) rfl rfl (by (try simp only [la, lb, lc]); first | done | rfl | (simp only [ld, le]; rfl)) ?_
    with_reducible refine (laws_toMoments.calls k a0_0 _ _ l0_1 t247 t248 _ ?side1 ?side2 A23.out).mono ?_
    (case side1 => exact uC ((Kd.C_below HR0_1.out HB.out)))
    (case side2 => exact HC0_1.out)
    rintro e w40 ⟨v249, rfl, ho0, hb⟩
    refine ⟨_, rfl, ?_⟩
    have n0_ := zA (Kd.R_lower ho0 (below_size (uH HB.out)))
    have n1_ := xB BK243 hb
    have n2_ := xB BK244 hb
    have n3_ := xH HB hb
    clear BK243 BK244 HB
    have HO250 := n0_; have BK243 := n1_; have BK244 := n2_; have HB := n3_
    clear n0_ n1_ n2_ n3_
    (try clear hb); (try clear hb2); (try clear hk); (try clear hi); (try clear ho0)
    refine hK.out _ _ ⟨(blk_cell BK243.out 0).trans rfl, (blk_cell BK243.out 1).trans rfl, (blk_cell BK244.out 0).trans rfl, (blk_cell BK244.out 1).trans rfl, (blk_cell BK244.out 2).trans rfl⟩ (fun hHeld => ?_)
    clear hK K
    refine no_ 30 ?_
    refine on_ 3 (some 32) (bl 12 31) HT_ (fun K hK => ?_)
    refine goes_ Try.func19 (by kernel_rfl) rfl #[.agg #[.int .i64 a1_0, .slice A1_1 l1_1.length c1_1, .slice A1_2 l1_2.length c1_2]] (by rfl) rfl rfl (by (try simp only [la, lb, lc]); first | done | rfl | (simp only [ld, le]; rfl)) ?_
    with_reducible refine (laws_toRule.calls k a1_0 _ _ l1_1 _ _ l1_2 t251 t252 t255 _ ?side1 ?side2 ?side3 ?side4 A24.out).mono ?_
    (case side1 => exact uC ((Kd.C_below HR1_1.out HB.out)))
    (case side2 => exact HC1_1.out)
    (case side3 => exact uC ((Kd.C_below HR1_2.out HB.out)))
    (case side4 => exact HC1_2.out)
    rintro e w41 ⟨v253, v256, rfl, ho0, ho1, hb⟩
    refine ⟨_, rfl, ?_⟩
    have n0_ := zA (Kd.R_mono (Kd.R_told (Kd.R_told (Kd.R_old (uR HO250.out) hb) (Kd.R_base ho0)) (Kd.R_base ho1)) (fun _ h_ => h_.1))
    have n1_ := zA (Kd.R_lower (Kd.R_new' ho0 (Kd.R_lt (uR HO250.out))) (below_size (uH HB.out)))
    have n2_ := zA (Kd.R_lower (Kd.R_new' ho1 (Kd.R_lt (uR HO250.out))) (below_size (uH HB.out)))
    have n3_ := xB BK243 hb
    have n4_ := xB BK244 hb
    have n5_ := xH HB hb
    clear HO250 BK243 BK244 HB
    have HO250 := n0_; have HO254 := n1_; have HO257 := n2_; have BK243 := n3_; have BK244 := n4_; have HB := n5_
    clear n0_ n1_ n2_ n3_ n4_ n5_
    (try clear hb); (try clear hb2); (try clear hk); (try clear hi); (try clear ho0); (try clear ho1)
    refine hK.out _ _ ⟨(blk_cell BK243.out 0).trans rfl, (blk_cell BK243.out 1).trans rfl, (blk_cell BK244.out 0).trans rfl, (blk_cell BK244.out 1).trans rfl, (blk_cell BK244.out 2).trans rfl⟩ (fun hHeld => ?_)
    clear hK K
    refine no_ 32 ?_
    refine on_ 5 (some 34) (bl 12 63) HT_ (fun K hK => ?_)
    refine goes_ Try.func20 (by kernel_rfl) rfl #[.slice A2 l2.length c2] (by rfl) rfl rfl (by (try simp only [la, lb, lc]); first | done | rfl | (simp only [ld, le]; rfl)) ?_
    with_reducible refine (laws_toInt64S.calls k _ _ l2 t258 _ ?side1 ?side2 A25.out).mono ?_
    (case side1 => exact uC ((Kd.C_below HR2.out HB.out)))
    (case side2 => exact HC2.out)
    rintro e w42 ⟨v259, rfl, ho0, hb⟩
    refine ⟨_, rfl, ?_⟩
    have n0_ := zA (Kd.R_elder' (uR HO250.out) (Kd.R_base ho0) hb)
    have n1_ := zA (Kd.R_elder' (uR HO254.out) (Kd.R_base ho0) hb)
    have n2_ := zA (Kd.R_elder' (uR HO257.out) (Kd.R_base ho0) hb)
    have n3_ := zA (Kd.R_lower (Kd.R_new' (Kd.R_new' (Kd.R_new' ho0 (Kd.R_lt (uR HO250.out))) (Kd.R_lt (uR HO254.out))) (Kd.R_lt (uR HO257.out))) (below_size (uH HB.out)))
    have n4_ := xB BK243 hb
    have n5_ := xB BK244 hb
    have n6_ := xH HB hb
    clear HO250 HO254 HO257 BK243 BK244 HB
    have HO250 := n0_; have HO254 := n1_; have HO257 := n2_; have HO260 := n3_; have BK243 := n4_; have BK244 := n5_; have HB := n6_
    clear n0_ n1_ n2_ n3_ n4_ n5_ n6_
    (try clear hb); (try clear hb2); (try clear hk); (try clear hi); (try clear ho0)
    obtain ⟨Ao43, co43, eo43⟩ := Kd.R_slice HO250.out
    (first | subst eo43 | (injection eo43 with f1_ f2_ f3_; have f4_ := f1_.symm; have f5_ := f3_.symm; clear f1_ f2_ f3_; subst f4_; subst f5_))
    obtain ⟨Ao44, co44, eo44⟩ := Kd.R_slice HO254.out
    (first | subst eo44 | (injection eo44 with f1_ f2_ f3_; have f4_ := f1_.symm; have f5_ := f3_.symm; clear f1_ f2_ f3_; subst f4_; subst f5_))
    obtain ⟨Ao45, co45, eo45⟩ := Kd.R_slice HO257.out
    (first | subst eo45 | (injection eo45 with f1_ f2_ f3_; have f4_ := f1_.symm; have f5_ := f3_.symm; clear f1_ f2_ f3_; subst f4_; subst f5_))
    obtain ⟨Ao46, co46, eo46⟩ := Kd.R_slice HO260.out
    (first | subst eo46 | (injection eo46 with f1_ f2_ f3_; have f4_ := f1_.symm; have f5_ := f3_.symm; clear f1_ f2_ f3_; subst f4_; subst f5_))
    refine hK.out _ _ ⟨(blk_cell BK243.out 0).trans rfl, (blk_cell BK243.out 1).trans rfl, (blk_cell BK244.out 0).trans rfl, (blk_cell BK244.out 1).trans rfl, (blk_cell BK244.out 2).trans rfl⟩ (fun hHeld => ?_)
    clear hK K
    refine no_ 34 ?_
    refine on_ 6 (some 35) (bl 12 127) HT_ (fun K hK => ?_)
    refine goes_ Try.func17 (by kernel_rfl) rfl #[.agg #[.int .i64 t247, .slice Ao43 t248.length co43], .agg #[.int .i64 t251, .slice Ao44 t252.length co44, .slice Ao45 t255.length co45], .slice Ao46 t258.length co46] (by rfl) rfl rfl (by (try simp only [la, lb, lc]); first | done | rfl | (simp only [ld, le]; rfl)) ?_
    with_reducible refine (spec_ErrorOf.calls k t247 _ _ t248 t251 _ _ t252 _ _ t255 _ _ t258 t261 t262 _ ?side1 ?side2 ?side3 ?side4 ?side5 ?side6 ?side7 ?side8 A26.out).mono ?_
    (case side1 => exact uC ((Kd.R_reads' HO250.out).2.2))
    (case side2 => exact (Kd.R_reads' HO250.out).2.1)
    (case side3 => exact uC ((Kd.R_reads' HO254.out).2.2))
    (case side4 => exact (Kd.R_reads' HO254.out).2.1)
    (case side5 => exact uC ((Kd.R_reads' HO257.out).2.2))
    (case side6 => exact (Kd.R_reads' HO257.out).2.1)
    (case side7 => exact uC ((Kd.R_reads' HO260.out).2.2))
    (case side8 => exact (Kd.R_reads' HO260.out).2.1)
    rintro e w47 ⟨rfl, hb⟩
    refine ⟨_, rfl, ?_⟩
    have n0_ := xR HO250 hb
    have n1_ := xR HO254 hb
    have n2_ := xR HO257 hb
    have n3_ := xR HO260 hb
    have n4_ := xB BK243 hb
    have n5_ := xB BK244 hb
    have n6_ := xH HB hb
    clear HO250 HO254 HO257 HO260 BK243 BK244 HB
    have HO250 := n0_; have HO254 := n1_; have HO257 := n2_; have HO260 := n3_; have BK243 := n4_; have BK244 := n5_; have HB := n6_
    clear n0_ n1_ n2_ n3_ n4_ n5_ n6_
    (try clear hb); (try clear hb2); (try clear hk); (try clear hi)
    refine hK.out _ _ ⟨(blk_cell BK243.out 0).trans rfl, (blk_cell BK243.out 1).trans rfl, (blk_cell BK244.out 0).trans rfl, (blk_cell BK244.out 1).trans rfl, (blk_cell BK244.out 2).trans rfl⟩ (fun hHeld => ?_)
    clear hK K
    refine no_ 35 ?_
    refine pu_ 7 28 (bl 12 255) HT_ ?_
    refine pu_ 8 36 (bl 12 511) HT_ ?_
    refine pu_ 9 37 (bl 12 1023) HT_ ?_
    refine pu_ 10 8 (bl 12 2047) HT_ ?_
    refine pu_ 11 9 (bl 12 4095) HT_ ?_
    refine done_ (done_of HT_.out (by kernel_rfl)) ?_
    have hcz48_0 : w47.cell? ⟨gb243, 0, none⟩ = some (.int .i64 a0_0) := (blk_cell BK243.out 0).trans rfl
    have hcz48_1 : w47.cell? ⟨gb243, 1, none⟩ = some (.slice A0_1 l0_1.length c0_1) := (blk_cell BK243.out 1).trans rfl
    have hfz48_0 := blk_frozen BK243.out 0
    have hfz48_1 := blk_frozen BK243.out 1
    go_upto_region 15 with (first | ((with_reducible refine gate_callee (f := 18) rfl ?_); refine goesL_ (some 39) rfl rfl Try.func18 (by kernel_rfl) rfl #[.agg #[.int .i64 a0_0, .slice A0_1 l0_1.length c0_1]] rfl (by (try simp only [la, lb, lc]); first | done | rfl | (simp only [ld, le]; rfl)) ?_; (with_reducible refine (laws_toMoments.calls k a0_0 _ _ l0_1 t263 t264 _ ?side1 ?side2 A27.out).mono ?_); (case side1 => exact uC ((Kd.C_below HR0_1.out HB.out))); (case side2 => exact HC0_1.out); rintro e w49 ⟨v265, rfl, ho0, hb⟩; refine ⟨_, rfl, ?_⟩; have n0_ := zA (Kd.R_elder' (uR HO250.out) (Kd.R_base ho0) hb); have n1_ := zA (Kd.R_elder' (uR HO254.out) (Kd.R_base ho0) hb); have n2_ := zA (Kd.R_elder' (uR HO257.out) (Kd.R_base ho0) hb); have n3_ := zA (Kd.R_elder' (uR HO260.out) (Kd.R_base ho0) hb); have n4_ := zA (Kd.R_lower (Kd.R_new' (Kd.R_new' (Kd.R_new' (Kd.R_new' ho0 (Kd.R_lt (uR HO250.out))) (Kd.R_lt (uR HO254.out))) (Kd.R_lt (uR HO257.out))) (Kd.R_lt (uR HO260.out))) (below_size (uH HB.out))); have n5_ := xB BK243 hb; have n6_ := xB BK244 hb; have n7_ := xH HB hb; clear HO250 HO254 HO257 HO260 BK243 BK244 HB; have HO250 := n0_; have HO254 := n1_; have HO257 := n2_; have HO260 := n3_; have HO266 := n4_; have BK243 := n5_; have BK244 := n6_; have HB := n7_; clear n0_ n1_ n2_ n3_ n4_ n5_ n6_ n7_; (try clear hb); (try clear hb2); (try clear hk); (try clear hi); (try clear ho0)) | ((with_reducible refine gate_dst (N := 10) rfl ?_); refine box_event ?hg (N := 10) ?hd (cs := #[.int .i64 0, .slice none 0 0]) (t := 31) ?hr ?_; (case hd => rfl); (case hg => rfl); (case hr => first | (go_simp; done) | (go_simp; rfl)); intro gb267 hg w50 hbox hb; have n0_ := xR HO250 hb; have n1_ := xR HO254 hb; have n2_ := xR HO257 hb; have n3_ := xR HO260 hb; have n4_ := xR HO266 hb; have n5_ := xB BK243 hb; have n6_ := xB BK244 hb; have n7_ := xH HB hb; have n8_ := zA (hbox); have n9_ := zA ((by rw [hg]; exact (below_size (uH HB.out)) : w.heap.size ≤ gb267)); have n10_ := zA ((by rw [hg]; exact (below_size (uH HB.out)) : w.heap.size ≤ gb267)); have n11_ := zA ((by rw [hg]; exact neL BK243 : gb243 ≠ gb267)); have n12_ := zA ((by rw [hg]; exact neG BK243 : gb267 ≠ gb243)); have n13_ := zA ((by rw [hg]; exact neL BK244 : gb244 ≠ gb267)); have n14_ := zA ((by rw [hg]; exact neG BK244 : gb267 ≠ gb244)); clear HO250 HO254 HO257 HO260 HO266 BK243 BK244 HB; have HO250 := n0_; have HO254 := n1_; have HO257 := n2_; have HO260 := n3_; have HO266 := n4_; have BK243 := n5_; have BK244 := n6_; have HB := n7_; have BK267 := n8_; have GW267 := n9_; have GE267 := n10_; have := geI GE267; have NB243_267 := n11_; have NB267_243 := n12_; have NB244_267 := n13_; have NB267_244 := n14_; clear n0_ n1_ n2_ n3_ n4_ n5_ n6_ n7_ n8_ n9_ n10_ n11_ n12_ n13_ n14_ hb hbox hg; have hnb51 := NB267_243.out; have hnc51 := NB243_267.out; have hnb52 := NB267_244.out; have hnc52 := NB244_267.out; have hcz53_0 : w50.cell? ⟨gb267, 0, none⟩ = some (.int .i64 0) := (blk_cell BK267.out 0).trans rfl; have hcz53_1 : w50.cell? ⟨gb267, 1, none⟩ = some (.slice none 0 0) := (blk_cell BK267.out 1).trans rfl; have hfz53_0 := blk_frozen BK267.out 0; have hfz53_1 := blk_frozen BK267.out 1; obtain ⟨Ao54, co54, eo54⟩ := Kd.R_slice HO266.out; subst eo54; have hcz55_0 : w50.cell? ⟨gb244, 0, none⟩ = some (.int .i64 a1_0) := (blk_cell BK244.out 0).trans rfl; have hcz55_1 : w50.cell? ⟨gb244, 1, none⟩ = some (.slice A1_1 l1_1.length c1_1) := (blk_cell BK244.out 1).trans rfl; have hcz55_2 : w50.cell? ⟨gb244, 2, none⟩ = some (.slice A1_2 l1_2.length c1_2) := (blk_cell BK244.out 2).trans rfl; have hfz55_0 := blk_frozen BK244.out 0; have hfz55_1 := blk_frozen BK244.out 1; have hfz55_2 := blk_frozen BK244.out 2) | ((with_reducible refine gate_callee (f := 19) rfl ?_); refine goesL_ (some 41) rfl rfl Try.func19 (by kernel_rfl) rfl #[.agg #[.int .i64 a1_0, .slice A1_1 l1_1.length c1_1, .slice A1_2 l1_2.length c1_2]] rfl (by (try simp only [la, lb, lc]); first | done | rfl | (simp only [ld, le]; rfl)) ?_; (with_reducible refine (laws_toRule.calls k a1_0 _ _ l1_1 _ _ l1_2 t268 t269 t272 _ ?side1 ?side2 ?side3 ?side4 A28.out).mono ?_); (case side1 => exact Kd.C_below HR1_1.out (uH HB.out)); (case side2 => exact HC1_1.out); (case side3 => exact Kd.C_below HR1_2.out (uH HB.out)); (case side4 => exact HC1_2.out); rintro e w56 ⟨v270, v273, rfl, ho0, ho1, hb⟩; refine ⟨_, rfl, ?_⟩; have n0_ := zA (Kd.R_mono (Kd.R_told (Kd.R_told (Kd.R_old (uR ((Kd.R_mono (Kd.R_far (p := ⟨gb267, 1, none⟩) (Kd.R_far (p := ⟨gb267, 0, none⟩) (Kd.R_types HO250.out BK267.out (by decide)) (fun _ hk => hk.2) (.int .i64 t263)) (fun _ hk => hk.2) (.slice Ao54 t264.length co54)) (fun _ h_ => h_.1)))) hb) (Kd.R_base ho0)) (Kd.R_base ho1)) (fun _ h_ => h_.1)); have n1_ := zA (Kd.R_mono (Kd.R_told (Kd.R_told (Kd.R_old (uR ((Kd.R_mono (Kd.R_far (p := ⟨gb267, 1, none⟩) (Kd.R_far (p := ⟨gb267, 0, none⟩) (Kd.R_types HO254.out BK267.out (by decide)) (fun _ hk => hk.2) (.int .i64 t263)) (fun _ hk => hk.2) (.slice Ao54 t264.length co54)) (fun _ h_ => h_.1)))) hb) (Kd.R_base ho0)) (Kd.R_base ho1)) (fun _ h_ => h_.1)); have n2_ := zA (Kd.R_mono (Kd.R_told (Kd.R_told (Kd.R_old (uR ((Kd.R_mono (Kd.R_far (p := ⟨gb267, 1, none⟩) (Kd.R_far (p := ⟨gb267, 0, none⟩) (Kd.R_types HO257.out BK267.out (by decide)) (fun _ hk => hk.2) (.int .i64 t263)) (fun _ hk => hk.2) (.slice Ao54 t264.length co54)) (fun _ h_ => h_.1)))) hb) (Kd.R_base ho0)) (Kd.R_base ho1)) (fun _ h_ => h_.1)); have n3_ := zA (Kd.R_mono (Kd.R_told (Kd.R_told (Kd.R_old (uR ((Kd.R_mono (Kd.R_far (p := ⟨gb267, 1, none⟩) (Kd.R_far (p := ⟨gb267, 0, none⟩) (Kd.R_types HO260.out BK267.out (by decide)) (fun _ hk => hk.2) (.int .i64 t263)) (fun _ hk => hk.2) (.slice Ao54 t264.length co54)) (fun _ h_ => h_.1)))) hb) (Kd.R_base ho0)) (Kd.R_base ho1)) (fun _ h_ => h_.1)); have n4_ := zA (Kd.R_mono (Kd.R_told (Kd.R_told (Kd.R_old (uR ((Kd.R_mono (Kd.R_far (p := ⟨gb267, 1, none⟩) (Kd.R_far (p := ⟨gb267, 0, none⟩) (Kd.R_types HO266.out BK267.out (by decide)) (fun _ hk => hk.2) (.int .i64 t263)) (fun _ hk => hk.2) (.slice Ao54 t264.length co54)) (fun _ h_ => h_.1)))) hb) (Kd.R_base ho0)) (Kd.R_base ho1)) (fun _ h_ => h_.1)); have n5_ := zA (Kd.R_lower (Kd.R_new' (Kd.R_new' (Kd.R_new' (Kd.R_new' (Kd.R_new' ho0 (Kd.R_lt (uR ((Kd.R_mono (Kd.R_far (p := ⟨gb267, 1, none⟩) (Kd.R_far (p := ⟨gb267, 0, none⟩) (Kd.R_types HO250.out BK267.out (by decide)) (fun _ hk => hk.2) (.int .i64 t263)) (fun _ hk => hk.2) (.slice Ao54 t264.length co54)) (fun _ h_ => h_.1)))))) (Kd.R_lt (uR ((Kd.R_mono (Kd.R_far (p := ⟨gb267, 1, none⟩) (Kd.R_far (p := ⟨gb267, 0, none⟩) (Kd.R_types HO254.out BK267.out (by decide)) (fun _ hk => hk.2) (.int .i64 t263)) (fun _ hk => hk.2) (.slice Ao54 t264.length co54)) (fun _ h_ => h_.1)))))) (Kd.R_lt (uR ((Kd.R_mono (Kd.R_far (p := ⟨gb267, 1, none⟩) (Kd.R_far (p := ⟨gb267, 0, none⟩) (Kd.R_types HO257.out BK267.out (by decide)) (fun _ hk => hk.2) (.int .i64 t263)) (fun _ hk => hk.2) (.slice Ao54 t264.length co54)) (fun _ h_ => h_.1)))))) (Kd.R_lt (uR ((Kd.R_mono (Kd.R_far (p := ⟨gb267, 1, none⟩) (Kd.R_far (p := ⟨gb267, 0, none⟩) (Kd.R_types HO260.out BK267.out (by decide)) (fun _ hk => hk.2) (.int .i64 t263)) (fun _ hk => hk.2) (.slice Ao54 t264.length co54)) (fun _ h_ => h_.1)))))) (Kd.R_lt (uR ((Kd.R_mono (Kd.R_far (p := ⟨gb267, 1, none⟩) (Kd.R_far (p := ⟨gb267, 0, none⟩) (Kd.R_types HO266.out BK267.out (by decide)) (fun _ hk => hk.2) (.int .i64 t263)) (fun _ hk => hk.2) (.slice Ao54 t264.length co54)) (fun _ h_ => h_.1)))))) (below_size (uH HB.out))); have n6_ := zA (Kd.R_lower (Kd.R_new' (Kd.R_new' (Kd.R_new' (Kd.R_new' (Kd.R_new' ho1 (Kd.R_lt (uR ((Kd.R_mono (Kd.R_far (p := ⟨gb267, 1, none⟩) (Kd.R_far (p := ⟨gb267, 0, none⟩) (Kd.R_types HO250.out BK267.out (by decide)) (fun _ hk => hk.2) (.int .i64 t263)) (fun _ hk => hk.2) (.slice Ao54 t264.length co54)) (fun _ h_ => h_.1)))))) (Kd.R_lt (uR ((Kd.R_mono (Kd.R_far (p := ⟨gb267, 1, none⟩) (Kd.R_far (p := ⟨gb267, 0, none⟩) (Kd.R_types HO254.out BK267.out (by decide)) (fun _ hk => hk.2) (.int .i64 t263)) (fun _ hk => hk.2) (.slice Ao54 t264.length co54)) (fun _ h_ => h_.1)))))) (Kd.R_lt (uR ((Kd.R_mono (Kd.R_far (p := ⟨gb267, 1, none⟩) (Kd.R_far (p := ⟨gb267, 0, none⟩) (Kd.R_types HO257.out BK267.out (by decide)) (fun _ hk => hk.2) (.int .i64 t263)) (fun _ hk => hk.2) (.slice Ao54 t264.length co54)) (fun _ h_ => h_.1)))))) (Kd.R_lt (uR ((Kd.R_mono (Kd.R_far (p := ⟨gb267, 1, none⟩) (Kd.R_far (p := ⟨gb267, 0, none⟩) (Kd.R_types HO260.out BK267.out (by decide)) (fun _ hk => hk.2) (.int .i64 t263)) (fun _ hk => hk.2) (.slice Ao54 t264.length co54)) (fun _ h_ => h_.1)))))) (Kd.R_lt (uR ((Kd.R_mono (Kd.R_far (p := ⟨gb267, 1, none⟩) (Kd.R_far (p := ⟨gb267, 0, none⟩) (Kd.R_types HO266.out BK267.out (by decide)) (fun _ hk => hk.2) (.int .i64 t263)) (fun _ hk => hk.2) (.slice Ao54 t264.length co54)) (fun _ h_ => h_.1)))))) (below_size (uH HB.out))); have n7_ := zA (blk_below (g := gb243) (o := .cells #[.int .i64 a0_0, .slice A0_1 l0_1.length c0_1] 24 (0, 0)) (by (with_reducible repeat (first | refine blk_drewN ?_ _ | refine blk_drew ?_ | refine blk_alloc ?_ _)); refine blk_far ?_ NB243_267.out _; (with_reducible repeat (first | refine blk_drewN ?_ _ | refine blk_drew ?_ | refine blk_alloc ?_ _)); refine blk_far ?_ NB243_267.out _; (with_reducible repeat (first | refine blk_drewN ?_ _ | refine blk_drew ?_ | refine blk_alloc ?_ _)); exact BK243.out) hb); have n8_ := zA (blk_below (g := gb244) (o := .cells #[.int .i64 a1_0, .slice A1_1 l1_1.length c1_1, .slice A1_2 l1_2.length c1_2] 26 (0, 0)) (by (with_reducible repeat (first | refine blk_drewN ?_ _ | refine blk_drew ?_ | refine blk_alloc ?_ _)); refine blk_far ?_ NB244_267.out _; (with_reducible repeat (first | refine blk_drewN ?_ _ | refine blk_drew ?_ | refine blk_alloc ?_ _)); refine blk_far ?_ NB244_267.out _; (with_reducible repeat (first | refine blk_drewN ?_ _ | refine blk_drew ?_ | refine blk_alloc ?_ _)); exact BK244.out) hb); have n9_ := zA (blk_below (g := gb267) (o := .cells #[.int .i64 t263, .slice Ao54 t264.length co54] 31 (0, 0)) (by (with_reducible repeat (first | refine blk_drewN ?_ _ | refine blk_drew ?_ | refine blk_alloc ?_ _)); refine blk_put (cs := #[.int .i64 t263, .slice none 0 0]) ?_ 1 _ rfl; (with_reducible repeat (first | refine blk_drewN ?_ _ | refine blk_drew ?_ | refine blk_alloc ?_ _)); refine blk_put (cs := #[.int .i64 0, .slice none 0 0]) ?_ 0 _ rfl; (with_reducible repeat (first | refine blk_drewN ?_ _ | refine blk_drew ?_ | refine blk_alloc ?_ _)); exact BK267.out) hb); have n10_ := xH HB hb; clear HO250 HO254 HO257 HO260 HO266 BK243 BK244 BK267 HB; have HO250 := n0_; have HO254 := n1_; have HO257 := n2_; have HO260 := n3_; have HO266 := n4_; have HO271 := n5_; have HO274 := n6_; have BK243 := n7_; have BK244 := n8_; have BK267 := n9_; have HB := n10_; clear n0_ n1_ n2_ n3_ n4_ n5_ n6_ n7_ n8_ n9_ n10_; (try clear hb); (try clear hb2); (try clear hk); (try clear hi); (try clear ho0); (try clear ho1)) | ((with_reducible refine gate_dst (N := 11) rfl ?_); refine box_event ?hg (N := 11) ?hd (cs := #[.int .i64 0, .slice none 0 0, .slice none 0 0]) (t := 33) ?hr ?_; (case hd => rfl); (case hg => rfl); (case hr => first | (go_simp; done) | (go_simp; rfl)); intro gb275 hg w57 hbox hb; have n0_ := xR HO250 hb; have n1_ := xR HO254 hb; have n2_ := xR HO257 hb; have n3_ := xR HO260 hb; have n4_ := xR HO266 hb; have n5_ := xR HO271 hb; have n6_ := xR HO274 hb; have n7_ := xB BK243 hb; have n8_ := xB BK244 hb; have n9_ := xB BK267 hb; have n10_ := xH HB hb; have n11_ := zA (hbox); have n12_ := zA ((by rw [hg]; exact (below_size (uH HB.out)) : w.heap.size ≤ gb275)); have n13_ := zA ((by rw [hg]; exact (below_size (uH HB.out)) : w.heap.size ≤ gb275)); have n14_ := zA ((by rw [hg]; exact neL BK243 : gb243 ≠ gb275)); have n15_ := zA ((by rw [hg]; exact neG BK243 : gb275 ≠ gb243)); have n16_ := zA ((by rw [hg]; exact neL BK244 : gb244 ≠ gb275)); have n17_ := zA ((by rw [hg]; exact neG BK244 : gb275 ≠ gb244)); have n18_ := zA ((by rw [hg]; exact neL BK267 : gb267 ≠ gb275)); have n19_ := zA ((by rw [hg]; exact neG BK267 : gb275 ≠ gb267)); clear HO250 HO254 HO257 HO260 HO266 HO271 HO274 BK243 BK244 BK267 HB; have HO250 := n0_; have HO254 := n1_; have HO257 := n2_; have HO260 := n3_; have HO266 := n4_; have HO271 := n5_; have HO274 := n6_; have BK243 := n7_; have BK244 := n8_; have BK267 := n9_; have HB := n10_; have BK275 := n11_; have GW275 := n12_; have GE275 := n13_; have := geI GE275; have NB243_275 := n14_; have NB275_243 := n15_; have NB244_275 := n16_; have NB275_244 := n17_; have NB267_275 := n18_; have NB275_267 := n19_; clear n0_ n1_ n2_ n3_ n4_ n5_ n6_ n7_ n8_ n9_ n10_ n11_ n12_ n13_ n14_ n15_ n16_ n17_ n18_ n19_ hb hbox hg; have hnb58 := NB275_243.out; have hnc58 := NB243_275.out; have hnb59 := NB275_244.out; have hnc59 := NB244_275.out; have hnb60 := NB275_267.out; have hnc60 := NB267_275.out; have hcz61_0 : w57.cell? ⟨gb275, 0, none⟩ = some (.int .i64 0) := (blk_cell BK275.out 0).trans rfl; have hcz61_1 : w57.cell? ⟨gb275, 1, none⟩ = some (.slice none 0 0) := (blk_cell BK275.out 1).trans rfl; have hcz61_2 : w57.cell? ⟨gb275, 2, none⟩ = some (.slice none 0 0) := (blk_cell BK275.out 2).trans rfl; have hfz61_0 := blk_frozen BK275.out 0; have hfz61_1 := blk_frozen BK275.out 1; have hfz61_2 := blk_frozen BK275.out 2; obtain ⟨Ao62, co62, eo62⟩ := Kd.R_slice HO271.out; subst eo62; obtain ⟨Ao63, co63, eo63⟩ := Kd.R_slice HO274.out; subst eo63) | ((with_reducible refine gate_callee (f := 20) rfl ?_); refine goesL_ (some 43) rfl rfl Try.func20 (by kernel_rfl) rfl #[.slice A2 l2.length c2] rfl (by (try simp only [la, lb, lc]); first | done | rfl | (simp only [ld, le]; rfl)) ?_; (with_reducible refine (laws_toInt64S.calls k _ _ l2 t276 _ ?side1 ?side2 A29.out).mono ?_); (case side1 => exact Kd.C_below HR2.out (uH HB.out)); (case side2 => exact HC2.out); rintro e w64 ⟨v277, rfl, ho0, hb⟩; refine ⟨_, rfl, ?_⟩; have n0_ := zA (Kd.R_elder' (uR ((Kd.R_mono (Kd.R_far (p := ⟨gb275, 2, none⟩) (Kd.R_far (p := ⟨gb275, 1, none⟩) (Kd.R_far (p := ⟨gb275, 0, none⟩) (Kd.R_types HO250.out BK275.out (by decide)) (fun _ hk => hk.2) (.int .i64 t268)) (fun _ hk => hk.2) (.slice Ao62 t269.length co62)) (fun _ hk => hk.2) (.slice Ao63 t272.length co63)) (fun _ h_ => h_.1)))) (Kd.R_base ho0) hb); have n1_ := zA (Kd.R_elder' (uR ((Kd.R_mono (Kd.R_far (p := ⟨gb275, 2, none⟩) (Kd.R_far (p := ⟨gb275, 1, none⟩) (Kd.R_far (p := ⟨gb275, 0, none⟩) (Kd.R_types HO254.out BK275.out (by decide)) (fun _ hk => hk.2) (.int .i64 t268)) (fun _ hk => hk.2) (.slice Ao62 t269.length co62)) (fun _ hk => hk.2) (.slice Ao63 t272.length co63)) (fun _ h_ => h_.1)))) (Kd.R_base ho0) hb); have n2_ := zA (Kd.R_elder' (uR ((Kd.R_mono (Kd.R_far (p := ⟨gb275, 2, none⟩) (Kd.R_far (p := ⟨gb275, 1, none⟩) (Kd.R_far (p := ⟨gb275, 0, none⟩) (Kd.R_types HO257.out BK275.out (by decide)) (fun _ hk => hk.2) (.int .i64 t268)) (fun _ hk => hk.2) (.slice Ao62 t269.length co62)) (fun _ hk => hk.2) (.slice Ao63 t272.length co63)) (fun _ h_ => h_.1)))) (Kd.R_base ho0) hb); have n3_ := zA (Kd.R_elder' (uR ((Kd.R_mono (Kd.R_far (p := ⟨gb275, 2, none⟩) (Kd.R_far (p := ⟨gb275, 1, none⟩) (Kd.R_far (p := ⟨gb275, 0, none⟩) (Kd.R_types HO260.out BK275.out (by decide)) (fun _ hk => hk.2) (.int .i64 t268)) (fun _ hk => hk.2) (.slice Ao62 t269.length co62)) (fun _ hk => hk.2) (.slice Ao63 t272.length co63)) (fun _ h_ => h_.1)))) (Kd.R_base ho0) hb); have n4_ := zA (Kd.R_elder' (uR ((Kd.R_mono (Kd.R_far (p := ⟨gb275, 2, none⟩) (Kd.R_far (p := ⟨gb275, 1, none⟩) (Kd.R_far (p := ⟨gb275, 0, none⟩) (Kd.R_types HO266.out BK275.out (by decide)) (fun _ hk => hk.2) (.int .i64 t268)) (fun _ hk => hk.2) (.slice Ao62 t269.length co62)) (fun _ hk => hk.2) (.slice Ao63 t272.length co63)) (fun _ h_ => h_.1)))) (Kd.R_base ho0) hb); have n5_ := zA (Kd.R_elder' (uR ((Kd.R_mono (Kd.R_far (p := ⟨gb275, 2, none⟩) (Kd.R_far (p := ⟨gb275, 1, none⟩) (Kd.R_far (p := ⟨gb275, 0, none⟩) (Kd.R_types HO271.out BK275.out (by decide)) (fun _ hk => hk.2) (.int .i64 t268)) (fun _ hk => hk.2) (.slice Ao62 t269.length co62)) (fun _ hk => hk.2) (.slice Ao63 t272.length co63)) (fun _ h_ => h_.1)))) (Kd.R_base ho0) hb); have n6_ := zA (Kd.R_elder' (uR ((Kd.R_mono (Kd.R_far (p := ⟨gb275, 2, none⟩) (Kd.R_far (p := ⟨gb275, 1, none⟩) (Kd.R_far (p := ⟨gb275, 0, none⟩) (Kd.R_types HO274.out BK275.out (by decide)) (fun _ hk => hk.2) (.int .i64 t268)) (fun _ hk => hk.2) (.slice Ao62 t269.length co62)) (fun _ hk => hk.2) (.slice Ao63 t272.length co63)) (fun _ h_ => h_.1)))) (Kd.R_base ho0) hb); have n7_ := zA (Kd.R_lower (Kd.R_new' (Kd.R_new' (Kd.R_new' (Kd.R_new' (Kd.R_new' (Kd.R_new' (Kd.R_new' ho0 (Kd.R_lt (uR ((Kd.R_mono (Kd.R_far (p := ⟨gb275, 2, none⟩) (Kd.R_far (p := ⟨gb275, 1, none⟩) (Kd.R_far (p := ⟨gb275, 0, none⟩) (Kd.R_types HO250.out BK275.out (by decide)) (fun _ hk => hk.2) (.int .i64 t268)) (fun _ hk => hk.2) (.slice Ao62 t269.length co62)) (fun _ hk => hk.2) (.slice Ao63 t272.length co63)) (fun _ h_ => h_.1)))))) (Kd.R_lt (uR ((Kd.R_mono (Kd.R_far (p := ⟨gb275, 2, none⟩) (Kd.R_far (p := ⟨gb275, 1, none⟩) (Kd.R_far (p := ⟨gb275, 0, none⟩) (Kd.R_types HO254.out BK275.out (by decide)) (fun _ hk => hk.2) (.int .i64 t268)) (fun _ hk => hk.2) (.slice Ao62 t269.length co62)) (fun _ hk => hk.2) (.slice Ao63 t272.length co63)) (fun _ h_ => h_.1)))))) (Kd.R_lt (uR ((Kd.R_mono (Kd.R_far (p := ⟨gb275, 2, none⟩) (Kd.R_far (p := ⟨gb275, 1, none⟩) (Kd.R_far (p := ⟨gb275, 0, none⟩) (Kd.R_types HO257.out BK275.out (by decide)) (fun _ hk => hk.2) (.int .i64 t268)) (fun _ hk => hk.2) (.slice Ao62 t269.length co62)) (fun _ hk => hk.2) (.slice Ao63 t272.length co63)) (fun _ h_ => h_.1)))))) (Kd.R_lt (uR ((Kd.R_mono (Kd.R_far (p := ⟨gb275, 2, none⟩) (Kd.R_far (p := ⟨gb275, 1, none⟩) (Kd.R_far (p := ⟨gb275, 0, none⟩) (Kd.R_types HO260.out BK275.out (by decide)) (fun _ hk => hk.2) (.int .i64 t268)) (fun _ hk => hk.2) (.slice Ao62 t269.length co62)) (fun _ hk => hk.2) (.slice Ao63 t272.length co63)) (fun _ h_ => h_.1)))))) (Kd.R_lt (uR ((Kd.R_mono (Kd.R_far (p := ⟨gb275, 2, none⟩) (Kd.R_far (p := ⟨gb275, 1, none⟩) (Kd.R_far (p := ⟨gb275, 0, none⟩) (Kd.R_types HO266.out BK275.out (by decide)) (fun _ hk => hk.2) (.int .i64 t268)) (fun _ hk => hk.2) (.slice Ao62 t269.length co62)) (fun _ hk => hk.2) (.slice Ao63 t272.length co63)) (fun _ h_ => h_.1)))))) (Kd.R_lt (uR ((Kd.R_mono (Kd.R_far (p := ⟨gb275, 2, none⟩) (Kd.R_far (p := ⟨gb275, 1, none⟩) (Kd.R_far (p := ⟨gb275, 0, none⟩) (Kd.R_types HO271.out BK275.out (by decide)) (fun _ hk => hk.2) (.int .i64 t268)) (fun _ hk => hk.2) (.slice Ao62 t269.length co62)) (fun _ hk => hk.2) (.slice Ao63 t272.length co63)) (fun _ h_ => h_.1)))))) (Kd.R_lt (uR ((Kd.R_mono (Kd.R_far (p := ⟨gb275, 2, none⟩) (Kd.R_far (p := ⟨gb275, 1, none⟩) (Kd.R_far (p := ⟨gb275, 0, none⟩) (Kd.R_types HO274.out BK275.out (by decide)) (fun _ hk => hk.2) (.int .i64 t268)) (fun _ hk => hk.2) (.slice Ao62 t269.length co62)) (fun _ hk => hk.2) (.slice Ao63 t272.length co63)) (fun _ h_ => h_.1)))))) (below_size (uH HB.out))); have n8_ := zA (blk_below (g := gb243) (o := .cells #[.int .i64 a0_0, .slice A0_1 l0_1.length c0_1] 24 (0, 0)) (by (with_reducible repeat (first | refine blk_drewN ?_ _ | refine blk_drew ?_ | refine blk_alloc ?_ _)); refine blk_far ?_ NB243_275.out _; (with_reducible repeat (first | refine blk_drewN ?_ _ | refine blk_drew ?_ | refine blk_alloc ?_ _)); refine blk_far ?_ NB243_275.out _; (with_reducible repeat (first | refine blk_drewN ?_ _ | refine blk_drew ?_ | refine blk_alloc ?_ _)); refine blk_far ?_ NB243_275.out _; (with_reducible repeat (first | refine blk_drewN ?_ _ | refine blk_drew ?_ | refine blk_alloc ?_ _)); exact BK243.out) hb); have n9_ := zA (blk_below (g := gb244) (o := .cells #[.int .i64 a1_0, .slice A1_1 l1_1.length c1_1, .slice A1_2 l1_2.length c1_2] 26 (0, 0)) (by (with_reducible repeat (first | refine blk_drewN ?_ _ | refine blk_drew ?_ | refine blk_alloc ?_ _)); refine blk_far ?_ NB244_275.out _; (with_reducible repeat (first | refine blk_drewN ?_ _ | refine blk_drew ?_ | refine blk_alloc ?_ _)); refine blk_far ?_ NB244_275.out _; (with_reducible repeat (first | refine blk_drewN ?_ _ | refine blk_drew ?_ | refine blk_alloc ?_ _)); refine blk_far ?_ NB244_275.out _; (with_reducible repeat (first | refine blk_drewN ?_ _ | refine blk_drew ?_ | refine blk_alloc ?_ _)); exact BK244.out) hb); have n10_ := zA (blk_below (g := gb267) (o := .cells #[.int .i64 t263, .slice Ao54 t264.length co54] 31 (0, 0)) (by (with_reducible repeat (first | refine blk_drewN ?_ _ | refine blk_drew ?_ | refine blk_alloc ?_ _)); refine blk_far ?_ NB267_275.out _; (with_reducible repeat (first | refine blk_drewN ?_ _ | refine blk_drew ?_ | refine blk_alloc ?_ _)); refine blk_far ?_ NB267_275.out _; (with_reducible repeat (first | refine blk_drewN ?_ _ | refine blk_drew ?_ | refine blk_alloc ?_ _)); refine blk_far ?_ NB267_275.out _; (with_reducible repeat (first | refine blk_drewN ?_ _ | refine blk_drew ?_ | refine blk_alloc ?_ _)); exact BK267.out) hb); have n11_ := zA (blk_below (g := gb275) (o := .cells #[.int .i64 t268, .slice Ao62 t269.length co62, .slice Ao63 t272.length co63] 33 (0, 0)) (by (with_reducible repeat (first | refine blk_drewN ?_ _ | refine blk_drew ?_ | refine blk_alloc ?_ _)); refine blk_put (cs := #[.int .i64 t268, .slice Ao62 t269.length co62, .slice none 0 0]) ?_ 2 _ rfl; (with_reducible repeat (first | refine blk_drewN ?_ _ | refine blk_drew ?_ | refine blk_alloc ?_ _)); refine blk_put (cs := #[.int .i64 t268, .slice none 0 0, .slice none 0 0]) ?_ 1 _ rfl; (with_reducible repeat (first | refine blk_drewN ?_ _ | refine blk_drew ?_ | refine blk_alloc ?_ _)); refine blk_put (cs := #[.int .i64 0, .slice none 0 0, .slice none 0 0]) ?_ 0 _ rfl; (with_reducible repeat (first | refine blk_drewN ?_ _ | refine blk_drew ?_ | refine blk_alloc ?_ _)); exact BK275.out) hb); have n12_ := xH HB hb; clear HO250 HO254 HO257 HO260 HO266 HO271 HO274 BK243 BK244 BK267 BK275 HB; have HO250 := n0_; have HO254 := n1_; have HO257 := n2_; have HO260 := n3_; have HO266 := n4_; have HO271 := n5_; have HO274 := n6_; have HO278 := n7_; have BK243 := n8_; have BK244 := n9_; have BK267 := n10_; have BK275 := n11_; have HB := n12_; clear n0_ n1_ n2_ n3_ n4_ n5_ n6_ n7_ n8_ n9_ n10_ n11_ n12_; (try clear hb); (try clear hb2); (try clear hk); (try clear hi); (try clear ho0); have hcz65_0 : w64.cell? ⟨gb267, 0, none⟩ = some (.int .i64 t263) := (blk_cell BK267.out 0).trans rfl; have hcz65_1 : w64.cell? ⟨gb267, 1, none⟩ = some (.slice Ao54 t264.length co54) := (blk_cell BK267.out 1).trans rfl; have hfz65_0 := blk_frozen BK267.out 0; have hfz65_1 := blk_frozen BK267.out 1; have hcz66_0 : w64.cell? ⟨gb275, 0, none⟩ = some (.int .i64 t268) := (blk_cell BK275.out 0).trans rfl; have hcz66_1 : w64.cell? ⟨gb275, 1, none⟩ = some (.slice Ao62 t269.length co62) := (blk_cell BK275.out 1).trans rfl; have hcz66_2 : w64.cell? ⟨gb275, 2, none⟩ = some (.slice Ao63 t272.length co63) := (blk_cell BK275.out 2).trans rfl; have hfz66_0 := blk_frozen BK275.out 0; have hfz66_1 := blk_frozen BK275.out 1; have hfz66_2 := blk_frozen BK275.out 2; obtain ⟨Ao67, co67, eo67⟩ := Kd.R_slice HO278.out; subst eo67) | ((with_reducible refine gate_callee (f := 21) rfl ?_); refine goesL_ (some 48) rfl rfl Try.func21 (by kernel_rfl) rfl #[.agg #[.int .i64 t263, .slice Ao54 t264.length co54], .agg #[.int .i64 t268, .slice Ao62 t269.length co62, .slice Ao63 t272.length co63], .slice Ao67 t276.length co67] rfl (by (try simp only [la, lb, lc]); first | done | rfl | (simp only [ld, le]; rfl)) ?_; (with_reducible refine (impl_ErrorOf.calls k t263 _ _ t264 t268 _ _ t269 _ _ t272 (fun k_ => some k_ = (.slice Ao67 t276.length co67 : Value).ownBlock) _ _ t276 t279 t280 _ ?side1 ?side2 ?side3 ?side4 ?side5 ?side6 ?side7 A30.out).mono ?_); (case side1 => exact uC ((Kd.R_reads' HO266.out).2.2)); (case side2 => exact (Kd.R_reads' HO266.out).2.1); (case side3 => exact uC ((Kd.R_reads' HO271.out).2.2)); (case side4 => exact (Kd.R_reads' HO271.out).2.1); (case side5 => exact uC ((Kd.R_reads' HO274.out).2.2)); (case side6 => exact (Kd.R_reads' HO274.out).2.1); (case side7 => exact Kd.R_V (Kd.R_tight rfl (Kd.R_types (Kd.R_types (Kd.R_types (Kd.R_types (HO278.out) BK243.out (by decide)) BK244.out (by decide)) BK267.out (by decide)) BK275.out (by decide)))); rintro e w68 ⟨rfl, hb⟩; refine ⟨_, rfl, ?_⟩; have n0_ := xR HO250 hb; have n1_ := xR HO254 hb; have n2_ := xR HO257 hb; have n3_ := xR HO260 hb; have n4_ := xR HO266 hb; have n5_ := xR HO271 hb; have n6_ := xR HO274 hb; have n7_ := xR HO278 hb; have n8_ := xB BK243 hb; have n9_ := xB BK244 hb; have n10_ := xB BK267 hb; have n11_ := xB BK275 hb; have n12_ := xH HB hb; clear HO250 HO254 HO257 HO260 HO266 HO271 HO274 HO278 BK243 BK244 BK267 BK275 HB; have HO250 := n0_; have HO254 := n1_; have HO257 := n2_; have HO260 := n3_; have HO266 := n4_; have HO271 := n5_; have HO274 := n6_; have HO278 := n7_; have BK243 := n8_; have BK244 := n9_; have BK267 := n10_; have BK275 := n11_; have HB := n12_; clear n0_ n1_ n2_ n3_ n4_ n5_ n6_ n7_ n8_ n9_ n10_ n11_ n12_; (try clear hb); (try clear hb2); (try clear hk); (try clear hi)))
    (try simp only [Act.put, ls, lz, ln])
    go_cut [58] (fun v58 wc => ∃ (kq : Nat) (x58_30 : Bool), v58 = .bool x58_30 ∧ Aside0 (laws_FnExactErrorOf.j0 kq l2 t276 x58_30 a0_0 l0_1 a1_0 l1_1 l1_2 t263 t264 t268 t269 t272 = some r) ∧ Aside0 (kq ≤ k) ∧ Aside0 (Kd.R (Kd.int .i64) 2 wc w.heap.size (fun k_ => some k_ ≠ ((.slice Ao54 t264.length co54) : Value).ownBlock ∧ some k_ ≠ ((.slice Ao62 t269.length co62) : Value).ownBlock ∧ some k_ ≠ ((.slice Ao63 t272.length co63) : Value).ownBlock) (.slice Ao67 t276.length co67) t276) ∧ Aside0 (Kd.R (Kd.int .i64) 2 wc w.heap.size (fun k_ => some k_ ≠ ((.slice Ao67 t276.length co67) : Value).ownBlock ∧ some k_ ≠ ((.slice Ao62 t269.length co62) : Value).ownBlock ∧ some k_ ≠ ((.slice Ao63 t272.length co63) : Value).ownBlock) (.slice Ao54 t264.length co54) t264) ∧ Aside0 (Kd.R (Kd.int .i64) 2 wc w.heap.size (fun k_ => some k_ ≠ ((.slice Ao67 t276.length co67) : Value).ownBlock ∧ some k_ ≠ ((.slice Ao54 t264.length co54) : Value).ownBlock ∧ some k_ ≠ ((.slice Ao63 t272.length co63) : Value).ownBlock) (.slice Ao62 t269.length co62) t269) ∧ Aside0 (Kd.R (Kd.int .i64) 2 wc w.heap.size (fun k_ => some k_ ≠ ((.slice Ao67 t276.length co67) : Value).ownBlock ∧ some k_ ≠ ((.slice Ao54 t264.length co54) : Value).ownBlock ∧ some k_ ≠ ((.slice Ao62 t269.length co62) : Value).ownBlock) (.slice Ao63 t272.length co63) t272) ∧ Aside0 (wc.heap[gb243]? = some (.cells #[.int .i64 a0_0, (.slice A0_1 l0_1.length c0_1)] 24 (0, 0))) ∧ Aside0 (wc.heap[gb244]? = some (.cells #[.int .i64 a1_0, (.slice A1_1 l1_1.length c1_1), (.slice A1_2 l1_2.length c1_2)] 26 (0, 0))) ∧ Aside0 (wc.heap[gb267]? = some (.cells #[.int .i64 t263, (.slice Ao54 t264.length co54)] 31 (0, 0))) ∧ Aside0 (wc.heap[gb275]? = some (.cells #[.int .i64 t268, (.slice Ao62 t269.length co62), (.slice Ao63 t272.length co63)] 33 (0, 0))) ∧ Aside0 (Below w.heap.size w wc))
    case first =>
     have H := HC31.out
     clear HC31
     by_cases c69 : t279 = t261
     ·rw [if_pos c69] at H
      have c69b0 : (t279 == t261) = true := beq_iff_eq.mpr c69
      have c69b1 : (t279 != t261) = false := bne_eq_false_iff_eq.mpr c69
      clear c69
      (first | rw [c69b0] | (simp only [i64_w, i32_w]; rw [c69b0]) | skip)
      have H' := zA H
      clear H
      go_wp2
      go_meet
      case rel => exact ⟨_, ((t280 != t262)), (by first | rfl | (simp; done) | (simp [*]; done)), H', ⟨by first | omega | exact Nat.le_refl _⟩, ⟨uR (Kd.R_mono HO278.out (fun _ hk => ⟨hk.1.1.2, ⟨hk.1.2, hk.2⟩⟩))⟩, ⟨uR (Kd.R_mono HO266.out (fun _ hk => ⟨hk.2, ⟨hk.1.1.2, hk.1.2⟩⟩))⟩, ⟨uR (Kd.R_mono HO271.out (fun _ hk => ⟨hk.2, ⟨hk.1.2, hk.1.1.1.1.1.1⟩⟩))⟩, ⟨uR (Kd.R_mono HO274.out (fun _ hk => ⟨hk.2, ⟨hk.1.2, hk.1.1.1.1.1.1⟩⟩))⟩, ⟨uB BK243.out⟩, ⟨uB BK244.out⟩, ⟨uB BK267.out⟩, ⟨uB BK275.out⟩, ⟨uH HB.out⟩⟩
     ·rw [if_neg c69] at H
      have c69b0 : (t279 == t261) = false := beq_eq_false_iff_ne.mpr c69
      have c69b1 : (t279 != t261) = true := bne_iff_ne.mpr c69
      (first | rw [c69b0] | (simp only [i64_w, i32_w]; rw [c69b0]) | skip)
      have H' := zA H
      clear H
      go_wp2
      go_meet
      case rel => exact ⟨_, (true), (by first | rfl | (simp; done) | (simp [*]; done)), H', ⟨by first | omega | exact Nat.le_refl _⟩, ⟨uR (Kd.R_mono HO278.out (fun _ hk => ⟨hk.1.1.2, ⟨hk.1.2, hk.2⟩⟩))⟩, ⟨uR (Kd.R_mono HO266.out (fun _ hk => ⟨hk.2, ⟨hk.1.1.2, hk.1.2⟩⟩))⟩, ⟨uR (Kd.R_mono HO271.out (fun _ hk => ⟨hk.2, ⟨hk.1.2, hk.1.1.1.1.1.1⟩⟩))⟩, ⟨uR (Kd.R_mono HO274.out (fun _ hk => ⟨hk.2, ⟨hk.1.2, hk.1.1.1.1.1.1⟩⟩))⟩, ⟨uB BK243.out⟩, ⟨uB BK244.out⟩, ⟨uB BK267.out⟩, ⟨uB BK275.out⟩, ⟨uH HB.out⟩⟩
    case rest =>
     clear HC31
     try clear c1
     try clear c2
     try clear p2
     try clear c3
     try clear c4
     try clear c4b0
     try clear c4b1
     try clear c5
     try clear c6
     try clear c8
     try clear c8b0
     try clear c11
     try clear c15
     try clear c15b0
     try clear c16
     try clear c17
     try clear c18
     try clear c19
     try clear c20
     try clear c21
     try clear c34
     try clear c51
     try clear c52
     try clear c58
     try clear c59
     try clear c60
     try clear c69
     try clear c69b0
     try clear c69b1
     try clear hcz12_0
     try clear hcz12_1
     try clear hcz19_0
     try clear hcz19_1
     try clear hcz21_0
     try clear hcz21_1
     try clear hcz21_2
     try clear hcz35_0
     try clear hcz35_1
     try clear hcz37_0
     try clear hcz37_1
     try clear hcz37_2
     try clear hcz48_0
     try clear hcz48_1
     try clear hcz53_0
     try clear hcz53_1
     try clear hcz55_0
     try clear hcz55_1
     try clear hcz55_2
     try clear hcz61_0
     try clear hcz61_1
     try clear hcz61_2
     try clear hcz65_0
     try clear hcz65_1
     try clear hcz66_0
     try clear hcz66_1
     try clear hcz66_2
     try clear hfz12_0
     try clear hfz12_1
     try clear hfz19_0
     try clear hfz19_1
     try clear hfz21_0
     try clear hfz21_1
     try clear hfz21_2
     try clear hfz35_0
     try clear hfz35_1
     try clear hfz37_0
     try clear hfz37_1
     try clear hfz37_2
     try clear hfz48_0
     try clear hfz48_1
     try clear hfz53_0
     try clear hfz53_1
     try clear hfz55_0
     try clear hfz55_1
     try clear hfz55_2
     try clear hfz61_0
     try clear hfz61_1
     try clear hfz61_2
     try clear hfz65_0
     try clear hfz65_1
     try clear hfz66_0
     try clear hfz66_1
     try clear hfz66_2
     obtain ⟨kq, x58_30, rfl, HA, HJ30, HO_12, HO_268001, HO_276001, HO_276002, BK243, BK244, BK267, BK275, HB⟩ := hcut
     cases kq with
     | zero => exact absurd HA.out (by simp [laws_FnExactErrorOf.j0])
     | succ kj30 =>
      have H := HA.out
      clear HA
      simp only [laws_FnExactErrorOf.j0] at H
      by_cases c70 : x58_30 = true
      ·subst c70
       have H1 : (some false) = some r := by rw [if_pos rfl] at H; exact H
       clear H
       have H := H1
       clear H1
       rw [HRT.out] at H
       exact absurd H (by simp)
      ·replace c70 := Bool.eq_false_iff.mpr c70
       subst c70
       have H1 : ((laws_toMoments.f kj30 a0_0 l0_1).bind fun bt281 => ((laws_eqMoments.f kj30 t263 t264 bt281.1 bt281.2).bind fun t285 => (if t285 = true then ((laws_toRule.f kj30 a1_0 l1_1 l1_2).bind fun bt286 => ((laws_eqRule.f kj30 t268 t269 t272 bt286.1 bt286.2.1 bt286.2.2).bind fun t293 => (if t293 = true then ((laws_toInt64S.f kj30 l2).bind fun t294 => ((laws_eqInt64S.f kj30 t276 t294).bind fun t297 => (if t297 = true then (some true) else (some false)))) else (some false)))) else (some false)))) = some r := by rw [if_neg (show ¬ (false = true) by decide)] at H; exact H
       clear H
       have H := H1
       clear H1
       replace H := Option.bind_eq_some_iff.mp H
       obtain ⟨⟨t281, t282⟩, A710, H⟩ := H
       replace H : ((laws_eqMoments.f kj30 t263 t264 t281 t282).bind fun t285 => (if t285 = true then ((laws_toRule.f kj30 a1_0 l1_1 l1_2).bind fun bt286 => ((laws_eqRule.f kj30 t268 t269 t272 bt286.1 bt286.2.1 bt286.2.2).bind fun t293 => (if t293 = true then ((laws_toInt64S.f kj30 l2).bind fun t294 => ((laws_eqInt64S.f kj30 t276 t294).bind fun t297 => (if t297 = true then (some true) else (some false)))) else (some false)))) else (some false))) = some r := H
       have A71 := zA A710
       clear A710
       replace H := Option.bind_eq_some_iff.mp H
       obtain ⟨t285, A720, H⟩ := H
       replace H : (if t285 = true then ((laws_toRule.f kj30 a1_0 l1_1 l1_2).bind fun bt286 => ((laws_eqRule.f kj30 t268 t269 t272 bt286.1 bt286.2.1 bt286.2.2).bind fun t293 => (if t293 = true then ((laws_toInt64S.f kj30 l2).bind fun t294 => ((laws_eqInt64S.f kj30 t276 t294).bind fun t297 => (if t297 = true then (some true) else (some false)))) else (some false)))) else (some false)) = some r := H
       have A72 := zA A720
       clear A720
       by_cases c73 : t285 = true
       ·subst c73
        have H1 : ((laws_toRule.f kj30 a1_0 l1_1 l1_2).bind fun bt286 => ((laws_eqRule.f kj30 t268 t269 t272 bt286.1 bt286.2.1 bt286.2.2).bind fun t293 => (if t293 = true then ((laws_toInt64S.f kj30 l2).bind fun t294 => ((laws_eqInt64S.f kj30 t276 t294).bind fun t297 => (if t297 = true then (some true) else (some false)))) else (some false)))) = some r := by rw [if_pos rfl] at H; exact H
        clear H
        have H := H1
        clear H1
        replace H := Option.bind_eq_some_iff.mp H
        obtain ⟨⟨t286, t287, t290⟩, A740, H⟩ := H
        replace H : ((laws_eqRule.f kj30 t268 t269 t272 t286 t287 t290).bind fun t293 => (if t293 = true then ((laws_toInt64S.f kj30 l2).bind fun t294 => ((laws_eqInt64S.f kj30 t276 t294).bind fun t297 => (if t297 = true then (some true) else (some false)))) else (some false))) = some r := H
        have A74 := zA A740
        clear A740
        replace H := Option.bind_eq_some_iff.mp H
        obtain ⟨t293, A750, H⟩ := H
        replace H : (if t293 = true then ((laws_toInt64S.f kj30 l2).bind fun t294 => ((laws_eqInt64S.f kj30 t276 t294).bind fun t297 => (if t297 = true then (some true) else (some false)))) else (some false)) = some r := H
        have A75 := zA A750
        clear A750
        by_cases c76 : t293 = true
        ·subst c76
         have H1 : ((laws_toInt64S.f kj30 l2).bind fun t294 => ((laws_eqInt64S.f kj30 t276 t294).bind fun t297 => (if t297 = true then (some true) else (some false)))) = some r := by rw [if_pos rfl] at H; exact H
         clear H
         have H := H1
         clear H1
         replace H := Option.bind_eq_some_iff.mp H
         obtain ⟨t294, A770, H⟩ := H
         replace H : ((laws_eqInt64S.f kj30 t276 t294).bind fun t297 => (if t297 = true then (some true) else (some false))) = some r := H
         have A77 := zA A770
         clear A770
         replace H := Option.bind_eq_some_iff.mp H
         obtain ⟨t297, A780, H⟩ := H
         replace H : (if t297 = true then (some true) else (some false)) = some r := H
         have A78 := zA A780
         clear A780
         by_cases c79 : t297 = true
         ·subst c79
          have H1 : (some true) = some r := by rw [if_pos rfl] at H; exact H
          clear H
          have H := H1
          clear H1
          obtain rfl := Option.some.inj H
          try go_wp2
          have n0_ := zA (Kd.R_drew HO_12.out)
          have n1_ := zA (Kd.R_drew HO_268001.out)
          have n2_ := zA (Kd.R_drew HO_276001.out)
          have n3_ := zA (Kd.R_drew HO_276002.out)
          have n4_ := zA (blk_drew BK243.out)
          have n5_ := zA (blk_drew BK244.out)
          have n6_ := zA (blk_drew BK267.out)
          have n7_ := zA (blk_drew BK275.out)
          have n8_ := zA (below_drew1 HB.out)
          clear HO_12 HO_268001 HO_276001 HO_276002 BK243 BK244 BK267 BK275 HB
          have HO_12 := n0_; have HO_268001 := n1_; have HO_276001 := n2_; have HO_276002 := n3_; have BK243 := n4_; have BK244 := n5_; have BK267 := n6_; have BK275 := n7_; have HB := n8_
          clear n0_ n1_ n2_ n3_ n4_ n5_ n6_ n7_ n8_
          refine start_ (n := 5) (S := fun w' => w'.cell? ⟨gb267, 0, none⟩ = some (.int .i64 t263) ∧ w'.cell? ⟨gb267, 1, none⟩ = some (.slice Ao54 t264.length co54) ∧ w'.cell? ⟨gb243, 0, none⟩ = some (.int .i64 a0_0) ∧ w'.cell? ⟨gb243, 1, none⟩ = some (.slice A0_1 l0_1.length c0_1)) (ds := []) #[false, false, false, false, false] (by kernel_rfl) rfl rfl ⟨(blk_cell BK267.out 0).trans rfl, (blk_cell BK267.out 1).trans rfl, (blk_cell BK243.out 0).trans rfl, (blk_cell BK243.out 1).trans rfl⟩ (fun hHeld => ?_)
          generalize wc.drew = w80 at HO_12 HO_268001 HO_276001 HO_276002 BK243 BK244 BK267 BK275 HB hHeld ⊢
          refine take_ (i := 0) (N := some 59) (v := ?_) (a' := ?_) (bl 5 1) rfl rfl (by kernel_rfl) (fun _ _ _ h => h) (Or.inl ⟨by rfl, ?_⟩) hHeld ?_ ?_
          rotate_left
          ·rintro w' ⟨s0, s1, s2, s3⟩
           go_simp
           with_reducible rfl
          rotate_left
          ·simp only [Act.put, ls, lz, ln, i64_w, i32_w]
           rfl
          refine take_ (i := 1) (N := some 60) (v := ?_) (a' := ?_) (bl 5 3) rfl rfl (by kernel_rfl) (fun _ _ _ h => h) (Or.inl ⟨by rfl, ?_⟩) hHeld ?_ ?_
          rotate_left
          ·rintro w' ⟨s0, s1, s2, s3⟩
           go_simp
           with_reducible rfl
          rotate_left
          ·simp only [Act.put, ls, lz, ln, i64_w, i32_w]
           rfl
          refine one_ (i := 2) (N := some 61) (bl 5 7) rfl rfl (by kernel_rfl) (by decide) (fun K hK => ?_)
          refine goes_ Try.func18 (by kernel_rfl) rfl #[.agg #[.int .i64 a0_0, .slice A0_1 l0_1.length c0_1]] (by rfl) rfl rfl (by (try simp only [la, lb, lc]); first | done | rfl | (simp only [ld, le]; rfl)) ?_
          with_reducible refine (laws_toMoments.calls kj30 a0_0 _ _ l0_1 t281 t282 _ ?side1 ?side2 A71.out).mono ?_
          (case side1 => exact uC ((Kd.C_below HR0_1.out HB.out)))
          (case side2 => exact HC0_1.out)
          rintro e w81 ⟨v283, rfl, ho0, hb⟩
          refine ⟨_, rfl, ?_⟩
          have n0_ := zA (Kd.R_elder' (uR HO_12.out) (Kd.R_base ho0) hb)
          have n1_ := zA (Kd.R_elder' (uR HO_268001.out) (Kd.R_base ho0) hb)
          have n2_ := zA (Kd.R_elder' (uR HO_276001.out) (Kd.R_base ho0) hb)
          have n3_ := zA (Kd.R_elder' (uR HO_276002.out) (Kd.R_base ho0) hb)
          have n4_ := zA (Kd.R_lower (Kd.R_new' (Kd.R_new' (Kd.R_new' (Kd.R_new' ho0 (Kd.R_lt (uR HO_12.out))) (Kd.R_lt (uR HO_268001.out))) (Kd.R_lt (uR HO_276001.out))) (Kd.R_lt (uR HO_276002.out))) (below_size (uH HB.out)))
          have n5_ := xB BK243 hb
          have n6_ := xB BK244 hb
          have n7_ := xB BK267 hb
          have n8_ := xB BK275 hb
          have n9_ := xH HB hb
          clear HO_12 HO_268001 HO_276001 HO_276002 BK243 BK244 BK267 BK275 HB
          have HO_12 := n0_; have HO_268001 := n1_; have HO_276001 := n2_; have HO_276002 := n3_; have HO284 := n4_; have BK243 := n5_; have BK244 := n6_; have BK267 := n7_; have BK275 := n8_; have HB := n9_
          clear n0_ n1_ n2_ n3_ n4_ n5_ n6_ n7_ n8_ n9_
          (try clear hb); (try clear hb2); (try clear hk); (try clear hi); (try clear ho0)
          obtain ⟨Ao82, co82, eo82⟩ := Kd.R_slice HO284.out
          (first | subst eo82 | (injection eo82 with f1_ f2_ f3_; have f4_ := f1_.symm; have f5_ := f3_.symm; clear f1_ f2_ f3_; subst f4_; subst f5_))
          refine hK.out _ _ ⟨(blk_cell BK267.out 0).trans rfl, (blk_cell BK267.out 1).trans rfl, (blk_cell BK243.out 0).trans rfl, (blk_cell BK243.out 1).trans rfl⟩ (fun hHeld => ?_)
          clear hK K
          refine no_ 61 ?_
          refine one_ (i := 3) (N := some 62) (bl 5 15) rfl rfl (by kernel_rfl) (by decide) (fun K hK => ?_)
          refine goes_ Try.func22 (by kernel_rfl) rfl #[.agg #[.int .i64 t263, .slice Ao54 t264.length co54], .agg #[.int .i64 t281, .slice Ao82 t282.length co82]] (by rfl) rfl rfl (by (try simp only [la, lb, lc]); first | done | rfl | (simp only [ld, le]; rfl)) ?_
          with_reducible refine (laws_eqMoments.calls kj30 t263 _ _ t264 t281 _ _ t282 true _ ?side1 ?side2 ?side3 ?side4 A72.out).mono ?_
          (case side1 => exact uC ((Kd.R_reads' HO_268001.out).2.2))
          (case side2 => exact (Kd.R_reads' HO_268001.out).2.1)
          (case side3 => exact uC ((Kd.R_reads' HO284.out).2.2))
          (case side4 => exact (Kd.R_reads' HO284.out).2.1)
          rintro e w83 ⟨rfl, hb⟩
          refine ⟨_, rfl, ?_⟩
          have n0_ := xR HO_12 hb
          have n1_ := xR HO_268001 hb
          have n2_ := xR HO_276001 hb
          have n3_ := xR HO_276002 hb
          have n4_ := xR HO284 hb
          have n5_ := xB BK243 hb
          have n6_ := xB BK244 hb
          have n7_ := xB BK267 hb
          have n8_ := xB BK275 hb
          have n9_ := xH HB hb
          clear HO_12 HO_268001 HO_276001 HO_276002 HO284 BK243 BK244 BK267 BK275 HB
          have HO_12 := n0_; have HO_268001 := n1_; have HO_276001 := n2_; have HO_276002 := n3_; have HO284 := n4_; have BK243 := n5_; have BK244 := n6_; have BK267 := n7_; have BK275 := n8_; have HB := n9_
          clear n0_ n1_ n2_ n3_ n4_ n5_ n6_ n7_ n8_ n9_
          (try clear hb); (try clear hb2); (try clear hk); (try clear hi)
          refine hK.out _ _ ⟨(blk_cell BK267.out 0).trans rfl, (blk_cell BK267.out 1).trans rfl, (blk_cell BK243.out 0).trans rfl, (blk_cell BK243.out 1).trans rfl⟩ (fun hHeld => ?_)
          clear hK K
          refine no_ 62 ?_
          refine pure_ (i := 4) (N := some 63) (v := ?_) (a' := ?_) (bl 5 31) rfl rfl (by kernel_rfl) (fun _ _ _ h => h) (Or.inl ⟨by rfl, ?_⟩) ?_ ?_
          rotate_left
          ·intro w'
           go_simp
           with_reducible rfl
          rotate_left
          ·simp only [Act.put, ls, lz, ln, i64_w, i32_w]
           rfl
          refine done_ (by kernel_rfl) ?_
          try go_wp2
          have n0_ := zA (Kd.R_drew HO_12.out)
          have n1_ := zA (Kd.R_drew HO_268001.out)
          have n2_ := zA (Kd.R_drew HO_276001.out)
          have n3_ := zA (Kd.R_drew HO_276002.out)
          have n4_ := zA (Kd.R_drew HO284.out)
          have n5_ := zA (blk_drew BK243.out)
          have n6_ := zA (blk_drew BK244.out)
          have n7_ := zA (blk_drew BK267.out)
          have n8_ := zA (blk_drew BK275.out)
          have n9_ := zA (below_drew1 HB.out)
          clear HO_12 HO_268001 HO_276001 HO_276002 HO284 BK243 BK244 BK267 BK275 HB
          have HO_12 := n0_; have HO_268001 := n1_; have HO_276001 := n2_; have HO_276002 := n3_; have HO284 := n4_; have BK243 := n5_; have BK244 := n6_; have BK267 := n7_; have BK275 := n8_; have HB := n9_
          clear n0_ n1_ n2_ n3_ n4_ n5_ n6_ n7_ n8_ n9_
          refine start_ (n := 5) (S := fun w' => w'.cell? ⟨gb275, 0, none⟩ = some (.int .i64 t268) ∧ w'.cell? ⟨gb275, 1, none⟩ = some (.slice Ao62 t269.length co62) ∧ w'.cell? ⟨gb275, 2, none⟩ = some (.slice Ao63 t272.length co63) ∧ w'.cell? ⟨gb244, 0, none⟩ = some (.int .i64 a1_0) ∧ w'.cell? ⟨gb244, 1, none⟩ = some (.slice A1_1 l1_1.length c1_1) ∧ w'.cell? ⟨gb244, 2, none⟩ = some (.slice A1_2 l1_2.length c1_2)) (ds := []) #[false, false, false, false, false] (by kernel_rfl) rfl rfl ⟨(blk_cell BK275.out 0).trans rfl, (blk_cell BK275.out 1).trans rfl, (blk_cell BK275.out 2).trans rfl, (blk_cell BK244.out 0).trans rfl, (blk_cell BK244.out 1).trans rfl, (blk_cell BK244.out 2).trans rfl⟩ (fun hHeld => ?_)
          generalize w83.drew = w84 at HO_12 HO_268001 HO_276001 HO_276002 HO284 BK243 BK244 BK267 BK275 HB hHeld ⊢
          refine take_ (i := 0) (N := some 64) (v := ?_) (a' := ?_) (bl 5 1) rfl rfl (by kernel_rfl) (fun _ _ _ h => h) (Or.inl ⟨by rfl, ?_⟩) hHeld ?_ ?_
          rotate_left
          ·rintro w' ⟨s0, s1, s2, s3, s4, s5⟩
           go_simp
           with_reducible rfl
          rotate_left
          ·simp only [Act.put, ls, lz, ln, i64_w, i32_w]
           rfl
          refine take_ (i := 1) (N := some 65) (v := ?_) (a' := ?_) (bl 5 3) rfl rfl (by kernel_rfl) (fun _ _ _ h => h) (Or.inl ⟨by rfl, ?_⟩) hHeld ?_ ?_
          rotate_left
          ·rintro w' ⟨s0, s1, s2, s3, s4, s5⟩
           go_simp
           with_reducible rfl
          rotate_left
          ·simp only [Act.put, ls, lz, ln, i64_w, i32_w]
           rfl
          refine one_ (i := 2) (N := some 66) (bl 5 7) rfl rfl (by kernel_rfl) (by decide) (fun K hK => ?_)
          refine goes_ Try.func19 (by kernel_rfl) rfl #[.agg #[.int .i64 a1_0, .slice A1_1 l1_1.length c1_1, .slice A1_2 l1_2.length c1_2]] (by rfl) rfl rfl (by (try simp only [la, lb, lc]); first | done | rfl | (simp only [ld, le]; rfl)) ?_
          with_reducible refine (laws_toRule.calls kj30 a1_0 _ _ l1_1 _ _ l1_2 t286 t287 t290 _ ?side1 ?side2 ?side3 ?side4 A74.out).mono ?_
          (case side1 => exact uC ((Kd.C_below HR1_1.out HB.out)))
          (case side2 => exact HC1_1.out)
          (case side3 => exact uC ((Kd.C_below HR1_2.out HB.out)))
          (case side4 => exact HC1_2.out)
          rintro e w85 ⟨v288, v291, rfl, ho0, ho1, hb⟩
          refine ⟨_, rfl, ?_⟩
          have n0_ := zA (Kd.R_mono (Kd.R_told (Kd.R_told (Kd.R_old (uR HO_12.out) hb) (Kd.R_base ho0)) (Kd.R_base ho1)) (fun _ h_ => h_.1))
          have n1_ := zA (Kd.R_mono (Kd.R_told (Kd.R_told (Kd.R_old (uR HO_268001.out) hb) (Kd.R_base ho0)) (Kd.R_base ho1)) (fun _ h_ => h_.1))
          have n2_ := zA (Kd.R_mono (Kd.R_told (Kd.R_told (Kd.R_old (uR HO_276001.out) hb) (Kd.R_base ho0)) (Kd.R_base ho1)) (fun _ h_ => h_.1))
          have n3_ := zA (Kd.R_mono (Kd.R_told (Kd.R_told (Kd.R_old (uR HO_276002.out) hb) (Kd.R_base ho0)) (Kd.R_base ho1)) (fun _ h_ => h_.1))
          have n4_ := zA (Kd.R_mono (Kd.R_told (Kd.R_told (Kd.R_old (uR HO284.out) hb) (Kd.R_base ho0)) (Kd.R_base ho1)) (fun _ h_ => h_.1))
          have n5_ := zA (Kd.R_lower (Kd.R_new' (Kd.R_new' (Kd.R_new' (Kd.R_new' (Kd.R_new' ho0 (Kd.R_lt (uR HO_12.out))) (Kd.R_lt (uR HO_268001.out))) (Kd.R_lt (uR HO_276001.out))) (Kd.R_lt (uR HO_276002.out))) (Kd.R_lt (uR HO284.out))) (below_size (uH HB.out)))
          have n6_ := zA (Kd.R_lower (Kd.R_new' (Kd.R_new' (Kd.R_new' (Kd.R_new' (Kd.R_new' ho1 (Kd.R_lt (uR HO_12.out))) (Kd.R_lt (uR HO_268001.out))) (Kd.R_lt (uR HO_276001.out))) (Kd.R_lt (uR HO_276002.out))) (Kd.R_lt (uR HO284.out))) (below_size (uH HB.out)))
          have n7_ := xB BK243 hb
          have n8_ := xB BK244 hb
          have n9_ := xB BK267 hb
          have n10_ := xB BK275 hb
          have n11_ := xH HB hb
          clear HO_12 HO_268001 HO_276001 HO_276002 HO284 BK243 BK244 BK267 BK275 HB
          have HO_12 := n0_; have HO_268001 := n1_; have HO_276001 := n2_; have HO_276002 := n3_; have HO284 := n4_; have HO289 := n5_; have HO292 := n6_; have BK243 := n7_; have BK244 := n8_; have BK267 := n9_; have BK275 := n10_; have HB := n11_
          clear n0_ n1_ n2_ n3_ n4_ n5_ n6_ n7_ n8_ n9_ n10_ n11_
          (try clear hb); (try clear hb2); (try clear hk); (try clear hi); (try clear ho0); (try clear ho1)
          obtain ⟨Ao86, co86, eo86⟩ := Kd.R_slice HO289.out
          (first | subst eo86 | (injection eo86 with f1_ f2_ f3_; have f4_ := f1_.symm; have f5_ := f3_.symm; clear f1_ f2_ f3_; subst f4_; subst f5_))
          obtain ⟨Ao87, co87, eo87⟩ := Kd.R_slice HO292.out
          (first | subst eo87 | (injection eo87 with f1_ f2_ f3_; have f4_ := f1_.symm; have f5_ := f3_.symm; clear f1_ f2_ f3_; subst f4_; subst f5_))
          refine hK.out _ _ ⟨(blk_cell BK275.out 0).trans rfl, (blk_cell BK275.out 1).trans rfl, (blk_cell BK275.out 2).trans rfl, (blk_cell BK244.out 0).trans rfl, (blk_cell BK244.out 1).trans rfl, (blk_cell BK244.out 2).trans rfl⟩ (fun hHeld => ?_)
          clear hK K
          refine no_ 66 ?_
          refine one_ (i := 3) (N := some 67) (bl 5 15) rfl rfl (by kernel_rfl) (by decide) (fun K hK => ?_)
          refine goes_ Try.func23 (by kernel_rfl) rfl #[.agg #[.int .i64 t268, .slice Ao62 t269.length co62, .slice Ao63 t272.length co63], .agg #[.int .i64 t286, .slice Ao86 t287.length co86, .slice Ao87 t290.length co87]] (by rfl) rfl rfl (by (try simp only [la, lb, lc]); first | done | rfl | (simp only [ld, le]; rfl)) ?_
          with_reducible refine (laws_eqRule.calls kj30 t268 _ _ t269 _ _ t272 t286 _ _ t287 _ _ t290 true _ ?side1 ?side2 ?side3 ?side4 ?side5 ?side6 ?side7 ?side8 A75.out).mono ?_
          (case side1 => exact uC ((Kd.R_reads' HO_276001.out).2.2))
          (case side2 => exact (Kd.R_reads' HO_276001.out).2.1)
          (case side3 => exact uC ((Kd.R_reads' HO_276002.out).2.2))
          (case side4 => exact (Kd.R_reads' HO_276002.out).2.1)
          (case side5 => exact uC ((Kd.R_reads' HO289.out).2.2))
          (case side6 => exact (Kd.R_reads' HO289.out).2.1)
          (case side7 => exact uC ((Kd.R_reads' HO292.out).2.2))
          (case side8 => exact (Kd.R_reads' HO292.out).2.1)
          rintro e w88 ⟨rfl, hb⟩
          refine ⟨_, rfl, ?_⟩
          have n0_ := xR HO_12 hb
          have n1_ := xR HO_268001 hb
          have n2_ := xR HO_276001 hb
          have n3_ := xR HO_276002 hb
          have n4_ := xR HO284 hb
          have n5_ := xR HO289 hb
          have n6_ := xR HO292 hb
          have n7_ := xB BK243 hb
          have n8_ := xB BK244 hb
          have n9_ := xB BK267 hb
          have n10_ := xB BK275 hb
          have n11_ := xH HB hb
          clear HO_12 HO_268001 HO_276001 HO_276002 HO284 HO289 HO292 BK243 BK244 BK267 BK275 HB
          have HO_12 := n0_; have HO_268001 := n1_; have HO_276001 := n2_; have HO_276002 := n3_; have HO284 := n4_; have HO289 := n5_; have HO292 := n6_; have BK243 := n7_; have BK244 := n8_; have BK267 := n9_; have BK275 := n10_; have HB := n11_
          clear n0_ n1_ n2_ n3_ n4_ n5_ n6_ n7_ n8_ n9_ n10_ n11_
          (try clear hb); (try clear hb2); (try clear hk); (try clear hi)
          refine hK.out _ _ ⟨(blk_cell BK275.out 0).trans rfl, (blk_cell BK275.out 1).trans rfl, (blk_cell BK275.out 2).trans rfl, (blk_cell BK244.out 0).trans rfl, (blk_cell BK244.out 1).trans rfl, (blk_cell BK244.out 2).trans rfl⟩ (fun hHeld => ?_)
          clear hK K
          refine no_ 67 ?_
          refine pure_ (i := 4) (N := some 68) (v := ?_) (a' := ?_) (bl 5 31) rfl rfl (by kernel_rfl) (fun _ _ _ h => h) (Or.inl ⟨by rfl, ?_⟩) ?_ ?_
          rotate_left
          ·intro w'
           go_simp
           with_reducible rfl
          rotate_left
          ·simp only [Act.put, ls, lz, ln, i64_w, i32_w]
           rfl
          refine done_ (by kernel_rfl) ?_
          try go_wp2_with (first | ((with_reducible refine gate_callee (f := 20) rfl ?_); refine goesL_ (some 71) rfl rfl Try.func20 (by kernel_rfl) rfl #[.slice A2 l2.length c2] rfl (by (try simp only [la, lb, lc]); first | done | rfl | (simp only [ld, le]; rfl)) ?_; (with_reducible refine (laws_toInt64S.calls kj30 _ _ l2 t294 _ ?side1 ?side2 A77.out).mono ?_); (case side1 => exact uC ((Kd.C_below HR2.out HB.out))); (case side2 => exact HC2.out); rintro e w89 ⟨v295, rfl, ho0, hb⟩; refine ⟨_, rfl, ?_⟩; have n0_ := zA (Kd.R_elder' (uR HO_12.out) (Kd.R_base ho0) hb); have n1_ := zA (Kd.R_elder' (uR HO_268001.out) (Kd.R_base ho0) hb); have n2_ := zA (Kd.R_elder' (uR HO_276001.out) (Kd.R_base ho0) hb); have n3_ := zA (Kd.R_elder' (uR HO_276002.out) (Kd.R_base ho0) hb); have n4_ := zA (Kd.R_elder' (uR HO284.out) (Kd.R_base ho0) hb); have n5_ := zA (Kd.R_elder' (uR HO289.out) (Kd.R_base ho0) hb); have n6_ := zA (Kd.R_elder' (uR HO292.out) (Kd.R_base ho0) hb); have n7_ := zA (Kd.R_lower (Kd.R_new' (Kd.R_new' (Kd.R_new' (Kd.R_new' (Kd.R_new' (Kd.R_new' (Kd.R_new' ho0 (Kd.R_lt (uR HO_12.out))) (Kd.R_lt (uR HO_268001.out))) (Kd.R_lt (uR HO_276001.out))) (Kd.R_lt (uR HO_276002.out))) (Kd.R_lt (uR HO284.out))) (Kd.R_lt (uR HO289.out))) (Kd.R_lt (uR HO292.out))) (below_size (uH HB.out))); have n8_ := xB BK243 hb; have n9_ := xB BK244 hb; have n10_ := xB BK267 hb; have n11_ := xB BK275 hb; have n12_ := xH HB hb; clear HO_12 HO_268001 HO_276001 HO_276002 HO284 HO289 HO292 BK243 BK244 BK267 BK275 HB; have HO_12 := n0_; have HO_268001 := n1_; have HO_276001 := n2_; have HO_276002 := n3_; have HO284 := n4_; have HO289 := n5_; have HO292 := n6_; have HO296 := n7_; have BK243 := n8_; have BK244 := n9_; have BK267 := n10_; have BK275 := n11_; have HB := n12_; clear n0_ n1_ n2_ n3_ n4_ n5_ n6_ n7_ n8_ n9_ n10_ n11_ n12_; (try clear hb); (try clear hb2); (try clear hk); (try clear hi); (try clear ho0); obtain ⟨Ao90, co90, eo90⟩ := Kd.R_slice HO296.out; subst eo90) | ((with_reducible refine gate_callee (f := 24) rfl ?_); refine goesL_ (some 72) rfl rfl Try.func24 (by kernel_rfl) rfl #[.slice Ao67 t276.length co67, .slice Ao90 t294.length co90] rfl (by (try simp only [la, lb, lc]); first | done | rfl | (simp only [ld, le]; rfl)) ?_; (with_reducible refine (laws_eqInt64S.calls kj30 _ _ t276 _ _ t294 true _ ?side1 ?side2 ?side3 ?side4 A78.out).mono ?_); (case side1 => exact uC ((Kd.R_reads' HO_12.out).2.2)); (case side2 => exact (Kd.R_reads' HO_12.out).2.1); (case side3 => exact uC ((Kd.R_reads' HO296.out).2.2)); (case side4 => exact (Kd.R_reads' HO296.out).2.1); rintro e w' ⟨rfl, ⟨nd, rfl⟩⟩; refine ⟨_, rfl, ?_⟩))
          go_ret
          exact ⟨by first | rfl | (simp [errW_none, errW_some] <;> rfl) | (simp [*, errW_none, errW_some] <;> rfl), uH HB.out⟩
         ·replace c79 := Bool.eq_false_iff.mpr c79
          subst c79
          have H1 : (some false) = some r := by rw [if_neg (show ¬ (false = true) by decide)] at H; exact H
          clear H
          have H := H1
          clear H1
          rw [HRT.out] at H
          exact absurd H (by simp)
        ·replace c76 := Bool.eq_false_iff.mpr c76
         subst c76
         have H1 : (some false) = some r := by rw [if_neg (show ¬ (false = true) by decide)] at H; exact H
         clear H
         have H := H1
         clear H1
         rw [HRT.out] at H
         exact absurd H (by simp)
       ·replace c73 := Bool.eq_false_iff.mpr c73
        subst c73
        have H1 : (some false) = some r := by rw [if_neg (show ¬ (false = true) by decide)] at H; exact H
        clear H
        have H := H1
        clear H1
        rw [HRT.out] at H
        exact absurd H (by simp)

/-- THE ONE PURE STATEMENT of laws_FnExactErrorOf: yours. -/
def laws_FnExactErrorOf.Pure : Prop := ∀ (a0_0 : Int) (l0_1 : List Int) (a1_0 : Int) (l1_1 : List Int) (l1_2 : List Int) (l2 : List Int), (Lit.int .i64 a0_0).wf = true → l0_1.length ≤ maxLen → (∀ x ∈ l0_1, (Lit.int .i64 x).wf = true) → (Lit.int .i64 a1_0).wf = true → l1_1.length ≤ maxLen → (∀ x ∈ l1_1, (Lit.int .i64 x).wf = true) → l1_2.length ≤ maxLen → (∀ x ∈ l1_2, (Lit.int .i64 x).wf = true) → l2.length ≤ maxLen → l2.length * 8 ≤ 140737488351232 → (∀ x ∈ l2, (Lit.int .i64 x).wf = true) → ∃ k, laws_FnExactErrorOf.f k a0_0 l0_1 a1_0 l1_1 l1_2 l2 = some true
theorem laws_FnExactErrorOf.walk (P : laws_FnExactErrorOf.Pure) (a0_0 : Int) (a0_1 : Option Addr) (len0_1 cap0_1 : Nat) (z0_1 : List Int) (a1_0 : Int) (a1_1 : Option Addr) (len1_1 cap1_1 : Nat) (z1_1 : List Int) (a1_2 : Option Addr) (len1_2 cap1_2 : Nat) (z1_2 : List Int) (a2 : Option Addr) (len2 cap2 : Nat) (z2 : List Int) (w : World) (w0_0 : (Lit.int .i64 a0_0).wf = true) (w0_1 : (a0_1 = none ∧ len0_1 = 0 ∧ cap0_1 = 0 ∧ z0_1 = []) ∨ ∃ x, a0_1 = some x ∧ len0_1 ≤ cap0_1 ∧ cap0_1 ≤ maxLen ∧ z0_1.length = cap0_1 ∧ (∀ i, i < z0_1.length → w.cell? (x.add i) = some (.int .i64 (z0_1.getD i 0))) ∧ ∀ n ∈ z0_1, (Lit.int .i64 n).wf = true) (w1_0 : (Lit.int .i64 a1_0).wf = true) (w1_1 : (a1_1 = none ∧ len1_1 = 0 ∧ cap1_1 = 0 ∧ z1_1 = []) ∨ ∃ x, a1_1 = some x ∧ len1_1 ≤ cap1_1 ∧ cap1_1 ≤ maxLen ∧ z1_1.length = cap1_1 ∧ (∀ i, i < z1_1.length → w.cell? (x.add i) = some (.int .i64 (z1_1.getD i 0))) ∧ ∀ n ∈ z1_1, (Lit.int .i64 n).wf = true) (w1_2 : (a1_2 = none ∧ len1_2 = 0 ∧ cap1_2 = 0 ∧ z1_2 = []) ∨ ∃ x, a1_2 = some x ∧ len1_2 ≤ cap1_2 ∧ cap1_2 ≤ maxLen ∧ z1_2.length = cap1_2 ∧ (∀ i, i < z1_2.length → w.cell? (x.add i) = some (.int .i64 (z1_2.getD i 0))) ∧ ∀ n ∈ z1_2, (Lit.int .i64 n).wf = true) (w2 : (a2 = none ∧ len2 = 0 ∧ cap2 = 0 ∧ z2 = []) ∨ ∃ x, a2 = some x ∧ len2 ≤ cap2 ∧ cap2 ≤ maxLen ∧ z2.length = cap2 ∧ (∀ i, i < z2.length → w.cell? (x.add i) = some (.int .i64 (z2.getD i 0))) ∧ ∀ n ∈ z2, (Lit.int .i64 n).wf = true) (y2 : len2 * 8 ≤ 140737488351232) :
  Calls Try.prog 3 #[.agg #[.int .i64 a0_0, .slice a0_1 len0_1 cap0_1], .agg #[.int .i64 a1_0, .slice a1_1 len1_1 cap1_1, .slice a1_2 len1_2 cap1_2], .slice a2 len2 cap2] w fun e w' => e = .returned (.bool true) ∧ Below w.heap.size w w' := by
 obtain ⟨l0_1, rfl, hr0_1, hm0_1, hw0_1, hc0_1⟩ := ReadsInt.ofRowC w0_1
 obtain ⟨l1_1, rfl, hr1_1, hm1_1, hw1_1, hc1_1⟩ := ReadsInt.ofRowC w1_1
 obtain ⟨l1_2, rfl, hr1_2, hm1_2, hw1_2, hc1_2⟩ := ReadsInt.ofRowC w1_2
 obtain ⟨l2, rfl, hr2, hm2, hw2, hc2⟩ := ReadsInt.ofRowC w2
 obtain ⟨k, h⟩ := P a0_0 l0_1 a1_0 l1_1 l1_2 l2 w0_0 hm0_1 hw0_1 w1_0 hm1_1 hw1_1 hm1_2 hw1_2 hm2 y2 hw2
 refine (laws_FnExactErrorOf.calls k a0_0 _ _ l0_1 a1_0 _ _ l1_1 _ _ l1_2 _ _ l2 true rfl w (Kd.C_of_reads (d := (0 : Int)) (h1 := fun _ => rfl) hr0_1) hc0_1 (Kd.C_of_reads (d := (0 : Int)) (h1 := fun _ => rfl) hr1_1) hc1_1 (Kd.C_of_reads (d := (0 : Int)) (h1 := fun _ => rfl) hr1_2) hc1_2 (Kd.C_of_reads (d := (0 : Int)) (h1 := fun _ => rfl) hr2) hc2 h).mono ?_
 rintro e w' ⟨rfl, hd⟩
 exact ⟨rfl, hd⟩

end Go.Proofs.Ytokkabgkjhpecaa.Pr
