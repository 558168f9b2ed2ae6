/- Printed by a program of this session out of the translation: what these functions of the program compute, under the conditions that each theorem names. -/
import Derived.Test.YtcfiegapclbenaaKC01
import Derived.Test.YtcfiegapclbenaaKC11
import Derived.Test.YtcfiegapclbenaaKShiftMoments1
namespace Go.Proofs.Ytcfiegapclbenaa.Pr
open Go.RowKit Go.Proofs.YtcfiegapclbenaaW.PrintWords Go.Proofs.YtcfiegapclbenaaW.PrintLast Go.Proofs.YtcfiegapclbenaaW.PrintMore
attribute [local go_sem] max2_int min2_int max_two min_two max_three min_three max_four min_four   -- for this text's walks alone
set_option linter.unusedVariables false
set_option linter.unusedSimpArgs false

/-! ### laws_FnExactShiftMoments: function 8 -/
mutual
def laws_FnExactShiftMoments.j0 : Nat → Int → Int → Bool → Int → List Int → Int → List Int → Int → List Int → Int → List Int → Option (Bool)
 | 0, _, _, _, _, _, _, _, _, _, _, _ => none
 | k + 1, x5, x8, x40, x527000, x527001, x538000, x538001, x543000, x543001, x549000, x549001 => if x40 = true then (some false) else ((laws_toMoments.f k x527000 x527001).bind fun bt550 => ((laws_eqMoments.f k x543000 x543001 bt550.1 bt550.2).bind fun t554 => (if t554 = true then ((laws_markMoments.f k x543000 x543001 1).bind fun bt555 => (if bt555.1 < 0 then (laws_FnExactShiftMoments.j1 k x5 true x527000 x527001 x538000 x538001 x549000 x549001) else ((laws_eqMoments.f k x549000 x549001 x538000 x538001).bind fun t557 => (if t557 = true then (laws_FnExactShiftMoments.j1 k x5 (x8 != x5) x527000 x527001 x538000 x538001 x549000 x549001) else (laws_FnExactShiftMoments.j1 k x5 true x527000 x527001 x538000 x538001 x549000 x549001))))) else (some false))))
def laws_FnExactShiftMoments.j1 : Nat → Int → Bool → Int → List Int → Int → List Int → Int → List Int → Option (Bool)
 | 0, _, _, _, _, _, _, _, _ => none
 | k + 1, x5, x61, x527000, x527001, x538000, x538001, x549000, x549001 => if x61 = true then (some false) else ((laws_markMoments.f k x549000 x549001 1).bind fun bt558 => ((laws_heldMoments.f k x549000 bt558.2 1).bind fun t560 => (if t560 < 0 then (some false) else (if t560 = bt558.1 then ((laws_toMoments.f k x527000 x527001).bind fun bt561 => ((impl_ShiftMoments.f k bt561.1 bt561.2).bind fun bt565 => ((laws_eqMoments.f k bt565.1 bt565.2.1 x538000 x538001).bind fun t571 => (if t571 = true then (laws_FnExactShiftMoments.j2 k bt558.1 (bt565.2.2 != x5) x549000 bt558.2) else (laws_FnExactShiftMoments.j2 k bt558.1 true x549000 bt558.2))))) else (some false)))))
def laws_FnExactShiftMoments.j2 : Nat → Int → Bool → Int → List Int → Option (Bool)
 | 0, _, _, _, _ => none
 | k + 1, x10, x87, x549000, x549001 => if x87 = true then (some false) else ((laws_heldMoments.f k x549000 x549001 1).bind fun t572 => (if t572 < 0 then (some false) else (if t572 = x10 then (some true) else (some false))))
end
def laws_FnExactShiftMoments.f (k : Nat) (a0_0 : Int) (l0_1 : List Int) : Option (Bool) := (laws_szMoments.f a0_0 l0_1 1048576).bind fun t527 => (if t527 < 0 then (some true) else ((laws_toMoments.f k a0_0 l0_1).bind fun bt528 => ((spec_ShiftMoments.f k bt528.1 bt528.2).bind fun bt532 => ((laws_toMoments.f k a0_0 l0_1).bind fun bt538 => ((impl_ShiftMoments.f k bt538.1 bt538.2).bind fun bt543 => ((laws_eqMoments.f k bt543.1 bt543.2.1 bt532.1 bt532.2.1).bind fun t549 => (if t549 = true then (laws_FnExactShiftMoments.j0 k bt532.2.2 bt543.2.2 (bt543.2.2 != bt532.2.2) a0_0 l0_1 bt532.1 bt532.2.1 bt538.1 bt538.2 bt543.1 bt543.2.1) else (laws_FnExactShiftMoments.j0 k bt532.2.2 bt543.2.2 true a0_0 l0_1 bt532.1 bt532.2.1 bt538.1 bt538.2 bt543.1 bt543.2.1))))))))
theorem laws_FnExactShiftMoments.mono_l : ∀ k, (∀ y0 y1 y2 y3 y4 y5 y6 y7 y8 y9 y10, LeO (laws_FnExactShiftMoments.j0 k y0 y1 y2 y3 y4 y5 y6 y7 y8 y9 y10) (laws_FnExactShiftMoments.j0 (k + 1) y0 y1 y2 y3 y4 y5 y6 y7 y8 y9 y10)) ∧ (∀ y0 y1 y2 y3 y4 y5 y6 y7, LeO (laws_FnExactShiftMoments.j1 k y0 y1 y2 y3 y4 y5 y6 y7) (laws_FnExactShiftMoments.j1 (k + 1) y0 y1 y2 y3 y4 y5 y6 y7)) ∧ (∀ y0 y1 y2 y3, LeO (laws_FnExactShiftMoments.j2 k y0 y1 y2 y3) (laws_FnExactShiftMoments.j2 (k + 1) y0 y1 y2 y3))
 | 0 => ⟨fun _ _ _ _ _ _ _ _ _ _ _ r h => by simp [laws_FnExactShiftMoments.j0] at h, fun _ _ _ _ _ _ _ _ r h => by simp [laws_FnExactShiftMoments.j1] at h, fun _ _ _ _ r h => by simp [laws_FnExactShiftMoments.j2] at h⟩
 | k + 1 => by
  obtain ⟨ih0, ih1, ih2⟩ := laws_FnExactShiftMoments.mono_l k
  refine ⟨?_, ?_, ?_⟩
  ·intro y0 y1 y2 y3 y4 y5 y6 y7 y8 y9 y10
   unfold laws_FnExactShiftMoments.j0
   repeat' first
   | (with_reducible exact ih0 _ _ _ _ _ _ _ _ _ _ _)
   | (with_reducible exact ih1 _ _ _ _ _ _ _ _)
   | (with_reducible exact ih2 _ _ _ _)
   | (with_reducible exact impl_ShiftMoments.mono _ _ _)
   | (with_reducible exact laws_eqMoments.mono _ _ _ _ _)
   | (with_reducible exact laws_heldMoments.mono _ _ _ _)
   | (with_reducible exact laws_markMoments.mono _ _ _ _)
   | (with_reducible exact laws_toMoments.mono _ _ _)
   | (with_reducible exact spec_ShiftMoments.mono _ _ _)
   | (with_reducible exact LeO.refl _)
   | (with_reducible exact LeO.none _)
   | (with_reducible refine LeO.ite ?_ ?_)
   | (with_reducible refine LeO.bind ?_ (fun _ => ?_))
   | exact ih0 _ _ _ _ _ _ _ _ _ _ _
   | exact ih1 _ _ _ _ _ _ _ _
   | exact ih2 _ _ _ _
   | exact impl_ShiftMoments.mono _ _ _
   | exact laws_eqMoments.mono _ _ _ _ _
   | exact laws_heldMoments.mono _ _ _ _
   | exact laws_markMoments.mono _ _ _ _
   | exact laws_toMoments.mono _ _ _
   | exact spec_ShiftMoments.mono _ _ _
   | exact LeO.none _
   | refine LeO.ite ?_ ?_
   | refine LeO.bind ?_ (fun _ => ?_)
  ·intro y0 y1 y2 y3 y4 y5 y6 y7
   unfold laws_FnExactShiftMoments.j1
   repeat' first
   | (with_reducible exact ih0 _ _ _ _ _ _ _ _ _ _ _)
   | (with_reducible exact ih1 _ _ _ _ _ _ _ _)
   | (with_reducible exact ih2 _ _ _ _)
   | (with_reducible exact impl_ShiftMoments.mono _ _ _)
   | (with_reducible exact laws_eqMoments.mono _ _ _ _ _)
   | (with_reducible exact laws_heldMoments.mono _ _ _ _)
   | (with_reducible exact laws_markMoments.mono _ _ _ _)
   | (with_reducible exact laws_toMoments.mono _ _ _)
   | (with_reducible exact spec_ShiftMoments.mono _ _ _)
   | (with_reducible exact LeO.refl _)
   | (with_reducible exact LeO.none _)
   | (with_reducible refine LeO.ite ?_ ?_)
   | (with_reducible refine LeO.bind ?_ (fun _ => ?_))
   | exact ih0 _ _ _ _ _ _ _ _ _ _ _
   | exact ih1 _ _ _ _ _ _ _ _
   | exact ih2 _ _ _ _
   | exact impl_ShiftMoments.mono _ _ _
   | exact laws_eqMoments.mono _ _ _ _ _
   | exact laws_heldMoments.mono _ _ _ _
   | exact laws_markMoments.mono _ _ _ _
   | exact laws_toMoments.mono _ _ _
   | exact spec_ShiftMoments.mono _ _ _
   | exact LeO.none _
   | refine LeO.ite ?_ ?_
   | refine LeO.bind ?_ (fun _ => ?_)
  ·intro y0 y1 y2 y3
   unfold laws_FnExactShiftMoments.j2
   repeat' first
   | (with_reducible exact ih0 _ _ _ _ _ _ _ _ _ _ _)
   | (with_reducible exact ih1 _ _ _ _ _ _ _ _)
   | (with_reducible exact ih2 _ _ _ _)
   | (with_reducible exact impl_ShiftMoments.mono _ _ _)
   | (with_reducible exact laws_eqMoments.mono _ _ _ _ _)
   | (with_reducible exact laws_heldMoments.mono _ _ _ _)
   | (with_reducible exact laws_markMoments.mono _ _ _ _)
   | (with_reducible exact laws_toMoments.mono _ _ _)
   | (with_reducible exact spec_ShiftMoments.mono _ _ _)
   | (with_reducible exact LeO.refl _)
   | (with_reducible exact LeO.none _)
   | (with_reducible refine LeO.ite ?_ ?_)
   | (with_reducible refine LeO.bind ?_ (fun _ => ?_))
   | exact ih0 _ _ _ _ _ _ _ _ _ _ _
   | exact ih1 _ _ _ _ _ _ _ _
   | exact ih2 _ _ _ _
   | exact impl_ShiftMoments.mono _ _ _
   | exact laws_eqMoments.mono _ _ _ _ _
   | exact laws_heldMoments.mono _ _ _ _
   | exact laws_markMoments.mono _ _ _ _
   | exact laws_toMoments.mono _ _ _
   | exact spec_ShiftMoments.mono _ _ _
   | exact LeO.none _
   | refine LeO.ite ?_ ?_
   | refine LeO.bind ?_ (fun _ => ?_)
theorem laws_FnExactShiftMoments.mono : ∀ a0 a1 k, LeO (laws_FnExactShiftMoments.f k a0 a1) (laws_FnExactShiftMoments.f (k + 1) a0 a1) := by
 intro a0 a1 k
 obtain ⟨ih0, ih1, ih2⟩ := laws_FnExactShiftMoments.mono_l k
 unfold laws_FnExactShiftMoments.f
 repeat' first
   | (with_reducible exact ih0 _ _ _ _ _ _ _ _ _ _ _)
   | (with_reducible exact ih1 _ _ _ _ _ _ _ _)
   | (with_reducible exact ih2 _ _ _ _)
   | (with_reducible exact impl_ShiftMoments.mono _ _ _)
   | (with_reducible exact laws_eqMoments.mono _ _ _ _ _)
   | (with_reducible exact laws_heldMoments.mono _ _ _ _)
   | (with_reducible exact laws_markMoments.mono _ _ _ _)
   | (with_reducible exact laws_toMoments.mono _ _ _)
   | (with_reducible exact spec_ShiftMoments.mono _ _ _)
   | (with_reducible exact LeO.refl _)
   | (with_reducible exact LeO.none _)
   | (with_reducible refine LeO.ite ?_ ?_)
   | (with_reducible refine LeO.bind ?_ (fun _ => ?_))
   | exact ih0 _ _ _ _ _ _ _ _ _ _ _
   | exact ih1 _ _ _ _ _ _ _ _
   | exact ih2 _ _ _ _
   | exact impl_ShiftMoments.mono _ _ _
   | exact laws_eqMoments.mono _ _ _ _ _
   | exact laws_heldMoments.mono _ _ _ _
   | exact laws_markMoments.mono _ _ _ _
   | exact laws_toMoments.mono _ _ _
   | exact spec_ShiftMoments.mono _ _ _
   | exact LeO.none _
   | refine LeO.ite ?_ ?_
   | refine LeO.bind ?_ (fun _ => ?_)
set_option maxHeartbeats 8000000 in
set_option maxRecDepth 100000 in
theorem laws_FnExactShiftMoments.calls (k : Nat) (a0_0 : Int) (A0_1 : Option Addr) (c0_1 : Nat) (l0_1 : List Int) (r : Bool) (hr_ : r = true) (w : World) (hr0_1 : Kd.C (Kd.int .i64) w A0_1 l0_1.length l0_1) (hc0_1 : l0_1.length ≤ c0_1) (h : laws_FnExactShiftMoments.f k a0_0 l0_1 = some r) :
  Calls Try.prog 8 #[.agg #[.int .i64 a0_0, .slice A0_1 l0_1.length c0_1]] w fun e w' => e = .returned (.bool r) ∧ Below w.heap.size w w' := by
 have hu32 := Try.underlying32
 have hu36 := Try.underlying36
 have HRT := zA hr_
 clear hr_
 have HR0_1 := zA hr0_1
 have HC0_1 := zA hc0_1
 clear hr0_1 hc0_1
 have HB := zA (Below.refl w.heap.size w)
 have H : ((laws_szMoments.f a0_0 l0_1 1048576).bind fun t527 => (if t527 < 0 then (some true) else ((laws_toMoments.f k a0_0 l0_1).bind fun bt528 => ((spec_ShiftMoments.f k bt528.1 bt528.2).bind fun bt532 => ((laws_toMoments.f k a0_0 l0_1).bind fun bt538 => ((impl_ShiftMoments.f k bt538.1 bt538.2).bind fun bt543 => ((laws_eqMoments.f k bt543.1 bt543.2.1 bt532.1 bt532.2.1).bind fun t549 => (if t549 = true then (laws_FnExactShiftMoments.j0 k bt532.2.2 bt543.2.2 (bt543.2.2 != bt532.2.2) a0_0 l0_1 bt532.1 bt532.2.1 bt538.1 bt538.2 bt543.1 bt543.2.1) else (laws_FnExactShiftMoments.j0 k bt532.2.2 bt543.2.2 true a0_0 l0_1 bt532.1 bt532.2.1 bt538.1 bt538.2 bt543.1 bt543.2.1))))))))) = some r := h
 clear h
 replace H := Option.bind_eq_some_iff.mp H
 obtain ⟨t527, A20, H⟩ := H
 replace H : (if t527 < 0 then (some true) else ((laws_toMoments.f k a0_0 l0_1).bind fun bt528 => ((spec_ShiftMoments.f k bt528.1 bt528.2).bind fun bt532 => ((laws_toMoments.f k a0_0 l0_1).bind fun bt538 => ((impl_ShiftMoments.f k bt538.1 bt538.2).bind fun bt543 => ((laws_eqMoments.f k bt543.1 bt543.2.1 bt532.1 bt532.2.1).bind fun t549 => (if t549 = true then (laws_FnExactShiftMoments.j0 k bt532.2.2 bt543.2.2 (bt543.2.2 != bt532.2.2) a0_0 l0_1 bt532.1 bt532.2.1 bt538.1 bt538.2 bt543.1 bt543.2.1) else (laws_FnExactShiftMoments.j0 k bt532.2.2 bt543.2.2 true a0_0 l0_1 bt532.1 bt532.2.1 bt538.1 bt538.2 bt543.1 bt543.2.1)))))))) = some r := H
 have A2 := zA A20
 clear A20
 by_cases c3 : t527 < 0
 ·rw [if_pos c3] at H
  have c3b0 : decide (t527 < 0) = true := decide_eq_true c3
  clear c3
  obtain rfl := Option.some.inj H
  go_enter Try.func8, Try.ntmps8
  go_wp2_with (first | ((with_reducible refine gate_dst (N := 1) rfl ?_); refine box_event ?hg (N := 1) ?hd (cs := #[.int .i64 a0_0, .slice A0_1 l0_1.length c0_1]) (t := 32) ?hr ?_; (case hd => rfl); (case hg => rfl); (case hr => first | (go_simp; done) | (go_simp; rfl)); intro gb526 hg w4 hbox hb; have n0_ := xH HB hb; have n1_ := zA (hbox); have n2_ := zA ((by rw [hg]; exact (below_size (uH HB.out)) : w.heap.size ≤ gb526)); have n3_ := zA ((by rw [hg]; exact (below_size (uH HB.out)) : w.heap.size ≤ gb526)); clear HB; have HB := n0_; have BK526 := n1_; have GW526 := n2_; have GE526 := n3_; have := geI GE526; clear n0_ n1_ n2_ n3_ hb hbox hg; have hcz5_0 : w4.cell? ⟨gb526, 0, none⟩ = some (.int .i64 a0_0) := (blk_cell BK526.out 0).trans rfl; have hcz5_1 : w4.cell? ⟨gb526, 1, none⟩ = some (.slice A0_1 l0_1.length c0_1) := (blk_cell BK526.out 1).trans rfl; have hfz5_0 := blk_frozen BK526.out 0; have hfz5_1 := blk_frozen BK526.out 1) | ((with_reducible refine gate_callee (f := 14) rfl ?_); refine goesL_ (some 16) rfl rfl Try.func14 (by kernel_rfl) rfl #[.agg #[.int .i64 a0_0, .slice A0_1 l0_1.length c0_1], .int .i64 1048576] rfl (by (try simp only [List.map_toArray, List.map_cons, List.map_nil]); first | done | rfl | (simp only [List.length_drop, List.length_take]; rfl)) ?_; (with_reducible refine (laws_szMoments.calls a0_0 _ _ l0_1 1048576 t527 _ ?side1 ?side2 A2.out).mono ?_); (case side1 => exact uC ((Kd.C_below HR0_1.out HB.out))); (case side2 => exact HC0_1.out); rintro e w6 ⟨rfl, hb⟩; refine ⟨_, rfl, ?_⟩; have n0_ := xB BK526 hb; have n1_ := xH HB hb; clear BK526 HB; have BK526 := n0_; have HB := n1_; clear n0_ n1_; (try clear hb); (try clear hb2); (try clear hk); (try clear hi)))
  go_ret
  exact ⟨by first | rfl | (simp [errW_none, errW_some] <;> rfl) | (simp [*, errW_none, errW_some] <;> rfl), uH HB.out⟩
 ·rw [if_neg c3] at H
  have c3b0 : decide (t527 < 0) = false := decide_eq_false c3
  clear c3
  replace H := Option.bind_eq_some_iff.mp H
  obtain ⟨⟨t528, t529⟩, A70, H⟩ := H
  replace H : ((spec_ShiftMoments.f k t528 t529).bind fun bt532 => ((laws_toMoments.f k a0_0 l0_1).bind fun bt538 => ((impl_ShiftMoments.f k bt538.1 bt538.2).bind fun bt543 => ((laws_eqMoments.f k bt543.1 bt543.2.1 bt532.1 bt532.2.1).bind fun t549 => (if t549 = true then (laws_FnExactShiftMoments.j0 k bt532.2.2 bt543.2.2 (bt543.2.2 != bt532.2.2) a0_0 l0_1 bt532.1 bt532.2.1 bt538.1 bt538.2 bt543.1 bt543.2.1) else (laws_FnExactShiftMoments.j0 k bt532.2.2 bt543.2.2 true a0_0 l0_1 bt532.1 bt532.2.1 bt538.1 bt538.2 bt543.1 bt543.2.1)))))) = some r := H
  have A7 := zA A70
  clear A70
  replace H := Option.bind_eq_some_iff.mp H
  obtain ⟨⟨t532, t533, t536⟩, A80, H⟩ := H
  replace H : ((laws_toMoments.f k a0_0 l0_1).bind fun bt538 => ((impl_ShiftMoments.f k bt538.1 bt538.2).bind fun bt543 => ((laws_eqMoments.f k bt543.1 bt543.2.1 t532 t533).bind fun t549 => (if t549 = true then (laws_FnExactShiftMoments.j0 k t536 bt543.2.2 (bt543.2.2 != t536) a0_0 l0_1 t532 t533 bt538.1 bt538.2 bt543.1 bt543.2.1) else (laws_FnExactShiftMoments.j0 k t536 bt543.2.2 true a0_0 l0_1 t532 t533 bt538.1 bt538.2 bt543.1 bt543.2.1))))) = some r := H
  have A8 := zA A80
  clear A80
  replace H := Option.bind_eq_some_iff.mp H
  obtain ⟨⟨t538, t539⟩, A90, H⟩ := H
  replace H : ((impl_ShiftMoments.f k t538 t539).bind fun bt543 => ((laws_eqMoments.f k bt543.1 bt543.2.1 t532 t533).bind fun t549 => (if t549 = true then (laws_FnExactShiftMoments.j0 k t536 bt543.2.2 (bt543.2.2 != t536) a0_0 l0_1 t532 t533 t538 t539 bt543.1 bt543.2.1) else (laws_FnExactShiftMoments.j0 k t536 bt543.2.2 true a0_0 l0_1 t532 t533 t538 t539 bt543.1 bt543.2.1)))) = some r := H
  have A9 := zA A90
  clear A90
  replace H := Option.bind_eq_some_iff.mp H
  obtain ⟨⟨t543, t544, t547⟩, A100, H⟩ := H
  replace H : ((laws_eqMoments.f k t543 t544 t532 t533).bind fun t549 => (if t549 = true then (laws_FnExactShiftMoments.j0 k t536 t547 (t547 != t536) a0_0 l0_1 t532 t533 t538 t539 t543 t544) else (laws_FnExactShiftMoments.j0 k t536 t547 true a0_0 l0_1 t532 t533 t538 t539 t543 t544))) = some r := H
  have A10 := zA A100
  clear A100
  have HC11 := zA H
  clear H
  go_enter Try.func8, Try.ntmps8
  go_upto_region 8 with (first | ((with_reducible refine gate_dst (N := 1) rfl ?_); refine box_event ?hg (N := 1) ?hd (cs := #[.int .i64 a0_0, .slice A0_1 l0_1.length c0_1]) (t := 32) ?hr ?_; (case hd => rfl); (case hg => rfl); (case hr => first | (go_simp; done) | (go_simp; rfl)); intro gb526 hg w12 hbox hb; have n0_ := xH HB hb; have n1_ := zA (hbox); have n2_ := zA ((by rw [hg]; exact (below_size (uH HB.out)) : w.heap.size ≤ gb526)); have n3_ := zA ((by rw [hg]; exact (below_size (uH HB.out)) : w.heap.size ≤ gb526)); clear HB; have HB := n0_; have BK526 := n1_; have GW526 := n2_; have GE526 := n3_; have := geI GE526; clear n0_ n1_ n2_ n3_ hb hbox hg; have hcz13_0 : w12.cell? ⟨gb526, 0, none⟩ = some (.int .i64 a0_0) := (blk_cell BK526.out 0).trans rfl; have hcz13_1 : w12.cell? ⟨gb526, 1, none⟩ = some (.slice A0_1 l0_1.length c0_1) := (blk_cell BK526.out 1).trans rfl; have hfz13_0 := blk_frozen BK526.out 0; have hfz13_1 := blk_frozen BK526.out 1) | ((with_reducible refine gate_callee (f := 14) rfl ?_); refine goesL_ (some 16) rfl rfl Try.func14 (by kernel_rfl) rfl #[.agg #[.int .i64 a0_0, .slice A0_1 l0_1.length c0_1], .int .i64 1048576] rfl (by (try simp only [List.map_toArray, List.map_cons, List.map_nil]); first | done | rfl | (simp only [List.length_drop, List.length_take]; rfl)) ?_; (with_reducible refine (laws_szMoments.calls a0_0 _ _ l0_1 1048576 t527 _ ?side1 ?side2 A2.out).mono ?_); (case side1 => exact uC ((Kd.C_below HR0_1.out HB.out))); (case side2 => exact HC0_1.out); rintro e w14 ⟨rfl, hb⟩; refine ⟨_, rfl, ?_⟩; have n0_ := xB BK526 hb; have n1_ := xH HB hb; clear BK526 HB; have BK526 := n0_; have HB := n1_; clear n0_ n1_; (try clear hb); (try clear hb2); (try clear hk); (try clear hi); have hcz15_0 : w14.cell? ⟨gb526, 0, none⟩ = some (.int .i64 a0_0) := (blk_cell BK526.out 0).trans rfl; have hcz15_1 : w14.cell? ⟨gb526, 1, none⟩ = some (.slice A0_1 l0_1.length c0_1) := (blk_cell BK526.out 1).trans rfl; have hfz15_0 := blk_frozen BK526.out 0; have hfz15_1 := blk_frozen BK526.out 1) | ((with_reducible refine gate_callee (f := 16) rfl ?_); refine goesL_ (some 21) rfl rfl Try.func16 (by kernel_rfl) rfl #[.agg #[.int .i64 a0_0, .slice A0_1 l0_1.length c0_1]] rfl (by (try simp only [List.map_toArray, List.map_cons, List.map_nil]); first | done | rfl | (simp only [List.length_drop, List.length_take]; rfl)) ?_; (with_reducible refine (laws_toMoments.calls k a0_0 _ _ l0_1 t528 t529 _ ?side1 ?side2 A7.out).mono ?_); (case side1 => exact uC ((Kd.C_below HR0_1.out HB.out))); (case side2 => exact HC0_1.out); rintro e w16 ⟨v530, rfl, ho0, hb⟩; refine ⟨_, rfl, ?_⟩; have n0_ := zA (Kd.R_lower ho0 (below_size (uH HB.out))); have n1_ := xB BK526 hb; have n2_ := xH HB hb; clear BK526 HB; have HO531 := n0_; have BK526 := n1_; have HB := n2_; clear n0_ n1_ n2_; (try clear hb); (try clear hb2); (try clear hk); (try clear hi); (try clear ho0); obtain ⟨Ao17, co17, eo17⟩ := Kd.R_slice HO531.out; subst eo17) | ((with_reducible refine gate_callee (f := 29) rfl ?_); refine goesL_ (some 22) rfl rfl Try.func29 (by kernel_rfl) rfl #[.agg #[.int .i64 t528, .slice Ao17 t529.length co17]] rfl (by (try simp only [List.map_toArray, List.map_cons, List.map_nil]); first | done | rfl | (simp only [List.length_drop, List.length_take]; rfl)) ?_; (with_reducible refine (spec_ShiftMoments.calls k t528 _ _ t529 t532 t533 t536 _ ?side1 ?side2 A8.out).mono ?_); (case side1 => exact uC ((Kd.R_reads' HO531.out).2.2)); (case side2 => exact (Kd.R_reads' HO531.out).2.1); rintro e w18 ⟨v534, rfl, ho0, hb⟩; refine ⟨_, rfl, ?_⟩; have n0_ := zA (Kd.R_elder' (uR HO531.out) (Kd.R_base ho0) hb); have n1_ := zA (Kd.R_lower (Kd.R_new' ho0 (Kd.R_lt (uR HO531.out))) (below_size (uH HB.out))); have n2_ := xB BK526 hb; have n3_ := xH HB hb; clear HO531 BK526 HB; have HO531 := n0_; have HO535 := n1_; have BK526 := n2_; have HB := n3_; clear n0_ n1_ n2_ n3_; (try clear hb); (try clear hb2); (try clear hk); (try clear hi); (try clear ho0)) | ((with_reducible refine gate_dst (N := 4) rfl ?_); refine box_event ?hg (N := 4) ?hd (cs := #[.int .i64 0, .slice none 0 0]) (t := 36) ?hr ?_; (case hd => rfl); (case hg => rfl); (case hr => first | (go_simp; done) | (go_simp; rfl)); intro gb537 hg w19 hbox hb; have n0_ := xR HO531 hb; have n1_ := xR HO535 hb; have n2_ := xB BK526 hb; have n3_ := xH HB hb; have n4_ := zA (hbox); have n5_ := zA ((by rw [hg]; exact (below_size (uH HB.out)) : w.heap.size ≤ gb537)); have n6_ := zA ((by rw [hg]; exact (below_size (uH HB.out)) : w.heap.size ≤ gb537)); have n7_ := zA ((by rw [hg]; exact neL BK526 : gb526 ≠ gb537)); have n8_ := zA ((by rw [hg]; exact neG BK526 : gb537 ≠ gb526)); clear HO531 HO535 BK526 HB; have HO531 := n0_; have HO535 := n1_; have BK526 := n2_; have HB := n3_; have BK537 := n4_; have GW537 := n5_; have GE537 := n6_; have := geI GE537; have NB526_537 := n7_; have NB537_526 := n8_; clear n0_ n1_ n2_ n3_ n4_ n5_ n6_ n7_ n8_ hb hbox hg; have hnb20 := NB537_526.out; have hnc20 := NB526_537.out; have hcz21_0 : w19.cell? ⟨gb537, 0, none⟩ = some (.int .i64 0) := (blk_cell BK537.out 0).trans rfl; have hcz21_1 : w19.cell? ⟨gb537, 1, none⟩ = some (.slice none 0 0) := (blk_cell BK537.out 1).trans rfl; have hfz21_0 := blk_frozen BK537.out 0; have hfz21_1 := blk_frozen BK537.out 1; obtain ⟨Ao22, co22, eo22⟩ := Kd.R_slice HO535.out; subst eo22; have hcz23_0 : w19.cell? ⟨gb526, 0, none⟩ = some (.int .i64 a0_0) := (blk_cell BK526.out 0).trans rfl; have hcz23_1 : w19.cell? ⟨gb526, 1, none⟩ = some (.slice A0_1 l0_1.length c0_1) := (blk_cell BK526.out 1).trans rfl; have hfz23_0 := blk_frozen BK526.out 0; have hfz23_1 := blk_frozen BK526.out 1) | ((with_reducible refine gate_callee (f := 16) rfl ?_); refine goesL_ (some 26) rfl rfl Try.func16 (by kernel_rfl) rfl #[.agg #[.int .i64 a0_0, .slice A0_1 l0_1.length c0_1]] rfl (by (try simp only [List.map_toArray, List.map_cons, List.map_nil]); first | done | rfl | (simp only [List.length_drop, List.length_take]; rfl)) ?_; (with_reducible refine (laws_toMoments.calls k a0_0 _ _ l0_1 t538 t539 _ ?side1 ?side2 A9.out).mono ?_); (case side1 => exact Kd.C_below HR0_1.out (uH HB.out)); (case side2 => exact HC0_1.out); rintro e w24 ⟨v540, rfl, ho0, hb⟩; refine ⟨_, rfl, ?_⟩; have n0_ := zA (Kd.R_elder' (uR ((Kd.R_mono (Kd.R_far (p := ⟨gb537, 1, none⟩) (Kd.R_far (p := ⟨gb537, 0, none⟩) (Kd.R_types HO531.out BK537.out (by decide)) (fun _ hk => hk.2) (.int .i64 t532)) (fun _ hk => hk.2) (.slice Ao22 t533.length co22)) (fun _ h_ => h_.1)))) (Kd.R_base ho0) hb); have n1_ := zA (Kd.R_elder' (uR ((Kd.R_mono (Kd.R_far (p := ⟨gb537, 1, none⟩) (Kd.R_far (p := ⟨gb537, 0, none⟩) (Kd.R_types HO535.out BK537.out (by decide)) (fun _ hk => hk.2) (.int .i64 t532)) (fun _ hk => hk.2) (.slice Ao22 t533.length co22)) (fun _ h_ => h_.1)))) (Kd.R_base ho0) hb); have n2_ := zA (Kd.R_lower (Kd.R_new' (Kd.R_new' ho0 (Kd.R_lt (uR ((Kd.R_mono (Kd.R_far (p := ⟨gb537, 1, none⟩) (Kd.R_far (p := ⟨gb537, 0, none⟩) (Kd.R_types HO531.out BK537.out (by decide)) (fun _ hk => hk.2) (.int .i64 t532)) (fun _ hk => hk.2) (.slice Ao22 t533.length co22)) (fun _ h_ => h_.1)))))) (Kd.R_lt (uR ((Kd.R_mono (Kd.R_far (p := ⟨gb537, 1, none⟩) (Kd.R_far (p := ⟨gb537, 0, none⟩) (Kd.R_types HO535.out BK537.out (by decide)) (fun _ hk => hk.2) (.int .i64 t532)) (fun _ hk => hk.2) (.slice Ao22 t533.length co22)) (fun _ h_ => h_.1)))))) (below_size (uH HB.out))); have n3_ := zA (blk_below (g := gb526) (o := .cells #[.int .i64 a0_0, .slice A0_1 l0_1.length c0_1] 32 (0, 0)) (by (with_reducible repeat (first | refine blk_drewN ?_ _ | refine blk_drew ?_ | refine blk_alloc ?_ _)); refine blk_far ?_ NB526_537.out _; (with_reducible repeat (first | refine blk_drewN ?_ _ | refine blk_drew ?_ | refine blk_alloc ?_ _)); refine blk_far ?_ NB526_537.out _; (with_reducible repeat (first | refine blk_drewN ?_ _ | refine blk_drew ?_ | refine blk_alloc ?_ _)); exact BK526.out) hb); have n4_ := zA (blk_below (g := gb537) (o := .cells #[.int .i64 t532, .slice Ao22 t533.length co22] 36 (0, 0)) (by (with_reducible repeat (first | refine blk_drewN ?_ _ | refine blk_drew ?_ | refine blk_alloc ?_ _)); refine blk_put (cs := #[.int .i64 t532, .slice none 0 0]) ?_ 1 _ rfl; (with_reducible repeat (first | refine blk_drewN ?_ _ | refine blk_drew ?_ | refine blk_alloc ?_ _)); refine blk_put (cs := #[.int .i64 0, .slice none 0 0]) ?_ 0 _ rfl; (with_reducible repeat (first | refine blk_drewN ?_ _ | refine blk_drew ?_ | refine blk_alloc ?_ _)); exact BK537.out) hb); have n5_ := xH HB hb; clear HO531 HO535 BK526 BK537 HB; have HO531 := n0_; have HO535 := n1_; have HO541 := n2_; have BK526 := n3_; have BK537 := n4_; have HB := n5_; clear n0_ n1_ n2_ n3_ n4_ n5_; (try clear hb); (try clear hb2); (try clear hk); (try clear hi); (try clear ho0)) | ((with_reducible refine gate_dst (N := 6) rfl ?_); refine box_event ?hg (N := 6) ?hd (cs := #[.int .i64 0, .slice none 0 0]) (t := 36) ?hr ?_; (case hd => rfl); (case hg => rfl); (case hr => first | (go_simp; done) | (go_simp; rfl)); intro gb542 hg w25 hbox hb; have n0_ := xR HO531 hb; have n1_ := xR HO535 hb; have n2_ := xR HO541 hb; have n3_ := xB BK526 hb; have n4_ := xB BK537 hb; have n5_ := xH HB hb; have n6_ := zA (hbox); have n7_ := zA ((by rw [hg]; exact (below_size (uH HB.out)) : w.heap.size ≤ gb542)); have n8_ := zA ((by rw [hg]; exact (below_size (uH HB.out)) : w.heap.size ≤ gb542)); have n9_ := zA ((by rw [hg]; exact neL BK526 : gb526 ≠ gb542)); have n10_ := zA ((by rw [hg]; exact neG BK526 : gb542 ≠ gb526)); have n11_ := zA ((by rw [hg]; exact neL BK537 : gb537 ≠ gb542)); have n12_ := zA ((by rw [hg]; exact neG BK537 : gb542 ≠ gb537)); clear HO531 HO535 HO541 BK526 BK537 HB; have HO531 := n0_; have HO535 := n1_; have HO541 := n2_; have BK526 := n3_; have BK537 := n4_; have HB := n5_; have BK542 := n6_; have GW542 := n7_; have GE542 := n8_; have := geI GE542; have NB526_542 := n9_; have NB542_526 := n10_; have NB537_542 := n11_; have NB542_537 := n12_; clear n0_ n1_ n2_ n3_ n4_ n5_ n6_ n7_ n8_ n9_ n10_ n11_ n12_ hb hbox hg; have hnb26 := NB542_526.out; have hnc26 := NB526_542.out; have hnb27 := NB542_537.out; have hnc27 := NB537_542.out; have hcz28_0 : w25.cell? ⟨gb542, 0, none⟩ = some (.int .i64 0) := (blk_cell BK542.out 0).trans rfl; have hcz28_1 : w25.cell? ⟨gb542, 1, none⟩ = some (.slice none 0 0) := (blk_cell BK542.out 1).trans rfl; have hfz28_0 := blk_frozen BK542.out 0; have hfz28_1 := blk_frozen BK542.out 1; obtain ⟨Ao29, co29, eo29⟩ := Kd.R_slice HO541.out; subst eo29) | ((with_reducible refine gate_callee (f := 30) rfl ?_); refine goesL_ (some 29) rfl rfl Try.func30 (by kernel_rfl) rfl #[.agg #[.int .i64 t538, .slice Ao29 t539.length co29]] rfl (by (try simp only [List.map_toArray, List.map_cons, List.map_nil]); first | done | rfl | (simp only [List.length_drop, List.length_take]; rfl)) ?_; (with_reducible refine (impl_ShiftMoments.calls k t538 _ _ t539 t543 t544 t547 _ ?side1 ?side2 A10.out).mono ?_); (case side1 => refine (Kd.R_reads' (e := 2) (base := w.heap.size) (ok := fun k_ => ((True ∧ some k_ ≠ (.slice Ao17 t529.length co17 : Value).ownBlock) ∧ some k_ ≠ (.slice Ao22 t533.length co22 : Value).ownBlock)) (n := t539.length) (c := co29) ?_).2.2; exact (uR ((Kd.R_mono (Kd.R_far (p := ⟨gb542, 1, none⟩) (Kd.R_far (p := ⟨gb542, 0, none⟩) (Kd.R_types HO541.out BK542.out (by decide)) (fun _ hk => hk.2) (.int .i64 t538)) (fun _ hk => hk.2) (.slice Ao29 t539.length co29)) (fun _ h_ => h_.1))))); (case side2 => exact (Kd.R_reads' HO541.out).2.1); rintro e w30 ⟨v545, rfl, ho0, hb⟩; refine ⟨_, rfl, ?_⟩; have n0_ := zA (Kd.R_elder' (uR ((Kd.R_mono (Kd.R_far (p := ⟨gb542, 1, none⟩) (Kd.R_far (p := ⟨gb542, 0, none⟩) (Kd.R_types HO531.out BK542.out (by decide)) (fun _ hk => hk.2) (.int .i64 t538)) (fun _ hk => hk.2) (.slice Ao29 t539.length co29)) (fun _ h_ => h_.1)))) (Kd.R_base ho0) hb); have n1_ := zA (Kd.R_elder' (uR ((Kd.R_mono (Kd.R_far (p := ⟨gb542, 1, none⟩) (Kd.R_far (p := ⟨gb542, 0, none⟩) (Kd.R_types HO535.out BK542.out (by decide)) (fun _ hk => hk.2) (.int .i64 t538)) (fun _ hk => hk.2) (.slice Ao29 t539.length co29)) (fun _ h_ => h_.1)))) (Kd.R_base ho0) hb); have n2_ := zA (Kd.R_elder' (uR ((Kd.R_mono (Kd.R_far (p := ⟨gb542, 1, none⟩) (Kd.R_far (p := ⟨gb542, 0, none⟩) (Kd.R_types HO541.out BK542.out (by decide)) (fun _ hk => hk.2) (.int .i64 t538)) (fun _ hk => hk.2) (.slice Ao29 t539.length co29)) (fun _ h_ => h_.1)))) (Kd.R_base ho0) hb); have n3_ := zA (Kd.R_lower (Kd.R_new' (Kd.R_new' (Kd.R_new' ho0 (Kd.R_lt (uR ((Kd.R_mono (Kd.R_far (p := ⟨gb542, 1, none⟩) (Kd.R_far (p := ⟨gb542, 0, none⟩) (Kd.R_types HO531.out BK542.out (by decide)) (fun _ hk => hk.2) (.int .i64 t538)) (fun _ hk => hk.2) (.slice Ao29 t539.length co29)) (fun _ h_ => h_.1)))))) (Kd.R_lt (uR ((Kd.R_mono (Kd.R_far (p := ⟨gb542, 1, none⟩) (Kd.R_far (p := ⟨gb542, 0, none⟩) (Kd.R_types HO535.out BK542.out (by decide)) (fun _ hk => hk.2) (.int .i64 t538)) (fun _ hk => hk.2) (.slice Ao29 t539.length co29)) (fun _ h_ => h_.1)))))) (Kd.R_lt (uR ((Kd.R_mono (Kd.R_far (p := ⟨gb542, 1, none⟩) (Kd.R_far (p := ⟨gb542, 0, none⟩) (Kd.R_types HO541.out BK542.out (by decide)) (fun _ hk => hk.2) (.int .i64 t538)) (fun _ hk => hk.2) (.slice Ao29 t539.length co29)) (fun _ h_ => h_.1)))))) (below_size (uH HB.out))); have n4_ := zA (blk_below (g := gb526) (o := .cells #[.int .i64 a0_0, .slice A0_1 l0_1.length c0_1] 32 (0, 0)) (by (with_reducible repeat (first | refine blk_drewN ?_ _ | refine blk_drew ?_ | refine blk_alloc ?_ _)); refine blk_far ?_ NB526_542.out _; (with_reducible repeat (first | refine blk_drewN ?_ _ | refine blk_drew ?_ | refine blk_alloc ?_ _)); refine blk_far ?_ NB526_542.out _; (with_reducible repeat (first | refine blk_drewN ?_ _ | refine blk_drew ?_ | refine blk_alloc ?_ _)); exact BK526.out) hb); have n5_ := zA (blk_below (g := gb537) (o := .cells #[.int .i64 t532, .slice Ao22 t533.length co22] 36 (0, 0)) (by (with_reducible repeat (first | refine blk_drewN ?_ _ | refine blk_drew ?_ | refine blk_alloc ?_ _)); refine blk_far ?_ NB537_542.out _; (with_reducible repeat (first | refine blk_drewN ?_ _ | refine blk_drew ?_ | refine blk_alloc ?_ _)); refine blk_far ?_ NB537_542.out _; (with_reducible repeat (first | refine blk_drewN ?_ _ | refine blk_drew ?_ | refine blk_alloc ?_ _)); exact BK537.out) hb); have n6_ := zA (blk_below (g := gb542) (o := .cells #[.int .i64 t538, .slice Ao29 t539.length co29] 36 (0, 0)) (by (with_reducible repeat (first | refine blk_drewN ?_ _ | refine blk_drew ?_ | refine blk_alloc ?_ _)); refine blk_put (cs := #[.int .i64 t538, .slice none 0 0]) ?_ 1 _ rfl; (with_reducible repeat (first | refine blk_drewN ?_ _ | refine blk_drew ?_ | refine blk_alloc ?_ _)); refine blk_put (cs := #[.int .i64 0, .slice none 0 0]) ?_ 0 _ rfl; (with_reducible repeat (first | refine blk_drewN ?_ _ | refine blk_drew ?_ | refine blk_alloc ?_ _)); exact BK542.out) hb); have n7_ := xH HB hb; clear HO531 HO535 HO541 BK526 BK537 BK542 HB; have HO531 := n0_; have HO535 := n1_; have HO541 := n2_; have HO546 := n3_; have BK526 := n4_; have BK537 := n5_; have BK542 := n6_; have HB := n7_; clear n0_ n1_ n2_ n3_ n4_ n5_ n6_ n7_; (try clear hb); (try clear hb2); (try clear hk); (try clear hi); (try clear ho0)) | ((with_reducible refine gate_dst (N := 7) rfl ?_); refine box_event ?hg (N := 7) ?hd (cs := #[.int .i64 0, .slice none 0 0]) (t := 36) ?hr ?_; (case hd => rfl); (case hg => rfl); (case hr => first | (go_simp; done) | (go_simp; rfl)); intro gb548 hg w31 hbox hb; have n0_ := xR HO531 hb; have n1_ := xR HO535 hb; have n2_ := xR HO541 hb; have n3_ := xR HO546 hb; have n4_ := xB BK526 hb; have n5_ := xB BK537 hb; have n6_ := xB BK542 hb; have n7_ := xH HB hb; have n8_ := zA (hbox); have n9_ := zA ((by rw [hg]; exact (below_size (uH HB.out)) : w.heap.size ≤ gb548)); have n10_ := zA ((by rw [hg]; exact (below_size (uH HB.out)) : w.heap.size ≤ gb548)); have n11_ := zA ((by rw [hg]; exact neL BK526 : gb526 ≠ gb548)); have n12_ := zA ((by rw [hg]; exact neG BK526 : gb548 ≠ gb526)); have n13_ := zA ((by rw [hg]; exact neL BK537 : gb537 ≠ gb548)); have n14_ := zA ((by rw [hg]; exact neG BK537 : gb548 ≠ gb537)); have n15_ := zA ((by rw [hg]; exact neL BK542 : gb542 ≠ gb548)); have n16_ := zA ((by rw [hg]; exact neG BK542 : gb548 ≠ gb542)); clear HO531 HO535 HO541 HO546 BK526 BK537 BK542 HB; have HO531 := n0_; have HO535 := n1_; have HO541 := n2_; have HO546 := n3_; have BK526 := n4_; have BK537 := n5_; have BK542 := n6_; have HB := n7_; have BK548 := n8_; have GW548 := n9_; have GE548 := n10_; have := geI GE548; have NB526_548 := n11_; have NB548_526 := n12_; have NB537_548 := n13_; have NB548_537 := n14_; have NB542_548 := n15_; have NB548_542 := n16_; clear n0_ n1_ n2_ n3_ n4_ n5_ n6_ n7_ n8_ n9_ n10_ n11_ n12_ n13_ n14_ n15_ n16_ hb hbox hg; have hnb32 := NB548_526.out; have hnc32 := NB526_548.out; have hnb33 := NB548_537.out; have hnc33 := NB537_548.out; have hnb34 := NB548_542.out; have hnc34 := NB542_548.out; have hcz35_0 : w31.cell? ⟨gb548, 0, none⟩ = some (.int .i64 0) := (blk_cell BK548.out 0).trans rfl; have hcz35_1 : w31.cell? ⟨gb548, 1, none⟩ = some (.slice none 0 0) := (blk_cell BK548.out 1).trans rfl; have hfz35_0 := blk_frozen BK548.out 0; have hfz35_1 := blk_frozen BK548.out 1; obtain ⟨Ao36, co36, eo36⟩ := Kd.R_slice HO546.out; subst eo36))
  (try simp only [Act.put, List.setIfInBounds_toArray, List.set_cons_zero, List.set_cons_succ])
  go_cut [40] (fun v40 wc => ∃ (kq : Nat) (x40_10 : Bool), v40 = .bool x40_10 ∧ Aside0 (laws_FnExactShiftMoments.j0 kq t536 t547 x40_10 a0_0 l0_1 t532 t533 t538 t539 t543 t544 = some r) ∧ Aside0 (kq ≤ k) ∧ Aside0 (Kd.R (Kd.int .i64) 2 wc w.heap.size (fun k_ => some k_ ≠ ((.slice Ao29 t539.length co29) : Value).ownBlock ∧ some k_ ≠ ((.slice Ao36 t544.length co36) : Value).ownBlock) (.slice Ao22 t533.length co22) t533) ∧ Aside0 (Kd.R (Kd.int .i64) 2 wc w.heap.size (fun k_ => some k_ ≠ ((.slice Ao22 t533.length co22) : Value).ownBlock ∧ some k_ ≠ ((.slice Ao36 t544.length co36) : Value).ownBlock) (.slice Ao29 t539.length co29) t539) ∧ Aside0 (Kd.R (Kd.int .i64) 2 wc w.heap.size (fun k_ => some k_ ≠ ((.slice Ao22 t533.length co22) : Value).ownBlock ∧ some k_ ≠ ((.slice Ao29 t539.length co29) : Value).ownBlock) (.slice Ao36 t544.length co36) t544) ∧ Aside0 (wc.heap[gb526]? = some (.cells #[.int .i64 a0_0, (.slice A0_1 l0_1.length c0_1)] 32 (0, 0))) ∧ Aside0 (wc.heap[gb537]? = some (.cells #[.int .i64 t532, (.slice Ao22 t533.length co22)] 36 (0, 0))) ∧ Aside0 (wc.heap[gb542]? = some (.cells #[.int .i64 t538, (.slice Ao29 t539.length co29)] 36 (0, 0))) ∧ Aside0 (wc.heap[gb548]? = some (.cells #[.int .i64 t543, (.slice Ao36 t544.length co36)] 36 (0, 0))) ∧ Aside0 (Below w.heap.size w wc))
  case first =>
   have H := HC11.out
   clear HC11
   replace H := Option.bind_eq_some_iff.mp H
   obtain ⟨t549, A370, H⟩ := H
   replace H : (if t549 = true then (laws_FnExactShiftMoments.j0 k t536 t547 (t547 != t536) a0_0 l0_1 t532 t533 t538 t539 t543 t544) else (laws_FnExactShiftMoments.j0 k t536 t547 true a0_0 l0_1 t532 t533 t538 t539 t543 t544)) = some r := H
   have A37 := zA A370
   clear A370
   by_cases c38 : t549 = true
   ·subst c38
    have H1 : (laws_FnExactShiftMoments.j0 k t536 t547 (t547 != t536) a0_0 l0_1 t532 t533 t538 t539 t543 t544) = some r := by rw [if_pos rfl] at H; exact H
    clear H
    have H := H1
    clear H1
    have H' := zA H
    clear H
    have hnb39 := NB548_526.out; have hnc39 := NB526_548.out; have hnb40 := NB548_537.out; have hnc40 := NB537_548.out; have hnb41 := NB548_542.out; have hnc41 := NB542_548.out
    have hcz42_0 : w31.cell? ⟨gb548, 0, none⟩ = some (.int .i64 0) := (blk_cell BK548.out 0).trans rfl
    have hcz42_1 : w31.cell? ⟨gb548, 1, none⟩ = some (.slice none 0 0) := (blk_cell BK548.out 1).trans rfl
    have hfz42_0 := blk_frozen BK548.out 0
    have hfz42_1 := blk_frozen BK548.out 1
    have hnb43 := NB537_526.out; have hnc43 := NB526_537.out; have hnb44 := NB537_542.out; have hnc44 := NB542_537.out
    have hcz45_0 : w31.cell? ⟨gb537, 0, none⟩ = some (.int .i64 t532) := (blk_cell BK537.out 0).trans rfl
    have hcz45_1 : w31.cell? ⟨gb537, 1, none⟩ = some (.slice Ao22 t533.length co22) := (blk_cell BK537.out 1).trans rfl
    have hfz45_0 := blk_frozen BK537.out 0
    have hfz45_1 := blk_frozen BK537.out 1
    go_wp2_with (first | ((with_reducible refine gate_callee (f := 19) rfl ?_); refine goesL_ (some 34) rfl rfl Try.func19 (by kernel_rfl) rfl #[.agg #[.int .i64 t543, .slice Ao36 t544.length co36], .agg #[.int .i64 t532, .slice Ao22 t533.length co22]] rfl (by (try simp only [List.map_toArray, List.map_cons, List.map_nil]); first | done | rfl | (simp only [List.length_drop, List.length_take]; rfl)) ?_; (with_reducible refine (laws_eqMoments.calls k t543 _ _ t544 t532 _ _ t533 true _ ?side1 ?side2 ?side3 ?side4 A37.out).mono ?_); (case side1 => refine (Kd.R_reads' (e := 2) (base := w.heap.size) (ok := fun k_ => (((True ∧ some k_ ≠ (.slice Ao17 t529.length co17 : Value).ownBlock) ∧ some k_ ≠ (.slice Ao22 t533.length co22 : Value).ownBlock) ∧ some k_ ≠ (.slice Ao29 t539.length co29 : Value).ownBlock)) (n := t544.length) (c := co36) ?_).2.2; exact (uR ((Kd.R_mono (Kd.R_far (p := ⟨gb548, 1, none⟩) (Kd.R_far (p := ⟨gb548, 0, none⟩) (Kd.R_types HO546.out BK548.out (by decide)) (fun _ hk => hk.2) (.int .i64 t543)) (fun _ hk => hk.2) (.slice Ao36 t544.length co36)) (fun _ h_ => h_.1))))); (case side2 => exact (Kd.R_reads' HO546.out).2.1); (case side3 => refine (Kd.R_reads' (e := 2) (base := w.heap.size) (ok := fun k_ => (((True ∧ some k_ ≠ (.slice Ao17 t529.length co17 : Value).ownBlock) ∧ some k_ ≠ (.slice Ao29 t539.length co29 : Value).ownBlock) ∧ some k_ ≠ (.slice Ao36 t544.length co36 : Value).ownBlock)) (n := t533.length) (c := co22) ?_).2.2; exact (uR ((Kd.R_mono (Kd.R_far (p := ⟨gb548, 1, none⟩) (Kd.R_far (p := ⟨gb548, 0, none⟩) (Kd.R_types HO535.out BK548.out (by decide)) (fun _ hk => hk.2) (.int .i64 t543)) (fun _ hk => hk.2) (.slice Ao36 t544.length co36)) (fun _ h_ => h_.1))))); (case side4 => exact (Kd.R_reads' HO535.out).2.1); rintro e w46 ⟨rfl, hb⟩; refine ⟨_, rfl, ?_⟩; have n0_ := zA (Kd.R_below (uR ((Kd.R_mono (Kd.R_far (p := ⟨gb548, 1, none⟩) (Kd.R_far (p := ⟨gb548, 0, none⟩) (Kd.R_types HO531.out BK548.out (by decide)) (fun _ hk => hk.2) (.int .i64 t543)) (fun _ hk => hk.2) (.slice Ao36 t544.length co36)) (fun _ h_ => h_.1)))) hb); have n1_ := zA (Kd.R_below (uR ((Kd.R_mono (Kd.R_far (p := ⟨gb548, 1, none⟩) (Kd.R_far (p := ⟨gb548, 0, none⟩) (Kd.R_types HO535.out BK548.out (by decide)) (fun _ hk => hk.2) (.int .i64 t543)) (fun _ hk => hk.2) (.slice Ao36 t544.length co36)) (fun _ h_ => h_.1)))) hb); have n2_ := zA (Kd.R_below (uR ((Kd.R_mono (Kd.R_far (p := ⟨gb548, 1, none⟩) (Kd.R_far (p := ⟨gb548, 0, none⟩) (Kd.R_types HO541.out BK548.out (by decide)) (fun _ hk => hk.2) (.int .i64 t543)) (fun _ hk => hk.2) (.slice Ao36 t544.length co36)) (fun _ h_ => h_.1)))) hb); have n3_ := zA (Kd.R_below (uR ((Kd.R_mono (Kd.R_far (p := ⟨gb548, 1, none⟩) (Kd.R_far (p := ⟨gb548, 0, none⟩) (Kd.R_types HO546.out BK548.out (by decide)) (fun _ hk => hk.2) (.int .i64 t543)) (fun _ hk => hk.2) (.slice Ao36 t544.length co36)) (fun _ h_ => h_.1)))) hb); have n4_ := zA (blk_below (g := gb526) (o := .cells #[.int .i64 a0_0, .slice A0_1 l0_1.length c0_1] 32 (0, 0)) (by (with_reducible repeat (first | refine blk_drewN ?_ _ | refine blk_drew ?_ | refine blk_alloc ?_ _)); refine blk_far ?_ NB526_548.out _; (with_reducible repeat (first | refine blk_drewN ?_ _ | refine blk_drew ?_ | refine blk_alloc ?_ _)); refine blk_far ?_ NB526_548.out _; (with_reducible repeat (first | refine blk_drewN ?_ _ | refine blk_drew ?_ | refine blk_alloc ?_ _)); exact BK526.out) hb); have n5_ := zA (blk_below (g := gb537) (o := .cells #[.int .i64 t532, .slice Ao22 t533.length co22] 36 (0, 0)) (by (with_reducible repeat (first | refine blk_drewN ?_ _ | refine blk_drew ?_ | refine blk_alloc ?_ _)); refine blk_far ?_ NB537_548.out _; (with_reducible repeat (first | refine blk_drewN ?_ _ | refine blk_drew ?_ | refine blk_alloc ?_ _)); refine blk_far ?_ NB537_548.out _; (with_reducible repeat (first | refine blk_drewN ?_ _ | refine blk_drew ?_ | refine blk_alloc ?_ _)); exact BK537.out) hb); have n6_ := zA (blk_below (g := gb542) (o := .cells #[.int .i64 t538, .slice Ao29 t539.length co29] 36 (0, 0)) (by (with_reducible repeat (first | refine blk_drewN ?_ _ | refine blk_drew ?_ | refine blk_alloc ?_ _)); refine blk_far ?_ NB542_548.out _; (with_reducible repeat (first | refine blk_drewN ?_ _ | refine blk_drew ?_ | refine blk_alloc ?_ _)); refine blk_far ?_ NB542_548.out _; (with_reducible repeat (first | refine blk_drewN ?_ _ | refine blk_drew ?_ | refine blk_alloc ?_ _)); exact BK542.out) hb); have n7_ := zA (blk_below (g := gb548) (o := .cells #[.int .i64 t543, .slice Ao36 t544.length co36] 36 (0, 0)) (by (with_reducible repeat (first | refine blk_drewN ?_ _ | refine blk_drew ?_ | refine blk_alloc ?_ _)); refine blk_put (cs := #[.int .i64 t543, .slice none 0 0]) ?_ 1 _ rfl; (with_reducible repeat (first | refine blk_drewN ?_ _ | refine blk_drew ?_ | refine blk_alloc ?_ _)); refine blk_put (cs := #[.int .i64 0, .slice none 0 0]) ?_ 0 _ rfl; (with_reducible repeat (first | refine blk_drewN ?_ _ | refine blk_drew ?_ | refine blk_alloc ?_ _)); exact BK548.out) hb); have n8_ := xH HB hb; clear HO531 HO535 HO541 HO546 BK526 BK537 BK542 BK548 HB; have HO531 := n0_; have HO535 := n1_; have HO541 := n2_; have HO546 := n3_; have BK526 := n4_; have BK537 := n5_; have BK542 := n6_; have BK548 := n7_; have HB := n8_; clear n0_ n1_ n2_ n3_ n4_ n5_ n6_ n7_ n8_; (try clear hb); (try clear hb2); (try clear hk); (try clear hi)))
    go_meet
    case rel => exact ⟨_, ((t547 != t536)), (by first | rfl | (simp; done) | (simp [*]; done)), H', ⟨by first | omega | exact Nat.le_refl _⟩, ⟨uR (Kd.R_mono HO535.out (fun _ hk => ⟨hk.1.2, hk.2⟩))⟩, ⟨uR (Kd.R_mono HO541.out (fun _ hk => ⟨hk.1.2, hk.2⟩))⟩, ⟨uR (Kd.R_mono HO546.out (fun _ hk => ⟨hk.1.2, hk.2⟩))⟩, ⟨uB BK526.out⟩, ⟨uB BK537.out⟩, ⟨uB BK542.out⟩, ⟨uB BK548.out⟩, ⟨uH HB.out⟩⟩
   ·replace c38 := Bool.eq_false_iff.mpr c38
    subst c38
    have H1 : (laws_FnExactShiftMoments.j0 k t536 t547 true a0_0 l0_1 t532 t533 t538 t539 t543 t544) = some r := by rw [if_neg (show ¬ (false = true) by decide)] at H; exact H
    clear H
    have H := H1
    clear H1
    have H' := zA H
    clear H
    have hnb47 := NB548_526.out; have hnc47 := NB526_548.out; have hnb48 := NB548_537.out; have hnc48 := NB537_548.out; have hnb49 := NB548_542.out; have hnc49 := NB542_548.out
    have hcz50_0 : w31.cell? ⟨gb548, 0, none⟩ = some (.int .i64 0) := (blk_cell BK548.out 0).trans rfl
    have hcz50_1 : w31.cell? ⟨gb548, 1, none⟩ = some (.slice none 0 0) := (blk_cell BK548.out 1).trans rfl
    have hfz50_0 := blk_frozen BK548.out 0
    have hfz50_1 := blk_frozen BK548.out 1
    have hnb51 := NB537_526.out; have hnc51 := NB526_537.out; have hnb52 := NB537_542.out; have hnc52 := NB542_537.out
    have hcz53_0 : w31.cell? ⟨gb537, 0, none⟩ = some (.int .i64 t532) := (blk_cell BK537.out 0).trans rfl
    have hcz53_1 : w31.cell? ⟨gb537, 1, none⟩ = some (.slice Ao22 t533.length co22) := (blk_cell BK537.out 1).trans rfl
    have hfz53_0 := blk_frozen BK537.out 0
    have hfz53_1 := blk_frozen BK537.out 1
    go_wp2_with (first | ((with_reducible refine gate_callee (f := 19) rfl ?_); refine goesL_ (some 34) rfl rfl Try.func19 (by kernel_rfl) rfl #[.agg #[.int .i64 t543, .slice Ao36 t544.length co36], .agg #[.int .i64 t532, .slice Ao22 t533.length co22]] rfl (by (try simp only [List.map_toArray, List.map_cons, List.map_nil]); first | done | rfl | (simp only [List.length_drop, List.length_take]; rfl)) ?_; (with_reducible refine (laws_eqMoments.calls k t543 _ _ t544 t532 _ _ t533 false _ ?side1 ?side2 ?side3 ?side4 A37.out).mono ?_); (case side1 => refine (Kd.R_reads' (e := 2) (base := w.heap.size) (ok := fun k_ => (((True ∧ some k_ ≠ (.slice Ao17 t529.length co17 : Value).ownBlock) ∧ some k_ ≠ (.slice Ao22 t533.length co22 : Value).ownBlock) ∧ some k_ ≠ (.slice Ao29 t539.length co29 : Value).ownBlock)) (n := t544.length) (c := co36) ?_).2.2; exact (uR ((Kd.R_mono (Kd.R_far (p := ⟨gb548, 1, none⟩) (Kd.R_far (p := ⟨gb548, 0, none⟩) (Kd.R_types HO546.out BK548.out (by decide)) (fun _ hk => hk.2) (.int .i64 t543)) (fun _ hk => hk.2) (.slice Ao36 t544.length co36)) (fun _ h_ => h_.1))))); (case side2 => exact (Kd.R_reads' HO546.out).2.1); (case side3 => refine (Kd.R_reads' (e := 2) (base := w.heap.size) (ok := fun k_ => (((True ∧ some k_ ≠ (.slice Ao17 t529.length co17 : Value).ownBlock) ∧ some k_ ≠ (.slice Ao29 t539.length co29 : Value).ownBlock) ∧ some k_ ≠ (.slice Ao36 t544.length co36 : Value).ownBlock)) (n := t533.length) (c := co22) ?_).2.2; exact (uR ((Kd.R_mono (Kd.R_far (p := ⟨gb548, 1, none⟩) (Kd.R_far (p := ⟨gb548, 0, none⟩) (Kd.R_types HO535.out BK548.out (by decide)) (fun _ hk => hk.2) (.int .i64 t543)) (fun _ hk => hk.2) (.slice Ao36 t544.length co36)) (fun _ h_ => h_.1))))); (case side4 => exact (Kd.R_reads' HO535.out).2.1); rintro e w54 ⟨rfl, hb⟩; refine ⟨_, rfl, ?_⟩; have n0_ := zA (Kd.R_below (uR ((Kd.R_mono (Kd.R_far (p := ⟨gb548, 1, none⟩) (Kd.R_far (p := ⟨gb548, 0, none⟩) (Kd.R_types HO531.out BK548.out (by decide)) (fun _ hk => hk.2) (.int .i64 t543)) (fun _ hk => hk.2) (.slice Ao36 t544.length co36)) (fun _ h_ => h_.1)))) hb); have n1_ := zA (Kd.R_below (uR ((Kd.R_mono (Kd.R_far (p := ⟨gb548, 1, none⟩) (Kd.R_far (p := ⟨gb548, 0, none⟩) (Kd.R_types HO535.out BK548.out (by decide)) (fun _ hk => hk.2) (.int .i64 t543)) (fun _ hk => hk.2) (.slice Ao36 t544.length co36)) (fun _ h_ => h_.1)))) hb); have n2_ := zA (Kd.R_below (uR ((Kd.R_mono (Kd.R_far (p := ⟨gb548, 1, none⟩) (Kd.R_far (p := ⟨gb548, 0, none⟩) (Kd.R_types HO541.out BK548.out (by decide)) (fun _ hk => hk.2) (.int .i64 t543)) (fun _ hk => hk.2) (.slice Ao36 t544.length co36)) (fun _ h_ => h_.1)))) hb); have n3_ := zA (Kd.R_below (uR ((Kd.R_mono (Kd.R_far (p := ⟨gb548, 1, none⟩) (Kd.R_far (p := ⟨gb548, 0, none⟩) (Kd.R_types HO546.out BK548.out (by decide)) (fun _ hk => hk.2) (.int .i64 t543)) (fun _ hk => hk.2) (.slice Ao36 t544.length co36)) (fun _ h_ => h_.1)))) hb); have n4_ := zA (blk_below (g := gb526) (o := .cells #[.int .i64 a0_0, .slice A0_1 l0_1.length c0_1] 32 (0, 0)) (by (with_reducible repeat (first | refine blk_drewN ?_ _ | refine blk_drew ?_ | refine blk_alloc ?_ _)); refine blk_far ?_ NB526_548.out _; (with_reducible repeat (first | refine blk_drewN ?_ _ | refine blk_drew ?_ | refine blk_alloc ?_ _)); refine blk_far ?_ NB526_548.out _; (with_reducible repeat (first | refine blk_drewN ?_ _ | refine blk_drew ?_ | refine blk_alloc ?_ _)); exact BK526.out) hb); have n5_ := zA (blk_below (g := gb537) (o := .cells #[.int .i64 t532, .slice Ao22 t533.length co22] 36 (0, 0)) (by (with_reducible repeat (first | refine blk_drewN ?_ _ | refine blk_drew ?_ | refine blk_alloc ?_ _)); refine blk_far ?_ NB537_548.out _; (with_reducible repeat (first | refine blk_drewN ?_ _ | refine blk_drew ?_ | refine blk_alloc ?_ _)); refine blk_far ?_ NB537_548.out _; (with_reducible repeat (first | refine blk_drewN ?_ _ | refine blk_drew ?_ | refine blk_alloc ?_ _)); exact BK537.out) hb); have n6_ := zA (blk_below (g := gb542) (o := .cells #[.int .i64 t538, .slice Ao29 t539.length co29] 36 (0, 0)) (by (with_reducible repeat (first | refine blk_drewN ?_ _ | refine blk_drew ?_ | refine blk_alloc ?_ _)); refine blk_far ?_ NB542_548.out _; (with_reducible repeat (first | refine blk_drewN ?_ _ | refine blk_drew ?_ | refine blk_alloc ?_ _)); refine blk_far ?_ NB542_548.out _; (with_reducible repeat (first | refine blk_drewN ?_ _ | refine blk_drew ?_ | refine blk_alloc ?_ _)); exact BK542.out) hb); have n7_ := zA (blk_below (g := gb548) (o := .cells #[.int .i64 t543, .slice Ao36 t544.length co36] 36 (0, 0)) (by (with_reducible repeat (first | refine blk_drewN ?_ _ | refine blk_drew ?_ | refine blk_alloc ?_ _)); refine blk_put (cs := #[.int .i64 t543, .slice none 0 0]) ?_ 1 _ rfl; (with_reducible repeat (first | refine blk_drewN ?_ _ | refine blk_drew ?_ | refine blk_alloc ?_ _)); refine blk_put (cs := #[.int .i64 0, .slice none 0 0]) ?_ 0 _ rfl; (with_reducible repeat (first | refine blk_drewN ?_ _ | refine blk_drew ?_ | refine blk_alloc ?_ _)); exact BK548.out) hb); have n8_ := xH HB hb; clear HO531 HO535 HO541 HO546 BK526 BK537 BK542 BK548 HB; have HO531 := n0_; have HO535 := n1_; have HO541 := n2_; have HO546 := n3_; have BK526 := n4_; have BK537 := n5_; have BK542 := n6_; have BK548 := n7_; have HB := n8_; clear n0_ n1_ n2_ n3_ n4_ n5_ n6_ n7_ n8_; (try clear hb); (try clear hb2); (try clear hk); (try clear hi)))
    go_meet
    case rel => exact ⟨_, (true), (by first | rfl | (simp; done) | (simp [*]; done)), H', ⟨by first | omega | exact Nat.le_refl _⟩, ⟨uR (Kd.R_mono HO535.out (fun _ hk => ⟨hk.1.2, hk.2⟩))⟩, ⟨uR (Kd.R_mono HO541.out (fun _ hk => ⟨hk.1.2, hk.2⟩))⟩, ⟨uR (Kd.R_mono HO546.out (fun _ hk => ⟨hk.1.2, hk.2⟩))⟩, ⟨uB BK526.out⟩, ⟨uB BK537.out⟩, ⟨uB BK542.out⟩, ⟨uB BK548.out⟩, ⟨uH HB.out⟩⟩
  case rest =>
   clear HC11
   try clear c1
   try clear c2
   try clear p2
   try clear c3
   try clear c3b0
   try clear c4
   try clear c5
   try clear c8
   try clear c14
   try clear c16
   try clear c19
   try clear c20
   try clear c26
   try clear c27
   try clear c29
   try clear c30
   try clear c32
   try clear c33
   try clear c34
   try clear c38
   try clear c39
   try clear c40
   try clear c41
   try clear c43
   try clear c44
   try clear c47
   try clear c48
   try clear c49
   try clear c51
   try clear c52
   try clear hcz13_0
   try clear hcz13_1
   try clear hcz15_0
   try clear hcz15_1
   try clear hcz21_0
   try clear hcz21_1
   try clear hcz23_0
   try clear hcz23_1
   try clear hcz28_0
   try clear hcz28_1
   try clear hcz35_0
   try clear hcz35_1
   try clear hcz42_0
   try clear hcz42_1
   try clear hcz45_0
   try clear hcz45_1
   try clear hcz50_0
   try clear hcz50_1
   try clear hcz53_0
   try clear hcz53_1
   try clear hcz5_0
   try clear hcz5_1
   try clear hfz13_0
   try clear hfz13_1
   try clear hfz15_0
   try clear hfz15_1
   try clear hfz21_0
   try clear hfz21_1
   try clear hfz23_0
   try clear hfz23_1
   try clear hfz28_0
   try clear hfz28_1
   try clear hfz35_0
   try clear hfz35_1
   try clear hfz42_0
   try clear hfz42_1
   try clear hfz45_0
   try clear hfz45_1
   try clear hfz50_0
   try clear hfz50_1
   try clear hfz53_0
   try clear hfz53_1
   try clear hfz5_0
   try clear hfz5_1
   obtain ⟨kq, x40_10, rfl, HA, HJ10, HO_538001, HO_543001, HO_549001, BK526, BK537, BK542, BK548, HB⟩ := hcut
   cases kq with
   | zero => exact absurd HA.out (by simp [laws_FnExactShiftMoments.j0])
   | succ kj10 =>
    have H := HA.out
    clear HA
    simp only [laws_FnExactShiftMoments.j0] at H
    by_cases c55 : x40_10 = true
    ·subst c55
     have H1 : (some false) = some r := by rw [if_pos rfl] at H; exact H
     clear H
     have H := H1
     clear H1
     rw [HRT.out] at H
     exact absurd H (by simp)
    ·replace c55 := Bool.eq_false_iff.mpr c55
     subst c55
     have H1 : ((laws_toMoments.f kj10 a0_0 l0_1).bind fun bt550 => ((laws_eqMoments.f kj10 t538 t539 bt550.1 bt550.2).bind fun t554 => (if t554 = true then ((laws_markMoments.f kj10 t538 t539 1).bind fun bt555 => (if bt555.1 < 0 then (laws_FnExactShiftMoments.j1 kj10 t536 true a0_0 l0_1 t532 t533 t543 t544) else ((laws_eqMoments.f kj10 t543 t544 t532 t533).bind fun t557 => (if t557 = true then (laws_FnExactShiftMoments.j1 kj10 t536 (t547 != t536) a0_0 l0_1 t532 t533 t543 t544) else (laws_FnExactShiftMoments.j1 kj10 t536 true a0_0 l0_1 t532 t533 t543 t544))))) else (some false)))) = some r := by rw [if_neg (show ¬ (false = true) by decide)] at H; exact H
     clear H
     have H := H1
     clear H1
     replace H := Option.bind_eq_some_iff.mp H
     obtain ⟨⟨t550, t551⟩, A560, H⟩ := H
     replace H : ((laws_eqMoments.f kj10 t538 t539 t550 t551).bind fun t554 => (if t554 = true then ((laws_markMoments.f kj10 t538 t539 1).bind fun bt555 => (if bt555.1 < 0 then (laws_FnExactShiftMoments.j1 kj10 t536 true a0_0 l0_1 t532 t533 t543 t544) else ((laws_eqMoments.f kj10 t543 t544 t532 t533).bind fun t557 => (if t557 = true then (laws_FnExactShiftMoments.j1 kj10 t536 (t547 != t536) a0_0 l0_1 t532 t533 t543 t544) else (laws_FnExactShiftMoments.j1 kj10 t536 true a0_0 l0_1 t532 t533 t543 t544))))) else (some false))) = some r := H
     have A56 := zA A560
     clear A560
     replace H := Option.bind_eq_some_iff.mp H
     obtain ⟨t554, A570, H⟩ := H
     replace H : (if t554 = true then ((laws_markMoments.f kj10 t538 t539 1).bind fun bt555 => (if bt555.1 < 0 then (laws_FnExactShiftMoments.j1 kj10 t536 true a0_0 l0_1 t532 t533 t543 t544) else ((laws_eqMoments.f kj10 t543 t544 t532 t533).bind fun t557 => (if t557 = true then (laws_FnExactShiftMoments.j1 kj10 t536 (t547 != t536) a0_0 l0_1 t532 t533 t543 t544) else (laws_FnExactShiftMoments.j1 kj10 t536 true a0_0 l0_1 t532 t533 t543 t544))))) else (some false)) = some r := H
     have A57 := zA A570
     clear A570
     by_cases c58 : t554 = true
     ·subst c58
      have H1 : ((laws_markMoments.f kj10 t538 t539 1).bind fun bt555 => (if bt555.1 < 0 then (laws_FnExactShiftMoments.j1 kj10 t536 true a0_0 l0_1 t532 t533 t543 t544) else ((laws_eqMoments.f kj10 t543 t544 t532 t533).bind fun t557 => (if t557 = true then (laws_FnExactShiftMoments.j1 kj10 t536 (t547 != t536) a0_0 l0_1 t532 t533 t543 t544) else (laws_FnExactShiftMoments.j1 kj10 t536 true a0_0 l0_1 t532 t533 t543 t544))))) = some r := by rw [if_pos rfl] at H; exact H
      clear H
      have H := H1
      clear H1
      replace H := Option.bind_eq_some_iff.mp H
      obtain ⟨⟨t555, t556⟩, A590, H⟩ := H
      replace H : (if t555 < 0 then (laws_FnExactShiftMoments.j1 kj10 t536 true a0_0 l0_1 t532 t533 t543 t544) else ((laws_eqMoments.f kj10 t543 t544 t532 t533).bind fun t557 => (if t557 = true then (laws_FnExactShiftMoments.j1 kj10 t536 (t547 != t536) a0_0 l0_1 t532 t533 t543 t544) else (laws_FnExactShiftMoments.j1 kj10 t536 true a0_0 l0_1 t532 t533 t543 t544)))) = some r := H
      have A59 := zA A590
      clear A590
      have HC60 := zA H
      clear H
      try go_wp2
      have n0_ := zA (Kd.R_drew HO_538001.out)
      have n1_ := zA (Kd.R_drew HO_543001.out)
      have n2_ := zA (Kd.R_drew HO_549001.out)
      have n3_ := zA (blk_drew BK526.out)
      have n4_ := zA (blk_drew BK537.out)
      have n5_ := zA (blk_drew BK542.out)
      have n6_ := zA (blk_drew BK548.out)
      have n7_ := zA (below_drew1 HB.out)
      clear HO_538001 HO_543001 HO_549001 BK526 BK537 BK542 BK548 HB
      have HO_538001 := n0_; have HO_543001 := n1_; have HO_549001 := n2_; have BK526 := n3_; have BK537 := n4_; have BK542 := n5_; have BK548 := n6_; have HB := n7_
      clear n0_ n1_ n2_ n3_ n4_ n5_ n6_ n7_
      refine start_ (n := 5) (S := fun w' => w'.cell? ⟨gb542, 0, none⟩ = some (.int .i64 t538) ∧ w'.cell? ⟨gb542, 1, none⟩ = some (.slice Ao29 t539.length co29) ∧ w'.cell? ⟨gb526, 0, none⟩ = some (.int .i64 a0_0) ∧ w'.cell? ⟨gb526, 1, none⟩ = some (.slice A0_1 l0_1.length c0_1)) (ds := []) #[false, false, false, false, false] (by kernel_rfl) rfl rfl ⟨(blk_cell BK542.out 0).trans rfl, (blk_cell BK542.out 1).trans rfl, (blk_cell BK526.out 0).trans rfl, (blk_cell BK526.out 1).trans rfl⟩ (fun hHeld => ?_)
      generalize wc.drew = w61 at HO_538001 HO_543001 HO_549001 BK526 BK537 BK542 BK548 HB hHeld ⊢
      refine take_ (i := 0) (N := some 41) (v := ?_) (a' := ?_) #[true, false, false, false, false] rfl rfl (by kernel_rfl) (fun _ _ _ h => h) (Or.inl ⟨by rfl, ?_⟩) hHeld ?_ ?_
      rotate_left
      ·rintro w' ⟨s0, s1, s2, s3⟩
       go_simp
       with_reducible rfl
      rotate_left
      ·simp only [Act.put, List.setIfInBounds_toArray, List.set_cons_zero, List.set_cons_succ, i64_w, i32_w]
       rfl
      refine take_ (i := 1) (N := some 42) (v := ?_) (a' := ?_) #[true, true, false, false, false] rfl rfl (by kernel_rfl) (fun _ _ _ h => h) (Or.inl ⟨by rfl, ?_⟩) hHeld ?_ ?_
      rotate_left
      ·rintro w' ⟨s0, s1, s2, s3⟩
       go_simp
       with_reducible rfl
      rotate_left
      ·simp only [Act.put, List.setIfInBounds_toArray, List.set_cons_zero, List.set_cons_succ, i64_w, i32_w]
       rfl
      refine one_ (i := 2) (N := some 43) #[true, true, true, false, false] rfl rfl (by kernel_rfl) (by decide) (fun K hK => ?_)
      refine goes_ Try.func16 (by kernel_rfl) rfl #[.agg #[.int .i64 a0_0, .slice A0_1 l0_1.length c0_1]] (by rfl) rfl rfl (by (try simp only [List.map_toArray, List.map_cons, List.map_nil]); first | done | rfl | (simp only [List.length_drop, List.length_take]; rfl)) ?_
      with_reducible refine (laws_toMoments.calls kj10 a0_0 _ _ l0_1 t550 t551 _ ?side1 ?side2 A56.out).mono ?_
      (case side1 => exact uC ((Kd.C_below HR0_1.out HB.out)))
      (case side2 => exact HC0_1.out)
      rintro e w62 ⟨v552, rfl, ho0, hb⟩
      refine ⟨_, rfl, ?_⟩
      have n0_ := zA (Kd.R_elder' (uR HO_538001.out) (Kd.R_base ho0) hb)
      have n1_ := zA (Kd.R_elder' (uR HO_543001.out) (Kd.R_base ho0) hb)
      have n2_ := zA (Kd.R_elder' (uR HO_549001.out) (Kd.R_base ho0) hb)
      have n3_ := zA (Kd.R_lower (Kd.R_new' (Kd.R_new' (Kd.R_new' ho0 (Kd.R_lt (uR HO_538001.out))) (Kd.R_lt (uR HO_543001.out))) (Kd.R_lt (uR HO_549001.out))) (below_size (uH HB.out)))
      have n4_ := xB BK526 hb
      have n5_ := xB BK537 hb
      have n6_ := xB BK542 hb
      have n7_ := xB BK548 hb
      have n8_ := xH HB hb
      clear HO_538001 HO_543001 HO_549001 BK526 BK537 BK542 BK548 HB
      have HO_538001 := n0_; have HO_543001 := n1_; have HO_549001 := n2_; have HO553 := n3_; have BK526 := n4_; have BK537 := n5_; have BK542 := n6_; have BK548 := n7_; have HB := n8_
      clear n0_ n1_ n2_ n3_ n4_ n5_ n6_ n7_ n8_
      (try clear hb); (try clear hb2); (try clear hk); (try clear hi); (try clear ho0)
      obtain ⟨Ao63, co63, eo63⟩ := Kd.R_slice HO553.out
      (first | subst eo63 | (injection eo63 with f1_ f2_ f3_; have f4_ := f1_.symm; have f5_ := f3_.symm; clear f1_ f2_ f3_; subst f4_; subst f5_))
      refine hK.out _ _ ⟨(blk_cell BK542.out 0).trans rfl, (blk_cell BK542.out 1).trans rfl, (blk_cell BK526.out 0).trans rfl, (blk_cell BK526.out 1).trans rfl⟩ (fun hHeld => ?_)
      clear hK K
      refine norm_ (a' := ?_) ?_ ?_
      rotate_left
      ·show Act.put _ (some 43) _ = _
       simp only [Act.put, List.setIfInBounds_toArray, List.set_cons_zero, List.set_cons_succ, i64_w, i32_w]
       rfl
      refine one_ (i := 3) (N := some 44) #[true, true, true, true, false] rfl rfl (by kernel_rfl) (by decide) (fun K hK => ?_)
      refine goes_ Try.func19 (by kernel_rfl) rfl #[.agg #[.int .i64 t538, .slice Ao29 t539.length co29], .agg #[.int .i64 t550, .slice Ao63 t551.length co63]] (by rfl) rfl rfl (by (try simp only [List.map_toArray, List.map_cons, List.map_nil]); first | done | rfl | (simp only [List.length_drop, List.length_take]; rfl)) ?_
      with_reducible refine (laws_eqMoments.calls kj10 t538 _ _ t539 t550 _ _ t551 true _ ?side1 ?side2 ?side3 ?side4 A57.out).mono ?_
      (case side1 => exact uC ((Kd.R_reads' HO_543001.out).2.2))
      (case side2 => exact (Kd.R_reads' HO_543001.out).2.1)
      (case side3 => exact uC ((Kd.R_reads' HO553.out).2.2))
      (case side4 => exact (Kd.R_reads' HO553.out).2.1)
      rintro e w64 ⟨rfl, hb⟩
      refine ⟨_, rfl, ?_⟩
      have n0_ := xR HO_538001 hb
      have n1_ := xR HO_543001 hb
      have n2_ := xR HO_549001 hb
      have n3_ := xR HO553 hb
      have n4_ := xB BK526 hb
      have n5_ := xB BK537 hb
      have n6_ := xB BK542 hb
      have n7_ := xB BK548 hb
      have n8_ := xH HB hb
      clear HO_538001 HO_543001 HO_549001 HO553 BK526 BK537 BK542 BK548 HB
      have HO_538001 := n0_; have HO_543001 := n1_; have HO_549001 := n2_; have HO553 := n3_; have BK526 := n4_; have BK537 := n5_; have BK542 := n6_; have BK548 := n7_; have HB := n8_
      clear n0_ n1_ n2_ n3_ n4_ n5_ n6_ n7_ n8_
      (try clear hb); (try clear hb2); (try clear hk); (try clear hi)
      refine hK.out _ _ ⟨(blk_cell BK542.out 0).trans rfl, (blk_cell BK542.out 1).trans rfl, (blk_cell BK526.out 0).trans rfl, (blk_cell BK526.out 1).trans rfl⟩ (fun hHeld => ?_)
      clear hK K
      refine norm_ (a' := ?_) ?_ ?_
      rotate_left
      ·show Act.put _ (some 44) _ = _
       simp only [Act.put, List.setIfInBounds_toArray, List.set_cons_zero, List.set_cons_succ, i64_w, i32_w]
       rfl
      refine pure_ (i := 4) (N := some 45) (v := ?_) (a' := ?_) #[true, true, true, true, true] rfl rfl (by kernel_rfl) (fun _ _ _ h => h) (Or.inl ⟨by rfl, ?_⟩) ?_ ?_
      rotate_left
      ·intro w'
       go_simp
       with_reducible rfl
      rotate_left
      ·simp only [Act.put, List.setIfInBounds_toArray, List.set_cons_zero, List.set_cons_succ, i64_w, i32_w]
       rfl
      refine done_ (by kernel_rfl) ?_
      have hnb65 := NB542_526.out; have hnc65 := NB526_542.out; have hnb66 := NB542_537.out; have hnc66 := NB537_542.out; have hnb67 := NB542_548.out; have hnc67 := NB548_542.out
      have hcz68_0 : w64.cell? ⟨gb542, 0, none⟩ = some (.int .i64 t538) := (blk_cell BK542.out 0).trans rfl
      have hcz68_1 : w64.cell? ⟨gb542, 1, none⟩ = some (.slice Ao29 t539.length co29) := (blk_cell BK542.out 1).trans rfl
      have hfz68_0 := blk_frozen BK542.out 0
      have hfz68_1 := blk_frozen BK542.out 1
      go_upto_region 14 with (first | ((with_reducible refine gate_callee (f := 23) rfl ?_); refine goesL_ (some 48) rfl rfl Try.func23 (by kernel_rfl) rfl #[.agg #[.int .i64 t538, .slice Ao29 t539.length co29], .int .i64 1] rfl (by (try simp only [List.map_toArray, List.map_cons, List.map_nil]); first | done | rfl | (simp only [List.length_drop, List.length_take]; rfl)) ?_; (with_reducible refine (laws_markMoments.calls kj10 t538 (fun k_ => some k_ = (.slice Ao29 t539.length co29 : Value).ownBlock) (.slice Ao29 t539.length co29) t539 1 t555 t556 w _ ?side1 ?side2 A59.out).mono ?_); (case side1 => repeat (first | (with_reducible first | exact HB.out | apply below_alloc | apply pw_below_drewN | apply below_drew1 | refine below_set ?_ GE526.out | refine below_set ?_ GE537.out | refine below_set ?_ GE542.out | refine below_set ?_ GE548.out) | exact HB.out)); (case side2 => exact Kd.R_tight rfl HO_543001.out); rintro e w69 ⟨rfl, hy0, hb, hkp⟩; refine ⟨_, rfl, ?_⟩; have n0_ := zA (Kd.R_mono (ok' := fun k_ => some k_ ≠ (.slice Ao29 t539.length co29 : Value).ownBlock ∧ some k_ ≠ (.slice Ao36 t544.length co36 : Value).ownBlock ∧ some k_ ≠ (.slice Ao63 t551.length co63 : Value).ownBlock) (Kd.R_keptB (HO_538001.out) hkp (fun k_ hk_ hs_ => (hk_.1.1) hs_)) (fun k_ hk_ => ⟨hk_.1.1.1, hk_.1.1.2, hk_.1.2⟩)); have n1_ := zA (Kd.R_reok rfl hy0 (fun k_ e_ => HO_543001.out.1 k_ e_)); have n2_ := zA (Kd.R_mono (ok' := fun k_ => some k_ ≠ (.slice Ao22 t533.length co22 : Value).ownBlock ∧ some k_ ≠ (.slice Ao29 t539.length co29 : Value).ownBlock ∧ some k_ ≠ (.slice Ao63 t551.length co63 : Value).ownBlock) (Kd.R_keptB (HO_549001.out) hkp (fun k_ hk_ hs_ => (hk_.1.2) hs_)) (fun k_ hk_ => ⟨hk_.1.1.1, hk_.1.1.2, hk_.1.2⟩)); have n3_ := zA (blk_kept (uB BK526.out) hkp (fun hs_ => (fun e_ => (Kd.R_ne HO_543001.out BK526.out (by decide)) e_) hs_)); have n4_ := zA (blk_kept (uB BK537.out) hkp (fun hs_ => (fun e_ => (Kd.R_ne HO_543001.out BK537.out (by decide)) e_) hs_)); have n5_ := zA (blk_kept (uB BK542.out) hkp (fun hs_ => (fun e_ => (Kd.R_ne HO_543001.out BK542.out (by decide)) e_) hs_)); have n6_ := zA (blk_kept (uB BK548.out) hkp (fun hs_ => (fun e_ => (Kd.R_ne HO_543001.out BK548.out (by decide)) e_) hs_)); have n7_ := zA (Kd.R_mono (ok' := fun k_ => some k_ ≠ (.slice Ao22 t533.length co22 : Value).ownBlock ∧ some k_ ≠ (.slice Ao29 t539.length co29 : Value).ownBlock ∧ some k_ ≠ (.slice Ao36 t544.length co36 : Value).ownBlock) (Kd.R_keptB (HO553.out) hkp (fun k_ hk_ hs_ => (hk_.1.2) hs_)) (fun k_ hk_ => ⟨hk_.1.1.1.2, hk_.1.1.2, hk_.1.2⟩)); have n8_ := zA (hb); clear HO_538001 HO_543001 HO_549001 BK526 BK537 BK542 BK548 HO553 HB; have HO_538001 := n0_; have HO_543001 := n1_; have HO_549001 := n2_; have BK526 := n3_; have BK537 := n4_; have BK542 := n5_; have BK548 := n6_; have HO553 := n7_; have HB := n8_; clear n0_ n1_ n2_ n3_ n4_ n5_ n6_ n7_ n8_; (try clear hb); (try clear hkp); (try clear hy0)))
      (try simp only [Act.put, List.setIfInBounds_toArray, List.set_cons_zero, List.set_cons_succ])
      go_cut [61] (fun v61 wc => ∃ (kq : Nat) (x61_59 : Bool), v61 = .bool x61_59 ∧ Aside0 (laws_FnExactShiftMoments.j1 kq t536 x61_59 a0_0 l0_1 t532 t533 t543 t544 = some r) ∧ Aside0 (kq ≤ kj10) ∧ Aside0 (Kd.R (Kd.int .i64) 2 wc w.heap.size (fun k_ => some k_ ≠ ((.slice Ao29 t539.length co29) : Value).ownBlock ∧ some k_ ≠ ((.slice Ao36 t544.length co36) : Value).ownBlock) (.slice Ao22 t533.length co22) t533) ∧ Aside0 (Kd.R (Kd.int .i64) 2 wc w.heap.size (fun k_ => some k_ ≠ ((.slice Ao22 t533.length co22) : Value).ownBlock ∧ some k_ ≠ ((.slice Ao36 t544.length co36) : Value).ownBlock) (.slice Ao29 t539.length co29) t556) ∧ Aside0 (Kd.R (Kd.int .i64) 2 wc w.heap.size (fun k_ => some k_ ≠ ((.slice Ao22 t533.length co22) : Value).ownBlock ∧ some k_ ≠ ((.slice Ao29 t539.length co29) : Value).ownBlock) (.slice Ao36 t544.length co36) t544) ∧ Aside0 (wc.heap[gb526]? = some (.cells #[.int .i64 a0_0, (.slice A0_1 l0_1.length c0_1)] 32 (0, 0))) ∧ Aside0 (wc.heap[gb537]? = some (.cells #[.int .i64 t532, (.slice Ao22 t533.length co22)] 36 (0, 0))) ∧ Aside0 (wc.heap[gb542]? = some (.cells #[.int .i64 t538, (.slice Ao29 t539.length co29)] 36 (0, 0))) ∧ Aside0 (wc.heap[gb548]? = some (.cells #[.int .i64 t543, (.slice Ao36 t544.length co36)] 36 (0, 0))) ∧ Aside0 (Below w.heap.size w wc))
      case first =>
       have H := HC60.out
       clear HC60
       by_cases c70 : t555 < 0
       ·rw [if_pos c70] at H
        have c70b0 : decide (t555 < 0) = true := decide_eq_true c70
        clear c70
        (first | rw [c70b0] | (simp only [i64_w, i32_w]; rw [c70b0]) | skip)
        have H' := zA H
        clear H
        go_wp2
        go_meet
        case rel => exact ⟨_, (true), (by first | rfl | (simp; done) | (simp [*]; done)), H', ⟨by have := HJ10.out; first | omega | exact Nat.le_refl _⟩, ⟨uR (Kd.R_mono HO_538001.out (fun _ hk => ⟨hk.1, hk.2.1⟩))⟩, ⟨uR (Kd.R_mono HO_543001.out (fun _ hk => ⟨hk.1.1, hk.1.2⟩))⟩, ⟨uR (Kd.R_mono HO_549001.out (fun _ hk => ⟨hk.1, hk.2.1⟩))⟩, ⟨uB BK526.out⟩, ⟨uB BK537.out⟩, ⟨uB BK542.out⟩, ⟨uB BK548.out⟩, ⟨uH HB.out⟩⟩
       ·rw [if_neg c70] at H
        have c70b0 : decide (t555 < 0) = false := decide_eq_false c70
        clear c70
        (first | rw [c70b0] | (simp only [i64_w, i32_w]; rw [c70b0]) | skip)
        replace H := Option.bind_eq_some_iff.mp H
        obtain ⟨t557, A710, H⟩ := H
        replace H : (if t557 = true then (laws_FnExactShiftMoments.j1 kj10 t536 (t547 != t536) a0_0 l0_1 t532 t533 t543 t544) else (laws_FnExactShiftMoments.j1 kj10 t536 true a0_0 l0_1 t532 t533 t543 t544)) = some r := H
        have A71 := zA A710
        clear A710
        by_cases c72 : t557 = true
        ·subst c72
         have H1 : (laws_FnExactShiftMoments.j1 kj10 t536 (t547 != t536) a0_0 l0_1 t532 t533 t543 t544) = some r := by rw [if_pos rfl] at H; exact H
         clear H
         have H := H1
         clear H1
         have H' := zA H
         clear H
         have hnb73 := NB548_526.out; have hnc73 := NB526_548.out; have hnb74 := NB548_537.out; have hnc74 := NB537_548.out; have hnb75 := NB548_542.out; have hnc75 := NB542_548.out
         have hcz76_0 : w69.cell? ⟨gb548, 0, none⟩ = some (.int .i64 t543) := (blk_cell BK548.out 0).trans rfl
         have hcz76_1 : w69.cell? ⟨gb548, 1, none⟩ = some (.slice Ao36 t544.length co36) := (blk_cell BK548.out 1).trans rfl
         have hfz76_0 := blk_frozen BK548.out 0
         have hfz76_1 := blk_frozen BK548.out 1
         have hnb77 := NB537_526.out; have hnc77 := NB526_537.out; have hnb78 := NB537_542.out; have hnc78 := NB542_537.out
         have hcz79_0 : w69.cell? ⟨gb537, 0, none⟩ = some (.int .i64 t532) := (blk_cell BK537.out 0).trans rfl
         have hcz79_1 : w69.cell? ⟨gb537, 1, none⟩ = some (.slice Ao22 t533.length co22) := (blk_cell BK537.out 1).trans rfl
         have hfz79_0 := blk_frozen BK537.out 0
         have hfz79_1 := blk_frozen BK537.out 1
         go_wp2_with (first | (go_at_call 19; (with_reducible refine (laws_eqMoments.calls kj10 t543 _ _ t544 t532 _ _ t533 true _ ?side1 ?side2 ?side3 ?side4 A71.out).mono ?_); (case side1 => exact uC ((Kd.R_reads' HO_549001.out).2.2)); (case side2 => exact (Kd.R_reads' HO_549001.out).2.1); (case side3 => exact uC ((Kd.R_reads' HO_538001.out).2.2)); (case side4 => exact (Kd.R_reads' HO_538001.out).2.1); rintro e w80 ⟨rfl, hb⟩; have n0_ := xR HO_538001 hb; have n1_ := xR HO_543001 hb; have n2_ := xR HO_549001 hb; have n3_ := xR HO553 hb; have n4_ := xB BK526 hb; have n5_ := xB BK537 hb; have n6_ := xB BK542 hb; have n7_ := xB BK548 hb; have n8_ := xH HB hb; clear HO_538001 HO_543001 HO_549001 HO553 BK526 BK537 BK542 BK548 HB; have HO_538001 := n0_; have HO_543001 := n1_; have HO_549001 := n2_; have HO553 := n3_; have BK526 := n4_; have BK537 := n5_; have BK542 := n6_; have BK548 := n7_; have HB := n8_; clear n0_ n1_ n2_ n3_ n4_ n5_ n6_ n7_ n8_; (try clear hb); (try clear hb2); (try clear hk); (try clear hi)))
         go_meet
         case rel => exact ⟨_, ((t547 != t536)), (by first | rfl | (simp; done) | (simp [*]; done)), H', ⟨by have := HJ10.out; first | omega | exact Nat.le_refl _⟩, ⟨uR (Kd.R_mono HO_538001.out (fun _ hk => ⟨hk.1, hk.2.1⟩))⟩, ⟨uR (Kd.R_mono HO_543001.out (fun _ hk => ⟨hk.1.1, hk.1.2⟩))⟩, ⟨uR (Kd.R_mono HO_549001.out (fun _ hk => ⟨hk.1, hk.2.1⟩))⟩, ⟨uB BK526.out⟩, ⟨uB BK537.out⟩, ⟨uB BK542.out⟩, ⟨uB BK548.out⟩, ⟨uH HB.out⟩⟩
        ·replace c72 := Bool.eq_false_iff.mpr c72
         subst c72
         have H1 : (laws_FnExactShiftMoments.j1 kj10 t536 true a0_0 l0_1 t532 t533 t543 t544) = some r := by rw [if_neg (show ¬ (false = true) by decide)] at H; exact H
         clear H
         have H := H1
         clear H1
         have H' := zA H
         clear H
         have hnb81 := NB548_526.out; have hnc81 := NB526_548.out; have hnb82 := NB548_537.out; have hnc82 := NB537_548.out; have hnb83 := NB548_542.out; have hnc83 := NB542_548.out
         have hcz84_0 : w69.cell? ⟨gb548, 0, none⟩ = some (.int .i64 t543) := (blk_cell BK548.out 0).trans rfl
         have hcz84_1 : w69.cell? ⟨gb548, 1, none⟩ = some (.slice Ao36 t544.length co36) := (blk_cell BK548.out 1).trans rfl
         have hfz84_0 := blk_frozen BK548.out 0
         have hfz84_1 := blk_frozen BK548.out 1
         have hnb85 := NB537_526.out; have hnc85 := NB526_537.out; have hnb86 := NB537_542.out; have hnc86 := NB542_537.out
         have hcz87_0 : w69.cell? ⟨gb537, 0, none⟩ = some (.int .i64 t532) := (blk_cell BK537.out 0).trans rfl
         have hcz87_1 : w69.cell? ⟨gb537, 1, none⟩ = some (.slice Ao22 t533.length co22) := (blk_cell BK537.out 1).trans rfl
         have hfz87_0 := blk_frozen BK537.out 0
         have hfz87_1 := blk_frozen BK537.out 1
         go_wp2_with (first | (go_at_call 19; (with_reducible refine (laws_eqMoments.calls kj10 t543 _ _ t544 t532 _ _ t533 false _ ?side1 ?side2 ?side3 ?side4 A71.out).mono ?_); (case side1 => exact uC ((Kd.R_reads' HO_549001.out).2.2)); (case side2 => exact (Kd.R_reads' HO_549001.out).2.1); (case side3 => exact uC ((Kd.R_reads' HO_538001.out).2.2)); (case side4 => exact (Kd.R_reads' HO_538001.out).2.1); rintro e w88 ⟨rfl, hb⟩; have n0_ := xR HO_538001 hb; have n1_ := xR HO_543001 hb; have n2_ := xR HO_549001 hb; have n3_ := xR HO553 hb; have n4_ := xB BK526 hb; have n5_ := xB BK537 hb; have n6_ := xB BK542 hb; have n7_ := xB BK548 hb; have n8_ := xH HB hb; clear HO_538001 HO_543001 HO_549001 HO553 BK526 BK537 BK542 BK548 HB; have HO_538001 := n0_; have HO_543001 := n1_; have HO_549001 := n2_; have HO553 := n3_; have BK526 := n4_; have BK537 := n5_; have BK542 := n6_; have BK548 := n7_; have HB := n8_; clear n0_ n1_ n2_ n3_ n4_ n5_ n6_ n7_ n8_; (try clear hb); (try clear hb2); (try clear hk); (try clear hi)))
         go_meet
         case rel => exact ⟨_, (true), (by first | rfl | (simp; done) | (simp [*]; done)), H', ⟨by have := HJ10.out; first | omega | exact Nat.le_refl _⟩, ⟨uR (Kd.R_mono HO_538001.out (fun _ hk => ⟨hk.1, hk.2.1⟩))⟩, ⟨uR (Kd.R_mono HO_543001.out (fun _ hk => ⟨hk.1.1, hk.1.2⟩))⟩, ⟨uR (Kd.R_mono HO_549001.out (fun _ hk => ⟨hk.1, hk.2.1⟩))⟩, ⟨uB BK526.out⟩, ⟨uB BK537.out⟩, ⟨uB BK542.out⟩, ⟨uB BK548.out⟩, ⟨uH HB.out⟩⟩
      case rest =>
       clear HC60
       try clear c1
       try clear c2
       try clear p2
       try clear c3
       try clear c3b0
       try clear c4
       try clear c5
       try clear c6
       try clear c7
       try clear c8
       try clear c14
       try clear c16
       try clear c19
       try clear c20
       try clear c23
       try clear c26
       try clear c27
       try clear c29
       try clear c30
       try clear c32
       try clear c33
       try clear c34
       try clear c38
       try clear c39
       try clear c40
       try clear c41
       try clear c43
       try clear c44
       try clear c47
       try clear c48
       try clear c49
       try clear c51
       try clear c52
       try clear c55
       try clear c58
       try clear c65
       try clear c66
       try clear c67
       try clear c70
       try clear c70b0
       try clear c72
       try clear c73
       try clear c74
       try clear c75
       try clear c77
       try clear c78
       try clear c81
       try clear c82
       try clear c83
       try clear c85
       try clear c86
       try clear hcz13_0
       try clear hcz13_1
       try clear hcz15_0
       try clear hcz15_1
       try clear hcz21_0
       try clear hcz21_1
       try clear hcz23_0
       try clear hcz23_1
       try clear hcz28_0
       try clear hcz28_1
       try clear hcz35_0
       try clear hcz35_1
       try clear hcz42_0
       try clear hcz42_1
       try clear hcz45_0
       try clear hcz45_1
       try clear hcz50_0
       try clear hcz50_1
       try clear hcz53_0
       try clear hcz53_1
       try clear hcz5_0
       try clear hcz5_1
       try clear hcz68_0
       try clear hcz68_1
       try clear hcz76_0
       try clear hcz76_1
       try clear hcz79_0
       try clear hcz79_1
       try clear hcz84_0
       try clear hcz84_1
       try clear hcz87_0
       try clear hcz87_1
       try clear hfz13_0
       try clear hfz13_1
       try clear hfz15_0
       try clear hfz15_1
       try clear hfz21_0
       try clear hfz21_1
       try clear hfz23_0
       try clear hfz23_1
       try clear hfz28_0
       try clear hfz28_1
       try clear hfz35_0
       try clear hfz35_1
       try clear hfz42_0
       try clear hfz42_1
       try clear hfz45_0
       try clear hfz45_1
       try clear hfz50_0
       try clear hfz50_1
       try clear hfz53_0
       try clear hfz53_1
       try clear hfz5_0
       try clear hfz5_1
       try clear hfz68_0
       try clear hfz68_1
       try clear hfz76_0
       try clear hfz76_1
       try clear hfz79_0
       try clear hfz79_1
       try clear hfz84_0
       try clear hfz84_1
       try clear hfz87_0
       try clear hfz87_1
       try clear p2
       obtain ⟨kq, x61_59, rfl, HA, HJ59, HO_538001, HO_543001, HO_549001, BK526, BK537, BK542, BK548, HB⟩ := hcut
       have hl543001_59 := (Kd.R_reads' HO_543001.out).1
       rw [hl543001_59] at HO_543001
       (try simp only [hl543001_59])
       (try simp only [hl543001_59] at BK526)
       (try simp only [hl543001_59] at BK537)
       (try simp only [hl543001_59] at BK542)
       (try simp only [hl543001_59] at BK548)
       (try simp only [hl543001_59] at HO_538001)
       (try simp only [hl543001_59] at HO_549001)
       cases kq with
       | zero => exact absurd HA.out (by simp [laws_FnExactShiftMoments.j1])
       | succ kj59 =>
        have H := HA.out
        clear HA
        simp only [laws_FnExactShiftMoments.j1] at H
        by_cases c89 : x61_59 = true
        ·subst c89
         have H1 : (some false) = some r := by rw [if_pos rfl] at H; exact H
         clear H
         have H := H1
         clear H1
         rw [HRT.out] at H
         exact absurd H (by simp)
        ·replace c89 := Bool.eq_false_iff.mpr c89
         subst c89
         have H1 : ((laws_markMoments.f kj59 t543 t544 1).bind fun bt558 => ((laws_heldMoments.f kj59 t543 bt558.2 1).bind fun t560 => (if t560 < 0 then (some false) else (if t560 = bt558.1 then ((laws_toMoments.f kj59 a0_0 l0_1).bind fun bt561 => ((impl_ShiftMoments.f kj59 bt561.1 bt561.2).bind fun bt565 => ((laws_eqMoments.f kj59 bt565.1 bt565.2.1 t532 t533).bind fun t571 => (if t571 = true then (laws_FnExactShiftMoments.j2 kj59 bt558.1 (bt565.2.2 != t536) t543 bt558.2) else (laws_FnExactShiftMoments.j2 kj59 bt558.1 true t543 bt558.2))))) else (some false))))) = some r := by rw [if_neg (show ¬ (false = true) by decide)] at H; exact H
         clear H
         have H := H1
         clear H1
         replace H := Option.bind_eq_some_iff.mp H
         obtain ⟨⟨t558, t559⟩, A900, H⟩ := H
         replace H : ((laws_heldMoments.f kj59 t543 t559 1).bind fun t560 => (if t560 < 0 then (some false) else (if t560 = t558 then ((laws_toMoments.f kj59 a0_0 l0_1).bind fun bt561 => ((impl_ShiftMoments.f kj59 bt561.1 bt561.2).bind fun bt565 => ((laws_eqMoments.f kj59 bt565.1 bt565.2.1 t532 t533).bind fun t571 => (if t571 = true then (laws_FnExactShiftMoments.j2 kj59 t558 (bt565.2.2 != t536) t543 t559) else (laws_FnExactShiftMoments.j2 kj59 t558 true t543 t559))))) else (some false)))) = some r := H
         have A90 := zA A900
         clear A900
         replace H := Option.bind_eq_some_iff.mp H
         obtain ⟨t560, A910, H⟩ := H
         replace H : (if t560 < 0 then (some false) else (if t560 = t558 then ((laws_toMoments.f kj59 a0_0 l0_1).bind fun bt561 => ((impl_ShiftMoments.f kj59 bt561.1 bt561.2).bind fun bt565 => ((laws_eqMoments.f kj59 bt565.1 bt565.2.1 t532 t533).bind fun t571 => (if t571 = true then (laws_FnExactShiftMoments.j2 kj59 t558 (bt565.2.2 != t536) t543 t559) else (laws_FnExactShiftMoments.j2 kj59 t558 true t543 t559))))) else (some false))) = some r := H
         have A91 := zA A910
         clear A910
         by_cases c92 : t560 < 0
         ·rw [if_pos c92] at H
          have c92b0 : decide (t560 < 0) = true := decide_eq_true c92
          clear c92
          rw [HRT.out] at H
          exact absurd H (by simp)
         ·rw [if_neg c92] at H
          have c92b0 : decide (t560 < 0) = false := decide_eq_false c92
          clear c92
          by_cases c93 : t560 = t558
          ·rw [if_pos c93] at H
           have c93b0 : (t560 == t558) = true := beq_iff_eq.mpr c93
           have c93b1 : (t560 != t558) = false := bne_eq_false_iff_eq.mpr c93
           clear c93
           replace H := Option.bind_eq_some_iff.mp H
           obtain ⟨⟨t561, t562⟩, A940, H⟩ := H
           replace H : ((impl_ShiftMoments.f kj59 t561 t562).bind fun bt565 => ((laws_eqMoments.f kj59 bt565.1 bt565.2.1 t532 t533).bind fun t571 => (if t571 = true then (laws_FnExactShiftMoments.j2 kj59 t558 (bt565.2.2 != t536) t543 t559) else (laws_FnExactShiftMoments.j2 kj59 t558 true t543 t559)))) = some r := H
           have A94 := zA A940
           clear A940
           replace H := Option.bind_eq_some_iff.mp H
           obtain ⟨⟨t565, t566, t569⟩, A950, H⟩ := H
           replace H : ((laws_eqMoments.f kj59 t565 t566 t532 t533).bind fun t571 => (if t571 = true then (laws_FnExactShiftMoments.j2 kj59 t558 (t569 != t536) t543 t559) else (laws_FnExactShiftMoments.j2 kj59 t558 true t543 t559))) = some r := H
           have A95 := zA A950
           clear A950
           have HC96 := zA H
           clear H
           have hnb97 := NB548_526.out; have hnc97 := NB526_548.out; have hnb98 := NB548_537.out; have hnc98 := NB537_548.out; have hnb99 := NB548_542.out; have hnc99 := NB542_548.out
           have hcz100_0 : wc.cell? ⟨gb548, 0, none⟩ = some (.int .i64 t543) := (blk_cell BK548.out 0).trans rfl
           have hcz100_1 : wc.cell? ⟨gb548, 1, none⟩ = some (.slice Ao36 t544.length co36) := (blk_cell BK548.out 1).trans rfl
           have hfz100_0 := blk_frozen BK548.out 0
           have hfz100_1 := blk_frozen BK548.out 1
           go_upto_region 25 with (first | ((with_reducible refine gate_callee (f := 23) rfl ?_); refine goesL_ (some 64) rfl rfl Try.func23 (by kernel_rfl) rfl #[.agg #[.int .i64 t543, .slice Ao36 t544.length co36], .int .i64 1] rfl (by (try simp only [List.map_toArray, List.map_cons, List.map_nil]); first | done | rfl | (simp only [List.length_drop, List.length_take]; rfl)) ?_; (with_reducible refine (laws_markMoments.calls kj59 t543 (fun k_ => some k_ = (.slice Ao36 t544.length co36 : Value).ownBlock) (.slice Ao36 t544.length co36) t544 1 t558 t559 w _ ?side1 ?side2 A90.out).mono ?_); (case side1 => repeat (first | (with_reducible first | exact HB.out | apply below_alloc | apply pw_below_drewN | apply below_drew1 | refine below_set ?_ GE526.out | refine below_set ?_ GE537.out | refine below_set ?_ GE542.out | refine below_set ?_ GE548.out) | exact HB.out)); (case side2 => exact Kd.R_tight rfl HO_549001.out); rintro e w101 ⟨rfl, hy0, hb, hkp⟩; refine ⟨_, rfl, ?_⟩; have n0_ := zA (Kd.R_mono (ok' := fun k_ => some k_ ≠ (.slice Ao29 t556.length co29 : Value).ownBlock ∧ some k_ ≠ (.slice Ao36 t544.length co36 : Value).ownBlock) (Kd.R_keptB (HO_538001.out) hkp (fun k_ hk_ hs_ => (hk_.2) hs_)) (fun k_ hk_ => ⟨hk_.1.1, hk_.1.2⟩)); have n1_ := zA (Kd.R_mono (ok' := fun k_ => some k_ ≠ (.slice Ao22 t533.length co22 : Value).ownBlock ∧ some k_ ≠ (.slice Ao36 t544.length co36 : Value).ownBlock) (Kd.R_keptB (HO_543001.out) hkp (fun k_ hk_ hs_ => (hk_.2) hs_)) (fun k_ hk_ => ⟨hk_.1.1, hk_.1.2⟩)); have n2_ := zA (Kd.R_reok rfl hy0 (fun k_ e_ => HO_549001.out.1 k_ e_)); have n3_ := zA (blk_kept (uB BK526.out) hkp (fun hs_ => (fun e_ => (Kd.R_ne HO_549001.out BK526.out (by decide)) e_) hs_)); have n4_ := zA (blk_kept (uB BK537.out) hkp (fun hs_ => (fun e_ => (Kd.R_ne HO_549001.out BK537.out (by decide)) e_) hs_)); have n5_ := zA (blk_kept (uB BK542.out) hkp (fun hs_ => (fun e_ => (Kd.R_ne HO_549001.out BK542.out (by decide)) e_) hs_)); have n6_ := zA (blk_kept (uB BK548.out) hkp (fun hs_ => (fun e_ => (Kd.R_ne HO_549001.out BK548.out (by decide)) e_) hs_)); have n7_ := zA (hb); clear HO_538001 HO_543001 HO_549001 BK526 BK537 BK542 BK548 HB; have HO_538001 := n0_; have HO_543001 := n1_; have HO_549001 := n2_; have BK526 := n3_; have BK537 := n4_; have BK542 := n5_; have BK548 := n6_; have HB := n7_; clear n0_ n1_ n2_ n3_ n4_ n5_ n6_ n7_; (try clear hb); (try clear hkp); (try clear hy0); have hcz102_0 : w101.cell? ⟨gb548, 0, none⟩ = some (.int .i64 t543) := (blk_cell BK548.out 0).trans rfl; have hcz102_1 : w101.cell? ⟨gb548, 1, none⟩ = some (.slice Ao36 t544.length co36) := (blk_cell BK548.out 1).trans rfl; have hfz102_0 := blk_frozen BK548.out 0; have hfz102_1 := blk_frozen BK548.out 1) | ((with_reducible refine gate_callee (f := 24) rfl ?_); refine goesL_ (some 67) rfl rfl Try.func24 (by kernel_rfl) rfl #[.agg #[.int .i64 t543, .slice Ao36 t559.length co36], .int .i64 1] rfl (by (try simp only [List.map_toArray, List.map_cons, List.map_nil]); first | done | (rw [show t559.length = t544.length from (Kd.R_reads' HO_549001.out).1.symm] <;> rfl) | rfl | (simp only [List.length_drop, List.length_take]; rfl)) ?_; (with_reducible refine (laws_heldMoments.calls kj59 t543 _ _ t559 1 t560 _ ?side1 ?side2 A91.out).mono ?_); (case side1 => exact uC ((Kd.R_reads' HO_549001.out).2.2)); (case side2 => rw [show t559.length = t544.length from (Kd.R_reads' HO_549001.out).1.symm]; exact (Kd.R_reads' HO_549001.out).2.1); rintro e w103 ⟨rfl, hb⟩; refine ⟨_, rfl, ?_⟩; have n0_ := xR HO_538001 hb; have n1_ := xR HO_543001 hb; have n2_ := xR HO_549001 hb; have n3_ := xB BK526 hb; have n4_ := xB BK537 hb; have n5_ := xB BK542 hb; have n6_ := xB BK548 hb; have n7_ := xH HB hb; clear HO_538001 HO_543001 HO_549001 BK526 BK537 BK542 BK548 HB; have HO_538001 := n0_; have HO_543001 := n1_; have HO_549001 := n2_; have BK526 := n3_; have BK537 := n4_; have BK542 := n5_; have BK548 := n6_; have HB := n7_; clear n0_ n1_ n2_ n3_ n4_ n5_ n6_ n7_; (try clear hb); (try clear hb2); (try clear hk); (try clear hi); have hnb104 := NB526_537.out; have hnc104 := NB537_526.out; have hnb105 := NB526_542.out; have hnc105 := NB542_526.out; have hcz106_0 : w103.cell? ⟨gb526, 0, none⟩ = some (.int .i64 a0_0) := (blk_cell BK526.out 0).trans rfl; have hcz106_1 : w103.cell? ⟨gb526, 1, none⟩ = some (.slice A0_1 l0_1.length c0_1) := (blk_cell BK526.out 1).trans rfl; have hfz106_0 := blk_frozen BK526.out 0; have hfz106_1 := blk_frozen BK526.out 1) | ((with_reducible refine gate_callee (f := 16) rfl ?_); refine goesL_ (some 75) rfl rfl Try.func16 (by kernel_rfl) rfl #[.agg #[.int .i64 a0_0, .slice A0_1 l0_1.length c0_1]] rfl (by (try simp only [List.map_toArray, List.map_cons, List.map_nil]); first | done | rfl | (simp only [List.length_drop, List.length_take]; rfl)) ?_; (with_reducible refine (laws_toMoments.calls kj59 a0_0 _ _ l0_1 t561 t562 _ ?side1 ?side2 A94.out).mono ?_); (case side1 => exact uC ((Kd.C_below HR0_1.out HB.out))); (case side2 => exact HC0_1.out); rintro e w107 ⟨v563, rfl, ho0, hb⟩; refine ⟨_, rfl, ?_⟩; have n0_ := zA (Kd.R_elder' (uR HO_538001.out) (Kd.R_base ho0) hb); have n1_ := zA (Kd.R_elder' (uR HO_543001.out) (Kd.R_base ho0) hb); have n2_ := zA (Kd.R_elder' (uR HO_549001.out) (Kd.R_base ho0) hb); have n3_ := zA (Kd.R_lower (Kd.R_new' (Kd.R_new' (Kd.R_new' ho0 (Kd.R_lt (uR HO_538001.out))) (Kd.R_lt (uR HO_543001.out))) (Kd.R_lt (uR HO_549001.out))) (below_size (uH HB.out))); have n4_ := xB BK526 hb; have n5_ := xB BK537 hb; have n6_ := xB BK542 hb; have n7_ := xB BK548 hb; have n8_ := xH HB hb; clear HO_538001 HO_543001 HO_549001 BK526 BK537 BK542 BK548 HB; have HO_538001 := n0_; have HO_543001 := n1_; have HO_549001 := n2_; have HO564 := n3_; have BK526 := n4_; have BK537 := n5_; have BK542 := n6_; have BK548 := n7_; have HB := n8_; clear n0_ n1_ n2_ n3_ n4_ n5_ n6_ n7_ n8_; (try clear hb); (try clear hb2); (try clear hk); (try clear hi); (try clear ho0); obtain ⟨Ao108, co108, eo108⟩ := Kd.R_slice HO564.out; subst eo108) | ((with_reducible refine gate_callee (f := 30) rfl ?_); refine goesL_ (some 76) rfl rfl Try.func30 (by kernel_rfl) rfl #[.agg #[.int .i64 t561, .slice Ao108 t562.length co108]] rfl (by (try simp only [List.map_toArray, List.map_cons, List.map_nil]); first | done | rfl | (simp only [List.length_drop, List.length_take]; rfl)) ?_; (with_reducible refine (impl_ShiftMoments.calls kj59 t561 _ _ t562 t565 t566 t569 _ ?side1 ?side2 A95.out).mono ?_); (case side1 => exact uC ((Kd.R_reads' HO564.out).2.2)); (case side2 => exact (Kd.R_reads' HO564.out).2.1); rintro e w109 ⟨v567, rfl, ho0, hb⟩; refine ⟨_, rfl, ?_⟩; have n0_ := zA (Kd.R_elder' (uR HO_538001.out) (Kd.R_base ho0) hb); have n1_ := zA (Kd.R_elder' (uR HO_543001.out) (Kd.R_base ho0) hb); have n2_ := zA (Kd.R_elder' (uR HO_549001.out) (Kd.R_base ho0) hb); have n3_ := zA (Kd.R_elder' (uR HO564.out) (Kd.R_base ho0) hb); have n4_ := zA (Kd.R_lower (Kd.R_new' (Kd.R_new' (Kd.R_new' (Kd.R_new' ho0 (Kd.R_lt (uR HO_538001.out))) (Kd.R_lt (uR HO_543001.out))) (Kd.R_lt (uR HO_549001.out))) (Kd.R_lt (uR HO564.out))) (below_size (uH HB.out))); have n5_ := xB BK526 hb; have n6_ := xB BK537 hb; have n7_ := xB BK542 hb; have n8_ := xB BK548 hb; have n9_ := xH HB hb; clear HO_538001 HO_543001 HO_549001 HO564 BK526 BK537 BK542 BK548 HB; have HO_538001 := n0_; have HO_543001 := n1_; have HO_549001 := n2_; have HO564 := n3_; have HO568 := n4_; have BK526 := n5_; have BK537 := n6_; have BK542 := n7_; have BK548 := n8_; have HB := n9_; clear n0_ n1_ n2_ n3_ n4_ n5_ n6_ n7_ n8_ n9_; (try clear hb); (try clear hb2); (try clear hk); (try clear hi); (try clear ho0)) | ((with_reducible refine gate_dst (N := 12) rfl ?_); refine box_event ?hg (N := 12) ?hd (cs := #[.int .i64 0, .slice none 0 0]) (t := 36) ?hr ?_; (case hd => rfl); (case hg => rfl); (case hr => first | (go_simp; done) | (go_simp; rfl)); intro gb570 hg w110 hbox hb; have n0_ := xR HO_538001 hb; have n1_ := xR HO_543001 hb; have n2_ := xR HO_549001 hb; have n3_ := xR HO564 hb; have n4_ := xR HO568 hb; have n5_ := xB BK526 hb; have n6_ := xB BK537 hb; have n7_ := xB BK542 hb; have n8_ := xB BK548 hb; have n9_ := xH HB hb; have n10_ := zA (hbox); have n11_ := zA ((by rw [hg]; exact (below_size (uH HB.out)) : w.heap.size ≤ gb570)); have n12_ := zA ((by rw [hg]; exact (below_size (uH HB.out)) : w.heap.size ≤ gb570)); have n13_ := zA ((by rw [hg]; exact neL BK526 : gb526 ≠ gb570)); have n14_ := zA ((by rw [hg]; exact neG BK526 : gb570 ≠ gb526)); have n15_ := zA ((by rw [hg]; exact neL BK537 : gb537 ≠ gb570)); have n16_ := zA ((by rw [hg]; exact neG BK537 : gb570 ≠ gb537)); have n17_ := zA ((by rw [hg]; exact neL BK542 : gb542 ≠ gb570)); have n18_ := zA ((by rw [hg]; exact neG BK542 : gb570 ≠ gb542)); have n19_ := zA ((by rw [hg]; exact neL BK548 : gb548 ≠ gb570)); have n20_ := zA ((by rw [hg]; exact neG BK548 : gb570 ≠ gb548)); clear HO_538001 HO_543001 HO_549001 HO564 HO568 BK526 BK537 BK542 BK548 HB; have HO_538001 := n0_; have HO_543001 := n1_; have HO_549001 := n2_; have HO564 := n3_; have HO568 := n4_; have BK526 := n5_; have BK537 := n6_; have BK542 := n7_; have BK548 := n8_; have HB := n9_; have BK570 := n10_; have GW570 := n11_; have GE570 := n12_; have := geI GE570; have NB526_570 := n13_; have NB570_526 := n14_; have NB537_570 := n15_; have NB570_537 := n16_; have NB542_570 := n17_; have NB570_542 := n18_; have NB548_570 := n19_; have NB570_548 := n20_; clear n0_ n1_ n2_ n3_ n4_ n5_ n6_ n7_ n8_ n9_ n10_ n11_ n12_ n13_ n14_ n15_ n16_ n17_ n18_ n19_ n20_ hb hbox hg; have hnb111 := NB570_526.out; have hnc111 := NB526_570.out; have hnb112 := NB570_537.out; have hnc112 := NB537_570.out; have hnb113 := NB570_542.out; have hnc113 := NB542_570.out; have hnb114 := NB570_548.out; have hnc114 := NB548_570.out; have hcz115_0 : w110.cell? ⟨gb570, 0, none⟩ = some (.int .i64 0) := (blk_cell BK570.out 0).trans rfl; have hcz115_1 : w110.cell? ⟨gb570, 1, none⟩ = some (.slice none 0 0) := (blk_cell BK570.out 1).trans rfl; have hfz115_0 := blk_frozen BK570.out 0; have hfz115_1 := blk_frozen BK570.out 1; obtain ⟨Ao116, co116, eo116⟩ := Kd.R_slice HO568.out; subst eo116))
           (try simp only [Act.put, List.setIfInBounds_toArray, List.set_cons_zero, List.set_cons_succ])
           go_cut [87] (fun v87 wc => ∃ (kq : Nat) (x87_95 : Bool), v87 = .bool x87_95 ∧ Aside0 (laws_FnExactShiftMoments.j2 kq t558 x87_95 t543 t559 = some r) ∧ Aside0 (kq ≤ kj59) ∧ Aside0 (Kd.R (Kd.int .i64) 2 wc w.heap.size (fun k_ => some k_ ≠ ((.slice Ao29 t556.length co29) : Value).ownBlock ∧ some k_ ≠ ((.slice Ao36 t544.length co36) : Value).ownBlock ∧ some k_ ≠ ((.slice Ao116 t566.length co116) : Value).ownBlock) (.slice Ao22 t533.length co22) t533) ∧ Aside0 (Kd.R (Kd.int .i64) 2 wc w.heap.size (fun k_ => some k_ ≠ ((.slice Ao22 t533.length co22) : Value).ownBlock ∧ some k_ ≠ ((.slice Ao36 t544.length co36) : Value).ownBlock ∧ some k_ ≠ ((.slice Ao116 t566.length co116) : Value).ownBlock) (.slice Ao29 t556.length co29) t556) ∧ Aside0 (Kd.R (Kd.int .i64) 2 wc w.heap.size (fun k_ => some k_ ≠ ((.slice Ao22 t533.length co22) : Value).ownBlock ∧ some k_ ≠ ((.slice Ao29 t556.length co29) : Value).ownBlock ∧ some k_ ≠ ((.slice Ao116 t566.length co116) : Value).ownBlock) (.slice Ao36 t544.length co36) t559) ∧ Aside0 (Kd.R (Kd.int .i64) 2 wc w.heap.size (fun k_ => some k_ ≠ ((.slice Ao22 t533.length co22) : Value).ownBlock ∧ some k_ ≠ ((.slice Ao29 t556.length co29) : Value).ownBlock ∧ some k_ ≠ ((.slice Ao36 t544.length co36) : Value).ownBlock) (.slice Ao116 t566.length co116) t566) ∧ Aside0 (wc.heap[gb526]? = some (.cells #[.int .i64 a0_0, (.slice A0_1 l0_1.length c0_1)] 32 (0, 0))) ∧ Aside0 (wc.heap[gb537]? = some (.cells #[.int .i64 t532, (.slice Ao22 t533.length co22)] 36 (0, 0))) ∧ Aside0 (wc.heap[gb542]? = some (.cells #[.int .i64 t538, (.slice Ao29 t556.length co29)] 36 (0, 0))) ∧ Aside0 (wc.heap[gb548]? = some (.cells #[.int .i64 t543, (.slice Ao36 t544.length co36)] 36 (0, 0))) ∧ Aside0 (wc.heap[gb570]? = some (.cells #[.int .i64 t565, (.slice Ao116 t566.length co116)] 36 (0, 0))) ∧ Aside0 (Below w.heap.size w wc))
           case first =>
            have H := HC96.out
            clear HC96
            replace H := Option.bind_eq_some_iff.mp H
            obtain ⟨t571, A1170, H⟩ := H
            replace H : (if t571 = true then (laws_FnExactShiftMoments.j2 kj59 t558 (t569 != t536) t543 t559) else (laws_FnExactShiftMoments.j2 kj59 t558 true t543 t559)) = some r := H
            have A117 := zA A1170
            clear A1170
            by_cases c118 : t571 = true
            ·subst c118
             have H1 : (laws_FnExactShiftMoments.j2 kj59 t558 (t569 != t536) t543 t559) = some r := by rw [if_pos rfl] at H; exact H
             clear H
             have H := H1
             clear H1
             have H' := zA H
             clear H
             have hnb119 := NB570_526.out; have hnc119 := NB526_570.out; have hnb120 := NB570_537.out; have hnc120 := NB537_570.out; have hnb121 := NB570_542.out; have hnc121 := NB542_570.out; have hnb122 := NB570_548.out; have hnc122 := NB548_570.out
             have hcz123_0 : w110.cell? ⟨gb570, 0, none⟩ = some (.int .i64 0) := (blk_cell BK570.out 0).trans rfl
             have hcz123_1 : w110.cell? ⟨gb570, 1, none⟩ = some (.slice none 0 0) := (blk_cell BK570.out 1).trans rfl
             have hfz123_0 := blk_frozen BK570.out 0
             have hfz123_1 := blk_frozen BK570.out 1
             have hnb124 := NB537_526.out; have hnc124 := NB526_537.out; have hnb125 := NB537_542.out; have hnc125 := NB542_537.out; have hnb126 := NB537_548.out; have hnc126 := NB548_537.out
             have hcz127_0 : w110.cell? ⟨gb537, 0, none⟩ = some (.int .i64 t532) := (blk_cell BK537.out 0).trans rfl
             have hcz127_1 : w110.cell? ⟨gb537, 1, none⟩ = some (.slice Ao22 t533.length co22) := (blk_cell BK537.out 1).trans rfl
             have hfz127_0 := blk_frozen BK537.out 0
             have hfz127_1 := blk_frozen BK537.out 1
             go_wp2_with (first | ((with_reducible refine gate_callee (f := 19) rfl ?_); refine goesL_ (some 81) rfl rfl Try.func19 (by kernel_rfl) rfl #[.agg #[.int .i64 t565, .slice Ao116 t566.length co116], .agg #[.int .i64 t532, .slice Ao22 t533.length co22]] rfl (by (try simp only [List.map_toArray, List.map_cons, List.map_nil]); first | done | rfl | (simp only [List.length_drop, List.length_take]; rfl)) ?_; (with_reducible refine (laws_eqMoments.calls kj59 t565 _ _ t566 t532 _ _ t533 true _ ?side1 ?side2 ?side3 ?side4 A117.out).mono ?_); (case side1 => refine (Kd.R_reads' (e := 2) (base := w.heap.size) (ok := fun k_ => ((((True ∧ some k_ ≠ (.slice Ao22 t533.length co22 : Value).ownBlock) ∧ some k_ ≠ (.slice Ao29 t556.length co29 : Value).ownBlock) ∧ some k_ ≠ (.slice Ao36 t544.length co36 : Value).ownBlock) ∧ some k_ ≠ (.slice Ao108 t562.length co108 : Value).ownBlock)) (n := t566.length) (c := co116) ?_).2.2; exact (uR ((Kd.R_mono (Kd.R_far (p := ⟨gb570, 1, none⟩) (Kd.R_far (p := ⟨gb570, 0, none⟩) (Kd.R_types HO568.out BK570.out (by decide)) (fun _ hk => hk.2) (.int .i64 t565)) (fun _ hk => hk.2) (.slice Ao116 t566.length co116)) (fun _ h_ => h_.1))))); (case side2 => exact (Kd.R_reads' HO568.out).2.1); (case side3 => refine (Kd.R_reads' (e := 2) (base := w.heap.size) (ok := fun k_ => (((some k_ ≠ (.slice Ao29 t556.length co29 : Value).ownBlock ∧ some k_ ≠ (.slice Ao36 t544.length co36 : Value).ownBlock) ∧ some k_ ≠ (.slice Ao108 t562.length co108 : Value).ownBlock) ∧ some k_ ≠ (.slice Ao116 t566.length co116 : Value).ownBlock)) (n := t533.length) (c := co22) ?_).2.2; exact (uR ((Kd.R_mono (Kd.R_far (p := ⟨gb570, 1, none⟩) (Kd.R_far (p := ⟨gb570, 0, none⟩) (Kd.R_types HO_538001.out BK570.out (by decide)) (fun _ hk => hk.2) (.int .i64 t565)) (fun _ hk => hk.2) (.slice Ao116 t566.length co116)) (fun _ h_ => h_.1))))); (case side4 => exact (Kd.R_reads' HO_538001.out).2.1); rintro e w128 ⟨rfl, hb⟩; refine ⟨_, rfl, ?_⟩; have n0_ := zA (Kd.R_below (uR ((Kd.R_mono (Kd.R_far (p := ⟨gb570, 1, none⟩) (Kd.R_far (p := ⟨gb570, 0, none⟩) (Kd.R_types HO_538001.out BK570.out (by decide)) (fun _ hk => hk.2) (.int .i64 t565)) (fun _ hk => hk.2) (.slice Ao116 t566.length co116)) (fun _ h_ => h_.1)))) hb); have n1_ := zA (Kd.R_below (uR ((Kd.R_mono (Kd.R_far (p := ⟨gb570, 1, none⟩) (Kd.R_far (p := ⟨gb570, 0, none⟩) (Kd.R_types HO_543001.out BK570.out (by decide)) (fun _ hk => hk.2) (.int .i64 t565)) (fun _ hk => hk.2) (.slice Ao116 t566.length co116)) (fun _ h_ => h_.1)))) hb); have n2_ := zA (Kd.R_below (uR ((Kd.R_mono (Kd.R_far (p := ⟨gb570, 1, none⟩) (Kd.R_far (p := ⟨gb570, 0, none⟩) (Kd.R_types HO_549001.out BK570.out (by decide)) (fun _ hk => hk.2) (.int .i64 t565)) (fun _ hk => hk.2) (.slice Ao116 t566.length co116)) (fun _ h_ => h_.1)))) hb); have n3_ := zA (Kd.R_below (uR ((Kd.R_mono (Kd.R_far (p := ⟨gb570, 1, none⟩) (Kd.R_far (p := ⟨gb570, 0, none⟩) (Kd.R_types HO564.out BK570.out (by decide)) (fun _ hk => hk.2) (.int .i64 t565)) (fun _ hk => hk.2) (.slice Ao116 t566.length co116)) (fun _ h_ => h_.1)))) hb); have n4_ := zA (Kd.R_below (uR ((Kd.R_mono (Kd.R_far (p := ⟨gb570, 1, none⟩) (Kd.R_far (p := ⟨gb570, 0, none⟩) (Kd.R_types HO568.out BK570.out (by decide)) (fun _ hk => hk.2) (.int .i64 t565)) (fun _ hk => hk.2) (.slice Ao116 t566.length co116)) (fun _ h_ => h_.1)))) hb); have n5_ := zA (blk_below (g := gb526) (o := .cells #[.int .i64 a0_0, .slice A0_1 l0_1.length c0_1] 32 (0, 0)) (by (with_reducible repeat (first | refine blk_drewN ?_ _ | refine blk_drew ?_ | refine blk_alloc ?_ _)); refine blk_far ?_ NB526_570.out _; (with_reducible repeat (first | refine blk_drewN ?_ _ | refine blk_drew ?_ | refine blk_alloc ?_ _)); refine blk_far ?_ NB526_570.out _; (with_reducible repeat (first | refine blk_drewN ?_ _ | refine blk_drew ?_ | refine blk_alloc ?_ _)); exact BK526.out) hb); have n6_ := zA (blk_below (g := gb537) (o := .cells #[.int .i64 t532, .slice Ao22 t533.length co22] 36 (0, 0)) (by (with_reducible repeat (first | refine blk_drewN ?_ _ | refine blk_drew ?_ | refine blk_alloc ?_ _)); refine blk_far ?_ NB537_570.out _; (with_reducible repeat (first | refine blk_drewN ?_ _ | refine blk_drew ?_ | refine blk_alloc ?_ _)); refine blk_far ?_ NB537_570.out _; (with_reducible repeat (first | refine blk_drewN ?_ _ | refine blk_drew ?_ | refine blk_alloc ?_ _)); exact BK537.out) hb); have n7_ := zA (blk_below (g := gb542) (o := .cells #[.int .i64 t538, .slice Ao29 t556.length co29] 36 (0, 0)) (by (with_reducible repeat (first | refine blk_drewN ?_ _ | refine blk_drew ?_ | refine blk_alloc ?_ _)); refine blk_far ?_ NB542_570.out _; (with_reducible repeat (first | refine blk_drewN ?_ _ | refine blk_drew ?_ | refine blk_alloc ?_ _)); refine blk_far ?_ NB542_570.out _; (with_reducible repeat (first | refine blk_drewN ?_ _ | refine blk_drew ?_ | refine blk_alloc ?_ _)); exact BK542.out) hb); have n8_ := zA (blk_below (g := gb548) (o := .cells #[.int .i64 t543, .slice Ao36 t544.length co36] 36 (0, 0)) (by (with_reducible repeat (first | refine blk_drewN ?_ _ | refine blk_drew ?_ | refine blk_alloc ?_ _)); refine blk_far ?_ NB548_570.out _; (with_reducible repeat (first | refine blk_drewN ?_ _ | refine blk_drew ?_ | refine blk_alloc ?_ _)); refine blk_far ?_ NB548_570.out _; (with_reducible repeat (first | refine blk_drewN ?_ _ | refine blk_drew ?_ | refine blk_alloc ?_ _)); exact BK548.out) hb); have n9_ := zA (blk_below (g := gb570) (o := .cells #[.int .i64 t565, .slice Ao116 t566.length co116] 36 (0, 0)) (by (with_reducible repeat (first | refine blk_drewN ?_ _ | refine blk_drew ?_ | refine blk_alloc ?_ _)); refine blk_put (cs := #[.int .i64 t565, .slice none 0 0]) ?_ 1 _ rfl; (with_reducible repeat (first | refine blk_drewN ?_ _ | refine blk_drew ?_ | refine blk_alloc ?_ _)); refine blk_put (cs := #[.int .i64 0, .slice none 0 0]) ?_ 0 _ rfl; (with_reducible repeat (first | refine blk_drewN ?_ _ | refine blk_drew ?_ | refine blk_alloc ?_ _)); exact BK570.out) hb); have n10_ := xH HB hb; clear HO_538001 HO_543001 HO_549001 HO564 HO568 BK526 BK537 BK542 BK548 BK570 HB; have HO_538001 := n0_; have HO_543001 := n1_; have HO_549001 := n2_; have HO564 := n3_; have HO568 := n4_; have BK526 := n5_; have BK537 := n6_; have BK542 := n7_; have BK548 := n8_; have BK570 := n9_; have HB := n10_; clear n0_ n1_ n2_ n3_ n4_ n5_ n6_ n7_ n8_ n9_ n10_; (try clear hb); (try clear hb2); (try clear hk); (try clear hi)))
             go_meet
             case rel => exact ⟨_, ((t569 != t536)), (by first | rfl | (simp; done) | (simp [*]; done)), H', ⟨by have := HJ10.out; have := HJ59.out; first | omega | exact Nat.le_refl _⟩, ⟨by (try simp only [hl543001_59]); (with_reducible repeat (first | apply Kd.R_alloc | apply Kd.R_drewN | apply Kd.R_drew)); exact Kd.R_mono HO_538001.out (fun _ hk => ⟨hk.1.1.1, ⟨hk.1.1.2, hk.2⟩⟩)⟩, ⟨by (try simp only [hl543001_59]); (with_reducible repeat (first | apply Kd.R_alloc | apply Kd.R_drewN | apply Kd.R_drew)); exact Kd.R_mono HO_543001.out (fun _ hk => ⟨hk.1.1.1, ⟨hk.1.1.2, hk.2⟩⟩)⟩, ⟨by (try simp only [hl543001_59]); (with_reducible repeat (first | apply Kd.R_alloc | apply Kd.R_drewN | apply Kd.R_drew)); exact Kd.R_mono HO_549001.out (fun _ hk => ⟨hk.1.1.1, ⟨hk.1.1.2, hk.2⟩⟩)⟩, ⟨by (try simp only [hl543001_59]); (with_reducible repeat (first | apply Kd.R_alloc | apply Kd.R_drewN | apply Kd.R_drew)); exact Kd.R_mono HO568.out (fun _ hk => ⟨hk.1.1.1.2, ⟨hk.1.1.2, hk.1.2⟩⟩)⟩, ⟨by (try simp only [hl543001_59]); (with_reducible repeat (first | refine blk_drewN ?_ _ | refine blk_drew ?_ | refine blk_alloc ?_ _)); exact BK526.out⟩, ⟨by (try simp only [hl543001_59]); (with_reducible repeat (first | refine blk_drewN ?_ _ | refine blk_drew ?_ | refine blk_alloc ?_ _)); exact BK537.out⟩, ⟨by (try simp only [hl543001_59]); (with_reducible repeat (first | refine blk_drewN ?_ _ | refine blk_drew ?_ | refine blk_alloc ?_ _)); exact BK542.out⟩, ⟨by (try simp only [hl543001_59]); (with_reducible repeat (first | refine blk_drewN ?_ _ | refine blk_drew ?_ | refine blk_alloc ?_ _)); exact BK548.out⟩, ⟨by (try simp only [hl543001_59]); (with_reducible repeat (first | refine blk_drewN ?_ _ | refine blk_drew ?_ | refine blk_alloc ?_ _)); exact BK570.out⟩, ⟨uH HB.out⟩⟩
            ·replace c118 := Bool.eq_false_iff.mpr c118
             subst c118
             have H1 : (laws_FnExactShiftMoments.j2 kj59 t558 true t543 t559) = some r := by rw [if_neg (show ¬ (false = true) by decide)] at H; exact H
             clear H
             have H := H1
             clear H1
             have H' := zA H
             clear H
             have hnb129 := NB570_526.out; have hnc129 := NB526_570.out; have hnb130 := NB570_537.out; have hnc130 := NB537_570.out; have hnb131 := NB570_542.out; have hnc131 := NB542_570.out; have hnb132 := NB570_548.out; have hnc132 := NB548_570.out
             have hcz133_0 : w110.cell? ⟨gb570, 0, none⟩ = some (.int .i64 0) := (blk_cell BK570.out 0).trans rfl
             have hcz133_1 : w110.cell? ⟨gb570, 1, none⟩ = some (.slice none 0 0) := (blk_cell BK570.out 1).trans rfl
             have hfz133_0 := blk_frozen BK570.out 0
             have hfz133_1 := blk_frozen BK570.out 1
             have hnb134 := NB537_526.out; have hnc134 := NB526_537.out; have hnb135 := NB537_542.out; have hnc135 := NB542_537.out; have hnb136 := NB537_548.out; have hnc136 := NB548_537.out
             have hcz137_0 : w110.cell? ⟨gb537, 0, none⟩ = some (.int .i64 t532) := (blk_cell BK537.out 0).trans rfl
             have hcz137_1 : w110.cell? ⟨gb537, 1, none⟩ = some (.slice Ao22 t533.length co22) := (blk_cell BK537.out 1).trans rfl
             have hfz137_0 := blk_frozen BK537.out 0
             have hfz137_1 := blk_frozen BK537.out 1
             go_wp2_with (first | ((with_reducible refine gate_callee (f := 19) rfl ?_); refine goesL_ (some 81) rfl rfl Try.func19 (by kernel_rfl) rfl #[.agg #[.int .i64 t565, .slice Ao116 t566.length co116], .agg #[.int .i64 t532, .slice Ao22 t533.length co22]] rfl (by (try simp only [List.map_toArray, List.map_cons, List.map_nil]); first | done | rfl | (simp only [List.length_drop, List.length_take]; rfl)) ?_; (with_reducible refine (laws_eqMoments.calls kj59 t565 _ _ t566 t532 _ _ t533 false _ ?side1 ?side2 ?side3 ?side4 A117.out).mono ?_); (case side1 => refine (Kd.R_reads' (e := 2) (base := w.heap.size) (ok := fun k_ => ((((True ∧ some k_ ≠ (.slice Ao22 t533.length co22 : Value).ownBlock) ∧ some k_ ≠ (.slice Ao29 t556.length co29 : Value).ownBlock) ∧ some k_ ≠ (.slice Ao36 t544.length co36 : Value).ownBlock) ∧ some k_ ≠ (.slice Ao108 t562.length co108 : Value).ownBlock)) (n := t566.length) (c := co116) ?_).2.2; exact (uR ((Kd.R_mono (Kd.R_far (p := ⟨gb570, 1, none⟩) (Kd.R_far (p := ⟨gb570, 0, none⟩) (Kd.R_types HO568.out BK570.out (by decide)) (fun _ hk => hk.2) (.int .i64 t565)) (fun _ hk => hk.2) (.slice Ao116 t566.length co116)) (fun _ h_ => h_.1))))); (case side2 => exact (Kd.R_reads' HO568.out).2.1); (case side3 => refine (Kd.R_reads' (e := 2) (base := w.heap.size) (ok := fun k_ => (((some k_ ≠ (.slice Ao29 t556.length co29 : Value).ownBlock ∧ some k_ ≠ (.slice Ao36 t544.length co36 : Value).ownBlock) ∧ some k_ ≠ (.slice Ao108 t562.length co108 : Value).ownBlock) ∧ some k_ ≠ (.slice Ao116 t566.length co116 : Value).ownBlock)) (n := t533.length) (c := co22) ?_).2.2; exact (uR ((Kd.R_mono (Kd.R_far (p := ⟨gb570, 1, none⟩) (Kd.R_far (p := ⟨gb570, 0, none⟩) (Kd.R_types HO_538001.out BK570.out (by decide)) (fun _ hk => hk.2) (.int .i64 t565)) (fun _ hk => hk.2) (.slice Ao116 t566.length co116)) (fun _ h_ => h_.1))))); (case side4 => exact (Kd.R_reads' HO_538001.out).2.1); rintro e w138 ⟨rfl, hb⟩; refine ⟨_, rfl, ?_⟩; have n0_ := zA (Kd.R_below (uR ((Kd.R_mono (Kd.R_far (p := ⟨gb570, 1, none⟩) (Kd.R_far (p := ⟨gb570, 0, none⟩) (Kd.R_types HO_538001.out BK570.out (by decide)) (fun _ hk => hk.2) (.int .i64 t565)) (fun _ hk => hk.2) (.slice Ao116 t566.length co116)) (fun _ h_ => h_.1)))) hb); have n1_ := zA (Kd.R_below (uR ((Kd.R_mono (Kd.R_far (p := ⟨gb570, 1, none⟩) (Kd.R_far (p := ⟨gb570, 0, none⟩) (Kd.R_types HO_543001.out BK570.out (by decide)) (fun _ hk => hk.2) (.int .i64 t565)) (fun _ hk => hk.2) (.slice Ao116 t566.length co116)) (fun _ h_ => h_.1)))) hb); have n2_ := zA (Kd.R_below (uR ((Kd.R_mono (Kd.R_far (p := ⟨gb570, 1, none⟩) (Kd.R_far (p := ⟨gb570, 0, none⟩) (Kd.R_types HO_549001.out BK570.out (by decide)) (fun _ hk => hk.2) (.int .i64 t565)) (fun _ hk => hk.2) (.slice Ao116 t566.length co116)) (fun _ h_ => h_.1)))) hb); have n3_ := zA (Kd.R_below (uR ((Kd.R_mono (Kd.R_far (p := ⟨gb570, 1, none⟩) (Kd.R_far (p := ⟨gb570, 0, none⟩) (Kd.R_types HO564.out BK570.out (by decide)) (fun _ hk => hk.2) (.int .i64 t565)) (fun _ hk => hk.2) (.slice Ao116 t566.length co116)) (fun _ h_ => h_.1)))) hb); have n4_ := zA (Kd.R_below (uR ((Kd.R_mono (Kd.R_far (p := ⟨gb570, 1, none⟩) (Kd.R_far (p := ⟨gb570, 0, none⟩) (Kd.R_types HO568.out BK570.out (by decide)) (fun _ hk => hk.2) (.int .i64 t565)) (fun _ hk => hk.2) (.slice Ao116 t566.length co116)) (fun _ h_ => h_.1)))) hb); have n5_ := zA (blk_below (g := gb526) (o := .cells #[.int .i64 a0_0, .slice A0_1 l0_1.length c0_1] 32 (0, 0)) (by (with_reducible repeat (first | refine blk_drewN ?_ _ | refine blk_drew ?_ | refine blk_alloc ?_ _)); refine blk_far ?_ NB526_570.out _; (with_reducible repeat (first | refine blk_drewN ?_ _ | refine blk_drew ?_ | refine blk_alloc ?_ _)); refine blk_far ?_ NB526_570.out _; (with_reducible repeat (first | refine blk_drewN ?_ _ | refine blk_drew ?_ | refine blk_alloc ?_ _)); exact BK526.out) hb); have n6_ := zA (blk_below (g := gb537) (o := .cells #[.int .i64 t532, .slice Ao22 t533.length co22] 36 (0, 0)) (by (with_reducible repeat (first | refine blk_drewN ?_ _ | refine blk_drew ?_ | refine blk_alloc ?_ _)); refine blk_far ?_ NB537_570.out _; (with_reducible repeat (first | refine blk_drewN ?_ _ | refine blk_drew ?_ | refine blk_alloc ?_ _)); refine blk_far ?_ NB537_570.out _; (with_reducible repeat (first | refine blk_drewN ?_ _ | refine blk_drew ?_ | refine blk_alloc ?_ _)); exact BK537.out) hb); have n7_ := zA (blk_below (g := gb542) (o := .cells #[.int .i64 t538, .slice Ao29 t556.length co29] 36 (0, 0)) (by (with_reducible repeat (first | refine blk_drewN ?_ _ | refine blk_drew ?_ | refine blk_alloc ?_ _)); refine blk_far ?_ NB542_570.out _; (with_reducible repeat (first | refine blk_drewN ?_ _ | refine blk_drew ?_ | refine blk_alloc ?_ _)); refine blk_far ?_ NB542_570.out _; (with_reducible repeat (first | refine blk_drewN ?_ _ | refine blk_drew ?_ | refine blk_alloc ?_ _)); exact BK542.out) hb); have n8_ := zA (blk_below (g := gb548) (o := .cells #[.int .i64 t543, .slice Ao36 t544.length co36] 36 (0, 0)) (by (with_reducible repeat (first | refine blk_drewN ?_ _ | refine blk_drew ?_ | refine blk_alloc ?_ _)); refine blk_far ?_ NB548_570.out _; (with_reducible repeat (first | refine blk_drewN ?_ _ | refine blk_drew ?_ | refine blk_alloc ?_ _)); refine blk_far ?_ NB548_570.out _; (with_reducible repeat (first | refine blk_drewN ?_ _ | refine blk_drew ?_ | refine blk_alloc ?_ _)); exact BK548.out) hb); have n9_ := zA (blk_below (g := gb570) (o := .cells #[.int .i64 t565, .slice Ao116 t566.length co116] 36 (0, 0)) (by (with_reducible repeat (first | refine blk_drewN ?_ _ | refine blk_drew ?_ | refine blk_alloc ?_ _)); refine blk_put (cs := #[.int .i64 t565, .slice none 0 0]) ?_ 1 _ rfl; (with_reducible repeat (first | refine blk_drewN ?_ _ | refine blk_drew ?_ | refine blk_alloc ?_ _)); refine blk_put (cs := #[.int .i64 0, .slice none 0 0]) ?_ 0 _ rfl; (with_reducible repeat (first | refine blk_drewN ?_ _ | refine blk_drew ?_ | refine blk_alloc ?_ _)); exact BK570.out) hb); have n10_ := xH HB hb; clear HO_538001 HO_543001 HO_549001 HO564 HO568 BK526 BK537 BK542 BK548 BK570 HB; have HO_538001 := n0_; have HO_543001 := n1_; have HO_549001 := n2_; have HO564 := n3_; have HO568 := n4_; have BK526 := n5_; have BK537 := n6_; have BK542 := n7_; have BK548 := n8_; have BK570 := n9_; have HB := n10_; clear n0_ n1_ n2_ n3_ n4_ n5_ n6_ n7_ n8_ n9_ n10_; (try clear hb); (try clear hb2); (try clear hk); (try clear hi)))
             go_meet
             case rel => exact ⟨_, (true), (by first | rfl | (simp; done) | (simp [*]; done)), H', ⟨by have := HJ10.out; have := HJ59.out; first | omega | exact Nat.le_refl _⟩, ⟨by (try simp only [hl543001_59]); (with_reducible repeat (first | apply Kd.R_alloc | apply Kd.R_drewN | apply Kd.R_drew)); exact Kd.R_mono HO_538001.out (fun _ hk => ⟨hk.1.1.1, ⟨hk.1.1.2, hk.2⟩⟩)⟩, ⟨by (try simp only [hl543001_59]); (with_reducible repeat (first | apply Kd.R_alloc | apply Kd.R_drewN | apply Kd.R_drew)); exact Kd.R_mono HO_543001.out (fun _ hk => ⟨hk.1.1.1, ⟨hk.1.1.2, hk.2⟩⟩)⟩, ⟨by (try simp only [hl543001_59]); (with_reducible repeat (first | apply Kd.R_alloc | apply Kd.R_drewN | apply Kd.R_drew)); exact Kd.R_mono HO_549001.out (fun _ hk => ⟨hk.1.1.1, ⟨hk.1.1.2, hk.2⟩⟩)⟩, ⟨by (try simp only [hl543001_59]); (with_reducible repeat (first | apply Kd.R_alloc | apply Kd.R_drewN | apply Kd.R_drew)); exact Kd.R_mono HO568.out (fun _ hk => ⟨hk.1.1.1.2, ⟨hk.1.1.2, hk.1.2⟩⟩)⟩, ⟨by (try simp only [hl543001_59]); (with_reducible repeat (first | refine blk_drewN ?_ _ | refine blk_drew ?_ | refine blk_alloc ?_ _)); exact BK526.out⟩, ⟨by (try simp only [hl543001_59]); (with_reducible repeat (first | refine blk_drewN ?_ _ | refine blk_drew ?_ | refine blk_alloc ?_ _)); exact BK537.out⟩, ⟨by (try simp only [hl543001_59]); (with_reducible repeat (first | refine blk_drewN ?_ _ | refine blk_drew ?_ | refine blk_alloc ?_ _)); exact BK542.out⟩, ⟨by (try simp only [hl543001_59]); (with_reducible repeat (first | refine blk_drewN ?_ _ | refine blk_drew ?_ | refine blk_alloc ?_ _)); exact BK548.out⟩, ⟨by (try simp only [hl543001_59]); (with_reducible repeat (first | refine blk_drewN ?_ _ | refine blk_drew ?_ | refine blk_alloc ?_ _)); exact BK570.out⟩, ⟨uH HB.out⟩⟩
           case rest =>
            clear HC96
            try clear c1
            try clear c2
            try clear p2
            try clear c3
            try clear c3b0
            try clear c4
            try clear c5
            try clear c6
            try clear c7
            try clear c8
            try clear c9
            try clear c10
            try clear c11
            try clear c12
            try clear c13
            try clear c14
            try clear c16
            try clear c19
            try clear c20
            try clear c23
            try clear c24
            try clear c26
            try clear c27
            try clear c29
            try clear c30
            try clear c32
            try clear c33
            try clear c34
            try clear c38
            try clear c39
            try clear c40
            try clear c41
            try clear c43
            try clear c44
            try clear c47
            try clear c48
            try clear c49
            try clear c51
            try clear c52
            try clear c55
            try clear c58
            try clear c65
            try clear c66
            try clear c67
            try clear c70
            try clear c70b0
            try clear c72
            try clear c73
            try clear c74
            try clear c75
            try clear c77
            try clear c78
            try clear c81
            try clear c82
            try clear c83
            try clear c85
            try clear c86
            try clear c89
            try clear c92
            try clear c92b0
            try clear c93
            try clear c93b0
            try clear c93b1
            try clear c97
            try clear c98
            try clear c99
            try clear c104
            try clear c105
            try clear c111
            try clear c112
            try clear c113
            try clear c114
            try clear c118
            try clear c119
            try clear c120
            try clear c121
            try clear c122
            try clear c124
            try clear c125
            try clear c126
            try clear c129
            try clear c130
            try clear c131
            try clear c132
            try clear c134
            try clear c135
            try clear c136
            try clear hcz100_0
            try clear hcz100_1
            try clear hcz102_0
            try clear hcz102_1
            try clear hcz106_0
            try clear hcz106_1
            try clear hcz115_0
            try clear hcz115_1
            try clear hcz123_0
            try clear hcz123_1
            try clear hcz127_0
            try clear hcz127_1
            try clear hcz133_0
            try clear hcz133_1
            try clear hcz137_0
            try clear hcz137_1
            try clear hcz13_0
            try clear hcz13_1
            try clear hcz15_0
            try clear hcz15_1
            try clear hcz21_0
            try clear hcz21_1
            try clear hcz23_0
            try clear hcz23_1
            try clear hcz28_0
            try clear hcz28_1
            try clear hcz35_0
            try clear hcz35_1
            try clear hcz42_0
            try clear hcz42_1
            try clear hcz45_0
            try clear hcz45_1
            try clear hcz50_0
            try clear hcz50_1
            try clear hcz53_0
            try clear hcz53_1
            try clear hcz5_0
            try clear hcz5_1
            try clear hcz68_0
            try clear hcz68_1
            try clear hcz76_0
            try clear hcz76_1
            try clear hcz79_0
            try clear hcz79_1
            try clear hcz84_0
            try clear hcz84_1
            try clear hcz87_0
            try clear hcz87_1
            try clear hfz100_0
            try clear hfz100_1
            try clear hfz102_0
            try clear hfz102_1
            try clear hfz106_0
            try clear hfz106_1
            try clear hfz115_0
            try clear hfz115_1
            try clear hfz123_0
            try clear hfz123_1
            try clear hfz127_0
            try clear hfz127_1
            try clear hfz133_0
            try clear hfz133_1
            try clear hfz137_0
            try clear hfz137_1
            try clear hfz13_0
            try clear hfz13_1
            try clear hfz15_0
            try clear hfz15_1
            try clear hfz21_0
            try clear hfz21_1
            try clear hfz23_0
            try clear hfz23_1
            try clear hfz28_0
            try clear hfz28_1
            try clear hfz35_0
            try clear hfz35_1
            try clear hfz42_0
            try clear hfz42_1
            try clear hfz45_0
            try clear hfz45_1
            try clear hfz50_0
            try clear hfz50_1
            try clear hfz53_0
            try clear hfz53_1
            try clear hfz5_0
            try clear hfz5_1
            try clear hfz68_0
            try clear hfz68_1
            try clear hfz76_0
            try clear hfz76_1
            try clear hfz79_0
            try clear hfz79_1
            try clear hfz84_0
            try clear hfz84_1
            try clear hfz87_0
            try clear hfz87_1
            try clear p2
            obtain ⟨kq, x87_95, rfl, HA, HJ95, HO_538001, HO_543001, HO_549001, HO_571001, BK526, BK537, BK542, BK548, BK570, HB⟩ := hcut
            have hl549001_95 := (Kd.R_reads' HO_549001.out).1
            rw [hl549001_95] at HO_549001
            (try simp only [hl549001_95])
            (try simp only [hl549001_95] at BK526)
            (try simp only [hl549001_95] at BK537)
            (try simp only [hl549001_95] at BK542)
            (try simp only [hl549001_95] at BK548)
            (try simp only [hl549001_95] at BK570)
            (try simp only [hl549001_95] at HO_538001)
            (try simp only [hl549001_95] at HO_543001)
            (try simp only [hl549001_95] at HO_571001)
            cases kq with
            | zero => exact absurd HA.out (by simp [laws_FnExactShiftMoments.j2])
            | succ kj95 =>
             have H := HA.out
             clear HA
             simp only [laws_FnExactShiftMoments.j2] at H
             by_cases c139 : x87_95 = true
             ·subst c139
              have H1 : (some false) = some r := by rw [if_pos rfl] at H; exact H
              clear H
              have H := H1
              clear H1
              rw [HRT.out] at H
              exact absurd H (by simp)
             ·replace c139 := Bool.eq_false_iff.mpr c139
              subst c139
              have H1 : ((laws_heldMoments.f kj95 t543 t559 1).bind fun t572 => (if t572 < 0 then (some false) else (if t572 = t558 then (some true) else (some false)))) = some r := by rw [if_neg (show ¬ (false = true) by decide)] at H; exact H
              clear H
              have H := H1
              clear H1
              replace H := Option.bind_eq_some_iff.mp H
              obtain ⟨t572, A1400, H⟩ := H
              replace H : (if t572 < 0 then (some false) else (if t572 = t558 then (some true) else (some false))) = some r := H
              have A140 := zA A1400
              clear A1400
              by_cases c141 : t572 < 0
              ·rw [if_pos c141] at H
               have c141b0 : decide (t572 < 0) = true := decide_eq_true c141
               clear c141
               rw [HRT.out] at H
               exact absurd H (by simp)
              ·rw [if_neg c141] at H
               have c141b0 : decide (t572 < 0) = false := decide_eq_false c141
               clear c141
               by_cases c142 : t572 = t558
               ·rw [if_pos c142] at H
                have c142b0 : (t572 == t558) = true := beq_iff_eq.mpr c142
                have c142b1 : (t572 != t558) = false := bne_eq_false_iff_eq.mpr c142
                clear c142
                obtain rfl := Option.some.inj H
                have hnb143 := NB548_526.out; have hnc143 := NB526_548.out; have hnb144 := NB548_537.out; have hnc144 := NB537_548.out; have hnb145 := NB548_542.out; have hnc145 := NB542_548.out; have hnb146 := NB548_570.out; have hnc146 := NB570_548.out
                have hcz147_0 : wc.cell? ⟨gb548, 0, none⟩ = some (.int .i64 t543) := (blk_cell BK548.out 0).trans rfl
                have hcz147_1 : wc.cell? ⟨gb548, 1, none⟩ = some (.slice Ao36 t559.length co36) := (blk_cell BK548.out 1).trans rfl
                have hfz147_0 := blk_frozen BK548.out 0
                have hfz147_1 := blk_frozen BK548.out 1
                go_wp2_with (first | ((with_reducible refine gate_callee (f := 24) rfl ?_); refine goesL_ (some 90) rfl rfl Try.func24 (by kernel_rfl) rfl #[.agg #[.int .i64 t543, .slice Ao36 t559.length co36], .int .i64 1] rfl (by (try simp only [List.map_toArray, List.map_cons, List.map_nil]); first | done | rfl | (simp only [List.length_drop, List.length_take]; rfl)) ?_; (with_reducible refine (laws_heldMoments.calls kj95 t543 _ _ t559 1 t572 _ ?side1 ?side2 A140.out).mono ?_); (case side1 => exact uC ((Kd.R_reads' HO_549001.out).2.2)); (case side2 => exact (Kd.R_reads' HO_549001.out).2.1); rintro e w148 ⟨rfl, hb⟩; refine ⟨_, rfl, ?_⟩; have n0_ := xR HO_538001 hb; have n1_ := xR HO_543001 hb; have n2_ := xR HO_549001 hb; have n3_ := xR HO_571001 hb; have n4_ := xB BK526 hb; have n5_ := xB BK537 hb; have n6_ := xB BK542 hb; have n7_ := xB BK548 hb; have n8_ := xB BK570 hb; have n9_ := xH HB hb; clear HO_538001 HO_543001 HO_549001 HO_571001 BK526 BK537 BK542 BK548 BK570 HB; have HO_538001 := n0_; have HO_543001 := n1_; have HO_549001 := n2_; have HO_571001 := n3_; have BK526 := n4_; have BK537 := n5_; have BK542 := n6_; have BK548 := n7_; have BK570 := n8_; have HB := n9_; clear n0_ n1_ n2_ n3_ n4_ n5_ n6_ n7_ n8_ n9_; (try clear hb); (try clear hb2); (try clear hk); (try clear hi)))
                go_ret
                exact ⟨by first | rfl | (simp [errW_none, errW_some] <;> rfl) | (simp [*, errW_none, errW_some] <;> rfl), uH HB.out⟩
               ·rw [if_neg c142] at H
                have c142b0 : (t572 == t558) = false := beq_eq_false_iff_ne.mpr c142
                have c142b1 : (t572 != t558) = true := bne_iff_ne.mpr c142
                rw [HRT.out] at H
                exact absurd H (by simp)
          ·rw [if_neg c93] at H
           have c93b0 : (t560 == t558) = false := beq_eq_false_iff_ne.mpr c93
           have c93b1 : (t560 != t558) = true := bne_iff_ne.mpr c93
           rw [HRT.out] at H
           exact absurd H (by simp)
     ·replace c58 := Bool.eq_false_iff.mpr c58
      subst c58
      have H1 : (some false) = some r := by rw [if_neg (show ¬ (false = true) by decide)] at H; exact H
      clear H
      have H := H1
      clear H1
      rw [HRT.out] at H
      exact absurd H (by simp)

/-- THE ONE PURE STATEMENT of laws_FnExactShiftMoments: yours. -/
def laws_FnExactShiftMoments.Pure : Prop := ∀ (a0_0 : Int) (l0_1 : List Int), (Lit.int .i64 a0_0).wf = true → l0_1.length ≤ maxLen → (∀ x ∈ l0_1, (Lit.int .i64 x).wf = true) → ∃ k, laws_FnExactShiftMoments.f k a0_0 l0_1 = some true
theorem laws_FnExactShiftMoments.walk (P : laws_FnExactShiftMoments.Pure) (a0_0 : Int) (a0_1 : Option Addr) (len0_1 cap0_1 : Nat) (z0_1 : List Int) (w : World) (w0_0 : (Lit.int .i64 a0_0).wf = true) (w0_1 : (a0_1 = none ∧ len0_1 = 0 ∧ cap0_1 = 0 ∧ z0_1 = []) ∨ ∃ x, a0_1 = some x ∧ len0_1 ≤ cap0_1 ∧ cap0_1 ≤ maxLen ∧ z0_1.length = cap0_1 ∧ (∀ i, i < z0_1.length → w.cell? (x.add i) = some (.int .i64 (z0_1.getD i 0))) ∧ ∀ n ∈ z0_1, (Lit.int .i64 n).wf = true) :
  Calls Try.prog 8 #[.agg #[.int .i64 a0_0, .slice a0_1 len0_1 cap0_1]] w fun e w' => e = .returned (.bool true) ∧ Below w.heap.size w w' := by
 obtain ⟨l0_1, rfl, hr0_1, hm0_1, hw0_1, hc0_1⟩ := ReadsInt.ofRowC w0_1
 obtain ⟨k, h⟩ := P a0_0 l0_1 w0_0 hm0_1 hw0_1
 refine (laws_FnExactShiftMoments.calls k a0_0 _ _ l0_1 true rfl w (Kd.C_of_reads (d := (0 : Int)) (h1 := fun _ => rfl) hr0_1) hc0_1 h).mono ?_
 rintro e w' ⟨rfl, hd⟩
 exact ⟨rfl, hd⟩

end Go.Proofs.Ytcfiegapclbenaa.Pr
