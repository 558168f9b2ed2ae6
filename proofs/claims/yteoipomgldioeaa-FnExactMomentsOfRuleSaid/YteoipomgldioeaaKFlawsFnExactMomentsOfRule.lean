/- Printed by a program of this session out of the translation: what these functions of the program compute, under the conditions that each theorem names. -/
import Derived.Test.YteoipomgldioeaaKC01
import Derived.Test.YteoipomgldioeaaKC02
import Derived.Test.YteoipomgldioeaaKMomentsOfRule3
import Derived.Test.YteoipomgldioeaaKMomentsOfRule1
import Derived.Test.YteoipomgldioeaaKMomentsOfRule2
namespace Go.Proofs.Yteoipomgldioeaa.Pr
open Go.RowKit Go.Proofs.YteoipomgldioeaaW.PrintWords Go.Proofs.YteoipomgldioeaaW.PrintLast Go.Proofs.YteoipomgldioeaaW.PrintMore
attribute [local go_sem] max2_int min2_int max_two min_two max_three min_three max_four min_four   -- for this text's walks alone
set_option linter.unusedVariables false
set_option linter.unusedSimpArgs false

/-! ### laws_FnExactMomentsOfRule: function 6 -/
mutual
def laws_FnExactMomentsOfRule.j0 : Nat → Int → Int → Int → Bool → Int → List Int → List Int → Int → List Int → Int → List Int → List Int → Int → List Int → Option (Bool)
 | 0, _, _, _, _, _, _, _, _, _, _, _, _, _, _ => none
 | k + 1, x1, x7, x10, x44, x473000, x473001, x473002, x487000, x487001, x495000, x495001, x495002, x501000, x501001 => if x44 = true then (some false) else ((laws_toRule.f k x473000 x473001 x473002).bind fun bt502 => ((laws_eqRule.f k x495000 x495001 x495002 bt502.1 bt502.2.1 bt502.2.2).bind fun t509 => (if t509 = true then ((laws_markRule.f k x495000 x495001 x495002 1).bind fun bt510 => (if bt510.1 < 0 then (laws_FnExactMomentsOfRule.j1 k x1 x7 true x473000 x473001 x473002 x487000 x487001 x501000 x501001) else ((laws_eqMoments.f k x501000 x501001 x487000 x487001).bind fun t513 => (if t513 = true then (laws_FnExactMomentsOfRule.j1 k x1 x7 (x10 != x7) x473000 x473001 x473002 x487000 x487001 x501000 x501001) else (laws_FnExactMomentsOfRule.j1 k x1 x7 true x473000 x473001 x473002 x487000 x487001 x501000 x501001))))) else (some false))))
def laws_FnExactMomentsOfRule.j1 : Nat → Int → Int → Bool → Int → List Int → List Int → Int → List Int → Int → List Int → Option (Bool)
 | 0, _, _, _, _, _, _, _, _, _, _ => none
 | k + 1, x1, x7, x65, x473000, x473001, x473002, x487000, x487001, x501000, x501001 => if x65 = true then (some false) else ((laws_markMoments.f k x501000 x501001 1).bind fun bt514 => ((laws_heldMoments.f k x501000 bt514.2 1).bind fun t516 => (if t516 < 0 then (some false) else (if t516 = bt514.1 then ((laws_toRule.f k x473000 x473001 x473002).bind fun bt517 => ((impl_MomentsOfRule.f k bt517.1 bt517.2.1 bt517.2.2 x1).bind fun bt524 => ((laws_eqMoments.f k bt524.1 bt524.2.1 x487000 x487001).bind fun t530 => (if t530 = true then (laws_FnExactMomentsOfRule.j2 k bt514.1 (bt524.2.2 != x7) x501000 bt514.2) else (laws_FnExactMomentsOfRule.j2 k bt514.1 true x501000 bt514.2))))) else (some false)))))
def laws_FnExactMomentsOfRule.j2 : Nat → Int → Bool → Int → List Int → Option (Bool)
 | 0, _, _, _, _ => none
 | k + 1, x12, x92, x501000, x501001 => if x92 = true then (some false) else ((laws_heldMoments.f k x501000 x501001 1).bind fun t531 => (if t531 < 0 then (some false) else (if t531 = x12 then (some true) else (some false))))
end
def laws_FnExactMomentsOfRule.f (k : Nat) (a0_0 : Int) (l0_1 : List Int) (l0_2 : List Int) (a1 : Int) : Option (Bool) := (laws_szRule.f a0_0 l0_1 l0_2 1048576).bind fun t473 => (if t473 < 0 then (some true) else ((laws_toRule.f k a0_0 l0_1 l0_2).bind fun bt474 => ((spec_MomentsOfRule.f k bt474.1 bt474.2.1 bt474.2.2 a1).bind fun bt481 => ((laws_toRule.f k a0_0 l0_1 l0_2).bind fun bt487 => ((impl_MomentsOfRule.f k bt487.1 bt487.2.1 bt487.2.2 a1).bind fun bt495 => ((laws_eqMoments.f k bt495.1 bt495.2.1 bt481.1 bt481.2.1).bind fun t501 => (if t501 = true then (laws_FnExactMomentsOfRule.j0 k a1 bt481.2.2 bt495.2.2 (bt495.2.2 != bt481.2.2) a0_0 l0_1 l0_2 bt481.1 bt481.2.1 bt487.1 bt487.2.1 bt487.2.2 bt495.1 bt495.2.1) else (laws_FnExactMomentsOfRule.j0 k a1 bt481.2.2 bt495.2.2 true a0_0 l0_1 l0_2 bt481.1 bt481.2.1 bt487.1 bt487.2.1 bt487.2.2 bt495.1 bt495.2.1))))))))
theorem laws_FnExactMomentsOfRule.mono_l : ∀ k, (∀ y0 y1 y2 y3 y4 y5 y6 y7 y8 y9 y10 y11 y12 y13, LeO (laws_FnExactMomentsOfRule.j0 k y0 y1 y2 y3 y4 y5 y6 y7 y8 y9 y10 y11 y12 y13) (laws_FnExactMomentsOfRule.j0 (k + 1) y0 y1 y2 y3 y4 y5 y6 y7 y8 y9 y10 y11 y12 y13)) ∧ (∀ y0 y1 y2 y3 y4 y5 y6 y7 y8 y9, LeO (laws_FnExactMomentsOfRule.j1 k y0 y1 y2 y3 y4 y5 y6 y7 y8 y9) (laws_FnExactMomentsOfRule.j1 (k + 1) y0 y1 y2 y3 y4 y5 y6 y7 y8 y9)) ∧ (∀ y0 y1 y2 y3, LeO (laws_FnExactMomentsOfRule.j2 k y0 y1 y2 y3) (laws_FnExactMomentsOfRule.j2 (k + 1) y0 y1 y2 y3))
 | 0 => ⟨fun _ _ _ _ _ _ _ _ _ _ _ _ _ _ r h => by simp [laws_FnExactMomentsOfRule.j0] at h, fun _ _ _ _ _ _ _ _ _ _ r h => by simp [laws_FnExactMomentsOfRule.j1] at h, fun _ _ _ _ r h => by simp [laws_FnExactMomentsOfRule.j2] at h⟩
 | k + 1 => by
  obtain ⟨ih0, ih1, ih2⟩ := laws_FnExactMomentsOfRule.mono_l k
  refine ⟨?_, ?_, ?_⟩
  ·intro y0 y1 y2 y3 y4 y5 y6 y7 y8 y9 y10 y11 y12 y13
   unfold laws_FnExactMomentsOfRule.j0
   repeat' first
   | (with_reducible exact ih0 _ _ _ _ _ _ _ _ _ _ _ _ _ _)
   | (with_reducible exact ih1 _ _ _ _ _ _ _ _ _ _)
   | (with_reducible exact ih2 _ _ _ _)
   | (with_reducible exact impl_MomentsOfRule.mono _ _ _ _ _)
   | (with_reducible exact laws_eqMoments.mono _ _ _ _ _)
   | (with_reducible exact laws_eqRule.mono _ _ _ _ _ _ _)
   | (with_reducible exact laws_heldMoments.mono _ _ _ _)
   | (with_reducible exact laws_markMoments.mono _ _ _ _)
   | (with_reducible exact laws_markRule.mono _ _ _ _ _)
   | (with_reducible exact laws_toRule.mono _ _ _ _)
   | (with_reducible exact spec_MomentsOfRule.mono _ _ _ _ _)
   | (with_reducible exact LeO.refl _)
   | (with_reducible exact LeO.none _)
   | (with_reducible refine LeO.ite ?_ ?_)
   | (with_reducible refine LeO.bind ?_ (fun _ => ?_))
   | exact ih0 _ _ _ _ _ _ _ _ _ _ _ _ _ _
   | exact ih1 _ _ _ _ _ _ _ _ _ _
   | exact ih2 _ _ _ _
   | exact impl_MomentsOfRule.mono _ _ _ _ _
   | exact laws_eqMoments.mono _ _ _ _ _
   | exact laws_eqRule.mono _ _ _ _ _ _ _
   | exact laws_heldMoments.mono _ _ _ _
   | exact laws_markMoments.mono _ _ _ _
   | exact laws_markRule.mono _ _ _ _ _
   | exact laws_toRule.mono _ _ _ _
   | exact spec_MomentsOfRule.mono _ _ _ _ _
   | exact LeO.none _
   | refine LeO.ite ?_ ?_
   | refine LeO.bind ?_ (fun _ => ?_)
  ·intro y0 y1 y2 y3 y4 y5 y6 y7 y8 y9
   unfold laws_FnExactMomentsOfRule.j1
   repeat' first
   | (with_reducible exact ih0 _ _ _ _ _ _ _ _ _ _ _ _ _ _)
   | (with_reducible exact ih1 _ _ _ _ _ _ _ _ _ _)
   | (with_reducible exact ih2 _ _ _ _)
   | (with_reducible exact impl_MomentsOfRule.mono _ _ _ _ _)
   | (with_reducible exact laws_eqMoments.mono _ _ _ _ _)
   | (with_reducible exact laws_eqRule.mono _ _ _ _ _ _ _)
   | (with_reducible exact laws_heldMoments.mono _ _ _ _)
   | (with_reducible exact laws_markMoments.mono _ _ _ _)
   | (with_reducible exact laws_markRule.mono _ _ _ _ _)
   | (with_reducible exact laws_toRule.mono _ _ _ _)
   | (with_reducible exact spec_MomentsOfRule.mono _ _ _ _ _)
   | (with_reducible exact LeO.refl _)
   | (with_reducible exact LeO.none _)
   | (with_reducible refine LeO.ite ?_ ?_)
   | (with_reducible refine LeO.bind ?_ (fun _ => ?_))
   | exact ih0 _ _ _ _ _ _ _ _ _ _ _ _ _ _
   | exact ih1 _ _ _ _ _ _ _ _ _ _
   | exact ih2 _ _ _ _
   | exact impl_MomentsOfRule.mono _ _ _ _ _
   | exact laws_eqMoments.mono _ _ _ _ _
   | exact laws_eqRule.mono _ _ _ _ _ _ _
   | exact laws_heldMoments.mono _ _ _ _
   | exact laws_markMoments.mono _ _ _ _
   | exact laws_markRule.mono _ _ _ _ _
   | exact laws_toRule.mono _ _ _ _
   | exact spec_MomentsOfRule.mono _ _ _ _ _
   | exact LeO.none _
   | refine LeO.ite ?_ ?_
   | refine LeO.bind ?_ (fun _ => ?_)
  ·intro y0 y1 y2 y3
   unfold laws_FnExactMomentsOfRule.j2
   repeat' first
   | (with_reducible exact ih0 _ _ _ _ _ _ _ _ _ _ _ _ _ _)
   | (with_reducible exact ih1 _ _ _ _ _ _ _ _ _ _)
   | (with_reducible exact ih2 _ _ _ _)
   | (with_reducible exact impl_MomentsOfRule.mono _ _ _ _ _)
   | (with_reducible exact laws_eqMoments.mono _ _ _ _ _)
   | (with_reducible exact laws_eqRule.mono _ _ _ _ _ _ _)
   | (with_reducible exact laws_heldMoments.mono _ _ _ _)
   | (with_reducible exact laws_markMoments.mono _ _ _ _)
   | (with_reducible exact laws_markRule.mono _ _ _ _ _)
   | (with_reducible exact laws_toRule.mono _ _ _ _)
   | (with_reducible exact spec_MomentsOfRule.mono _ _ _ _ _)
   | (with_reducible exact LeO.refl _)
   | (with_reducible exact LeO.none _)
   | (with_reducible refine LeO.ite ?_ ?_)
   | (with_reducible refine LeO.bind ?_ (fun _ => ?_))
   | exact ih0 _ _ _ _ _ _ _ _ _ _ _ _ _ _
   | exact ih1 _ _ _ _ _ _ _ _ _ _
   | exact ih2 _ _ _ _
   | exact impl_MomentsOfRule.mono _ _ _ _ _
   | exact laws_eqMoments.mono _ _ _ _ _
   | exact laws_eqRule.mono _ _ _ _ _ _ _
   | exact laws_heldMoments.mono _ _ _ _
   | exact laws_markMoments.mono _ _ _ _
   | exact laws_markRule.mono _ _ _ _ _
   | exact laws_toRule.mono _ _ _ _
   | exact spec_MomentsOfRule.mono _ _ _ _ _
   | exact LeO.none _
   | refine LeO.ite ?_ ?_
   | refine LeO.bind ?_ (fun _ => ?_)
theorem laws_FnExactMomentsOfRule.mono : ∀ a0 a1 a2 a3 k, LeO (laws_FnExactMomentsOfRule.f k a0 a1 a2 a3) (laws_FnExactMomentsOfRule.f (k + 1) a0 a1 a2 a3) := by
 intro a0 a1 a2 a3 k
 obtain ⟨ih0, ih1, ih2⟩ := laws_FnExactMomentsOfRule.mono_l k
 unfold laws_FnExactMomentsOfRule.f
 repeat' first
   | (with_reducible exact ih0 _ _ _ _ _ _ _ _ _ _ _ _ _ _)
   | (with_reducible exact ih1 _ _ _ _ _ _ _ _ _ _)
   | (with_reducible exact ih2 _ _ _ _)
   | (with_reducible exact impl_MomentsOfRule.mono _ _ _ _ _)
   | (with_reducible exact laws_eqMoments.mono _ _ _ _ _)
   | (with_reducible exact laws_eqRule.mono _ _ _ _ _ _ _)
   | (with_reducible exact laws_heldMoments.mono _ _ _ _)
   | (with_reducible exact laws_markMoments.mono _ _ _ _)
   | (with_reducible exact laws_markRule.mono _ _ _ _ _)
   | (with_reducible exact laws_toRule.mono _ _ _ _)
   | (with_reducible exact spec_MomentsOfRule.mono _ _ _ _ _)
   | (with_reducible exact LeO.refl _)
   | (with_reducible exact LeO.none _)
   | (with_reducible refine LeO.ite ?_ ?_)
   | (with_reducible refine LeO.bind ?_ (fun _ => ?_))
   | exact ih0 _ _ _ _ _ _ _ _ _ _ _ _ _ _
   | exact ih1 _ _ _ _ _ _ _ _ _ _
   | exact ih2 _ _ _ _
   | exact impl_MomentsOfRule.mono _ _ _ _ _
   | exact laws_eqMoments.mono _ _ _ _ _
   | exact laws_eqRule.mono _ _ _ _ _ _ _
   | exact laws_heldMoments.mono _ _ _ _
   | exact laws_markMoments.mono _ _ _ _
   | exact laws_markRule.mono _ _ _ _ _
   | exact laws_toRule.mono _ _ _ _
   | exact spec_MomentsOfRule.mono _ _ _ _ _
   | exact LeO.none _
   | refine LeO.ite ?_ ?_
   | refine LeO.bind ?_ (fun _ => ?_)
set_option maxHeartbeats 8000000 in
set_option maxRecDepth 100000 in
theorem laws_FnExactMomentsOfRule.calls (k : Nat) (a0_0 : Int) (A0_1 : Option Addr) (c0_1 : Nat) (l0_1 : List Int) (A0_2 : Option Addr) (c0_2 : Nat) (l0_2 : List Int) (a1 : Int) (r : Bool) (hr_ : r = true) (w : World) (hr0_1 : Kd.C (Kd.int .i64) w A0_1 l0_1.length l0_1) (hc0_1 : l0_1.length ≤ c0_1) (hr0_2 : Kd.C (Kd.int .i64) w A0_2 l0_2.length l0_2) (hc0_2 : l0_2.length ≤ c0_2) (h : laws_FnExactMomentsOfRule.f k a0_0 l0_1 l0_2 a1 = some r) :
  Calls Try.prog 6 #[.agg #[.int .i64 a0_0, .slice A0_1 l0_1.length c0_1, .slice A0_2 l0_2.length c0_2], .int .i64 a1] w fun e w' => e = .returned (.bool r) ∧ Below w.heap.size w w' := by
 have hu24 := Try.underlying24
 have hu42 := Try.underlying42
 have hu26 := Try.underlying26
 have HRT := zA hr_
 clear hr_
 have HR0_1 := zA hr0_1
 have HC0_1 := zA hc0_1
 clear hr0_1 hc0_1
 have HR0_2 := zA hr0_2
 have HC0_2 := zA hc0_2
 clear hr0_2 hc0_2
 have HB := zA (Below.refl w.heap.size w)
 have H : ((laws_szRule.f a0_0 l0_1 l0_2 1048576).bind fun t473 => (if t473 < 0 then (some true) else ((laws_toRule.f k a0_0 l0_1 l0_2).bind fun bt474 => ((spec_MomentsOfRule.f k bt474.1 bt474.2.1 bt474.2.2 a1).bind fun bt481 => ((laws_toRule.f k a0_0 l0_1 l0_2).bind fun bt487 => ((impl_MomentsOfRule.f k bt487.1 bt487.2.1 bt487.2.2 a1).bind fun bt495 => ((laws_eqMoments.f k bt495.1 bt495.2.1 bt481.1 bt481.2.1).bind fun t501 => (if t501 = true then (laws_FnExactMomentsOfRule.j0 k a1 bt481.2.2 bt495.2.2 (bt495.2.2 != bt481.2.2) a0_0 l0_1 l0_2 bt481.1 bt481.2.1 bt487.1 bt487.2.1 bt487.2.2 bt495.1 bt495.2.1) else (laws_FnExactMomentsOfRule.j0 k a1 bt481.2.2 bt495.2.2 true a0_0 l0_1 l0_2 bt481.1 bt481.2.1 bt487.1 bt487.2.1 bt487.2.2 bt495.1 bt495.2.1))))))))) = some r := h
 clear h
 replace H := Option.bind_eq_some_iff.mp H
 obtain ⟨t473, A30, H⟩ := H
 replace H : (if t473 < 0 then (some true) else ((laws_toRule.f k a0_0 l0_1 l0_2).bind fun bt474 => ((spec_MomentsOfRule.f k bt474.1 bt474.2.1 bt474.2.2 a1).bind fun bt481 => ((laws_toRule.f k a0_0 l0_1 l0_2).bind fun bt487 => ((impl_MomentsOfRule.f k bt487.1 bt487.2.1 bt487.2.2 a1).bind fun bt495 => ((laws_eqMoments.f k bt495.1 bt495.2.1 bt481.1 bt481.2.1).bind fun t501 => (if t501 = true then (laws_FnExactMomentsOfRule.j0 k a1 bt481.2.2 bt495.2.2 (bt495.2.2 != bt481.2.2) a0_0 l0_1 l0_2 bt481.1 bt481.2.1 bt487.1 bt487.2.1 bt487.2.2 bt495.1 bt495.2.1) else (laws_FnExactMomentsOfRule.j0 k a1 bt481.2.2 bt495.2.2 true a0_0 l0_1 l0_2 bt481.1 bt481.2.1 bt487.1 bt487.2.1 bt487.2.2 bt495.1 bt495.2.1)))))))) = some r := H
 have A3 := zA A30
 clear A30
 by_cases c4 : t473 < 0
 ·rw [if_pos c4] at H
  have c4b0 : decide (t473 < 0) = true := decide_eq_true c4
  clear c4
  obtain rfl := Option.some.inj H
  go_enter Try.func6, Try.ntmps6
  go_wp2_with (first | ((with_reducible refine gate_dst (N := 2) rfl ?_); refine box_event ?hg (N := 2) ?hd (cs := #[.int .i64 a0_0, .slice A0_1 l0_1.length c0_1, .slice A0_2 l0_2.length c0_2]) (t := 24) ?hr ?_; (case hd => rfl); (case hg => rfl); (case hr => first | (go_simp; done) | (go_simp; rfl)); intro gb472 hg w5 hbox hb; have n0_ := xH HB hb; have n1_ := zA (hbox); have n2_ := zA ((by rw [hg]; exact (below_size (uH HB.out)) : w.heap.size ≤ gb472)); have n3_ := zA ((by rw [hg]; exact (below_size (uH HB.out)) : w.heap.size ≤ gb472)); clear HB; have HB := n0_; have BK472 := n1_; have GW472 := n2_; have GE472 := n3_; have := geI GE472; clear n0_ n1_ n2_ n3_ hb hbox hg; have hcz6_0 : w5.cell? ⟨gb472, 0, none⟩ = some (.int .i64 a0_0) := (blk_cell BK472.out 0).trans rfl; have hcz6_1 : w5.cell? ⟨gb472, 1, none⟩ = some (.slice A0_1 l0_1.length c0_1) := (blk_cell BK472.out 1).trans rfl; have hcz6_2 : w5.cell? ⟨gb472, 2, none⟩ = some (.slice A0_2 l0_2.length c0_2) := (blk_cell BK472.out 2).trans rfl; have hfz6_0 := blk_frozen BK472.out 0; have hfz6_1 := blk_frozen BK472.out 1; have hfz6_2 := blk_frozen BK472.out 2) | ((with_reducible refine gate_callee (f := 13) rfl ?_); refine goesL_ (some 18) rfl rfl Try.func13 (by kernel_rfl) rfl #[.agg #[.int .i64 a0_0, .slice A0_1 l0_1.length c0_1, .slice A0_2 l0_2.length c0_2], .int .i64 1048576] rfl (by (try simp only [la, lb, lc]); first | done | rfl | (simp only [ld, le]; rfl)) ?_; (with_reducible refine (laws_szRule.calls a0_0 _ _ l0_1 _ _ l0_2 1048576 t473 _ ?side1 ?side2 ?side3 ?side4 A3.out).mono ?_); (case side1 => exact uC ((Kd.C_below HR0_1.out HB.out))); (case side2 => exact HC0_1.out); (case side3 => exact uC ((Kd.C_below HR0_2.out HB.out))); (case side4 => exact HC0_2.out); rintro e w7 ⟨rfl, hb⟩; refine ⟨_, rfl, ?_⟩; have n0_ := xB BK472 hb; have n1_ := xH HB hb; clear BK472 HB; have BK472 := n0_; have HB := n1_; clear n0_ n1_; (try clear hb); (try clear hb2); (try clear hk); (try clear hi)))
  go_ret
  exact ⟨by first | rfl | (simp [errW_none, errW_some] <;> rfl) | (simp [*, errW_none, errW_some] <;> rfl), uH HB.out⟩
 ·rw [if_neg c4] at H
  have c4b0 : decide (t473 < 0) = false := decide_eq_false c4
  clear c4
  replace H := Option.bind_eq_some_iff.mp H
  obtain ⟨⟨t474, t475, t478⟩, A80, H⟩ := H
  replace H : ((spec_MomentsOfRule.f k t474 t475 t478 a1).bind fun bt481 => ((laws_toRule.f k a0_0 l0_1 l0_2).bind fun bt487 => ((impl_MomentsOfRule.f k bt487.1 bt487.2.1 bt487.2.2 a1).bind fun bt495 => ((laws_eqMoments.f k bt495.1 bt495.2.1 bt481.1 bt481.2.1).bind fun t501 => (if t501 = true then (laws_FnExactMomentsOfRule.j0 k a1 bt481.2.2 bt495.2.2 (bt495.2.2 != bt481.2.2) a0_0 l0_1 l0_2 bt481.1 bt481.2.1 bt487.1 bt487.2.1 bt487.2.2 bt495.1 bt495.2.1) else (laws_FnExactMomentsOfRule.j0 k a1 bt481.2.2 bt495.2.2 true a0_0 l0_1 l0_2 bt481.1 bt481.2.1 bt487.1 bt487.2.1 bt487.2.2 bt495.1 bt495.2.1)))))) = some r := H
  have A8 := zA A80
  clear A80
  replace H := Option.bind_eq_some_iff.mp H
  obtain ⟨⟨t481, t482, t485⟩, A90, H⟩ := H
  replace H : ((laws_toRule.f k a0_0 l0_1 l0_2).bind fun bt487 => ((impl_MomentsOfRule.f k bt487.1 bt487.2.1 bt487.2.2 a1).bind fun bt495 => ((laws_eqMoments.f k bt495.1 bt495.2.1 t481 t482).bind fun t501 => (if t501 = true then (laws_FnExactMomentsOfRule.j0 k a1 t485 bt495.2.2 (bt495.2.2 != t485) a0_0 l0_1 l0_2 t481 t482 bt487.1 bt487.2.1 bt487.2.2 bt495.1 bt495.2.1) else (laws_FnExactMomentsOfRule.j0 k a1 t485 bt495.2.2 true a0_0 l0_1 l0_2 t481 t482 bt487.1 bt487.2.1 bt487.2.2 bt495.1 bt495.2.1))))) = some r := H
  have A9 := zA A90
  clear A90
  replace H := Option.bind_eq_some_iff.mp H
  obtain ⟨⟨t487, t488, t491⟩, A100, H⟩ := H
  replace H : ((impl_MomentsOfRule.f k t487 t488 t491 a1).bind fun bt495 => ((laws_eqMoments.f k bt495.1 bt495.2.1 t481 t482).bind fun t501 => (if t501 = true then (laws_FnExactMomentsOfRule.j0 k a1 t485 bt495.2.2 (bt495.2.2 != t485) a0_0 l0_1 l0_2 t481 t482 t487 t488 t491 bt495.1 bt495.2.1) else (laws_FnExactMomentsOfRule.j0 k a1 t485 bt495.2.2 true a0_0 l0_1 l0_2 t481 t482 t487 t488 t491 bt495.1 bt495.2.1)))) = some r := H
  have A10 := zA A100
  clear A100
  replace H := Option.bind_eq_some_iff.mp H
  obtain ⟨⟨t495, t496, t499⟩, A110, H⟩ := H
  replace H : ((laws_eqMoments.f k t495 t496 t481 t482).bind fun t501 => (if t501 = true then (laws_FnExactMomentsOfRule.j0 k a1 t485 t499 (t499 != t485) a0_0 l0_1 l0_2 t481 t482 t487 t488 t491 t495 t496) else (laws_FnExactMomentsOfRule.j0 k a1 t485 t499 true a0_0 l0_1 l0_2 t481 t482 t487 t488 t491 t495 t496))) = some r := H
  have A11 := zA A110
  clear A110
  have HC12 := zA H
  clear H
  go_enter Try.func6, Try.ntmps6
  go_upto_region 8 with (first | ((with_reducible refine gate_dst (N := 2) rfl ?_); refine box_event ?hg (N := 2) ?hd (cs := #[.int .i64 a0_0, .slice A0_1 l0_1.length c0_1, .slice A0_2 l0_2.length c0_2]) (t := 24) ?hr ?_; (case hd => rfl); (case hg => rfl); (case hr => first | (go_simp; done) | (go_simp; rfl)); intro gb472 hg w13 hbox hb; have n0_ := xH HB hb; have n1_ := zA (hbox); have n2_ := zA ((by rw [hg]; exact (below_size (uH HB.out)) : w.heap.size ≤ gb472)); have n3_ := zA ((by rw [hg]; exact (below_size (uH HB.out)) : w.heap.size ≤ gb472)); clear HB; have HB := n0_; have BK472 := n1_; have GW472 := n2_; have GE472 := n3_; have := geI GE472; clear n0_ n1_ n2_ n3_ hb hbox hg; have hcz14_0 : w13.cell? ⟨gb472, 0, none⟩ = some (.int .i64 a0_0) := (blk_cell BK472.out 0).trans rfl; have hcz14_1 : w13.cell? ⟨gb472, 1, none⟩ = some (.slice A0_1 l0_1.length c0_1) := (blk_cell BK472.out 1).trans rfl; have hcz14_2 : w13.cell? ⟨gb472, 2, none⟩ = some (.slice A0_2 l0_2.length c0_2) := (blk_cell BK472.out 2).trans rfl; have hfz14_0 := blk_frozen BK472.out 0; have hfz14_1 := blk_frozen BK472.out 1; have hfz14_2 := blk_frozen BK472.out 2) | ((with_reducible refine gate_callee (f := 13) rfl ?_); refine goesL_ (some 18) rfl rfl Try.func13 (by kernel_rfl) rfl #[.agg #[.int .i64 a0_0, .slice A0_1 l0_1.length c0_1, .slice A0_2 l0_2.length c0_2], .int .i64 1048576] rfl (by (try simp only [la, lb, lc]); first | done | rfl | (simp only [ld, le]; rfl)) ?_; (with_reducible refine (laws_szRule.calls a0_0 _ _ l0_1 _ _ l0_2 1048576 t473 _ ?side1 ?side2 ?side3 ?side4 A3.out).mono ?_); (case side1 => exact uC ((Kd.C_below HR0_1.out HB.out))); (case side2 => exact HC0_1.out); (case side3 => exact uC ((Kd.C_below HR0_2.out HB.out))); (case side4 => exact HC0_2.out); rintro e w15 ⟨rfl, hb⟩; refine ⟨_, rfl, ?_⟩; have n0_ := xB BK472 hb; have n1_ := xH HB hb; clear BK472 HB; have BK472 := n0_; have HB := n1_; clear n0_ n1_; (try clear hb); (try clear hb2); (try clear hk); (try clear hi); have hcz16_0 : w15.cell? ⟨gb472, 0, none⟩ = some (.int .i64 a0_0) := (blk_cell BK472.out 0).trans rfl; have hcz16_1 : w15.cell? ⟨gb472, 1, none⟩ = some (.slice A0_1 l0_1.length c0_1) := (blk_cell BK472.out 1).trans rfl; have hcz16_2 : w15.cell? ⟨gb472, 2, none⟩ = some (.slice A0_2 l0_2.length c0_2) := (blk_cell BK472.out 2).trans rfl; have hfz16_0 := blk_frozen BK472.out 0; have hfz16_1 := blk_frozen BK472.out 1; have hfz16_2 := blk_frozen BK472.out 2) | ((with_reducible refine gate_callee (f := 15) rfl ?_); refine goesL_ (some 23) rfl rfl Try.func15 (by kernel_rfl) rfl #[.agg #[.int .i64 a0_0, .slice A0_1 l0_1.length c0_1, .slice A0_2 l0_2.length c0_2]] rfl (by (try simp only [la, lb, lc]); first | done | rfl | (simp only [ld, le]; rfl)) ?_; (with_reducible refine (laws_toRule.calls k a0_0 _ _ l0_1 _ _ l0_2 t474 t475 t478 _ ?side1 ?side2 ?side3 ?side4 A8.out).mono ?_); (case side1 => exact uC ((Kd.C_below HR0_1.out HB.out))); (case side2 => exact HC0_1.out); (case side3 => exact uC ((Kd.C_below HR0_2.out HB.out))); (case side4 => exact HC0_2.out); rintro e w17 ⟨v476, v479, rfl, ho0, ho1, hb⟩; refine ⟨_, rfl, ?_⟩; have n0_ := zA (Kd.R_lower ho0 (below_size (uH HB.out))); have n1_ := zA (Kd.R_lower ho1 (below_size (uH HB.out))); have n2_ := xB BK472 hb; have n3_ := xH HB hb; clear BK472 HB; have HO477 := n0_; have HO480 := n1_; have BK472 := n2_; have HB := n3_; clear n0_ n1_ n2_ n3_; (try clear hb); (try clear hb2); (try clear hk); (try clear hi); (try clear ho0); (try clear ho1); obtain ⟨Ao18, co18, eo18⟩ := Kd.R_slice HO477.out; subst eo18; obtain ⟨Ao19, co19, eo19⟩ := Kd.R_slice HO480.out; subst eo19) | ((with_reducible refine gate_callee (f := 28) rfl ?_); refine goesL_ (some 25) rfl rfl Try.func28 (by kernel_rfl) rfl #[.agg #[.int .i64 t474, .slice Ao18 t475.length co18, .slice Ao19 t478.length co19], .int .i64 a1] rfl (by (try simp only [la, lb, lc]); first | done | rfl | (simp only [ld, le]; rfl)) ?_; (with_reducible refine (spec_MomentsOfRule.calls k t474 _ _ t475 _ _ t478 a1 t481 t482 t485 _ ?side1 ?side2 ?side3 ?side4 A9.out).mono ?_); (case side1 => exact uC ((Kd.R_reads' HO477.out).2.2)); (case side2 => exact (Kd.R_reads' HO477.out).2.1); (case side3 => exact uC ((Kd.R_reads' HO480.out).2.2)); (case side4 => exact (Kd.R_reads' HO480.out).2.1); rintro e w20 ⟨v483, rfl, ho0, hb⟩; refine ⟨_, rfl, ?_⟩; have n0_ := zA (Kd.R_elder' (uR HO477.out) (Kd.R_base ho0) hb); have n1_ := zA (Kd.R_elder' (uR HO480.out) (Kd.R_base ho0) hb); have n2_ := zA (Kd.R_lower (Kd.R_new' (Kd.R_new' ho0 (Kd.R_lt (uR HO477.out))) (Kd.R_lt (uR HO480.out))) (below_size (uH HB.out))); have n3_ := xB BK472 hb; have n4_ := xH HB hb; clear HO477 HO480 BK472 HB; have HO477 := n0_; have HO480 := n1_; have HO484 := n2_; have BK472 := n3_; have HB := n4_; clear n0_ n1_ n2_ n3_ n4_; (try clear hb); (try clear hb2); (try clear hk); (try clear hi); (try clear ho0)) | ((with_reducible refine gate_dst (N := 6) rfl ?_); refine box_event ?hg (N := 6) ?hd (cs := #[.int .i64 0, .slice none 0 0]) (t := 42) ?hr ?_; (case hd => rfl); (case hg => rfl); (case hr => first | (go_simp; done) | (go_simp; rfl)); intro gb486 hg w21 hbox hb; have n0_ := xR HO477 hb; have n1_ := xR HO480 hb; have n2_ := xR HO484 hb; have n3_ := xB BK472 hb; have n4_ := xH HB hb; have n5_ := zA (hbox); have n6_ := zA ((by rw [hg]; exact (below_size (uH HB.out)) : w.heap.size ≤ gb486)); have n7_ := zA ((by rw [hg]; exact (below_size (uH HB.out)) : w.heap.size ≤ gb486)); have n8_ := zA ((by rw [hg]; exact neL BK472 : gb472 ≠ gb486)); have n9_ := zA ((by rw [hg]; exact neG BK472 : gb486 ≠ gb472)); clear HO477 HO480 HO484 BK472 HB; have HO477 := n0_; have HO480 := n1_; have HO484 := n2_; have BK472 := n3_; have HB := n4_; have BK486 := n5_; have GW486 := n6_; have GE486 := n7_; have := geI GE486; have NB472_486 := n8_; have NB486_472 := n9_; clear n0_ n1_ n2_ n3_ n4_ n5_ n6_ n7_ n8_ n9_ hb hbox hg; have hnb22 := NB486_472.out; have hnc22 := NB472_486.out; have hcz23_0 : w21.cell? ⟨gb486, 0, none⟩ = some (.int .i64 0) := (blk_cell BK486.out 0).trans rfl; have hcz23_1 : w21.cell? ⟨gb486, 1, none⟩ = some (.slice none 0 0) := (blk_cell BK486.out 1).trans rfl; have hfz23_0 := blk_frozen BK486.out 0; have hfz23_1 := blk_frozen BK486.out 1; obtain ⟨Ao24, co24, eo24⟩ := Kd.R_slice HO484.out; subst eo24; have hcz25_0 : w21.cell? ⟨gb472, 0, none⟩ = some (.int .i64 a0_0) := (blk_cell BK472.out 0).trans rfl; have hcz25_1 : w21.cell? ⟨gb472, 1, none⟩ = some (.slice A0_1 l0_1.length c0_1) := (blk_cell BK472.out 1).trans rfl; have hcz25_2 : w21.cell? ⟨gb472, 2, none⟩ = some (.slice A0_2 l0_2.length c0_2) := (blk_cell BK472.out 2).trans rfl; have hfz25_0 := blk_frozen BK472.out 0; have hfz25_1 := blk_frozen BK472.out 1; have hfz25_2 := blk_frozen BK472.out 2) | ((with_reducible refine gate_callee (f := 15) rfl ?_); refine goesL_ (some 29) rfl rfl Try.func15 (by kernel_rfl) rfl #[.agg #[.int .i64 a0_0, .slice A0_1 l0_1.length c0_1, .slice A0_2 l0_2.length c0_2]] rfl (by (try simp only [la, lb, lc]); first | done | rfl | (simp only [ld, le]; rfl)) ?_; (with_reducible refine (laws_toRule.calls k a0_0 _ _ l0_1 _ _ l0_2 t487 t488 t491 _ ?side1 ?side2 ?side3 ?side4 A10.out).mono ?_); (case side1 => exact Kd.C_below HR0_1.out (uH HB.out)); (case side2 => exact HC0_1.out); (case side3 => exact Kd.C_below HR0_2.out (uH HB.out)); (case side4 => exact HC0_2.out); rintro e w26 ⟨v489, v492, rfl, ho0, ho1, hb⟩; refine ⟨_, rfl, ?_⟩; have n0_ := zA (Kd.R_mono (Kd.R_told (Kd.R_told (Kd.R_old (uR ((Kd.R_mono (Kd.R_far (p := ⟨gb486, 1, none⟩) (Kd.R_far (p := ⟨gb486, 0, none⟩) (Kd.R_types HO477.out BK486.out (by decide)) (fun _ hk => hk.2) (.int .i64 t481)) (fun _ hk => hk.2) (.slice Ao24 t482.length co24)) (fun _ h_ => h_.1)))) hb) (Kd.R_base ho0)) (Kd.R_base ho1)) (fun _ h_ => h_.1)); have n1_ := zA (Kd.R_mono (Kd.R_told (Kd.R_told (Kd.R_old (uR ((Kd.R_mono (Kd.R_far (p := ⟨gb486, 1, none⟩) (Kd.R_far (p := ⟨gb486, 0, none⟩) (Kd.R_types HO480.out BK486.out (by decide)) (fun _ hk => hk.2) (.int .i64 t481)) (fun _ hk => hk.2) (.slice Ao24 t482.length co24)) (fun _ h_ => h_.1)))) hb) (Kd.R_base ho0)) (Kd.R_base ho1)) (fun _ h_ => h_.1)); have n2_ := zA (Kd.R_mono (Kd.R_told (Kd.R_told (Kd.R_old (uR ((Kd.R_mono (Kd.R_far (p := ⟨gb486, 1, none⟩) (Kd.R_far (p := ⟨gb486, 0, none⟩) (Kd.R_types HO484.out BK486.out (by decide)) (fun _ hk => hk.2) (.int .i64 t481)) (fun _ hk => hk.2) (.slice Ao24 t482.length co24)) (fun _ h_ => h_.1)))) hb) (Kd.R_base ho0)) (Kd.R_base ho1)) (fun _ h_ => h_.1)); have n3_ := zA (Kd.R_lower (Kd.R_new' (Kd.R_new' (Kd.R_new' ho0 (Kd.R_lt (uR ((Kd.R_mono (Kd.R_far (p := ⟨gb486, 1, none⟩) (Kd.R_far (p := ⟨gb486, 0, none⟩) (Kd.R_types HO477.out BK486.out (by decide)) (fun _ hk => hk.2) (.int .i64 t481)) (fun _ hk => hk.2) (.slice Ao24 t482.length co24)) (fun _ h_ => h_.1)))))) (Kd.R_lt (uR ((Kd.R_mono (Kd.R_far (p := ⟨gb486, 1, none⟩) (Kd.R_far (p := ⟨gb486, 0, none⟩) (Kd.R_types HO480.out BK486.out (by decide)) (fun _ hk => hk.2) (.int .i64 t481)) (fun _ hk => hk.2) (.slice Ao24 t482.length co24)) (fun _ h_ => h_.1)))))) (Kd.R_lt (uR ((Kd.R_mono (Kd.R_far (p := ⟨gb486, 1, none⟩) (Kd.R_far (p := ⟨gb486, 0, none⟩) (Kd.R_types HO484.out BK486.out (by decide)) (fun _ hk => hk.2) (.int .i64 t481)) (fun _ hk => hk.2) (.slice Ao24 t482.length co24)) (fun _ h_ => h_.1)))))) (below_size (uH HB.out))); have n4_ := zA (Kd.R_lower (Kd.R_new' (Kd.R_new' (Kd.R_new' ho1 (Kd.R_lt (uR ((Kd.R_mono (Kd.R_far (p := ⟨gb486, 1, none⟩) (Kd.R_far (p := ⟨gb486, 0, none⟩) (Kd.R_types HO477.out BK486.out (by decide)) (fun _ hk => hk.2) (.int .i64 t481)) (fun _ hk => hk.2) (.slice Ao24 t482.length co24)) (fun _ h_ => h_.1)))))) (Kd.R_lt (uR ((Kd.R_mono (Kd.R_far (p := ⟨gb486, 1, none⟩) (Kd.R_far (p := ⟨gb486, 0, none⟩) (Kd.R_types HO480.out BK486.out (by decide)) (fun _ hk => hk.2) (.int .i64 t481)) (fun _ hk => hk.2) (.slice Ao24 t482.length co24)) (fun _ h_ => h_.1)))))) (Kd.R_lt (uR ((Kd.R_mono (Kd.R_far (p := ⟨gb486, 1, none⟩) (Kd.R_far (p := ⟨gb486, 0, none⟩) (Kd.R_types HO484.out BK486.out (by decide)) (fun _ hk => hk.2) (.int .i64 t481)) (fun _ hk => hk.2) (.slice Ao24 t482.length co24)) (fun _ h_ => h_.1)))))) (below_size (uH HB.out))); have n5_ := zA (blk_below (g := gb472) (o := .cells #[.int .i64 a0_0, .slice A0_1 l0_1.length c0_1, .slice A0_2 l0_2.length c0_2] 24 (0, 0)) (by (with_reducible repeat (first | refine blk_drewN ?_ _ | refine blk_drew ?_ | refine blk_alloc ?_ _)); refine blk_far ?_ NB472_486.out _; (with_reducible repeat (first | refine blk_drewN ?_ _ | refine blk_drew ?_ | refine blk_alloc ?_ _)); refine blk_far ?_ NB472_486.out _; (with_reducible repeat (first | refine blk_drewN ?_ _ | refine blk_drew ?_ | refine blk_alloc ?_ _)); exact BK472.out) hb); have n6_ := zA (blk_below (g := gb486) (o := .cells #[.int .i64 t481, .slice Ao24 t482.length co24] 42 (0, 0)) (by (with_reducible repeat (first | refine blk_drewN ?_ _ | refine blk_drew ?_ | refine blk_alloc ?_ _)); refine blk_put (cs := #[.int .i64 t481, .slice none 0 0]) ?_ 1 _ rfl; (with_reducible repeat (first | refine blk_drewN ?_ _ | refine blk_drew ?_ | refine blk_alloc ?_ _)); refine blk_put (cs := #[.int .i64 0, .slice none 0 0]) ?_ 0 _ rfl; (with_reducible repeat (first | refine blk_drewN ?_ _ | refine blk_drew ?_ | refine blk_alloc ?_ _)); exact BK486.out) hb); have n7_ := xH HB hb; clear HO477 HO480 HO484 BK472 BK486 HB; have HO477 := n0_; have HO480 := n1_; have HO484 := n2_; have HO490 := n3_; have HO493 := n4_; have BK472 := n5_; have BK486 := n6_; have HB := n7_; clear n0_ n1_ n2_ n3_ n4_ n5_ n6_ n7_; (try clear hb); (try clear hb2); (try clear hk); (try clear hi); (try clear ho0); (try clear ho1)) | ((with_reducible refine gate_dst (N := 8) rfl ?_); refine box_event ?hg (N := 8) ?hd (cs := #[.int .i64 0, .slice none 0 0, .slice none 0 0]) (t := 26) ?hr ?_; (case hd => rfl); (case hg => rfl); (case hr => first | (go_simp; done) | (go_simp; rfl)); intro gb494 hg w27 hbox hb; have n0_ := xR HO477 hb; have n1_ := xR HO480 hb; have n2_ := xR HO484 hb; have n3_ := xR HO490 hb; have n4_ := xR HO493 hb; have n5_ := xB BK472 hb; have n6_ := xB BK486 hb; have n7_ := xH HB hb; have n8_ := zA (hbox); have n9_ := zA ((by rw [hg]; exact (below_size (uH HB.out)) : w.heap.size ≤ gb494)); have n10_ := zA ((by rw [hg]; exact (below_size (uH HB.out)) : w.heap.size ≤ gb494)); have n11_ := zA ((by rw [hg]; exact neL BK472 : gb472 ≠ gb494)); have n12_ := zA ((by rw [hg]; exact neG BK472 : gb494 ≠ gb472)); have n13_ := zA ((by rw [hg]; exact neL BK486 : gb486 ≠ gb494)); have n14_ := zA ((by rw [hg]; exact neG BK486 : gb494 ≠ gb486)); clear HO477 HO480 HO484 HO490 HO493 BK472 BK486 HB; have HO477 := n0_; have HO480 := n1_; have HO484 := n2_; have HO490 := n3_; have HO493 := n4_; have BK472 := n5_; have BK486 := n6_; have HB := n7_; have BK494 := n8_; have GW494 := n9_; have GE494 := n10_; have := geI GE494; have NB472_494 := n11_; have NB494_472 := n12_; have NB486_494 := n13_; have NB494_486 := n14_; clear n0_ n1_ n2_ n3_ n4_ n5_ n6_ n7_ n8_ n9_ n10_ n11_ n12_ n13_ n14_ hb hbox hg; have hnb28 := NB494_472.out; have hnc28 := NB472_494.out; have hnb29 := NB494_486.out; have hnc29 := NB486_494.out; have hcz30_0 : w27.cell? ⟨gb494, 0, none⟩ = some (.int .i64 0) := (blk_cell BK494.out 0).trans rfl; have hcz30_1 : w27.cell? ⟨gb494, 1, none⟩ = some (.slice none 0 0) := (blk_cell BK494.out 1).trans rfl; have hcz30_2 : w27.cell? ⟨gb494, 2, none⟩ = some (.slice none 0 0) := (blk_cell BK494.out 2).trans rfl; have hfz30_0 := blk_frozen BK494.out 0; have hfz30_1 := blk_frozen BK494.out 1; have hfz30_2 := blk_frozen BK494.out 2; obtain ⟨Ao31, co31, eo31⟩ := Kd.R_slice HO490.out; subst eo31; obtain ⟨Ao32, co32, eo32⟩ := Kd.R_slice HO493.out; subst eo32) | ((with_reducible refine gate_callee (f := 29) rfl ?_); refine goesL_ (some 33) rfl rfl Try.func29 (by kernel_rfl) rfl #[.agg #[.int .i64 t487, .slice Ao31 t488.length co31, .slice Ao32 t491.length co32], .int .i64 a1] rfl (by (try simp only [la, lb, lc]); first | done | rfl | (simp only [ld, le]; rfl)) ?_; (with_reducible refine (impl_MomentsOfRule.calls k t487 _ _ t488 _ _ t491 a1 t495 t496 t499 _ ?side1 ?side2 ?side3 ?side4 A11.out).mono ?_); (case side1 => refine (Kd.R_reads' (e := 2) (base := w.heap.size) (ok := fun k_ => (((some k_ ≠ (.slice Ao32 t491.length co32 : Value).ownBlock ∧ some k_ ≠ (.slice Ao18 t475.length co18 : Value).ownBlock) ∧ some k_ ≠ (.slice Ao19 t478.length co19 : Value).ownBlock) ∧ some k_ ≠ (.slice Ao24 t482.length co24 : Value).ownBlock)) (n := t488.length) (c := co31) ?_).2.2; exact (uR ((Kd.R_mono (Kd.R_far (p := ⟨gb494, 2, none⟩) (Kd.R_far (p := ⟨gb494, 1, none⟩) (Kd.R_far (p := ⟨gb494, 0, none⟩) (Kd.R_types HO490.out BK494.out (by decide)) (fun _ hk => hk.2) (.int .i64 t487)) (fun _ hk => hk.2) (.slice Ao31 t488.length co31)) (fun _ hk => hk.2) (.slice Ao32 t491.length co32)) (fun _ h_ => h_.1))))); (case side2 => exact (Kd.R_reads' HO490.out).2.1); (case side3 => refine (Kd.R_reads' (e := 2) (base := w.heap.size) (ok := fun k_ => (((some k_ ≠ (.slice Ao31 t488.length co31 : Value).ownBlock ∧ some k_ ≠ (.slice Ao18 t475.length co18 : Value).ownBlock) ∧ some k_ ≠ (.slice Ao19 t478.length co19 : Value).ownBlock) ∧ some k_ ≠ (.slice Ao24 t482.length co24 : Value).ownBlock)) (n := t491.length) (c := co32) ?_).2.2; exact (uR ((Kd.R_mono (Kd.R_far (p := ⟨gb494, 2, none⟩) (Kd.R_far (p := ⟨gb494, 1, none⟩) (Kd.R_far (p := ⟨gb494, 0, none⟩) (Kd.R_types HO493.out BK494.out (by decide)) (fun _ hk => hk.2) (.int .i64 t487)) (fun _ hk => hk.2) (.slice Ao31 t488.length co31)) (fun _ hk => hk.2) (.slice Ao32 t491.length co32)) (fun _ h_ => h_.1))))); (case side4 => exact (Kd.R_reads' HO493.out).2.1); rintro e w33 ⟨v497, rfl, ho0, hb⟩; refine ⟨_, rfl, ?_⟩; have n0_ := zA (Kd.R_elder' (uR ((Kd.R_mono (Kd.R_far (p := ⟨gb494, 2, none⟩) (Kd.R_far (p := ⟨gb494, 1, none⟩) (Kd.R_far (p := ⟨gb494, 0, none⟩) (Kd.R_types HO477.out BK494.out (by decide)) (fun _ hk => hk.2) (.int .i64 t487)) (fun _ hk => hk.2) (.slice Ao31 t488.length co31)) (fun _ hk => hk.2) (.slice Ao32 t491.length co32)) (fun _ h_ => h_.1)))) (Kd.R_base ho0) hb); have n1_ := zA (Kd.R_elder' (uR ((Kd.R_mono (Kd.R_far (p := ⟨gb494, 2, none⟩) (Kd.R_far (p := ⟨gb494, 1, none⟩) (Kd.R_far (p := ⟨gb494, 0, none⟩) (Kd.R_types HO480.out BK494.out (by decide)) (fun _ hk => hk.2) (.int .i64 t487)) (fun _ hk => hk.2) (.slice Ao31 t488.length co31)) (fun _ hk => hk.2) (.slice Ao32 t491.length co32)) (fun _ h_ => h_.1)))) (Kd.R_base ho0) hb); have n2_ := zA (Kd.R_elder' (uR ((Kd.R_mono (Kd.R_far (p := ⟨gb494, 2, none⟩) (Kd.R_far (p := ⟨gb494, 1, none⟩) (Kd.R_far (p := ⟨gb494, 0, none⟩) (Kd.R_types HO484.out BK494.out (by decide)) (fun _ hk => hk.2) (.int .i64 t487)) (fun _ hk => hk.2) (.slice Ao31 t488.length co31)) (fun _ hk => hk.2) (.slice Ao32 t491.length co32)) (fun _ h_ => h_.1)))) (Kd.R_base ho0) hb); have n3_ := zA (Kd.R_elder' (uR ((Kd.R_mono (Kd.R_far (p := ⟨gb494, 2, none⟩) (Kd.R_far (p := ⟨gb494, 1, none⟩) (Kd.R_far (p := ⟨gb494, 0, none⟩) (Kd.R_types HO490.out BK494.out (by decide)) (fun _ hk => hk.2) (.int .i64 t487)) (fun _ hk => hk.2) (.slice Ao31 t488.length co31)) (fun _ hk => hk.2) (.slice Ao32 t491.length co32)) (fun _ h_ => h_.1)))) (Kd.R_base ho0) hb); have n4_ := zA (Kd.R_elder' (uR ((Kd.R_mono (Kd.R_far (p := ⟨gb494, 2, none⟩) (Kd.R_far (p := ⟨gb494, 1, none⟩) (Kd.R_far (p := ⟨gb494, 0, none⟩) (Kd.R_types HO493.out BK494.out (by decide)) (fun _ hk => hk.2) (.int .i64 t487)) (fun _ hk => hk.2) (.slice Ao31 t488.length co31)) (fun _ hk => hk.2) (.slice Ao32 t491.length co32)) (fun _ h_ => h_.1)))) (Kd.R_base ho0) hb); have n5_ := zA (Kd.R_lower (Kd.R_new' (Kd.R_new' (Kd.R_new' (Kd.R_new' (Kd.R_new' ho0 (Kd.R_lt (uR ((Kd.R_mono (Kd.R_far (p := ⟨gb494, 2, none⟩) (Kd.R_far (p := ⟨gb494, 1, none⟩) (Kd.R_far (p := ⟨gb494, 0, none⟩) (Kd.R_types HO477.out BK494.out (by decide)) (fun _ hk => hk.2) (.int .i64 t487)) (fun _ hk => hk.2) (.slice Ao31 t488.length co31)) (fun _ hk => hk.2) (.slice Ao32 t491.length co32)) (fun _ h_ => h_.1)))))) (Kd.R_lt (uR ((Kd.R_mono (Kd.R_far (p := ⟨gb494, 2, none⟩) (Kd.R_far (p := ⟨gb494, 1, none⟩) (Kd.R_far (p := ⟨gb494, 0, none⟩) (Kd.R_types HO480.out BK494.out (by decide)) (fun _ hk => hk.2) (.int .i64 t487)) (fun _ hk => hk.2) (.slice Ao31 t488.length co31)) (fun _ hk => hk.2) (.slice Ao32 t491.length co32)) (fun _ h_ => h_.1)))))) (Kd.R_lt (uR ((Kd.R_mono (Kd.R_far (p := ⟨gb494, 2, none⟩) (Kd.R_far (p := ⟨gb494, 1, none⟩) (Kd.R_far (p := ⟨gb494, 0, none⟩) (Kd.R_types HO484.out BK494.out (by decide)) (fun _ hk => hk.2) (.int .i64 t487)) (fun _ hk => hk.2) (.slice Ao31 t488.length co31)) (fun _ hk => hk.2) (.slice Ao32 t491.length co32)) (fun _ h_ => h_.1)))))) (Kd.R_lt (uR ((Kd.R_mono (Kd.R_far (p := ⟨gb494, 2, none⟩) (Kd.R_far (p := ⟨gb494, 1, none⟩) (Kd.R_far (p := ⟨gb494, 0, none⟩) (Kd.R_types HO490.out BK494.out (by decide)) (fun _ hk => hk.2) (.int .i64 t487)) (fun _ hk => hk.2) (.slice Ao31 t488.length co31)) (fun _ hk => hk.2) (.slice Ao32 t491.length co32)) (fun _ h_ => h_.1)))))) (Kd.R_lt (uR ((Kd.R_mono (Kd.R_far (p := ⟨gb494, 2, none⟩) (Kd.R_far (p := ⟨gb494, 1, none⟩) (Kd.R_far (p := ⟨gb494, 0, none⟩) (Kd.R_types HO493.out BK494.out (by decide)) (fun _ hk => hk.2) (.int .i64 t487)) (fun _ hk => hk.2) (.slice Ao31 t488.length co31)) (fun _ hk => hk.2) (.slice Ao32 t491.length co32)) (fun _ h_ => h_.1)))))) (below_size (uH HB.out))); have n6_ := zA (blk_below (g := gb472) (o := .cells #[.int .i64 a0_0, .slice A0_1 l0_1.length c0_1, .slice A0_2 l0_2.length c0_2] 24 (0, 0)) (by (with_reducible repeat (first | refine blk_drewN ?_ _ | refine blk_drew ?_ | refine blk_alloc ?_ _)); refine blk_far ?_ NB472_494.out _; (with_reducible repeat (first | refine blk_drewN ?_ _ | refine blk_drew ?_ | refine blk_alloc ?_ _)); refine blk_far ?_ NB472_494.out _; (with_reducible repeat (first | refine blk_drewN ?_ _ | refine blk_drew ?_ | refine blk_alloc ?_ _)); refine blk_far ?_ NB472_494.out _; (with_reducible repeat (first | refine blk_drewN ?_ _ | refine blk_drew ?_ | refine blk_alloc ?_ _)); exact BK472.out) hb); have n7_ := zA (blk_below (g := gb486) (o := .cells #[.int .i64 t481, .slice Ao24 t482.length co24] 42 (0, 0)) (by (with_reducible repeat (first | refine blk_drewN ?_ _ | refine blk_drew ?_ | refine blk_alloc ?_ _)); refine blk_far ?_ NB486_494.out _; (with_reducible repeat (first | refine blk_drewN ?_ _ | refine blk_drew ?_ | refine blk_alloc ?_ _)); refine blk_far ?_ NB486_494.out _; (with_reducible repeat (first | refine blk_drewN ?_ _ | refine blk_drew ?_ | refine blk_alloc ?_ _)); refine blk_far ?_ NB486_494.out _; (with_reducible repeat (first | refine blk_drewN ?_ _ | refine blk_drew ?_ | refine blk_alloc ?_ _)); exact BK486.out) hb); have n8_ := zA (blk_below (g := gb494) (o := .cells #[.int .i64 t487, .slice Ao31 t488.length co31, .slice Ao32 t491.length co32] 26 (0, 0)) (by (with_reducible repeat (first | refine blk_drewN ?_ _ | refine blk_drew ?_ | refine blk_alloc ?_ _)); refine blk_put (cs := #[.int .i64 t487, .slice Ao31 t488.length co31, .slice none 0 0]) ?_ 2 _ rfl; (with_reducible repeat (first | refine blk_drewN ?_ _ | refine blk_drew ?_ | refine blk_alloc ?_ _)); refine blk_put (cs := #[.int .i64 t487, .slice none 0 0, .slice none 0 0]) ?_ 1 _ rfl; (with_reducible repeat (first | refine blk_drewN ?_ _ | refine blk_drew ?_ | refine blk_alloc ?_ _)); refine blk_put (cs := #[.int .i64 0, .slice none 0 0, .slice none 0 0]) ?_ 0 _ rfl; (with_reducible repeat (first | refine blk_drewN ?_ _ | refine blk_drew ?_ | refine blk_alloc ?_ _)); exact BK494.out) hb); have n9_ := xH HB hb; clear HO477 HO480 HO484 HO490 HO493 BK472 BK486 BK494 HB; have HO477 := n0_; have HO480 := n1_; have HO484 := n2_; have HO490 := n3_; have HO493 := n4_; have HO498 := n5_; have BK472 := n6_; have BK486 := n7_; have BK494 := n8_; have HB := n9_; clear n0_ n1_ n2_ n3_ n4_ n5_ n6_ n7_ n8_ n9_; (try clear hb); (try clear hb2); (try clear hk); (try clear hi); (try clear ho0)) | ((with_reducible refine gate_dst (N := 9) rfl ?_); refine box_event ?hg (N := 9) ?hd (cs := #[.int .i64 0, .slice none 0 0]) (t := 42) ?hr ?_; (case hd => rfl); (case hg => rfl); (case hr => first | (go_simp; done) | (go_simp; rfl)); intro gb500 hg w34 hbox hb; have n0_ := xR HO477 hb; have n1_ := xR HO480 hb; have n2_ := xR HO484 hb; have n3_ := xR HO490 hb; have n4_ := xR HO493 hb; have n5_ := xR HO498 hb; have n6_ := xB BK472 hb; have n7_ := xB BK486 hb; have n8_ := xB BK494 hb; have n9_ := xH HB hb; have n10_ := zA (hbox); have n11_ := zA ((by rw [hg]; exact (below_size (uH HB.out)) : w.heap.size ≤ gb500)); have n12_ := zA ((by rw [hg]; exact (below_size (uH HB.out)) : w.heap.size ≤ gb500)); have n13_ := zA ((by rw [hg]; exact neL BK472 : gb472 ≠ gb500)); have n14_ := zA ((by rw [hg]; exact neG BK472 : gb500 ≠ gb472)); have n15_ := zA ((by rw [hg]; exact neL BK486 : gb486 ≠ gb500)); have n16_ := zA ((by rw [hg]; exact neG BK486 : gb500 ≠ gb486)); have n17_ := zA ((by rw [hg]; exact neL BK494 : gb494 ≠ gb500)); have n18_ := zA ((by rw [hg]; exact neG BK494 : gb500 ≠ gb494)); clear HO477 HO480 HO484 HO490 HO493 HO498 BK472 BK486 BK494 HB; have HO477 := n0_; have HO480 := n1_; have HO484 := n2_; have HO490 := n3_; have HO493 := n4_; have HO498 := n5_; have BK472 := n6_; have BK486 := n7_; have BK494 := n8_; have HB := n9_; have BK500 := n10_; have GW500 := n11_; have GE500 := n12_; have := geI GE500; have NB472_500 := n13_; have NB500_472 := n14_; have NB486_500 := n15_; have NB500_486 := n16_; have NB494_500 := n17_; have NB500_494 := n18_; clear n0_ n1_ n2_ n3_ n4_ n5_ n6_ n7_ n8_ n9_ n10_ n11_ n12_ n13_ n14_ n15_ n16_ n17_ n18_ hb hbox hg; have hnb35 := NB500_472.out; have hnc35 := NB472_500.out; have hnb36 := NB500_486.out; have hnc36 := NB486_500.out; have hnb37 := NB500_494.out; have hnc37 := NB494_500.out; have hcz38_0 : w34.cell? ⟨gb500, 0, none⟩ = some (.int .i64 0) := (blk_cell BK500.out 0).trans rfl; have hcz38_1 : w34.cell? ⟨gb500, 1, none⟩ = some (.slice none 0 0) := (blk_cell BK500.out 1).trans rfl; have hfz38_0 := blk_frozen BK500.out 0; have hfz38_1 := blk_frozen BK500.out 1; obtain ⟨Ao39, co39, eo39⟩ := Kd.R_slice HO498.out; subst eo39))
  (try simp only [Act.put, ls, lz, ln])
  go_cut [44] (fun v44 wc => ∃ (kq : Nat) (x44_11 : Bool), v44 = .bool x44_11 ∧ Aside0 (laws_FnExactMomentsOfRule.j0 kq a1 t485 t499 x44_11 a0_0 l0_1 l0_2 t481 t482 t487 t488 t491 t495 t496 = some r) ∧ Aside0 (kq ≤ k) ∧ Aside0 (Kd.R (Kd.int .i64) 2 wc w.heap.size (fun k_ => some k_ ≠ ((.slice Ao31 t488.length co31) : Value).ownBlock ∧ some k_ ≠ ((.slice Ao32 t491.length co32) : Value).ownBlock ∧ some k_ ≠ ((.slice Ao39 t496.length co39) : Value).ownBlock) (.slice Ao24 t482.length co24) t482) ∧ Aside0 (Kd.R (Kd.int .i64) 2 wc w.heap.size (fun k_ => some k_ ≠ ((.slice Ao24 t482.length co24) : Value).ownBlock ∧ some k_ ≠ ((.slice Ao32 t491.length co32) : Value).ownBlock ∧ some k_ ≠ ((.slice Ao39 t496.length co39) : Value).ownBlock) (.slice Ao31 t488.length co31) t488) ∧ Aside0 (Kd.R (Kd.int .i64) 2 wc w.heap.size (fun k_ => some k_ ≠ ((.slice Ao24 t482.length co24) : Value).ownBlock ∧ some k_ ≠ ((.slice Ao31 t488.length co31) : Value).ownBlock ∧ some k_ ≠ ((.slice Ao39 t496.length co39) : Value).ownBlock) (.slice Ao32 t491.length co32) t491) ∧ Aside0 (Kd.R (Kd.int .i64) 2 wc w.heap.size (fun k_ => some k_ ≠ ((.slice Ao24 t482.length co24) : Value).ownBlock ∧ some k_ ≠ ((.slice Ao31 t488.length co31) : Value).ownBlock ∧ some k_ ≠ ((.slice Ao32 t491.length co32) : Value).ownBlock) (.slice Ao39 t496.length co39) t496) ∧ Aside0 (wc.heap[gb472]? = some (.cells #[.int .i64 a0_0, (.slice A0_1 l0_1.length c0_1), (.slice A0_2 l0_2.length c0_2)] 24 (0, 0))) ∧ Aside0 (wc.heap[gb486]? = some (.cells #[.int .i64 t481, (.slice Ao24 t482.length co24)] 42 (0, 0))) ∧ Aside0 (wc.heap[gb494]? = some (.cells #[.int .i64 t487, (.slice Ao31 t488.length co31), (.slice Ao32 t491.length co32)] 26 (0, 0))) ∧ Aside0 (wc.heap[gb500]? = some (.cells #[.int .i64 t495, (.slice Ao39 t496.length co39)] 42 (0, 0))) ∧ Aside0 (Below w.heap.size w wc))
  case first =>
   have H := HC12.out
   clear HC12
   replace H := Option.bind_eq_some_iff.mp H
   obtain ⟨t501, A400, H⟩ := H
   replace H : (if t501 = true then (laws_FnExactMomentsOfRule.j0 k a1 t485 t499 (t499 != t485) a0_0 l0_1 l0_2 t481 t482 t487 t488 t491 t495 t496) else (laws_FnExactMomentsOfRule.j0 k a1 t485 t499 true a0_0 l0_1 l0_2 t481 t482 t487 t488 t491 t495 t496)) = some r := H
   have A40 := zA A400
   clear A400
   by_cases c41 : t501 = true
   ·subst c41
    have H1 : (laws_FnExactMomentsOfRule.j0 k a1 t485 t499 (t499 != t485) a0_0 l0_1 l0_2 t481 t482 t487 t488 t491 t495 t496) = some r := by rw [if_pos rfl] at H; exact H
    clear H
    have H := H1
    clear H1
    have H' := zA H
    clear H
    have hnb42 := NB500_472.out; have hnc42 := NB472_500.out; have hnb43 := NB500_486.out; have hnc43 := NB486_500.out; have hnb44 := NB500_494.out; have hnc44 := NB494_500.out
    have hcz45_0 : w34.cell? ⟨gb500, 0, none⟩ = some (.int .i64 0) := (blk_cell BK500.out 0).trans rfl
    have hcz45_1 : w34.cell? ⟨gb500, 1, none⟩ = some (.slice none 0 0) := (blk_cell BK500.out 1).trans rfl
    have hfz45_0 := blk_frozen BK500.out 0
    have hfz45_1 := blk_frozen BK500.out 1
    have hnb46 := NB486_472.out; have hnc46 := NB472_486.out; have hnb47 := NB486_494.out; have hnc47 := NB494_486.out
    have hcz48_0 : w34.cell? ⟨gb486, 0, none⟩ = some (.int .i64 t481) := (blk_cell BK486.out 0).trans rfl
    have hcz48_1 : w34.cell? ⟨gb486, 1, none⟩ = some (.slice Ao24 t482.length co24) := (blk_cell BK486.out 1).trans rfl
    have hfz48_0 := blk_frozen BK486.out 0
    have hfz48_1 := blk_frozen BK486.out 1
    go_wp2_with (first | ((with_reducible refine gate_callee (f := 30) rfl ?_); refine goesL_ (some 38) rfl rfl Try.func30 (by kernel_rfl) rfl #[.agg #[.int .i64 t495, .slice Ao39 t496.length co39], .agg #[.int .i64 t481, .slice Ao24 t482.length co24]] rfl (by (try simp only [la, lb, lc]); first | done | rfl | (simp only [ld, le]; rfl)) ?_; (with_reducible refine (laws_eqMoments.calls k t495 _ _ t496 t481 _ _ t482 true _ ?side1 ?side2 ?side3 ?side4 A40.out).mono ?_); (case side1 => refine (Kd.R_reads' (e := 2) (base := w.heap.size) (ok := fun k_ => (((((True ∧ some k_ ≠ (.slice Ao18 t475.length co18 : Value).ownBlock) ∧ some k_ ≠ (.slice Ao19 t478.length co19 : Value).ownBlock) ∧ some k_ ≠ (.slice Ao24 t482.length co24 : Value).ownBlock) ∧ some k_ ≠ (.slice Ao31 t488.length co31 : Value).ownBlock) ∧ some k_ ≠ (.slice Ao32 t491.length co32 : Value).ownBlock)) (n := t496.length) (c := co39) ?_).2.2; exact (uR ((Kd.R_mono (Kd.R_far (p := ⟨gb500, 1, none⟩) (Kd.R_far (p := ⟨gb500, 0, none⟩) (Kd.R_types HO498.out BK500.out (by decide)) (fun _ hk => hk.2) (.int .i64 t495)) (fun _ hk => hk.2) (.slice Ao39 t496.length co39)) (fun _ h_ => h_.1))))); (case side2 => exact (Kd.R_reads' HO498.out).2.1); (case side3 => refine (Kd.R_reads' (e := 2) (base := w.heap.size) (ok := fun k_ => (((((True ∧ some k_ ≠ (.slice Ao18 t475.length co18 : Value).ownBlock) ∧ some k_ ≠ (.slice Ao19 t478.length co19 : Value).ownBlock) ∧ some k_ ≠ (.slice Ao31 t488.length co31 : Value).ownBlock) ∧ some k_ ≠ (.slice Ao32 t491.length co32 : Value).ownBlock) ∧ some k_ ≠ (.slice Ao39 t496.length co39 : Value).ownBlock)) (n := t482.length) (c := co24) ?_).2.2; exact (uR ((Kd.R_mono (Kd.R_far (p := ⟨gb500, 1, none⟩) (Kd.R_far (p := ⟨gb500, 0, none⟩) (Kd.R_types HO484.out BK500.out (by decide)) (fun _ hk => hk.2) (.int .i64 t495)) (fun _ hk => hk.2) (.slice Ao39 t496.length co39)) (fun _ h_ => h_.1))))); (case side4 => exact (Kd.R_reads' HO484.out).2.1); rintro e w49 ⟨rfl, hb⟩; refine ⟨_, rfl, ?_⟩; have n0_ := zA (Kd.R_below (uR ((Kd.R_mono (Kd.R_far (p := ⟨gb500, 1, none⟩) (Kd.R_far (p := ⟨gb500, 0, none⟩) (Kd.R_types HO477.out BK500.out (by decide)) (fun _ hk => hk.2) (.int .i64 t495)) (fun _ hk => hk.2) (.slice Ao39 t496.length co39)) (fun _ h_ => h_.1)))) hb); have n1_ := zA (Kd.R_below (uR ((Kd.R_mono (Kd.R_far (p := ⟨gb500, 1, none⟩) (Kd.R_far (p := ⟨gb500, 0, none⟩) (Kd.R_types HO480.out BK500.out (by decide)) (fun _ hk => hk.2) (.int .i64 t495)) (fun _ hk => hk.2) (.slice Ao39 t496.length co39)) (fun _ h_ => h_.1)))) hb); have n2_ := zA (Kd.R_below (uR ((Kd.R_mono (Kd.R_far (p := ⟨gb500, 1, none⟩) (Kd.R_far (p := ⟨gb500, 0, none⟩) (Kd.R_types HO484.out BK500.out (by decide)) (fun _ hk => hk.2) (.int .i64 t495)) (fun _ hk => hk.2) (.slice Ao39 t496.length co39)) (fun _ h_ => h_.1)))) hb); have n3_ := zA (Kd.R_below (uR ((Kd.R_mono (Kd.R_far (p := ⟨gb500, 1, none⟩) (Kd.R_far (p := ⟨gb500, 0, none⟩) (Kd.R_types HO490.out BK500.out (by decide)) (fun _ hk => hk.2) (.int .i64 t495)) (fun _ hk => hk.2) (.slice Ao39 t496.length co39)) (fun _ h_ => h_.1)))) hb); have n4_ := zA (Kd.R_below (uR ((Kd.R_mono (Kd.R_far (p := ⟨gb500, 1, none⟩) (Kd.R_far (p := ⟨gb500, 0, none⟩) (Kd.R_types HO493.out BK500.out (by decide)) (fun _ hk => hk.2) (.int .i64 t495)) (fun _ hk => hk.2) (.slice Ao39 t496.length co39)) (fun _ h_ => h_.1)))) hb); have n5_ := zA (Kd.R_below (uR ((Kd.R_mono (Kd.R_far (p := ⟨gb500, 1, none⟩) (Kd.R_far (p := ⟨gb500, 0, none⟩) (Kd.R_types HO498.out BK500.out (by decide)) (fun _ hk => hk.2) (.int .i64 t495)) (fun _ hk => hk.2) (.slice Ao39 t496.length co39)) (fun _ h_ => h_.1)))) hb); have n6_ := zA (blk_below (g := gb472) (o := .cells #[.int .i64 a0_0, .slice A0_1 l0_1.length c0_1, .slice A0_2 l0_2.length c0_2] 24 (0, 0)) (by (with_reducible repeat (first | refine blk_drewN ?_ _ | refine blk_drew ?_ | refine blk_alloc ?_ _)); refine blk_far ?_ NB472_500.out _; (with_reducible repeat (first | refine blk_drewN ?_ _ | refine blk_drew ?_ | refine blk_alloc ?_ _)); refine blk_far ?_ NB472_500.out _; (with_reducible repeat (first | refine blk_drewN ?_ _ | refine blk_drew ?_ | refine blk_alloc ?_ _)); exact BK472.out) hb); have n7_ := zA (blk_below (g := gb486) (o := .cells #[.int .i64 t481, .slice Ao24 t482.length co24] 42 (0, 0)) (by (with_reducible repeat (first | refine blk_drewN ?_ _ | refine blk_drew ?_ | refine blk_alloc ?_ _)); refine blk_far ?_ NB486_500.out _; (with_reducible repeat (first | refine blk_drewN ?_ _ | refine blk_drew ?_ | refine blk_alloc ?_ _)); refine blk_far ?_ NB486_500.out _; (with_reducible repeat (first | refine blk_drewN ?_ _ | refine blk_drew ?_ | refine blk_alloc ?_ _)); exact BK486.out) hb); have n8_ := zA (blk_below (g := gb494) (o := .cells #[.int .i64 t487, .slice Ao31 t488.length co31, .slice Ao32 t491.length co32] 26 (0, 0)) (by (with_reducible repeat (first | refine blk_drewN ?_ _ | refine blk_drew ?_ | refine blk_alloc ?_ _)); refine blk_far ?_ NB494_500.out _; (with_reducible repeat (first | refine blk_drewN ?_ _ | refine blk_drew ?_ | refine blk_alloc ?_ _)); refine blk_far ?_ NB494_500.out _; (with_reducible repeat (first | refine blk_drewN ?_ _ | refine blk_drew ?_ | refine blk_alloc ?_ _)); exact BK494.out) hb); have n9_ := zA (blk_below (g := gb500) (o := .cells #[.int .i64 t495, .slice Ao39 t496.length co39] 42 (0, 0)) (by (with_reducible repeat (first | refine blk_drewN ?_ _ | refine blk_drew ?_ | refine blk_alloc ?_ _)); refine blk_put (cs := #[.int .i64 t495, .slice none 0 0]) ?_ 1 _ rfl; (with_reducible repeat (first | refine blk_drewN ?_ _ | refine blk_drew ?_ | refine blk_alloc ?_ _)); refine blk_put (cs := #[.int .i64 0, .slice none 0 0]) ?_ 0 _ rfl; (with_reducible repeat (first | refine blk_drewN ?_ _ | refine blk_drew ?_ | refine blk_alloc ?_ _)); exact BK500.out) hb); have n10_ := xH HB hb; clear HO477 HO480 HO484 HO490 HO493 HO498 BK472 BK486 BK494 BK500 HB; have HO477 := n0_; have HO480 := n1_; have HO484 := n2_; have HO490 := n3_; have HO493 := n4_; have HO498 := n5_; have BK472 := n6_; have BK486 := n7_; have BK494 := n8_; have BK500 := n9_; have HB := n10_; clear n0_ n1_ n2_ n3_ n4_ n5_ n6_ n7_ n8_ n9_ n10_; (try clear hb); (try clear hb2); (try clear hk); (try clear hi)))
    go_meet
    case rel => exact ⟨_, ((t499 != t485)), (by first | rfl | (simp; done) | (simp [*]; done)), H', ⟨by first | omega | exact Nat.le_refl _⟩, ⟨uR (Kd.R_mono HO484.out (fun _ hk => ⟨hk.1.1.2, ⟨hk.1.2, hk.2⟩⟩))⟩, ⟨uR (Kd.R_mono HO490.out (fun _ hk => ⟨hk.1.2, ⟨hk.1.1.1.1, hk.2⟩⟩))⟩, ⟨uR (Kd.R_mono HO493.out (fun _ hk => ⟨hk.1.2, ⟨hk.1.1.1.1, hk.2⟩⟩))⟩, ⟨uR (Kd.R_mono HO498.out (fun _ hk => ⟨hk.1.1.2, ⟨hk.1.2, hk.2⟩⟩))⟩, ⟨uB BK472.out⟩, ⟨uB BK486.out⟩, ⟨uB BK494.out⟩, ⟨uB BK500.out⟩, ⟨uH HB.out⟩⟩
   ·replace c41 := Bool.eq_false_iff.mpr c41
    subst c41
    have H1 : (laws_FnExactMomentsOfRule.j0 k a1 t485 t499 true a0_0 l0_1 l0_2 t481 t482 t487 t488 t491 t495 t496) = some r := by rw [if_neg (show ¬ (false = true) by decide)] at H; exact H
    clear H
    have H := H1
    clear H1
    have H' := zA H
    clear H
    have hnb50 := NB500_472.out; have hnc50 := NB472_500.out; have hnb51 := NB500_486.out; have hnc51 := NB486_500.out; have hnb52 := NB500_494.out; have hnc52 := NB494_500.out
    have hcz53_0 : w34.cell? ⟨gb500, 0, none⟩ = some (.int .i64 0) := (blk_cell BK500.out 0).trans rfl
    have hcz53_1 : w34.cell? ⟨gb500, 1, none⟩ = some (.slice none 0 0) := (blk_cell BK500.out 1).trans rfl
    have hfz53_0 := blk_frozen BK500.out 0
    have hfz53_1 := blk_frozen BK500.out 1
    have hnb54 := NB486_472.out; have hnc54 := NB472_486.out; have hnb55 := NB486_494.out; have hnc55 := NB494_486.out
    have hcz56_0 : w34.cell? ⟨gb486, 0, none⟩ = some (.int .i64 t481) := (blk_cell BK486.out 0).trans rfl
    have hcz56_1 : w34.cell? ⟨gb486, 1, none⟩ = some (.slice Ao24 t482.length co24) := (blk_cell BK486.out 1).trans rfl
    have hfz56_0 := blk_frozen BK486.out 0
    have hfz56_1 := blk_frozen BK486.out 1
    go_wp2_with (first | ((with_reducible refine gate_callee (f := 30) rfl ?_); refine goesL_ (some 38) rfl rfl Try.func30 (by kernel_rfl) rfl #[.agg #[.int .i64 t495, .slice Ao39 t496.length co39], .agg #[.int .i64 t481, .slice Ao24 t482.length co24]] rfl (by (try simp only [la, lb, lc]); first | done | rfl | (simp only [ld, le]; rfl)) ?_; (with_reducible refine (laws_eqMoments.calls k t495 _ _ t496 t481 _ _ t482 false _ ?side1 ?side2 ?side3 ?side4 A40.out).mono ?_); (case side1 => refine (Kd.R_reads' (e := 2) (base := w.heap.size) (ok := fun k_ => (((((True ∧ some k_ ≠ (.slice Ao18 t475.length co18 : Value).ownBlock) ∧ some k_ ≠ (.slice Ao19 t478.length co19 : Value).ownBlock) ∧ some k_ ≠ (.slice Ao24 t482.length co24 : Value).ownBlock) ∧ some k_ ≠ (.slice Ao31 t488.length co31 : Value).ownBlock) ∧ some k_ ≠ (.slice Ao32 t491.length co32 : Value).ownBlock)) (n := t496.length) (c := co39) ?_).2.2; exact (uR ((Kd.R_mono (Kd.R_far (p := ⟨gb500, 1, none⟩) (Kd.R_far (p := ⟨gb500, 0, none⟩) (Kd.R_types HO498.out BK500.out (by decide)) (fun _ hk => hk.2) (.int .i64 t495)) (fun _ hk => hk.2) (.slice Ao39 t496.length co39)) (fun _ h_ => h_.1))))); (case side2 => exact (Kd.R_reads' HO498.out).2.1); (case side3 => refine (Kd.R_reads' (e := 2) (base := w.heap.size) (ok := fun k_ => (((((True ∧ some k_ ≠ (.slice Ao18 t475.length co18 : Value).ownBlock) ∧ some k_ ≠ (.slice Ao19 t478.length co19 : Value).ownBlock) ∧ some k_ ≠ (.slice Ao31 t488.length co31 : Value).ownBlock) ∧ some k_ ≠ (.slice Ao32 t491.length co32 : Value).ownBlock) ∧ some k_ ≠ (.slice Ao39 t496.length co39 : Value).ownBlock)) (n := t482.length) (c := co24) ?_).2.2; exact (uR ((Kd.R_mono (Kd.R_far (p := ⟨gb500, 1, none⟩) (Kd.R_far (p := ⟨gb500, 0, none⟩) (Kd.R_types HO484.out BK500.out (by decide)) (fun _ hk => hk.2) (.int .i64 t495)) (fun _ hk => hk.2) (.slice Ao39 t496.length co39)) (fun _ h_ => h_.1))))); (case side4 => exact (Kd.R_reads' HO484.out).2.1); rintro e w57 ⟨rfl, hb⟩; refine ⟨_, rfl, ?_⟩; have n0_ := zA (Kd.R_below (uR ((Kd.R_mono (Kd.R_far (p := ⟨gb500, 1, none⟩) (Kd.R_far (p := ⟨gb500, 0, none⟩) (Kd.R_types HO477.out BK500.out (by decide)) (fun _ hk => hk.2) (.int .i64 t495)) (fun _ hk => hk.2) (.slice Ao39 t496.length co39)) (fun _ h_ => h_.1)))) hb); have n1_ := zA (Kd.R_below (uR ((Kd.R_mono (Kd.R_far (p := ⟨gb500, 1, none⟩) (Kd.R_far (p := ⟨gb500, 0, none⟩) (Kd.R_types HO480.out BK500.out (by decide)) (fun _ hk => hk.2) (.int .i64 t495)) (fun _ hk => hk.2) (.slice Ao39 t496.length co39)) (fun _ h_ => h_.1)))) hb); have n2_ := zA (Kd.R_below (uR ((Kd.R_mono (Kd.R_far (p := ⟨gb500, 1, none⟩) (Kd.R_far (p := ⟨gb500, 0, none⟩) (Kd.R_types HO484.out BK500.out (by decide)) (fun _ hk => hk.2) (.int .i64 t495)) (fun _ hk => hk.2) (.slice Ao39 t496.length co39)) (fun _ h_ => h_.1)))) hb); have n3_ := zA (Kd.R_below (uR ((Kd.R_mono (Kd.R_far (p := ⟨gb500, 1, none⟩) (Kd.R_far (p := ⟨gb500, 0, none⟩) (Kd.R_types HO490.out BK500.out (by decide)) (fun _ hk => hk.2) (.int .i64 t495)) (fun _ hk => hk.2) (.slice Ao39 t496.length co39)) (fun _ h_ => h_.1)))) hb); have n4_ := zA (Kd.R_below (uR ((Kd.R_mono (Kd.R_far (p := ⟨gb500, 1, none⟩) (Kd.R_far (p := ⟨gb500, 0, none⟩) (Kd.R_types HO493.out BK500.out (by decide)) (fun _ hk => hk.2) (.int .i64 t495)) (fun _ hk => hk.2) (.slice Ao39 t496.length co39)) (fun _ h_ => h_.1)))) hb); have n5_ := zA (Kd.R_below (uR ((Kd.R_mono (Kd.R_far (p := ⟨gb500, 1, none⟩) (Kd.R_far (p := ⟨gb500, 0, none⟩) (Kd.R_types HO498.out BK500.out (by decide)) (fun _ hk => hk.2) (.int .i64 t495)) (fun _ hk => hk.2) (.slice Ao39 t496.length co39)) (fun _ h_ => h_.1)))) hb); have n6_ := zA (blk_below (g := gb472) (o := .cells #[.int .i64 a0_0, .slice A0_1 l0_1.length c0_1, .slice A0_2 l0_2.length c0_2] 24 (0, 0)) (by (with_reducible repeat (first | refine blk_drewN ?_ _ | refine blk_drew ?_ | refine blk_alloc ?_ _)); refine blk_far ?_ NB472_500.out _; (with_reducible repeat (first | refine blk_drewN ?_ _ | refine blk_drew ?_ | refine blk_alloc ?_ _)); refine blk_far ?_ NB472_500.out _; (with_reducible repeat (first | refine blk_drewN ?_ _ | refine blk_drew ?_ | refine blk_alloc ?_ _)); exact BK472.out) hb); have n7_ := zA (blk_below (g := gb486) (o := .cells #[.int .i64 t481, .slice Ao24 t482.length co24] 42 (0, 0)) (by (with_reducible repeat (first | refine blk_drewN ?_ _ | refine blk_drew ?_ | refine blk_alloc ?_ _)); refine blk_far ?_ NB486_500.out _; (with_reducible repeat (first | refine blk_drewN ?_ _ | refine blk_drew ?_ | refine blk_alloc ?_ _)); refine blk_far ?_ NB486_500.out _; (with_reducible repeat (first | refine blk_drewN ?_ _ | refine blk_drew ?_ | refine blk_alloc ?_ _)); exact BK486.out) hb); have n8_ := zA (blk_below (g := gb494) (o := .cells #[.int .i64 t487, .slice Ao31 t488.length co31, .slice Ao32 t491.length co32] 26 (0, 0)) (by (with_reducible repeat (first | refine blk_drewN ?_ _ | refine blk_drew ?_ | refine blk_alloc ?_ _)); refine blk_far ?_ NB494_500.out _; (with_reducible repeat (first | refine blk_drewN ?_ _ | refine blk_drew ?_ | refine blk_alloc ?_ _)); refine blk_far ?_ NB494_500.out _; (with_reducible repeat (first | refine blk_drewN ?_ _ | refine blk_drew ?_ | refine blk_alloc ?_ _)); exact BK494.out) hb); have n9_ := zA (blk_below (g := gb500) (o := .cells #[.int .i64 t495, .slice Ao39 t496.length co39] 42 (0, 0)) (by (with_reducible repeat (first | refine blk_drewN ?_ _ | refine blk_drew ?_ | refine blk_alloc ?_ _)); refine blk_put (cs := #[.int .i64 t495, .slice none 0 0]) ?_ 1 _ rfl; (with_reducible repeat (first | refine blk_drewN ?_ _ | refine blk_drew ?_ | refine blk_alloc ?_ _)); refine blk_put (cs := #[.int .i64 0, .slice none 0 0]) ?_ 0 _ rfl; (with_reducible repeat (first | refine blk_drewN ?_ _ | refine blk_drew ?_ | refine blk_alloc ?_ _)); exact BK500.out) hb); have n10_ := xH HB hb; clear HO477 HO480 HO484 HO490 HO493 HO498 BK472 BK486 BK494 BK500 HB; have HO477 := n0_; have HO480 := n1_; have HO484 := n2_; have HO490 := n3_; have HO493 := n4_; have HO498 := n5_; have BK472 := n6_; have BK486 := n7_; have BK494 := n8_; have BK500 := n9_; have HB := n10_; clear n0_ n1_ n2_ n3_ n4_ n5_ n6_ n7_ n8_ n9_ n10_; (try clear hb); (try clear hb2); (try clear hk); (try clear hi)))
    go_meet
    case rel => exact ⟨_, (true), (by first | rfl | (simp; done) | (simp [*]; done)), H', ⟨by first | omega | exact Nat.le_refl _⟩, ⟨uR (Kd.R_mono HO484.out (fun _ hk => ⟨hk.1.1.2, ⟨hk.1.2, hk.2⟩⟩))⟩, ⟨uR (Kd.R_mono HO490.out (fun _ hk => ⟨hk.1.2, ⟨hk.1.1.1.1, hk.2⟩⟩))⟩, ⟨uR (Kd.R_mono HO493.out (fun _ hk => ⟨hk.1.2, ⟨hk.1.1.1.1, hk.2⟩⟩))⟩, ⟨uR (Kd.R_mono HO498.out (fun _ hk => ⟨hk.1.1.2, ⟨hk.1.2, hk.2⟩⟩))⟩, ⟨uB BK472.out⟩, ⟨uB BK486.out⟩, ⟨uB BK494.out⟩, ⟨uB BK500.out⟩, ⟨uH HB.out⟩⟩
  case rest =>
   clear HC12
   try clear c1
   try clear c2
   try clear p2
   try clear c3
   try clear c4
   try clear c4b0
   try clear c5
   try clear c6
   try clear c13
   try clear c15
   try clear c22
   try clear c28
   try clear c29
   try clear c30
   try clear c35
   try clear c36
   try clear c37
   try clear c41
   try clear c42
   try clear c43
   try clear c44
   try clear c46
   try clear c47
   try clear c50
   try clear c51
   try clear c52
   try clear c54
   try clear c55
   try clear hcz14_0
   try clear hcz14_1
   try clear hcz14_2
   try clear hcz16_0
   try clear hcz16_1
   try clear hcz16_2
   try clear hcz23_0
   try clear hcz23_1
   try clear hcz25_0
   try clear hcz25_1
   try clear hcz25_2
   try clear hcz30_0
   try clear hcz30_1
   try clear hcz30_2
   try clear hcz38_0
   try clear hcz38_1
   try clear hcz45_0
   try clear hcz45_1
   try clear hcz48_0
   try clear hcz48_1
   try clear hcz53_0
   try clear hcz53_1
   try clear hcz56_0
   try clear hcz56_1
   try clear hcz6_0
   try clear hcz6_1
   try clear hcz6_2
   try clear hfz14_0
   try clear hfz14_1
   try clear hfz14_2
   try clear hfz16_0
   try clear hfz16_1
   try clear hfz16_2
   try clear hfz23_0
   try clear hfz23_1
   try clear hfz25_0
   try clear hfz25_1
   try clear hfz25_2
   try clear hfz30_0
   try clear hfz30_1
   try clear hfz30_2
   try clear hfz38_0
   try clear hfz38_1
   try clear hfz45_0
   try clear hfz45_1
   try clear hfz48_0
   try clear hfz48_1
   try clear hfz53_0
   try clear hfz53_1
   try clear hfz56_0
   try clear hfz56_1
   try clear hfz6_0
   try clear hfz6_1
   try clear hfz6_2
   obtain ⟨kq, x44_11, rfl, HA, HJ11, HO_487001, HO_495001, HO_495002, HO_501001, BK472, BK486, BK494, BK500, HB⟩ := hcut
   cases kq with
   | zero => exact absurd HA.out (by simp [laws_FnExactMomentsOfRule.j0])
   | succ kj11 =>
    have H := HA.out
    clear HA
    simp only [laws_FnExactMomentsOfRule.j0] at H
    by_cases c58 : x44_11 = true
    ·subst c58
     have H1 : (some false) = some r := by rw [if_pos rfl] at H; exact H
     clear H
     have H := H1
     clear H1
     rw [HRT.out] at H
     exact absurd H (by simp)
    ·replace c58 := Bool.eq_false_iff.mpr c58
     subst c58
     have H1 : ((laws_toRule.f kj11 a0_0 l0_1 l0_2).bind fun bt502 => ((laws_eqRule.f kj11 t487 t488 t491 bt502.1 bt502.2.1 bt502.2.2).bind fun t509 => (if t509 = true then ((laws_markRule.f kj11 t487 t488 t491 1).bind fun bt510 => (if bt510.1 < 0 then (laws_FnExactMomentsOfRule.j1 kj11 a1 t485 true a0_0 l0_1 l0_2 t481 t482 t495 t496) else ((laws_eqMoments.f kj11 t495 t496 t481 t482).bind fun t513 => (if t513 = true then (laws_FnExactMomentsOfRule.j1 kj11 a1 t485 (t499 != t485) a0_0 l0_1 l0_2 t481 t482 t495 t496) else (laws_FnExactMomentsOfRule.j1 kj11 a1 t485 true a0_0 l0_1 l0_2 t481 t482 t495 t496))))) else (some false)))) = some r := by rw [if_neg (show ¬ (false = true) by decide)] at H; exact H
     clear H
     have H := H1
     clear H1
     replace H := Option.bind_eq_some_iff.mp H
     obtain ⟨⟨t502, t503, t506⟩, A590, H⟩ := H
     replace H : ((laws_eqRule.f kj11 t487 t488 t491 t502 t503 t506).bind fun t509 => (if t509 = true then ((laws_markRule.f kj11 t487 t488 t491 1).bind fun bt510 => (if bt510.1 < 0 then (laws_FnExactMomentsOfRule.j1 kj11 a1 t485 true a0_0 l0_1 l0_2 t481 t482 t495 t496) else ((laws_eqMoments.f kj11 t495 t496 t481 t482).bind fun t513 => (if t513 = true then (laws_FnExactMomentsOfRule.j1 kj11 a1 t485 (t499 != t485) a0_0 l0_1 l0_2 t481 t482 t495 t496) else (laws_FnExactMomentsOfRule.j1 kj11 a1 t485 true a0_0 l0_1 l0_2 t481 t482 t495 t496))))) else (some false))) = some r := H
     have A59 := zA A590
     clear A590
     replace H := Option.bind_eq_some_iff.mp H
     obtain ⟨t509, A600, H⟩ := H
     replace H : (if t509 = true then ((laws_markRule.f kj11 t487 t488 t491 1).bind fun bt510 => (if bt510.1 < 0 then (laws_FnExactMomentsOfRule.j1 kj11 a1 t485 true a0_0 l0_1 l0_2 t481 t482 t495 t496) else ((laws_eqMoments.f kj11 t495 t496 t481 t482).bind fun t513 => (if t513 = true then (laws_FnExactMomentsOfRule.j1 kj11 a1 t485 (t499 != t485) a0_0 l0_1 l0_2 t481 t482 t495 t496) else (laws_FnExactMomentsOfRule.j1 kj11 a1 t485 true a0_0 l0_1 l0_2 t481 t482 t495 t496))))) else (some false)) = some r := H
     have A60 := zA A600
     clear A600
     by_cases c61 : t509 = true
     ·subst c61
      have H1 : ((laws_markRule.f kj11 t487 t488 t491 1).bind fun bt510 => (if bt510.1 < 0 then (laws_FnExactMomentsOfRule.j1 kj11 a1 t485 true a0_0 l0_1 l0_2 t481 t482 t495 t496) else ((laws_eqMoments.f kj11 t495 t496 t481 t482).bind fun t513 => (if t513 = true then (laws_FnExactMomentsOfRule.j1 kj11 a1 t485 (t499 != t485) a0_0 l0_1 l0_2 t481 t482 t495 t496) else (laws_FnExactMomentsOfRule.j1 kj11 a1 t485 true a0_0 l0_1 l0_2 t481 t482 t495 t496))))) = some r := by rw [if_pos rfl] at H; exact H
      clear H
      have H := H1
      clear H1
      replace H := Option.bind_eq_some_iff.mp H
      obtain ⟨⟨t510, t511, t512⟩, A620, H⟩ := H
      replace H : (if t510 < 0 then (laws_FnExactMomentsOfRule.j1 kj11 a1 t485 true a0_0 l0_1 l0_2 t481 t482 t495 t496) else ((laws_eqMoments.f kj11 t495 t496 t481 t482).bind fun t513 => (if t513 = true then (laws_FnExactMomentsOfRule.j1 kj11 a1 t485 (t499 != t485) a0_0 l0_1 l0_2 t481 t482 t495 t496) else (laws_FnExactMomentsOfRule.j1 kj11 a1 t485 true a0_0 l0_1 l0_2 t481 t482 t495 t496)))) = some r := H
      have A62 := zA A620
      clear A620
      have HC63 := zA H
      clear H
      try go_wp2
      have n0_ := zA (Kd.R_drew HO_487001.out)
      have n1_ := zA (Kd.R_drew HO_495001.out)
      have n2_ := zA (Kd.R_drew HO_495002.out)
      have n3_ := zA (Kd.R_drew HO_501001.out)
      have n4_ := zA (blk_drew BK472.out)
      have n5_ := zA (blk_drew BK486.out)
      have n6_ := zA (blk_drew BK494.out)
      have n7_ := zA (blk_drew BK500.out)
      have n8_ := zA (below_drew1 HB.out)
      clear HO_487001 HO_495001 HO_495002 HO_501001 BK472 BK486 BK494 BK500 HB
      have HO_487001 := n0_; have HO_495001 := n1_; have HO_495002 := n2_; have HO_501001 := n3_; have BK472 := n4_; have BK486 := n5_; have BK494 := n6_; have BK500 := n7_; have HB := n8_
      clear n0_ n1_ n2_ n3_ n4_ n5_ n6_ n7_ n8_
      refine start_ (n := 5) (S := fun w' => w'.cell? ⟨gb494, 0, none⟩ = some (.int .i64 t487) ∧ w'.cell? ⟨gb494, 1, none⟩ = some (.slice Ao31 t488.length co31) ∧ w'.cell? ⟨gb494, 2, none⟩ = some (.slice Ao32 t491.length co32) ∧ w'.cell? ⟨gb472, 0, none⟩ = some (.int .i64 a0_0) ∧ w'.cell? ⟨gb472, 1, none⟩ = some (.slice A0_1 l0_1.length c0_1) ∧ w'.cell? ⟨gb472, 2, none⟩ = some (.slice A0_2 l0_2.length c0_2)) (ds := []) #[false, false, false, false, false] (by kernel_rfl) rfl rfl ⟨(blk_cell BK494.out 0).trans rfl, (blk_cell BK494.out 1).trans rfl, (blk_cell BK494.out 2).trans rfl, (blk_cell BK472.out 0).trans rfl, (blk_cell BK472.out 1).trans rfl, (blk_cell BK472.out 2).trans rfl⟩ (fun hHeld => ?_)
      generalize wc.drew = w64 at HO_487001 HO_495001 HO_495002 HO_501001 BK472 BK486 BK494 BK500 HB hHeld ⊢
      refine take_ (i := 0) (N := some 45) (v := ?_) (a' := ?_) #[true, false, false, false, false] rfl rfl (by kernel_rfl) (fun _ _ _ h => h) (Or.inl ⟨by rfl, ?_⟩) hHeld ?_ ?_
      rotate_left
      ·rintro w' ⟨s0, s1, s2, s3, s4, s5⟩
       go_simp
       with_reducible rfl
      rotate_left
      ·simp only [Act.put, ls, lz, ln, i64_w, i32_w]
       rfl
      refine take_ (i := 1) (N := some 46) (v := ?_) (a' := ?_) #[true, true, false, false, false] rfl rfl (by kernel_rfl) (fun _ _ _ h => h) (Or.inl ⟨by rfl, ?_⟩) hHeld ?_ ?_
      rotate_left
      ·rintro w' ⟨s0, s1, s2, s3, s4, s5⟩
       go_simp
       with_reducible rfl
      rotate_left
      ·simp only [Act.put, ls, lz, ln, i64_w, i32_w]
       rfl
      refine one_ (i := 2) (N := some 47) #[true, true, true, false, false] rfl rfl (by kernel_rfl) (by decide) (fun K hK => ?_)
      refine goes_ Try.func15 (by kernel_rfl) rfl #[.agg #[.int .i64 a0_0, .slice A0_1 l0_1.length c0_1, .slice A0_2 l0_2.length c0_2]] (by rfl) rfl rfl (by (try simp only [la, lb, lc]); first | done | rfl | (simp only [ld, le]; rfl)) ?_
      with_reducible refine (laws_toRule.calls kj11 a0_0 _ _ l0_1 _ _ l0_2 t502 t503 t506 _ ?side1 ?side2 ?side3 ?side4 A59.out).mono ?_
      (case side1 => exact uC ((Kd.C_below HR0_1.out HB.out)))
      (case side2 => exact HC0_1.out)
      (case side3 => exact uC ((Kd.C_below HR0_2.out HB.out)))
      (case side4 => exact HC0_2.out)
      rintro e w65 ⟨v504, v507, rfl, ho0, ho1, hb⟩
      refine ⟨_, rfl, ?_⟩
      have n0_ := zA (Kd.R_mono (Kd.R_told (Kd.R_told (Kd.R_old (uR HO_487001.out) hb) (Kd.R_base ho0)) (Kd.R_base ho1)) (fun _ h_ => h_.1))
      have n1_ := zA (Kd.R_mono (Kd.R_told (Kd.R_told (Kd.R_old (uR HO_495001.out) hb) (Kd.R_base ho0)) (Kd.R_base ho1)) (fun _ h_ => h_.1))
      have n2_ := zA (Kd.R_mono (Kd.R_told (Kd.R_told (Kd.R_old (uR HO_495002.out) hb) (Kd.R_base ho0)) (Kd.R_base ho1)) (fun _ h_ => h_.1))
      have n3_ := zA (Kd.R_mono (Kd.R_told (Kd.R_told (Kd.R_old (uR HO_501001.out) hb) (Kd.R_base ho0)) (Kd.R_base ho1)) (fun _ h_ => h_.1))
      have n4_ := zA (Kd.R_lower (Kd.R_new' (Kd.R_new' (Kd.R_new' (Kd.R_new' ho0 (Kd.R_lt (uR HO_487001.out))) (Kd.R_lt (uR HO_495001.out))) (Kd.R_lt (uR HO_495002.out))) (Kd.R_lt (uR HO_501001.out))) (below_size (uH HB.out)))
      have n5_ := zA (Kd.R_lower (Kd.R_new' (Kd.R_new' (Kd.R_new' (Kd.R_new' ho1 (Kd.R_lt (uR HO_487001.out))) (Kd.R_lt (uR HO_495001.out))) (Kd.R_lt (uR HO_495002.out))) (Kd.R_lt (uR HO_501001.out))) (below_size (uH HB.out)))
      have n6_ := xB BK472 hb
      have n7_ := xB BK486 hb
      have n8_ := xB BK494 hb
      have n9_ := xB BK500 hb
      have n10_ := xH HB hb
      clear HO_487001 HO_495001 HO_495002 HO_501001 BK472 BK486 BK494 BK500 HB
      have HO_487001 := n0_; have HO_495001 := n1_; have HO_495002 := n2_; have HO_501001 := n3_; have HO505 := n4_; have HO508 := n5_; have BK472 := n6_; have BK486 := n7_; have BK494 := n8_; have BK500 := n9_; have HB := n10_
      clear n0_ n1_ n2_ n3_ n4_ n5_ n6_ n7_ n8_ n9_ n10_
      (try clear hb); (try clear hb2); (try clear hk); (try clear hi); (try clear ho0); (try clear ho1)
      obtain ⟨Ao66, co66, eo66⟩ := Kd.R_slice HO505.out
      (first | subst eo66 | (injection eo66 with f1_ f2_ f3_; have f4_ := f1_.symm; have f5_ := f3_.symm; clear f1_ f2_ f3_; subst f4_; subst f5_))
      obtain ⟨Ao67, co67, eo67⟩ := Kd.R_slice HO508.out
      (first | subst eo67 | (injection eo67 with f1_ f2_ f3_; have f4_ := f1_.symm; have f5_ := f3_.symm; clear f1_ f2_ f3_; subst f4_; subst f5_))
      refine hK.out _ _ ⟨(blk_cell BK494.out 0).trans rfl, (blk_cell BK494.out 1).trans rfl, (blk_cell BK494.out 2).trans rfl, (blk_cell BK472.out 0).trans rfl, (blk_cell BK472.out 1).trans rfl, (blk_cell BK472.out 2).trans rfl⟩ (fun hHeld => ?_)
      clear hK K
      refine norm_ (a' := ?_) ?_ ?_
      rotate_left
      ·show Act.put _ (some 47) _ = _
       simp only [Act.put, ls, lz, ln, i64_w, i32_w]
       rfl
      refine one_ (i := 3) (N := some 48) #[true, true, true, true, false] rfl rfl (by kernel_rfl) (by decide) (fun K hK => ?_)
      refine goes_ Try.func17 (by kernel_rfl) rfl #[.agg #[.int .i64 t487, .slice Ao31 t488.length co31, .slice Ao32 t491.length co32], .agg #[.int .i64 t502, .slice Ao66 t503.length co66, .slice Ao67 t506.length co67]] (by rfl) rfl rfl (by (try simp only [la, lb, lc]); first | done | rfl | (simp only [ld, le]; rfl)) ?_
      with_reducible refine (laws_eqRule.calls kj11 t487 _ _ t488 _ _ t491 t502 _ _ t503 _ _ t506 true _ ?side1 ?side2 ?side3 ?side4 ?side5 ?side6 ?side7 ?side8 A60.out).mono ?_
      (case side1 => exact uC ((Kd.R_reads' HO_495001.out).2.2))
      (case side2 => exact (Kd.R_reads' HO_495001.out).2.1)
      (case side3 => exact uC ((Kd.R_reads' HO_495002.out).2.2))
      (case side4 => exact (Kd.R_reads' HO_495002.out).2.1)
      (case side5 => exact uC ((Kd.R_reads' HO505.out).2.2))
      (case side6 => exact (Kd.R_reads' HO505.out).2.1)
      (case side7 => exact uC ((Kd.R_reads' HO508.out).2.2))
      (case side8 => exact (Kd.R_reads' HO508.out).2.1)
      rintro e w68 ⟨rfl, hb⟩
      refine ⟨_, rfl, ?_⟩
      have n0_ := xR HO_487001 hb
      have n1_ := xR HO_495001 hb
      have n2_ := xR HO_495002 hb
      have n3_ := xR HO_501001 hb
      have n4_ := xR HO505 hb
      have n5_ := xR HO508 hb
      have n6_ := xB BK472 hb
      have n7_ := xB BK486 hb
      have n8_ := xB BK494 hb
      have n9_ := xB BK500 hb
      have n10_ := xH HB hb
      clear HO_487001 HO_495001 HO_495002 HO_501001 HO505 HO508 BK472 BK486 BK494 BK500 HB
      have HO_487001 := n0_; have HO_495001 := n1_; have HO_495002 := n2_; have HO_501001 := n3_; have HO505 := n4_; have HO508 := n5_; have BK472 := n6_; have BK486 := n7_; have BK494 := n8_; have BK500 := n9_; have HB := n10_
      clear n0_ n1_ n2_ n3_ n4_ n5_ n6_ n7_ n8_ n9_ n10_
      (try clear hb); (try clear hb2); (try clear hk); (try clear hi)
      refine hK.out _ _ ⟨(blk_cell BK494.out 0).trans rfl, (blk_cell BK494.out 1).trans rfl, (blk_cell BK494.out 2).trans rfl, (blk_cell BK472.out 0).trans rfl, (blk_cell BK472.out 1).trans rfl, (blk_cell BK472.out 2).trans rfl⟩ (fun hHeld => ?_)
      clear hK K
      refine norm_ (a' := ?_) ?_ ?_
      rotate_left
      ·show Act.put _ (some 48) _ = _
       simp only [Act.put, ls, lz, ln, i64_w, i32_w]
       rfl
      refine pure_ (i := 4) (N := some 49) (v := ?_) (a' := ?_) #[true, true, true, true, true] rfl rfl (by kernel_rfl) (fun _ _ _ h => h) (Or.inl ⟨by rfl, ?_⟩) ?_ ?_
      rotate_left
      ·intro w'
       go_simp
       with_reducible rfl
      rotate_left
      ·simp only [Act.put, ls, lz, ln, i64_w, i32_w]
       rfl
      refine done_ (by kernel_rfl) ?_
      have hnb69 := NB494_472.out; have hnc69 := NB472_494.out; have hnb70 := NB494_486.out; have hnc70 := NB486_494.out; have hnb71 := NB494_500.out; have hnc71 := NB500_494.out
      have hcz72_0 : w68.cell? ⟨gb494, 0, none⟩ = some (.int .i64 t487) := (blk_cell BK494.out 0).trans rfl
      have hcz72_1 : w68.cell? ⟨gb494, 1, none⟩ = some (.slice Ao31 t488.length co31) := (blk_cell BK494.out 1).trans rfl
      have hcz72_2 : w68.cell? ⟨gb494, 2, none⟩ = some (.slice Ao32 t491.length co32) := (blk_cell BK494.out 2).trans rfl
      have hfz72_0 := blk_frozen BK494.out 0
      have hfz72_1 := blk_frozen BK494.out 1
      have hfz72_2 := blk_frozen BK494.out 2
      go_upto_region 14 with (first | ((with_reducible refine gate_callee (f := 18) rfl ?_); refine goesL_ (some 52) rfl rfl Try.func18 (by kernel_rfl) rfl #[.agg #[.int .i64 t487, .slice Ao31 t488.length co31, .slice Ao32 t491.length co32], .int .i64 1] rfl (by (try simp only [la, lb, lc]); first | done | rfl | (simp only [ld, le]; rfl)) ?_; (with_reducible refine (laws_markRule.calls kj11 t487 (fun k_ => some k_ = (.slice Ao31 t488.length co31 : Value).ownBlock) (.slice Ao31 t488.length co31) t488 (fun k_ => some k_ = (.slice Ao32 t491.length co32 : Value).ownBlock) (.slice Ao32 t491.length co32) t491 1 t510 t511 t512 w _ ?side1 ?side2 ?side3 ?side4 ?side5 A62.out).mono ?_); (case side1 => repeat (first | (with_reducible first | exact HB.out | apply below_alloc | apply pw_below_drewN | apply below_drew1 | refine below_set ?_ GE472.out | refine below_set ?_ GE486.out | refine below_set ?_ GE494.out | refine below_set ?_ GE500.out) | exact HB.out)); (case side2 => exact Kd.R_tight rfl HO_495001.out); (case side3 => exact fun k_ e_ => (HO_495001.out.1 k_ e_.symm).1.1.2.1); (case side4 => exact Kd.R_tight rfl HO_495002.out); (case side5 => exact fun k_ e_ => (HO_495002.out.1 k_ e_.symm).1.1.2.1); rintro e w73 ⟨rfl, hy0, hy1, hb, hkp⟩; refine ⟨_, rfl, ?_⟩; have n0_ := zA (Kd.R_mono (ok' := fun k_ => some k_ ≠ (.slice Ao31 t488.length co31 : Value).ownBlock ∧ some k_ ≠ (.slice Ao32 t491.length co32 : Value).ownBlock ∧ some k_ ≠ (.slice Ao39 t496.length co39 : Value).ownBlock ∧ some k_ ≠ (.slice Ao66 t503.length co66 : Value).ownBlock ∧ some k_ ≠ (.slice Ao67 t506.length co67 : Value).ownBlock) (Kd.R_keptB (HO_487001.out) hkp (fun k_ hk_ hs_ => Or.elim hs_ (fun e_ => (hk_.1.1.1) e_) (fun e_ => (hk_.1.1.2.1) e_))) (fun k_ hk_ => ⟨hk_.1.1.1.1, hk_.1.1.1.2.1, hk_.1.1.1.2.2, hk_.1.1.2, hk_.1.2⟩)); have n1_ := zA (Kd.R_reok rfl hy0 (fun k_ e_ => HO_495001.out.1 k_ e_)); have n2_ := zA (Kd.R_reok rfl hy1 (fun k_ e_ => HO_495002.out.1 k_ e_)); have n3_ := zA (Kd.R_mono (ok' := fun k_ => some k_ ≠ (.slice Ao24 t482.length co24 : Value).ownBlock ∧ some k_ ≠ (.slice Ao31 t488.length co31 : Value).ownBlock ∧ some k_ ≠ (.slice Ao32 t491.length co32 : Value).ownBlock ∧ some k_ ≠ (.slice Ao66 t503.length co66 : Value).ownBlock ∧ some k_ ≠ (.slice Ao67 t506.length co67 : Value).ownBlock) (Kd.R_keptB (HO_501001.out) hkp (fun k_ hk_ hs_ => Or.elim hs_ (fun e_ => (hk_.1.1.2.1) e_) (fun e_ => (hk_.1.1.2.2) e_))) (fun k_ hk_ => ⟨hk_.1.1.1.1, hk_.1.1.1.2.1, hk_.1.1.1.2.2, hk_.1.1.2, hk_.1.2⟩)); have n4_ := zA (blk_kept (uB BK472.out) hkp (fun hs_ => Or.elim hs_ (fun e_ => (fun e_ => (Kd.R_ne HO_495001.out BK472.out (by decide)) e_) e_) (fun e_ => (fun e_ => (Kd.R_ne HO_495002.out BK472.out (by decide)) e_) e_))); have n5_ := zA (blk_kept (uB BK486.out) hkp (fun hs_ => Or.elim hs_ (fun e_ => (fun e_ => (Kd.R_ne HO_495001.out BK486.out (by decide)) e_) e_) (fun e_ => (fun e_ => (Kd.R_ne HO_495002.out BK486.out (by decide)) e_) e_))); have n6_ := zA (blk_kept (uB BK494.out) hkp (fun hs_ => Or.elim hs_ (fun e_ => (fun e_ => (Kd.R_ne HO_495001.out BK494.out (by decide)) e_) e_) (fun e_ => (fun e_ => (Kd.R_ne HO_495002.out BK494.out (by decide)) e_) e_))); have n7_ := zA (blk_kept (uB BK500.out) hkp (fun hs_ => Or.elim hs_ (fun e_ => (fun e_ => (Kd.R_ne HO_495001.out BK500.out (by decide)) e_) e_) (fun e_ => (fun e_ => (Kd.R_ne HO_495002.out BK500.out (by decide)) e_) e_))); have n8_ := zA (Kd.R_mono (ok' := fun k_ => some k_ ≠ (.slice Ao24 t482.length co24 : Value).ownBlock ∧ some k_ ≠ (.slice Ao31 t488.length co31 : Value).ownBlock ∧ some k_ ≠ (.slice Ao32 t491.length co32 : Value).ownBlock ∧ some k_ ≠ (.slice Ao39 t496.length co39 : Value).ownBlock ∧ some k_ ≠ (.slice Ao67 t506.length co67 : Value).ownBlock) (Kd.R_keptB (HO505.out) hkp (fun k_ hk_ hs_ => Or.elim hs_ (fun e_ => (hk_.1.1.2) e_) (fun e_ => (hk_.1.2) e_))) (fun k_ hk_ => ⟨hk_.1.1.1.1.2, hk_.1.1.1.2, hk_.1.1.2, hk_.1.2, hk_.1.1.1.1.1⟩)); have n9_ := zA (Kd.R_mono (ok' := fun k_ => some k_ ≠ (.slice Ao24 t482.length co24 : Value).ownBlock ∧ some k_ ≠ (.slice Ao31 t488.length co31 : Value).ownBlock ∧ some k_ ≠ (.slice Ao32 t491.length co32 : Value).ownBlock ∧ some k_ ≠ (.slice Ao39 t496.length co39 : Value).ownBlock ∧ some k_ ≠ (.slice Ao66 t503.length co66 : Value).ownBlock) (Kd.R_keptB (HO508.out) hkp (fun k_ hk_ hs_ => Or.elim hs_ (fun e_ => (hk_.1.1.2) e_) (fun e_ => (hk_.1.2) e_))) (fun k_ hk_ => ⟨hk_.1.1.1.1.2, hk_.1.1.1.2, hk_.1.1.2, hk_.1.2, hk_.1.1.1.1.1⟩)); have n10_ := zA (hb); clear HO_487001 HO_495001 HO_495002 HO_501001 BK472 BK486 BK494 BK500 HO505 HO508 HB; have HO_487001 := n0_; have HO_495001 := n1_; have HO_495002 := n2_; have HO_501001 := n3_; have BK472 := n4_; have BK486 := n5_; have BK494 := n6_; have BK500 := n7_; have HO505 := n8_; have HO508 := n9_; have HB := n10_; clear n0_ n1_ n2_ n3_ n4_ n5_ n6_ n7_ n8_ n9_ n10_; (try clear hb); (try clear hkp); (try clear hy0); (try clear hy1)))
      (try simp only [Act.put, ls, lz, ln])
      go_cut [65] (fun v65 wc => ∃ (kq : Nat) (x65_62 : Bool), v65 = .bool x65_62 ∧ Aside0 (laws_FnExactMomentsOfRule.j1 kq a1 t485 x65_62 a0_0 l0_1 l0_2 t481 t482 t495 t496 = some r) ∧ Aside0 (kq ≤ kj11) ∧ Aside0 (Kd.R (Kd.int .i64) 2 wc w.heap.size (fun k_ => some k_ ≠ ((.slice Ao31 t488.length co31) : Value).ownBlock ∧ some k_ ≠ ((.slice Ao32 t491.length co32) : Value).ownBlock ∧ some k_ ≠ ((.slice Ao39 t496.length co39) : Value).ownBlock) (.slice Ao24 t482.length co24) t482) ∧ Aside0 (Kd.R (Kd.int .i64) 2 wc w.heap.size (fun k_ => some k_ ≠ ((.slice Ao24 t482.length co24) : Value).ownBlock ∧ some k_ ≠ ((.slice Ao32 t491.length co32) : Value).ownBlock ∧ some k_ ≠ ((.slice Ao39 t496.length co39) : Value).ownBlock) (.slice Ao31 t488.length co31) t511) ∧ Aside0 (Kd.R (Kd.int .i64) 2 wc w.heap.size (fun k_ => some k_ ≠ ((.slice Ao24 t482.length co24) : Value).ownBlock ∧ some k_ ≠ ((.slice Ao31 t488.length co31) : Value).ownBlock ∧ some k_ ≠ ((.slice Ao39 t496.length co39) : Value).ownBlock) (.slice Ao32 t491.length co32) t512) ∧ Aside0 (Kd.R (Kd.int .i64) 2 wc w.heap.size (fun k_ => some k_ ≠ ((.slice Ao24 t482.length co24) : Value).ownBlock ∧ some k_ ≠ ((.slice Ao31 t488.length co31) : Value).ownBlock ∧ some k_ ≠ ((.slice Ao32 t491.length co32) : Value).ownBlock) (.slice Ao39 t496.length co39) t496) ∧ Aside0 (wc.heap[gb472]? = some (.cells #[.int .i64 a0_0, (.slice A0_1 l0_1.length c0_1), (.slice A0_2 l0_2.length c0_2)] 24 (0, 0))) ∧ Aside0 (wc.heap[gb486]? = some (.cells #[.int .i64 t481, (.slice Ao24 t482.length co24)] 42 (0, 0))) ∧ Aside0 (wc.heap[gb494]? = some (.cells #[.int .i64 t487, (.slice Ao31 t488.length co31), (.slice Ao32 t491.length co32)] 26 (0, 0))) ∧ Aside0 (wc.heap[gb500]? = some (.cells #[.int .i64 t495, (.slice Ao39 t496.length co39)] 42 (0, 0))) ∧ Aside0 (Below w.heap.size w wc))
      case first =>
       have H := HC63.out
       clear HC63
       by_cases c74 : t510 < 0
       ·rw [if_pos c74] at H
        have c74b0 : decide (t510 < 0) = true := decide_eq_true c74
        clear c74
        (first | rw [c74b0] | (simp only [i64_w, i32_w]; rw [c74b0]) | skip)
        have H' := zA H
        clear H
        go_wp2
        go_meet
        case rel => exact ⟨_, (true), (by first | rfl | (simp; done) | (simp [*]; done)), H', ⟨by have := HJ11.out; first | omega | exact Nat.le_refl _⟩, ⟨uR (Kd.R_mono HO_487001.out (fun _ hk => ⟨hk.1, ⟨hk.2.1, hk.2.2.1⟩⟩))⟩, ⟨uR (Kd.R_mono HO_495001.out (fun _ hk => ⟨hk.1.1.1, ⟨hk.1.1.2.1, hk.1.1.2.2⟩⟩))⟩, ⟨uR (Kd.R_mono HO_495002.out (fun _ hk => ⟨hk.1.1.1, ⟨hk.1.1.2.1, hk.1.1.2.2⟩⟩))⟩, ⟨uR (Kd.R_mono HO_501001.out (fun _ hk => ⟨hk.1, ⟨hk.2.1, hk.2.2.1⟩⟩))⟩, ⟨uB BK472.out⟩, ⟨uB BK486.out⟩, ⟨uB BK494.out⟩, ⟨uB BK500.out⟩, ⟨uH HB.out⟩⟩
       ·rw [if_neg c74] at H
        have c74b0 : decide (t510 < 0) = false := decide_eq_false c74
        clear c74
        (first | rw [c74b0] | (simp only [i64_w, i32_w]; rw [c74b0]) | skip)
        replace H := Option.bind_eq_some_iff.mp H
        obtain ⟨t513, A750, H⟩ := H
        replace H : (if t513 = true then (laws_FnExactMomentsOfRule.j1 kj11 a1 t485 (t499 != t485) a0_0 l0_1 l0_2 t481 t482 t495 t496) else (laws_FnExactMomentsOfRule.j1 kj11 a1 t485 true a0_0 l0_1 l0_2 t481 t482 t495 t496)) = some r := H
        have A75 := zA A750
        clear A750
        by_cases c76 : t513 = true
        ·subst c76
         have H1 : (laws_FnExactMomentsOfRule.j1 kj11 a1 t485 (t499 != t485) a0_0 l0_1 l0_2 t481 t482 t495 t496) = some r := by rw [if_pos rfl] at H; exact H
         clear H
         have H := H1
         clear H1
         have H' := zA H
         clear H
         have hnb77 := NB500_472.out; have hnc77 := NB472_500.out; have hnb78 := NB500_486.out; have hnc78 := NB486_500.out; have hnb79 := NB500_494.out; have hnc79 := NB494_500.out
         have hcz80_0 : w73.cell? ⟨gb500, 0, none⟩ = some (.int .i64 t495) := (blk_cell BK500.out 0).trans rfl
         have hcz80_1 : w73.cell? ⟨gb500, 1, none⟩ = some (.slice Ao39 t496.length co39) := (blk_cell BK500.out 1).trans rfl
         have hfz80_0 := blk_frozen BK500.out 0
         have hfz80_1 := blk_frozen BK500.out 1
         have hnb81 := NB486_472.out; have hnc81 := NB472_486.out; have hnb82 := NB486_494.out; have hnc82 := NB494_486.out
         have hcz83_0 : w73.cell? ⟨gb486, 0, none⟩ = some (.int .i64 t481) := (blk_cell BK486.out 0).trans rfl
         have hcz83_1 : w73.cell? ⟨gb486, 1, none⟩ = some (.slice Ao24 t482.length co24) := (blk_cell BK486.out 1).trans rfl
         have hfz83_0 := blk_frozen BK486.out 0
         have hfz83_1 := blk_frozen BK486.out 1
         go_wp2_with (first | (go_at_call 30; (with_reducible refine (laws_eqMoments.calls kj11 t495 _ _ t496 t481 _ _ t482 true _ ?side1 ?side2 ?side3 ?side4 A75.out).mono ?_); (case side1 => exact uC ((Kd.R_reads' HO_501001.out).2.2)); (case side2 => exact (Kd.R_reads' HO_501001.out).2.1); (case side3 => exact uC ((Kd.R_reads' HO_487001.out).2.2)); (case side4 => exact (Kd.R_reads' HO_487001.out).2.1); rintro e w84 ⟨rfl, hb⟩; have n0_ := xR HO_487001 hb; have n1_ := xR HO_495001 hb; have n2_ := xR HO_495002 hb; have n3_ := xR HO_501001 hb; have n4_ := xR HO505 hb; have n5_ := xR HO508 hb; have n6_ := xB BK472 hb; have n7_ := xB BK486 hb; have n8_ := xB BK494 hb; have n9_ := xB BK500 hb; have n10_ := xH HB hb; clear HO_487001 HO_495001 HO_495002 HO_501001 HO505 HO508 BK472 BK486 BK494 BK500 HB; have HO_487001 := n0_; have HO_495001 := n1_; have HO_495002 := n2_; have HO_501001 := n3_; have HO505 := n4_; have HO508 := n5_; have BK472 := n6_; have BK486 := n7_; have BK494 := n8_; have BK500 := n9_; have HB := n10_; clear n0_ n1_ n2_ n3_ n4_ n5_ n6_ n7_ n8_ n9_ n10_; (try clear hb); (try clear hb2); (try clear hk); (try clear hi)))
         go_meet
         case rel => exact ⟨_, ((t499 != t485)), (by first | rfl | (simp; done) | (simp [*]; done)), H', ⟨by have := HJ11.out; first | omega | exact Nat.le_refl _⟩, ⟨uR (Kd.R_mono HO_487001.out (fun _ hk => ⟨hk.1, ⟨hk.2.1, hk.2.2.1⟩⟩))⟩, ⟨uR (Kd.R_mono HO_495001.out (fun _ hk => ⟨hk.1.1.1, ⟨hk.1.1.2.1, hk.1.1.2.2⟩⟩))⟩, ⟨uR (Kd.R_mono HO_495002.out (fun _ hk => ⟨hk.1.1.1, ⟨hk.1.1.2.1, hk.1.1.2.2⟩⟩))⟩, ⟨uR (Kd.R_mono HO_501001.out (fun _ hk => ⟨hk.1, ⟨hk.2.1, hk.2.2.1⟩⟩))⟩, ⟨uB BK472.out⟩, ⟨uB BK486.out⟩, ⟨uB BK494.out⟩, ⟨uB BK500.out⟩, ⟨uH HB.out⟩⟩
        ·replace c76 := Bool.eq_false_iff.mpr c76
         subst c76
         have H1 : (laws_FnExactMomentsOfRule.j1 kj11 a1 t485 true a0_0 l0_1 l0_2 t481 t482 t495 t496) = some r := by rw [if_neg (show ¬ (false = true) by decide)] at H; exact H
         clear H
         have H := H1
         clear H1
         have H' := zA H
         clear H
         have hnb85 := NB500_472.out; have hnc85 := NB472_500.out; have hnb86 := NB500_486.out; have hnc86 := NB486_500.out; have hnb87 := NB500_494.out; have hnc87 := NB494_500.out
         have hcz88_0 : w73.cell? ⟨gb500, 0, none⟩ = some (.int .i64 t495) := (blk_cell BK500.out 0).trans rfl
         have hcz88_1 : w73.cell? ⟨gb500, 1, none⟩ = some (.slice Ao39 t496.length co39) := (blk_cell BK500.out 1).trans rfl
         have hfz88_0 := blk_frozen BK500.out 0
         have hfz88_1 := blk_frozen BK500.out 1
         have hnb89 := NB486_472.out; have hnc89 := NB472_486.out; have hnb90 := NB486_494.out; have hnc90 := NB494_486.out
         have hcz91_0 : w73.cell? ⟨gb486, 0, none⟩ = some (.int .i64 t481) := (blk_cell BK486.out 0).trans rfl
         have hcz91_1 : w73.cell? ⟨gb486, 1, none⟩ = some (.slice Ao24 t482.length co24) := (blk_cell BK486.out 1).trans rfl
         have hfz91_0 := blk_frozen BK486.out 0
         have hfz91_1 := blk_frozen BK486.out 1
         go_wp2_with (first | (go_at_call 30; (with_reducible refine (laws_eqMoments.calls kj11 t495 _ _ t496 t481 _ _ t482 false _ ?side1 ?side2 ?side3 ?side4 A75.out).mono ?_); (case side1 => exact uC ((Kd.R_reads' HO_501001.out).2.2)); (case side2 => exact (Kd.R_reads' HO_501001.out).2.1); (case side3 => exact uC ((Kd.R_reads' HO_487001.out).2.2)); (case side4 => exact (Kd.R_reads' HO_487001.out).2.1); rintro e w92 ⟨rfl, hb⟩; have n0_ := xR HO_487001 hb; have n1_ := xR HO_495001 hb; have n2_ := xR HO_495002 hb; have n3_ := xR HO_501001 hb; have n4_ := xR HO505 hb; have n5_ := xR HO508 hb; have n6_ := xB BK472 hb; have n7_ := xB BK486 hb; have n8_ := xB BK494 hb; have n9_ := xB BK500 hb; have n10_ := xH HB hb; clear HO_487001 HO_495001 HO_495002 HO_501001 HO505 HO508 BK472 BK486 BK494 BK500 HB; have HO_487001 := n0_; have HO_495001 := n1_; have HO_495002 := n2_; have HO_501001 := n3_; have HO505 := n4_; have HO508 := n5_; have BK472 := n6_; have BK486 := n7_; have BK494 := n8_; have BK500 := n9_; have HB := n10_; clear n0_ n1_ n2_ n3_ n4_ n5_ n6_ n7_ n8_ n9_ n10_; (try clear hb); (try clear hb2); (try clear hk); (try clear hi)))
         go_meet
         case rel => exact ⟨_, (true), (by first | rfl | (simp; done) | (simp [*]; done)), H', ⟨by have := HJ11.out; first | omega | exact Nat.le_refl _⟩, ⟨uR (Kd.R_mono HO_487001.out (fun _ hk => ⟨hk.1, ⟨hk.2.1, hk.2.2.1⟩⟩))⟩, ⟨uR (Kd.R_mono HO_495001.out (fun _ hk => ⟨hk.1.1.1, ⟨hk.1.1.2.1, hk.1.1.2.2⟩⟩))⟩, ⟨uR (Kd.R_mono HO_495002.out (fun _ hk => ⟨hk.1.1.1, ⟨hk.1.1.2.1, hk.1.1.2.2⟩⟩))⟩, ⟨uR (Kd.R_mono HO_501001.out (fun _ hk => ⟨hk.1, ⟨hk.2.1, hk.2.2.1⟩⟩))⟩, ⟨uB BK472.out⟩, ⟨uB BK486.out⟩, ⟨uB BK494.out⟩, ⟨uB BK500.out⟩, ⟨uH HB.out⟩⟩
      case rest =>
       clear HC63
       try clear c1
       try clear c2
       try clear p2
       try clear c3
       try clear c4
       try clear c4b0
       try clear c5
       try clear c6
       try clear c7
       try clear c8
       try clear c9
       try clear c13
       try clear c15
       try clear c17
       try clear c18
       try clear c22
       try clear c28
       try clear c29
       try clear c30
       try clear c35
       try clear c36
       try clear c37
       try clear c41
       try clear c42
       try clear c43
       try clear c44
       try clear c46
       try clear c47
       try clear c50
       try clear c51
       try clear c52
       try clear c54
       try clear c55
       try clear c58
       try clear c61
       try clear c69
       try clear c70
       try clear c71
       try clear c74
       try clear c74b0
       try clear c76
       try clear c77
       try clear c78
       try clear c79
       try clear c81
       try clear c82
       try clear c85
       try clear c86
       try clear c87
       try clear c89
       try clear c90
       try clear hcz14_0
       try clear hcz14_1
       try clear hcz14_2
       try clear hcz16_0
       try clear hcz16_1
       try clear hcz16_2
       try clear hcz23_0
       try clear hcz23_1
       try clear hcz25_0
       try clear hcz25_1
       try clear hcz25_2
       try clear hcz30_0
       try clear hcz30_1
       try clear hcz30_2
       try clear hcz38_0
       try clear hcz38_1
       try clear hcz45_0
       try clear hcz45_1
       try clear hcz48_0
       try clear hcz48_1
       try clear hcz53_0
       try clear hcz53_1
       try clear hcz56_0
       try clear hcz56_1
       try clear hcz6_0
       try clear hcz6_1
       try clear hcz6_2
       try clear hcz72_0
       try clear hcz72_1
       try clear hcz72_2
       try clear hcz80_0
       try clear hcz80_1
       try clear hcz83_0
       try clear hcz83_1
       try clear hcz88_0
       try clear hcz88_1
       try clear hcz91_0
       try clear hcz91_1
       try clear hfz14_0
       try clear hfz14_1
       try clear hfz14_2
       try clear hfz16_0
       try clear hfz16_1
       try clear hfz16_2
       try clear hfz23_0
       try clear hfz23_1
       try clear hfz25_0
       try clear hfz25_1
       try clear hfz25_2
       try clear hfz30_0
       try clear hfz30_1
       try clear hfz30_2
       try clear hfz38_0
       try clear hfz38_1
       try clear hfz45_0
       try clear hfz45_1
       try clear hfz48_0
       try clear hfz48_1
       try clear hfz53_0
       try clear hfz53_1
       try clear hfz56_0
       try clear hfz56_1
       try clear hfz6_0
       try clear hfz6_1
       try clear hfz6_2
       try clear hfz72_0
       try clear hfz72_1
       try clear hfz72_2
       try clear hfz80_0
       try clear hfz80_1
       try clear hfz83_0
       try clear hfz83_1
       try clear hfz88_0
       try clear hfz88_1
       try clear hfz91_0
       try clear hfz91_1
       try clear p2
       obtain ⟨kq, x65_62, rfl, HA, HJ62, HO_487001, HO_495001, HO_495002, HO_501001, BK472, BK486, BK494, BK500, HB⟩ := hcut
       have hl495001_62 := (Kd.R_reads' HO_495001.out).1
       rw [hl495001_62] at HO_495001
       (try simp only [hl495001_62])
       (try simp only [hl495001_62] at BK472)
       (try simp only [hl495001_62] at BK486)
       (try simp only [hl495001_62] at BK494)
       (try simp only [hl495001_62] at BK500)
       (try simp only [hl495001_62] at HO_487001)
       (try simp only [hl495001_62] at HO_495002)
       (try simp only [hl495001_62] at HO_501001)
       have hl495002_62 := (Kd.R_reads' HO_495002.out).1
       rw [hl495002_62] at HO_495002
       (try simp only [hl495002_62])
       (try simp only [hl495002_62] at BK472)
       (try simp only [hl495002_62] at BK486)
       (try simp only [hl495002_62] at BK494)
       (try simp only [hl495002_62] at BK500)
       (try simp only [hl495002_62] at HO_487001)
       (try simp only [hl495002_62] at HO_495001)
       (try simp only [hl495002_62] at HO_501001)
       cases kq with
       | zero => exact absurd HA.out (by simp [laws_FnExactMomentsOfRule.j1])
       | succ kj62 =>
        have H := HA.out
        clear HA
        simp only [laws_FnExactMomentsOfRule.j1] at H
        by_cases c93 : x65_62 = true
        ·subst c93
         have H1 : (some false) = some r := by rw [if_pos rfl] at H; exact H
         clear H
         have H := H1
         clear H1
         rw [HRT.out] at H
         exact absurd H (by simp)
        ·replace c93 := Bool.eq_false_iff.mpr c93
         subst c93
         have H1 : ((laws_markMoments.f kj62 t495 t496 1).bind fun bt514 => ((laws_heldMoments.f kj62 t495 bt514.2 1).bind fun t516 => (if t516 < 0 then (some false) else (if t516 = bt514.1 then ((laws_toRule.f kj62 a0_0 l0_1 l0_2).bind fun bt517 => ((impl_MomentsOfRule.f kj62 bt517.1 bt517.2.1 bt517.2.2 a1).bind fun bt524 => ((laws_eqMoments.f kj62 bt524.1 bt524.2.1 t481 t482).bind fun t530 => (if t530 = true then (laws_FnExactMomentsOfRule.j2 kj62 bt514.1 (bt524.2.2 != t485) t495 bt514.2) else (laws_FnExactMomentsOfRule.j2 kj62 bt514.1 true t495 bt514.2))))) else (some false))))) = some r := by rw [if_neg (show ¬ (false = true) by decide)] at H; exact H
         clear H
         have H := H1
         clear H1
         replace H := Option.bind_eq_some_iff.mp H
         obtain ⟨⟨t514, t515⟩, A940, H⟩ := H
         replace H : ((laws_heldMoments.f kj62 t495 t515 1).bind fun t516 => (if t516 < 0 then (some false) else (if t516 = t514 then ((laws_toRule.f kj62 a0_0 l0_1 l0_2).bind fun bt517 => ((impl_MomentsOfRule.f kj62 bt517.1 bt517.2.1 bt517.2.2 a1).bind fun bt524 => ((laws_eqMoments.f kj62 bt524.1 bt524.2.1 t481 t482).bind fun t530 => (if t530 = true then (laws_FnExactMomentsOfRule.j2 kj62 t514 (bt524.2.2 != t485) t495 t515) else (laws_FnExactMomentsOfRule.j2 kj62 t514 true t495 t515))))) else (some false)))) = some r := H
         have A94 := zA A940
         clear A940
         replace H := Option.bind_eq_some_iff.mp H
         obtain ⟨t516, A950, H⟩ := H
         replace H : (if t516 < 0 then (some false) else (if t516 = t514 then ((laws_toRule.f kj62 a0_0 l0_1 l0_2).bind fun bt517 => ((impl_MomentsOfRule.f kj62 bt517.1 bt517.2.1 bt517.2.2 a1).bind fun bt524 => ((laws_eqMoments.f kj62 bt524.1 bt524.2.1 t481 t482).bind fun t530 => (if t530 = true then (laws_FnExactMomentsOfRule.j2 kj62 t514 (bt524.2.2 != t485) t495 t515) else (laws_FnExactMomentsOfRule.j2 kj62 t514 true t495 t515))))) else (some false))) = some r := H
         have A95 := zA A950
         clear A950
         by_cases c96 : t516 < 0
         ·rw [if_pos c96] at H
          have c96b0 : decide (t516 < 0) = true := decide_eq_true c96
          clear c96
          rw [HRT.out] at H
          exact absurd H (by simp)
         ·rw [if_neg c96] at H
          have c96b0 : decide (t516 < 0) = false := decide_eq_false c96
          clear c96
          by_cases c97 : t516 = t514
          ·rw [if_pos c97] at H
           have c97b0 : (t516 == t514) = true := beq_iff_eq.mpr c97
           have c97b1 : (t516 != t514) = false := bne_eq_false_iff_eq.mpr c97
           clear c97
           replace H := Option.bind_eq_some_iff.mp H
           obtain ⟨⟨t517, t518, t521⟩, A980, H⟩ := H
           replace H : ((impl_MomentsOfRule.f kj62 t517 t518 t521 a1).bind fun bt524 => ((laws_eqMoments.f kj62 bt524.1 bt524.2.1 t481 t482).bind fun t530 => (if t530 = true then (laws_FnExactMomentsOfRule.j2 kj62 t514 (bt524.2.2 != t485) t495 t515) else (laws_FnExactMomentsOfRule.j2 kj62 t514 true t495 t515)))) = some r := H
           have A98 := zA A980
           clear A980
           replace H := Option.bind_eq_some_iff.mp H
           obtain ⟨⟨t524, t525, t528⟩, A990, H⟩ := H
           replace H : ((laws_eqMoments.f kj62 t524 t525 t481 t482).bind fun t530 => (if t530 = true then (laws_FnExactMomentsOfRule.j2 kj62 t514 (t528 != t485) t495 t515) else (laws_FnExactMomentsOfRule.j2 kj62 t514 true t495 t515))) = some r := H
           have A99 := zA A990
           clear A990
           have HC100 := zA H
           clear H
           have hnb101 := NB500_472.out; have hnc101 := NB472_500.out; have hnb102 := NB500_486.out; have hnc102 := NB486_500.out; have hnb103 := NB500_494.out; have hnc103 := NB494_500.out
           have hcz104_0 : wc.cell? ⟨gb500, 0, none⟩ = some (.int .i64 t495) := (blk_cell BK500.out 0).trans rfl
           have hcz104_1 : wc.cell? ⟨gb500, 1, none⟩ = some (.slice Ao39 t496.length co39) := (blk_cell BK500.out 1).trans rfl
           have hfz104_0 := blk_frozen BK500.out 0
           have hfz104_1 := blk_frozen BK500.out 1
           go_upto_region 25 with (first | ((with_reducible refine gate_callee (f := 31) rfl ?_); refine goesL_ (some 68) rfl rfl Try.func31 (by kernel_rfl) rfl #[.agg #[.int .i64 t495, .slice Ao39 t496.length co39], .int .i64 1] rfl (by (try simp only [la, lb, lc]); first | done | rfl | (simp only [ld, le]; rfl)) ?_; (with_reducible refine (laws_markMoments.calls kj62 t495 (fun k_ => some k_ = (.slice Ao39 t496.length co39 : Value).ownBlock) (.slice Ao39 t496.length co39) t496 1 t514 t515 w _ ?side1 ?side2 A94.out).mono ?_); (case side1 => repeat (first | (with_reducible first | exact HB.out | apply below_alloc | apply pw_below_drewN | apply below_drew1 | refine below_set ?_ GE472.out | refine below_set ?_ GE486.out | refine below_set ?_ GE494.out | refine below_set ?_ GE500.out) | exact HB.out)); (case side2 => exact Kd.R_tight rfl HO_501001.out); rintro e w105 ⟨rfl, hy0, hb, hkp⟩; refine ⟨_, rfl, ?_⟩; have n0_ := zA (Kd.R_mono (ok' := fun k_ => some k_ ≠ (.slice Ao31 t511.length co31 : Value).ownBlock ∧ some k_ ≠ (.slice Ao32 t512.length co32 : Value).ownBlock ∧ some k_ ≠ (.slice Ao39 t496.length co39 : Value).ownBlock) (Kd.R_keptB (HO_487001.out) hkp (fun k_ hk_ hs_ => (hk_.2.2) hs_)) (fun k_ hk_ => ⟨hk_.1.1, hk_.1.2.1, hk_.1.2.2⟩)); have n1_ := zA (Kd.R_mono (ok' := fun k_ => some k_ ≠ (.slice Ao24 t482.length co24 : Value).ownBlock ∧ some k_ ≠ (.slice Ao32 t512.length co32 : Value).ownBlock ∧ some k_ ≠ (.slice Ao39 t496.length co39 : Value).ownBlock) (Kd.R_keptB (HO_495001.out) hkp (fun k_ hk_ hs_ => (hk_.2.2) hs_)) (fun k_ hk_ => ⟨hk_.1.1, hk_.1.2.1, hk_.1.2.2⟩)); have n2_ := zA (Kd.R_mono (ok' := fun k_ => some k_ ≠ (.slice Ao24 t482.length co24 : Value).ownBlock ∧ some k_ ≠ (.slice Ao31 t511.length co31 : Value).ownBlock ∧ some k_ ≠ (.slice Ao39 t496.length co39 : Value).ownBlock) (Kd.R_keptB (HO_495002.out) hkp (fun k_ hk_ hs_ => (hk_.2.2) hs_)) (fun k_ hk_ => ⟨hk_.1.1, hk_.1.2.1, hk_.1.2.2⟩)); have n3_ := zA (Kd.R_reok rfl hy0 (fun k_ e_ => HO_501001.out.1 k_ e_)); have n4_ := zA (blk_kept (uB BK472.out) hkp (fun hs_ => (fun e_ => (Kd.R_ne HO_501001.out BK472.out (by decide)) e_) hs_)); have n5_ := zA (blk_kept (uB BK486.out) hkp (fun hs_ => (fun e_ => (Kd.R_ne HO_501001.out BK486.out (by decide)) e_) hs_)); have n6_ := zA (blk_kept (uB BK494.out) hkp (fun hs_ => (fun e_ => (Kd.R_ne HO_501001.out BK494.out (by decide)) e_) hs_)); have n7_ := zA (blk_kept (uB BK500.out) hkp (fun hs_ => (fun e_ => (Kd.R_ne HO_501001.out BK500.out (by decide)) e_) hs_)); have n8_ := zA (hb); clear HO_487001 HO_495001 HO_495002 HO_501001 BK472 BK486 BK494 BK500 HB; have HO_487001 := n0_; have HO_495001 := n1_; have HO_495002 := n2_; have HO_501001 := n3_; have BK472 := n4_; have BK486 := n5_; have BK494 := n6_; have BK500 := n7_; have HB := n8_; clear n0_ n1_ n2_ n3_ n4_ n5_ n6_ n7_ n8_; (try clear hb); (try clear hkp); (try clear hy0); have hcz106_0 : w105.cell? ⟨gb500, 0, none⟩ = some (.int .i64 t495) := (blk_cell BK500.out 0).trans rfl; have hcz106_1 : w105.cell? ⟨gb500, 1, none⟩ = some (.slice Ao39 t496.length co39) := (blk_cell BK500.out 1).trans rfl; have hfz106_0 := blk_frozen BK500.out 0; have hfz106_1 := blk_frozen BK500.out 1) | ((with_reducible refine gate_callee (f := 32) rfl ?_); refine goesL_ (some 71) rfl rfl Try.func32 (by kernel_rfl) rfl #[.agg #[.int .i64 t495, .slice Ao39 t515.length co39], .int .i64 1] rfl (by (try simp only [la, lb, lc]); first | done | (rw [show t515.length = t496.length from (Kd.R_reads' HO_501001.out).1.symm] <;> rfl) | rfl | (simp only [ld, le]; rfl)) ?_; (with_reducible refine (laws_heldMoments.calls kj62 t495 _ _ t515 1 t516 _ ?side1 ?side2 A95.out).mono ?_); (case side1 => exact uC ((Kd.R_reads' HO_501001.out).2.2)); (case side2 => rw [show t515.length = t496.length from (Kd.R_reads' HO_501001.out).1.symm]; exact (Kd.R_reads' HO_501001.out).2.1); rintro e w107 ⟨rfl, hb⟩; refine ⟨_, rfl, ?_⟩; have n0_ := xR HO_487001 hb; have n1_ := xR HO_495001 hb; have n2_ := xR HO_495002 hb; have n3_ := xR HO_501001 hb; have n4_ := xB BK472 hb; have n5_ := xB BK486 hb; have n6_ := xB BK494 hb; have n7_ := xB BK500 hb; have n8_ := xH HB hb; clear HO_487001 HO_495001 HO_495002 HO_501001 BK472 BK486 BK494 BK500 HB; have HO_487001 := n0_; have HO_495001 := n1_; have HO_495002 := n2_; have HO_501001 := n3_; have BK472 := n4_; have BK486 := n5_; have BK494 := n6_; have BK500 := n7_; have HB := n8_; clear n0_ n1_ n2_ n3_ n4_ n5_ n6_ n7_ n8_; (try clear hb); (try clear hb2); (try clear hk); (try clear hi); have hnb108 := NB472_486.out; have hnc108 := NB486_472.out; have hnb109 := NB472_494.out; have hnc109 := NB494_472.out; have hcz110_0 : w107.cell? ⟨gb472, 0, none⟩ = some (.int .i64 a0_0) := (blk_cell BK472.out 0).trans rfl; have hcz110_1 : w107.cell? ⟨gb472, 1, none⟩ = some (.slice A0_1 l0_1.length c0_1) := (blk_cell BK472.out 1).trans rfl; have hcz110_2 : w107.cell? ⟨gb472, 2, none⟩ = some (.slice A0_2 l0_2.length c0_2) := (blk_cell BK472.out 2).trans rfl; have hfz110_0 := blk_frozen BK472.out 0; have hfz110_1 := blk_frozen BK472.out 1; have hfz110_2 := blk_frozen BK472.out 2) | ((with_reducible refine gate_callee (f := 15) rfl ?_); refine goesL_ (some 79) rfl rfl Try.func15 (by kernel_rfl) rfl #[.agg #[.int .i64 a0_0, .slice A0_1 l0_1.length c0_1, .slice A0_2 l0_2.length c0_2]] rfl (by (try simp only [la, lb, lc]); first | done | rfl | (simp only [ld, le]; rfl)) ?_; (with_reducible refine (laws_toRule.calls kj62 a0_0 _ _ l0_1 _ _ l0_2 t517 t518 t521 _ ?side1 ?side2 ?side3 ?side4 A98.out).mono ?_); (case side1 => exact uC ((Kd.C_below HR0_1.out HB.out))); (case side2 => exact HC0_1.out); (case side3 => exact uC ((Kd.C_below HR0_2.out HB.out))); (case side4 => exact HC0_2.out); rintro e w111 ⟨v519, v522, rfl, ho0, ho1, hb⟩; refine ⟨_, rfl, ?_⟩; have n0_ := zA (Kd.R_mono (Kd.R_told (Kd.R_told (Kd.R_old (uR HO_487001.out) hb) (Kd.R_base ho0)) (Kd.R_base ho1)) (fun _ h_ => h_.1)); have n1_ := zA (Kd.R_mono (Kd.R_told (Kd.R_told (Kd.R_old (uR HO_495001.out) hb) (Kd.R_base ho0)) (Kd.R_base ho1)) (fun _ h_ => h_.1)); have n2_ := zA (Kd.R_mono (Kd.R_told (Kd.R_told (Kd.R_old (uR HO_495002.out) hb) (Kd.R_base ho0)) (Kd.R_base ho1)) (fun _ h_ => h_.1)); have n3_ := zA (Kd.R_mono (Kd.R_told (Kd.R_told (Kd.R_old (uR HO_501001.out) hb) (Kd.R_base ho0)) (Kd.R_base ho1)) (fun _ h_ => h_.1)); have n4_ := zA (Kd.R_lower (Kd.R_new' (Kd.R_new' (Kd.R_new' (Kd.R_new' ho0 (Kd.R_lt (uR HO_487001.out))) (Kd.R_lt (uR HO_495001.out))) (Kd.R_lt (uR HO_495002.out))) (Kd.R_lt (uR HO_501001.out))) (below_size (uH HB.out))); have n5_ := zA (Kd.R_lower (Kd.R_new' (Kd.R_new' (Kd.R_new' (Kd.R_new' ho1 (Kd.R_lt (uR HO_487001.out))) (Kd.R_lt (uR HO_495001.out))) (Kd.R_lt (uR HO_495002.out))) (Kd.R_lt (uR HO_501001.out))) (below_size (uH HB.out))); have n6_ := xB BK472 hb; have n7_ := xB BK486 hb; have n8_ := xB BK494 hb; have n9_ := xB BK500 hb; have n10_ := xH HB hb; clear HO_487001 HO_495001 HO_495002 HO_501001 BK472 BK486 BK494 BK500 HB; have HO_487001 := n0_; have HO_495001 := n1_; have HO_495002 := n2_; have HO_501001 := n3_; have HO520 := n4_; have HO523 := n5_; have BK472 := n6_; have BK486 := n7_; have BK494 := n8_; have BK500 := n9_; have HB := n10_; clear n0_ n1_ n2_ n3_ n4_ n5_ n6_ n7_ n8_ n9_ n10_; (try clear hb); (try clear hb2); (try clear hk); (try clear hi); (try clear ho0); (try clear ho1); obtain ⟨Ao112, co112, eo112⟩ := Kd.R_slice HO520.out; subst eo112; obtain ⟨Ao113, co113, eo113⟩ := Kd.R_slice HO523.out; subst eo113) | ((with_reducible refine gate_callee (f := 29) rfl ?_); refine goesL_ (some 81) rfl rfl Try.func29 (by kernel_rfl) rfl #[.agg #[.int .i64 t517, .slice Ao112 t518.length co112, .slice Ao113 t521.length co113], .int .i64 a1] rfl (by (try simp only [la, lb, lc]); first | done | rfl | (simp only [ld, le]; rfl)) ?_; (with_reducible refine (impl_MomentsOfRule.calls kj62 t517 _ _ t518 _ _ t521 a1 t524 t525 t528 _ ?side1 ?side2 ?side3 ?side4 A99.out).mono ?_); (case side1 => exact uC ((Kd.R_reads' HO520.out).2.2)); (case side2 => exact (Kd.R_reads' HO520.out).2.1); (case side3 => exact uC ((Kd.R_reads' HO523.out).2.2)); (case side4 => exact (Kd.R_reads' HO523.out).2.1); rintro e w114 ⟨v526, rfl, ho0, hb⟩; refine ⟨_, rfl, ?_⟩; have n0_ := zA (Kd.R_elder' (uR HO_487001.out) (Kd.R_base ho0) hb); have n1_ := zA (Kd.R_elder' (uR HO_495001.out) (Kd.R_base ho0) hb); have n2_ := zA (Kd.R_elder' (uR HO_495002.out) (Kd.R_base ho0) hb); have n3_ := zA (Kd.R_elder' (uR HO_501001.out) (Kd.R_base ho0) hb); have n4_ := zA (Kd.R_elder' (uR HO520.out) (Kd.R_base ho0) hb); have n5_ := zA (Kd.R_elder' (uR HO523.out) (Kd.R_base ho0) hb); have n6_ := zA (Kd.R_lower (Kd.R_new' (Kd.R_new' (Kd.R_new' (Kd.R_new' (Kd.R_new' (Kd.R_new' ho0 (Kd.R_lt (uR HO_487001.out))) (Kd.R_lt (uR HO_495001.out))) (Kd.R_lt (uR HO_495002.out))) (Kd.R_lt (uR HO_501001.out))) (Kd.R_lt (uR HO520.out))) (Kd.R_lt (uR HO523.out))) (below_size (uH HB.out))); have n7_ := xB BK472 hb; have n8_ := xB BK486 hb; have n9_ := xB BK494 hb; have n10_ := xB BK500 hb; have n11_ := xH HB hb; clear HO_487001 HO_495001 HO_495002 HO_501001 HO520 HO523 BK472 BK486 BK494 BK500 HB; have HO_487001 := n0_; have HO_495001 := n1_; have HO_495002 := n2_; have HO_501001 := n3_; have HO520 := n4_; have HO523 := n5_; have HO527 := n6_; have BK472 := n7_; have BK486 := n8_; have BK494 := n9_; have BK500 := n10_; have HB := n11_; clear n0_ n1_ n2_ n3_ n4_ n5_ n6_ n7_ n8_ n9_ n10_ n11_; (try clear hb); (try clear hb2); (try clear hk); (try clear hi); (try clear ho0)) | ((with_reducible refine gate_dst (N := 14) rfl ?_); refine box_event ?hg (N := 14) ?hd (cs := #[.int .i64 0, .slice none 0 0]) (t := 42) ?hr ?_; (case hd => rfl); (case hg => rfl); (case hr => first | (go_simp; done) | (go_simp; rfl)); intro gb529 hg w115 hbox hb; have n0_ := xR HO_487001 hb; have n1_ := xR HO_495001 hb; have n2_ := xR HO_495002 hb; have n3_ := xR HO_501001 hb; have n4_ := xR HO520 hb; have n5_ := xR HO523 hb; have n6_ := xR HO527 hb; have n7_ := xB BK472 hb; have n8_ := xB BK486 hb; have n9_ := xB BK494 hb; have n10_ := xB BK500 hb; have n11_ := xH HB hb; have n12_ := zA (hbox); have n13_ := zA ((by rw [hg]; exact (below_size (uH HB.out)) : w.heap.size ≤ gb529)); have n14_ := zA ((by rw [hg]; exact (below_size (uH HB.out)) : w.heap.size ≤ gb529)); have n15_ := zA ((by rw [hg]; exact neL BK472 : gb472 ≠ gb529)); have n16_ := zA ((by rw [hg]; exact neG BK472 : gb529 ≠ gb472)); have n17_ := zA ((by rw [hg]; exact neL BK486 : gb486 ≠ gb529)); have n18_ := zA ((by rw [hg]; exact neG BK486 : gb529 ≠ gb486)); have n19_ := zA ((by rw [hg]; exact neL BK494 : gb494 ≠ gb529)); have n20_ := zA ((by rw [hg]; exact neG BK494 : gb529 ≠ gb494)); have n21_ := zA ((by rw [hg]; exact neL BK500 : gb500 ≠ gb529)); have n22_ := zA ((by rw [hg]; exact neG BK500 : gb529 ≠ gb500)); clear HO_487001 HO_495001 HO_495002 HO_501001 HO520 HO523 HO527 BK472 BK486 BK494 BK500 HB; have HO_487001 := n0_; have HO_495001 := n1_; have HO_495002 := n2_; have HO_501001 := n3_; have HO520 := n4_; have HO523 := n5_; have HO527 := n6_; have BK472 := n7_; have BK486 := n8_; have BK494 := n9_; have BK500 := n10_; have HB := n11_; have BK529 := n12_; have GW529 := n13_; have GE529 := n14_; have := geI GE529; have NB472_529 := n15_; have NB529_472 := n16_; have NB486_529 := n17_; have NB529_486 := n18_; have NB494_529 := n19_; have NB529_494 := n20_; have NB500_529 := n21_; have NB529_500 := n22_; clear n0_ n1_ n2_ n3_ n4_ n5_ n6_ n7_ n8_ n9_ n10_ n11_ n12_ n13_ n14_ n15_ n16_ n17_ n18_ n19_ n20_ n21_ n22_ hb hbox hg; have hnb116 := NB529_472.out; have hnc116 := NB472_529.out; have hnb117 := NB529_486.out; have hnc117 := NB486_529.out; have hnb118 := NB529_494.out; have hnc118 := NB494_529.out; have hnb119 := NB529_500.out; have hnc119 := NB500_529.out; have hcz120_0 : w115.cell? ⟨gb529, 0, none⟩ = some (.int .i64 0) := (blk_cell BK529.out 0).trans rfl; have hcz120_1 : w115.cell? ⟨gb529, 1, none⟩ = some (.slice none 0 0) := (blk_cell BK529.out 1).trans rfl; have hfz120_0 := blk_frozen BK529.out 0; have hfz120_1 := blk_frozen BK529.out 1; obtain ⟨Ao121, co121, eo121⟩ := Kd.R_slice HO527.out; subst eo121))
           (try simp only [Act.put, ls, lz, ln])
           go_cut [92] (fun v92 wc => ∃ (kq : Nat) (x92_99 : Bool), v92 = .bool x92_99 ∧ Aside0 (laws_FnExactMomentsOfRule.j2 kq t514 x92_99 t495 t515 = some r) ∧ Aside0 (kq ≤ kj62) ∧ Aside0 (Kd.R (Kd.int .i64) 2 wc w.heap.size (fun k_ => some k_ ≠ ((.slice Ao31 t511.length co31) : Value).ownBlock ∧ some k_ ≠ ((.slice Ao32 t512.length co32) : Value).ownBlock ∧ some k_ ≠ ((.slice Ao39 t496.length co39) : Value).ownBlock ∧ some k_ ≠ ((.slice Ao121 t525.length co121) : Value).ownBlock) (.slice Ao24 t482.length co24) t482) ∧ Aside0 (Kd.R (Kd.int .i64) 2 wc w.heap.size (fun k_ => some k_ ≠ ((.slice Ao24 t482.length co24) : Value).ownBlock ∧ some k_ ≠ ((.slice Ao32 t512.length co32) : Value).ownBlock ∧ some k_ ≠ ((.slice Ao39 t496.length co39) : Value).ownBlock ∧ some k_ ≠ ((.slice Ao121 t525.length co121) : Value).ownBlock) (.slice Ao31 t511.length co31) t511) ∧ Aside0 (Kd.R (Kd.int .i64) 2 wc w.heap.size (fun k_ => some k_ ≠ ((.slice Ao24 t482.length co24) : Value).ownBlock ∧ some k_ ≠ ((.slice Ao31 t511.length co31) : Value).ownBlock ∧ some k_ ≠ ((.slice Ao39 t496.length co39) : Value).ownBlock ∧ some k_ ≠ ((.slice Ao121 t525.length co121) : Value).ownBlock) (.slice Ao32 t512.length co32) t512) ∧ Aside0 (Kd.R (Kd.int .i64) 2 wc w.heap.size (fun k_ => some k_ ≠ ((.slice Ao24 t482.length co24) : Value).ownBlock ∧ some k_ ≠ ((.slice Ao31 t511.length co31) : Value).ownBlock ∧ some k_ ≠ ((.slice Ao32 t512.length co32) : Value).ownBlock ∧ some k_ ≠ ((.slice Ao121 t525.length co121) : Value).ownBlock) (.slice Ao39 t496.length co39) t515) ∧ Aside0 (Kd.R (Kd.int .i64) 2 wc w.heap.size (fun k_ => some k_ ≠ ((.slice Ao24 t482.length co24) : Value).ownBlock ∧ some k_ ≠ ((.slice Ao31 t511.length co31) : Value).ownBlock ∧ some k_ ≠ ((.slice Ao32 t512.length co32) : Value).ownBlock ∧ some k_ ≠ ((.slice Ao39 t496.length co39) : Value).ownBlock) (.slice Ao121 t525.length co121) t525) ∧ Aside0 (wc.heap[gb472]? = some (.cells #[.int .i64 a0_0, (.slice A0_1 l0_1.length c0_1), (.slice A0_2 l0_2.length c0_2)] 24 (0, 0))) ∧ Aside0 (wc.heap[gb486]? = some (.cells #[.int .i64 t481, (.slice Ao24 t482.length co24)] 42 (0, 0))) ∧ Aside0 (wc.heap[gb494]? = some (.cells #[.int .i64 t487, (.slice Ao31 t511.length co31), (.slice Ao32 t512.length co32)] 26 (0, 0))) ∧ Aside0 (wc.heap[gb500]? = some (.cells #[.int .i64 t495, (.slice Ao39 t496.length co39)] 42 (0, 0))) ∧ Aside0 (wc.heap[gb529]? = some (.cells #[.int .i64 t524, (.slice Ao121 t525.length co121)] 42 (0, 0))) ∧ Aside0 (Below w.heap.size w wc))
           case first =>
            have H := HC100.out
            clear HC100
            replace H := Option.bind_eq_some_iff.mp H
            obtain ⟨t530, A1220, H⟩ := H
            replace H : (if t530 = true then (laws_FnExactMomentsOfRule.j2 kj62 t514 (t528 != t485) t495 t515) else (laws_FnExactMomentsOfRule.j2 kj62 t514 true t495 t515)) = some r := H
            have A122 := zA A1220
            clear A1220
            by_cases c123 : t530 = true
            ·subst c123
             have H1 : (laws_FnExactMomentsOfRule.j2 kj62 t514 (t528 != t485) t495 t515) = some r := by rw [if_pos rfl] at H; exact H
             clear H
             have H := H1
             clear H1
             have H' := zA H
             clear H
             have hnb124 := NB529_472.out; have hnc124 := NB472_529.out; have hnb125 := NB529_486.out; have hnc125 := NB486_529.out; have hnb126 := NB529_494.out; have hnc126 := NB494_529.out; have hnb127 := NB529_500.out; have hnc127 := NB500_529.out
             have hcz128_0 : w115.cell? ⟨gb529, 0, none⟩ = some (.int .i64 0) := (blk_cell BK529.out 0).trans rfl
             have hcz128_1 : w115.cell? ⟨gb529, 1, none⟩ = some (.slice none 0 0) := (blk_cell BK529.out 1).trans rfl
             have hfz128_0 := blk_frozen BK529.out 0
             have hfz128_1 := blk_frozen BK529.out 1
             have hnb129 := NB486_472.out; have hnc129 := NB472_486.out; have hnb130 := NB486_494.out; have hnc130 := NB494_486.out; have hnb131 := NB486_500.out; have hnc131 := NB500_486.out
             have hcz132_0 : w115.cell? ⟨gb486, 0, none⟩ = some (.int .i64 t481) := (blk_cell BK486.out 0).trans rfl
             have hcz132_1 : w115.cell? ⟨gb486, 1, none⟩ = some (.slice Ao24 t482.length co24) := (blk_cell BK486.out 1).trans rfl
             have hfz132_0 := blk_frozen BK486.out 0
             have hfz132_1 := blk_frozen BK486.out 1
             go_wp2_with (first | ((with_reducible refine gate_callee (f := 30) rfl ?_); refine goesL_ (some 86) rfl rfl Try.func30 (by kernel_rfl) rfl #[.agg #[.int .i64 t524, .slice Ao121 t525.length co121], .agg #[.int .i64 t481, .slice Ao24 t482.length co24]] rfl (by (try simp only [la, lb, lc]); first | done | rfl | (simp only [ld, le]; rfl)) ?_; (with_reducible refine (laws_eqMoments.calls kj62 t524 _ _ t525 t481 _ _ t482 true _ ?side1 ?side2 ?side3 ?side4 A122.out).mono ?_); (case side1 => refine (Kd.R_reads' (e := 2) (base := w.heap.size) (ok := fun k_ => ((((((True ∧ some k_ ≠ (.slice Ao24 t482.length co24 : Value).ownBlock) ∧ some k_ ≠ (.slice Ao31 t511.length co31 : Value).ownBlock) ∧ some k_ ≠ (.slice Ao32 t512.length co32 : Value).ownBlock) ∧ some k_ ≠ (.slice Ao39 t496.length co39 : Value).ownBlock) ∧ some k_ ≠ (.slice Ao112 t518.length co112 : Value).ownBlock) ∧ some k_ ≠ (.slice Ao113 t521.length co113 : Value).ownBlock)) (n := t525.length) (c := co121) ?_).2.2; exact (uR ((Kd.R_mono (Kd.R_far (p := ⟨gb529, 1, none⟩) (Kd.R_far (p := ⟨gb529, 0, none⟩) (Kd.R_types HO527.out BK529.out (by decide)) (fun _ hk => hk.2) (.int .i64 t524)) (fun _ hk => hk.2) (.slice Ao121 t525.length co121)) (fun _ h_ => h_.1))))); (case side2 => exact (Kd.R_reads' HO527.out).2.1); (case side3 => refine (Kd.R_reads' (e := 2) (base := w.heap.size) (ok := fun k_ => ((((some k_ ≠ (.slice Ao31 t511.length co31 : Value).ownBlock ∧ (some k_ ≠ (.slice Ao32 t512.length co32 : Value).ownBlock ∧ some k_ ≠ (.slice Ao39 t496.length co39 : Value).ownBlock)) ∧ some k_ ≠ (.slice Ao112 t518.length co112 : Value).ownBlock) ∧ some k_ ≠ (.slice Ao113 t521.length co113 : Value).ownBlock) ∧ some k_ ≠ (.slice Ao121 t525.length co121 : Value).ownBlock)) (n := t482.length) (c := co24) ?_).2.2; exact (uR ((Kd.R_mono (Kd.R_far (p := ⟨gb529, 1, none⟩) (Kd.R_far (p := ⟨gb529, 0, none⟩) (Kd.R_types HO_487001.out BK529.out (by decide)) (fun _ hk => hk.2) (.int .i64 t524)) (fun _ hk => hk.2) (.slice Ao121 t525.length co121)) (fun _ h_ => h_.1))))); (case side4 => exact (Kd.R_reads' HO_487001.out).2.1); rintro e w133 ⟨rfl, hb⟩; refine ⟨_, rfl, ?_⟩; have n0_ := zA (Kd.R_below (uR ((Kd.R_mono (Kd.R_far (p := ⟨gb529, 1, none⟩) (Kd.R_far (p := ⟨gb529, 0, none⟩) (Kd.R_types HO_487001.out BK529.out (by decide)) (fun _ hk => hk.2) (.int .i64 t524)) (fun _ hk => hk.2) (.slice Ao121 t525.length co121)) (fun _ h_ => h_.1)))) hb); have n1_ := zA (Kd.R_below (uR ((Kd.R_mono (Kd.R_far (p := ⟨gb529, 1, none⟩) (Kd.R_far (p := ⟨gb529, 0, none⟩) (Kd.R_types HO_495001.out BK529.out (by decide)) (fun _ hk => hk.2) (.int .i64 t524)) (fun _ hk => hk.2) (.slice Ao121 t525.length co121)) (fun _ h_ => h_.1)))) hb); have n2_ := zA (Kd.R_below (uR ((Kd.R_mono (Kd.R_far (p := ⟨gb529, 1, none⟩) (Kd.R_far (p := ⟨gb529, 0, none⟩) (Kd.R_types HO_495002.out BK529.out (by decide)) (fun _ hk => hk.2) (.int .i64 t524)) (fun _ hk => hk.2) (.slice Ao121 t525.length co121)) (fun _ h_ => h_.1)))) hb); have n3_ := zA (Kd.R_below (uR ((Kd.R_mono (Kd.R_far (p := ⟨gb529, 1, none⟩) (Kd.R_far (p := ⟨gb529, 0, none⟩) (Kd.R_types HO_501001.out BK529.out (by decide)) (fun _ hk => hk.2) (.int .i64 t524)) (fun _ hk => hk.2) (.slice Ao121 t525.length co121)) (fun _ h_ => h_.1)))) hb); have n4_ := zA (Kd.R_below (uR ((Kd.R_mono (Kd.R_far (p := ⟨gb529, 1, none⟩) (Kd.R_far (p := ⟨gb529, 0, none⟩) (Kd.R_types HO520.out BK529.out (by decide)) (fun _ hk => hk.2) (.int .i64 t524)) (fun _ hk => hk.2) (.slice Ao121 t525.length co121)) (fun _ h_ => h_.1)))) hb); have n5_ := zA (Kd.R_below (uR ((Kd.R_mono (Kd.R_far (p := ⟨gb529, 1, none⟩) (Kd.R_far (p := ⟨gb529, 0, none⟩) (Kd.R_types HO523.out BK529.out (by decide)) (fun _ hk => hk.2) (.int .i64 t524)) (fun _ hk => hk.2) (.slice Ao121 t525.length co121)) (fun _ h_ => h_.1)))) hb); have n6_ := zA (Kd.R_below (uR ((Kd.R_mono (Kd.R_far (p := ⟨gb529, 1, none⟩) (Kd.R_far (p := ⟨gb529, 0, none⟩) (Kd.R_types HO527.out BK529.out (by decide)) (fun _ hk => hk.2) (.int .i64 t524)) (fun _ hk => hk.2) (.slice Ao121 t525.length co121)) (fun _ h_ => h_.1)))) hb); have n7_ := zA (blk_below (g := gb472) (o := .cells #[.int .i64 a0_0, .slice A0_1 l0_1.length c0_1, .slice A0_2 l0_2.length c0_2] 24 (0, 0)) (by (with_reducible repeat (first | refine blk_drewN ?_ _ | refine blk_drew ?_ | refine blk_alloc ?_ _)); refine blk_far ?_ NB472_529.out _; (with_reducible repeat (first | refine blk_drewN ?_ _ | refine blk_drew ?_ | refine blk_alloc ?_ _)); refine blk_far ?_ NB472_529.out _; (with_reducible repeat (first | refine blk_drewN ?_ _ | refine blk_drew ?_ | refine blk_alloc ?_ _)); exact BK472.out) hb); have n8_ := zA (blk_below (g := gb486) (o := .cells #[.int .i64 t481, .slice Ao24 t482.length co24] 42 (0, 0)) (by (with_reducible repeat (first | refine blk_drewN ?_ _ | refine blk_drew ?_ | refine blk_alloc ?_ _)); refine blk_far ?_ NB486_529.out _; (with_reducible repeat (first | refine blk_drewN ?_ _ | refine blk_drew ?_ | refine blk_alloc ?_ _)); refine blk_far ?_ NB486_529.out _; (with_reducible repeat (first | refine blk_drewN ?_ _ | refine blk_drew ?_ | refine blk_alloc ?_ _)); exact BK486.out) hb); have n9_ := zA (blk_below (g := gb494) (o := .cells #[.int .i64 t487, .slice Ao31 t511.length co31, .slice Ao32 t512.length co32] 26 (0, 0)) (by (with_reducible repeat (first | refine blk_drewN ?_ _ | refine blk_drew ?_ | refine blk_alloc ?_ _)); refine blk_far ?_ NB494_529.out _; (with_reducible repeat (first | refine blk_drewN ?_ _ | refine blk_drew ?_ | refine blk_alloc ?_ _)); refine blk_far ?_ NB494_529.out _; (with_reducible repeat (first | refine blk_drewN ?_ _ | refine blk_drew ?_ | refine blk_alloc ?_ _)); exact BK494.out) hb); have n10_ := zA (blk_below (g := gb500) (o := .cells #[.int .i64 t495, .slice Ao39 t496.length co39] 42 (0, 0)) (by (with_reducible repeat (first | refine blk_drewN ?_ _ | refine blk_drew ?_ | refine blk_alloc ?_ _)); refine blk_far ?_ NB500_529.out _; (with_reducible repeat (first | refine blk_drewN ?_ _ | refine blk_drew ?_ | refine blk_alloc ?_ _)); refine blk_far ?_ NB500_529.out _; (with_reducible repeat (first | refine blk_drewN ?_ _ | refine blk_drew ?_ | refine blk_alloc ?_ _)); exact BK500.out) hb); have n11_ := zA (blk_below (g := gb529) (o := .cells #[.int .i64 t524, .slice Ao121 t525.length co121] 42 (0, 0)) (by (with_reducible repeat (first | refine blk_drewN ?_ _ | refine blk_drew ?_ | refine blk_alloc ?_ _)); refine blk_put (cs := #[.int .i64 t524, .slice none 0 0]) ?_ 1 _ rfl; (with_reducible repeat (first | refine blk_drewN ?_ _ | refine blk_drew ?_ | refine blk_alloc ?_ _)); refine blk_put (cs := #[.int .i64 0, .slice none 0 0]) ?_ 0 _ rfl; (with_reducible repeat (first | refine blk_drewN ?_ _ | refine blk_drew ?_ | refine blk_alloc ?_ _)); exact BK529.out) hb); have n12_ := xH HB hb; clear HO_487001 HO_495001 HO_495002 HO_501001 HO520 HO523 HO527 BK472 BK486 BK494 BK500 BK529 HB; have HO_487001 := n0_; have HO_495001 := n1_; have HO_495002 := n2_; have HO_501001 := n3_; have HO520 := n4_; have HO523 := n5_; have HO527 := n6_; have BK472 := n7_; have BK486 := n8_; have BK494 := n9_; have BK500 := n10_; have BK529 := n11_; have HB := n12_; clear n0_ n1_ n2_ n3_ n4_ n5_ n6_ n7_ n8_ n9_ n10_ n11_ n12_; (try clear hb); (try clear hb2); (try clear hk); (try clear hi)))
             go_meet
             case rel => exact ⟨_, ((t528 != t485)), (by first | rfl | (simp; done) | (simp [*]; done)), H', ⟨by have := HJ11.out; have := HJ62.out; first | omega | exact Nat.le_refl _⟩, ⟨by (try simp only [hl495001_62]); (try simp only [hl495002_62]); (with_reducible repeat (first | apply Kd.R_alloc | apply Kd.R_drewN | apply Kd.R_drew)); exact Kd.R_mono HO_487001.out (fun _ hk => ⟨hk.1.1.1.1, ⟨hk.1.1.1.2.1, ⟨hk.1.1.1.2.2, hk.2⟩⟩⟩)⟩, ⟨by (try simp only [hl495001_62]); (try simp only [hl495002_62]); (with_reducible repeat (first | apply Kd.R_alloc | apply Kd.R_drewN | apply Kd.R_drew)); exact Kd.R_mono HO_495001.out (fun _ hk => ⟨hk.1.1.1.1, ⟨hk.1.1.1.2.1, ⟨hk.1.1.1.2.2, hk.2⟩⟩⟩)⟩, ⟨by (try simp only [hl495001_62]); (try simp only [hl495002_62]); (with_reducible repeat (first | apply Kd.R_alloc | apply Kd.R_drewN | apply Kd.R_drew)); exact Kd.R_mono HO_495002.out (fun _ hk => ⟨hk.1.1.1.1, ⟨hk.1.1.1.2.1, ⟨hk.1.1.1.2.2, hk.2⟩⟩⟩)⟩, ⟨by (try simp only [hl495001_62]); (try simp only [hl495002_62]); (with_reducible repeat (first | apply Kd.R_alloc | apply Kd.R_drewN | apply Kd.R_drew)); exact Kd.R_mono HO_501001.out (fun _ hk => ⟨hk.1.1.1.1, ⟨hk.1.1.1.2.1, ⟨hk.1.1.1.2.2, hk.2⟩⟩⟩)⟩, ⟨by (try simp only [hl495001_62]); (try simp only [hl495002_62]); (with_reducible repeat (first | apply Kd.R_alloc | apply Kd.R_drewN | apply Kd.R_drew)); exact Kd.R_mono HO527.out (fun _ hk => ⟨hk.1.1.1.1.1.2, ⟨hk.1.1.1.1.2, ⟨hk.1.1.1.2, hk.1.1.2⟩⟩⟩)⟩, ⟨by (try simp only [hl495001_62]); (try simp only [hl495002_62]); (with_reducible repeat (first | refine blk_drewN ?_ _ | refine blk_drew ?_ | refine blk_alloc ?_ _)); exact BK472.out⟩, ⟨by (try simp only [hl495001_62]); (try simp only [hl495002_62]); (with_reducible repeat (first | refine blk_drewN ?_ _ | refine blk_drew ?_ | refine blk_alloc ?_ _)); exact BK486.out⟩, ⟨by (try simp only [hl495001_62]); (try simp only [hl495002_62]); (with_reducible repeat (first | refine blk_drewN ?_ _ | refine blk_drew ?_ | refine blk_alloc ?_ _)); exact BK494.out⟩, ⟨by (try simp only [hl495001_62]); (try simp only [hl495002_62]); (with_reducible repeat (first | refine blk_drewN ?_ _ | refine blk_drew ?_ | refine blk_alloc ?_ _)); exact BK500.out⟩, ⟨by (try simp only [hl495001_62]); (try simp only [hl495002_62]); (with_reducible repeat (first | refine blk_drewN ?_ _ | refine blk_drew ?_ | refine blk_alloc ?_ _)); exact BK529.out⟩, ⟨uH HB.out⟩⟩
            ·replace c123 := Bool.eq_false_iff.mpr c123
             subst c123
             have H1 : (laws_FnExactMomentsOfRule.j2 kj62 t514 true t495 t515) = some r := by rw [if_neg (show ¬ (false = true) by decide)] at H; exact H
             clear H
             have H := H1
             clear H1
             have H' := zA H
             clear H
             have hnb134 := NB529_472.out; have hnc134 := NB472_529.out; have hnb135 := NB529_486.out; have hnc135 := NB486_529.out; have hnb136 := NB529_494.out; have hnc136 := NB494_529.out; have hnb137 := NB529_500.out; have hnc137 := NB500_529.out
             have hcz138_0 : w115.cell? ⟨gb529, 0, none⟩ = some (.int .i64 0) := (blk_cell BK529.out 0).trans rfl
             have hcz138_1 : w115.cell? ⟨gb529, 1, none⟩ = some (.slice none 0 0) := (blk_cell BK529.out 1).trans rfl
             have hfz138_0 := blk_frozen BK529.out 0
             have hfz138_1 := blk_frozen BK529.out 1
             have hnb139 := NB486_472.out; have hnc139 := NB472_486.out; have hnb140 := NB486_494.out; have hnc140 := NB494_486.out; have hnb141 := NB486_500.out; have hnc141 := NB500_486.out
             have hcz142_0 : w115.cell? ⟨gb486, 0, none⟩ = some (.int .i64 t481) := (blk_cell BK486.out 0).trans rfl
             have hcz142_1 : w115.cell? ⟨gb486, 1, none⟩ = some (.slice Ao24 t482.length co24) := (blk_cell BK486.out 1).trans rfl
             have hfz142_0 := blk_frozen BK486.out 0
             have hfz142_1 := blk_frozen BK486.out 1
             go_wp2_with (first | ((with_reducible refine gate_callee (f := 30) rfl ?_); refine goesL_ (some 86) rfl rfl Try.func30 (by kernel_rfl) rfl #[.agg #[.int .i64 t524, .slice Ao121 t525.length co121], .agg #[.int .i64 t481, .slice Ao24 t482.length co24]] rfl (by (try simp only [la, lb, lc]); first | done | rfl | (simp only [ld, le]; rfl)) ?_; (with_reducible refine (laws_eqMoments.calls kj62 t524 _ _ t525 t481 _ _ t482 false _ ?side1 ?side2 ?side3 ?side4 A122.out).mono ?_); (case side1 => refine (Kd.R_reads' (e := 2) (base := w.heap.size) (ok := fun k_ => ((((((True ∧ some k_ ≠ (.slice Ao24 t482.length co24 : Value).ownBlock) ∧ some k_ ≠ (.slice Ao31 t511.length co31 : Value).ownBlock) ∧ some k_ ≠ (.slice Ao32 t512.length co32 : Value).ownBlock) ∧ some k_ ≠ (.slice Ao39 t496.length co39 : Value).ownBlock) ∧ some k_ ≠ (.slice Ao112 t518.length co112 : Value).ownBlock) ∧ some k_ ≠ (.slice Ao113 t521.length co113 : Value).ownBlock)) (n := t525.length) (c := co121) ?_).2.2; exact (uR ((Kd.R_mono (Kd.R_far (p := ⟨gb529, 1, none⟩) (Kd.R_far (p := ⟨gb529, 0, none⟩) (Kd.R_types HO527.out BK529.out (by decide)) (fun _ hk => hk.2) (.int .i64 t524)) (fun _ hk => hk.2) (.slice Ao121 t525.length co121)) (fun _ h_ => h_.1))))); (case side2 => exact (Kd.R_reads' HO527.out).2.1); (case side3 => refine (Kd.R_reads' (e := 2) (base := w.heap.size) (ok := fun k_ => ((((some k_ ≠ (.slice Ao31 t511.length co31 : Value).ownBlock ∧ (some k_ ≠ (.slice Ao32 t512.length co32 : Value).ownBlock ∧ some k_ ≠ (.slice Ao39 t496.length co39 : Value).ownBlock)) ∧ some k_ ≠ (.slice Ao112 t518.length co112 : Value).ownBlock) ∧ some k_ ≠ (.slice Ao113 t521.length co113 : Value).ownBlock) ∧ some k_ ≠ (.slice Ao121 t525.length co121 : Value).ownBlock)) (n := t482.length) (c := co24) ?_).2.2; exact (uR ((Kd.R_mono (Kd.R_far (p := ⟨gb529, 1, none⟩) (Kd.R_far (p := ⟨gb529, 0, none⟩) (Kd.R_types HO_487001.out BK529.out (by decide)) (fun _ hk => hk.2) (.int .i64 t524)) (fun _ hk => hk.2) (.slice Ao121 t525.length co121)) (fun _ h_ => h_.1))))); (case side4 => exact (Kd.R_reads' HO_487001.out).2.1); rintro e w143 ⟨rfl, hb⟩; refine ⟨_, rfl, ?_⟩; have n0_ := zA (Kd.R_below (uR ((Kd.R_mono (Kd.R_far (p := ⟨gb529, 1, none⟩) (Kd.R_far (p := ⟨gb529, 0, none⟩) (Kd.R_types HO_487001.out BK529.out (by decide)) (fun _ hk => hk.2) (.int .i64 t524)) (fun _ hk => hk.2) (.slice Ao121 t525.length co121)) (fun _ h_ => h_.1)))) hb); have n1_ := zA (Kd.R_below (uR ((Kd.R_mono (Kd.R_far (p := ⟨gb529, 1, none⟩) (Kd.R_far (p := ⟨gb529, 0, none⟩) (Kd.R_types HO_495001.out BK529.out (by decide)) (fun _ hk => hk.2) (.int .i64 t524)) (fun _ hk => hk.2) (.slice Ao121 t525.length co121)) (fun _ h_ => h_.1)))) hb); have n2_ := zA (Kd.R_below (uR ((Kd.R_mono (Kd.R_far (p := ⟨gb529, 1, none⟩) (Kd.R_far (p := ⟨gb529, 0, none⟩) (Kd.R_types HO_495002.out BK529.out (by decide)) (fun _ hk => hk.2) (.int .i64 t524)) (fun _ hk => hk.2) (.slice Ao121 t525.length co121)) (fun _ h_ => h_.1)))) hb); have n3_ := zA (Kd.R_below (uR ((Kd.R_mono (Kd.R_far (p := ⟨gb529, 1, none⟩) (Kd.R_far (p := ⟨gb529, 0, none⟩) (Kd.R_types HO_501001.out BK529.out (by decide)) (fun _ hk => hk.2) (.int .i64 t524)) (fun _ hk => hk.2) (.slice Ao121 t525.length co121)) (fun _ h_ => h_.1)))) hb); have n4_ := zA (Kd.R_below (uR ((Kd.R_mono (Kd.R_far (p := ⟨gb529, 1, none⟩) (Kd.R_far (p := ⟨gb529, 0, none⟩) (Kd.R_types HO520.out BK529.out (by decide)) (fun _ hk => hk.2) (.int .i64 t524)) (fun _ hk => hk.2) (.slice Ao121 t525.length co121)) (fun _ h_ => h_.1)))) hb); have n5_ := zA (Kd.R_below (uR ((Kd.R_mono (Kd.R_far (p := ⟨gb529, 1, none⟩) (Kd.R_far (p := ⟨gb529, 0, none⟩) (Kd.R_types HO523.out BK529.out (by decide)) (fun _ hk => hk.2) (.int .i64 t524)) (fun _ hk => hk.2) (.slice Ao121 t525.length co121)) (fun _ h_ => h_.1)))) hb); have n6_ := zA (Kd.R_below (uR ((Kd.R_mono (Kd.R_far (p := ⟨gb529, 1, none⟩) (Kd.R_far (p := ⟨gb529, 0, none⟩) (Kd.R_types HO527.out BK529.out (by decide)) (fun _ hk => hk.2) (.int .i64 t524)) (fun _ hk => hk.2) (.slice Ao121 t525.length co121)) (fun _ h_ => h_.1)))) hb); have n7_ := zA (blk_below (g := gb472) (o := .cells #[.int .i64 a0_0, .slice A0_1 l0_1.length c0_1, .slice A0_2 l0_2.length c0_2] 24 (0, 0)) (by (with_reducible repeat (first | refine blk_drewN ?_ _ | refine blk_drew ?_ | refine blk_alloc ?_ _)); refine blk_far ?_ NB472_529.out _; (with_reducible repeat (first | refine blk_drewN ?_ _ | refine blk_drew ?_ | refine blk_alloc ?_ _)); refine blk_far ?_ NB472_529.out _; (with_reducible repeat (first | refine blk_drewN ?_ _ | refine blk_drew ?_ | refine blk_alloc ?_ _)); exact BK472.out) hb); have n8_ := zA (blk_below (g := gb486) (o := .cells #[.int .i64 t481, .slice Ao24 t482.length co24] 42 (0, 0)) (by (with_reducible repeat (first | refine blk_drewN ?_ _ | refine blk_drew ?_ | refine blk_alloc ?_ _)); refine blk_far ?_ NB486_529.out _; (with_reducible repeat (first | refine blk_drewN ?_ _ | refine blk_drew ?_ | refine blk_alloc ?_ _)); refine blk_far ?_ NB486_529.out _; (with_reducible repeat (first | refine blk_drewN ?_ _ | refine blk_drew ?_ | refine blk_alloc ?_ _)); exact BK486.out) hb); have n9_ := zA (blk_below (g := gb494) (o := .cells #[.int .i64 t487, .slice Ao31 t511.length co31, .slice Ao32 t512.length co32] 26 (0, 0)) (by (with_reducible repeat (first | refine blk_drewN ?_ _ | refine blk_drew ?_ | refine blk_alloc ?_ _)); refine blk_far ?_ NB494_529.out _; (with_reducible repeat (first | refine blk_drewN ?_ _ | refine blk_drew ?_ | refine blk_alloc ?_ _)); refine blk_far ?_ NB494_529.out _; (with_reducible repeat (first | refine blk_drewN ?_ _ | refine blk_drew ?_ | refine blk_alloc ?_ _)); exact BK494.out) hb); have n10_ := zA (blk_below (g := gb500) (o := .cells #[.int .i64 t495, .slice Ao39 t496.length co39] 42 (0, 0)) (by (with_reducible repeat (first | refine blk_drewN ?_ _ | refine blk_drew ?_ | refine blk_alloc ?_ _)); refine blk_far ?_ NB500_529.out _; (with_reducible repeat (first | refine blk_drewN ?_ _ | refine blk_drew ?_ | refine blk_alloc ?_ _)); refine blk_far ?_ NB500_529.out _; (with_reducible repeat (first | refine blk_drewN ?_ _ | refine blk_drew ?_ | refine blk_alloc ?_ _)); exact BK500.out) hb); have n11_ := zA (blk_below (g := gb529) (o := .cells #[.int .i64 t524, .slice Ao121 t525.length co121] 42 (0, 0)) (by (with_reducible repeat (first | refine blk_drewN ?_ _ | refine blk_drew ?_ | refine blk_alloc ?_ _)); refine blk_put (cs := #[.int .i64 t524, .slice none 0 0]) ?_ 1 _ rfl; (with_reducible repeat (first | refine blk_drewN ?_ _ | refine blk_drew ?_ | refine blk_alloc ?_ _)); refine blk_put (cs := #[.int .i64 0, .slice none 0 0]) ?_ 0 _ rfl; (with_reducible repeat (first | refine blk_drewN ?_ _ | refine blk_drew ?_ | refine blk_alloc ?_ _)); exact BK529.out) hb); have n12_ := xH HB hb; clear HO_487001 HO_495001 HO_495002 HO_501001 HO520 HO523 HO527 BK472 BK486 BK494 BK500 BK529 HB; have HO_487001 := n0_; have HO_495001 := n1_; have HO_495002 := n2_; have HO_501001 := n3_; have HO520 := n4_; have HO523 := n5_; have HO527 := n6_; have BK472 := n7_; have BK486 := n8_; have BK494 := n9_; have BK500 := n10_; have BK529 := n11_; have HB := n12_; clear n0_ n1_ n2_ n3_ n4_ n5_ n6_ n7_ n8_ n9_ n10_ n11_ n12_; (try clear hb); (try clear hb2); (try clear hk); (try clear hi)))
             go_meet
             case rel => exact ⟨_, (true), (by first | rfl | (simp; done) | (simp [*]; done)), H', ⟨by have := HJ11.out; have := HJ62.out; first | omega | exact Nat.le_refl _⟩, ⟨by (try simp only [hl495001_62]); (try simp only [hl495002_62]); (with_reducible repeat (first | apply Kd.R_alloc | apply Kd.R_drewN | apply Kd.R_drew)); exact Kd.R_mono HO_487001.out (fun _ hk => ⟨hk.1.1.1.1, ⟨hk.1.1.1.2.1, ⟨hk.1.1.1.2.2, hk.2⟩⟩⟩)⟩, ⟨by (try simp only [hl495001_62]); (try simp only [hl495002_62]); (with_reducible repeat (first | apply Kd.R_alloc | apply Kd.R_drewN | apply Kd.R_drew)); exact Kd.R_mono HO_495001.out (fun _ hk => ⟨hk.1.1.1.1, ⟨hk.1.1.1.2.1, ⟨hk.1.1.1.2.2, hk.2⟩⟩⟩)⟩, ⟨by (try simp only [hl495001_62]); (try simp only [hl495002_62]); (with_reducible repeat (first | apply Kd.R_alloc | apply Kd.R_drewN | apply Kd.R_drew)); exact Kd.R_mono HO_495002.out (fun _ hk => ⟨hk.1.1.1.1, ⟨hk.1.1.1.2.1, ⟨hk.1.1.1.2.2, hk.2⟩⟩⟩)⟩, ⟨by (try simp only [hl495001_62]); (try simp only [hl495002_62]); (with_reducible repeat (first | apply Kd.R_alloc | apply Kd.R_drewN | apply Kd.R_drew)); exact Kd.R_mono HO_501001.out (fun _ hk => ⟨hk.1.1.1.1, ⟨hk.1.1.1.2.1, ⟨hk.1.1.1.2.2, hk.2⟩⟩⟩)⟩, ⟨by (try simp only [hl495001_62]); (try simp only [hl495002_62]); (with_reducible repeat (first | apply Kd.R_alloc | apply Kd.R_drewN | apply Kd.R_drew)); exact Kd.R_mono HO527.out (fun _ hk => ⟨hk.1.1.1.1.1.2, ⟨hk.1.1.1.1.2, ⟨hk.1.1.1.2, hk.1.1.2⟩⟩⟩)⟩, ⟨by (try simp only [hl495001_62]); (try simp only [hl495002_62]); (with_reducible repeat (first | refine blk_drewN ?_ _ | refine blk_drew ?_ | refine blk_alloc ?_ _)); exact BK472.out⟩, ⟨by (try simp only [hl495001_62]); (try simp only [hl495002_62]); (with_reducible repeat (first | refine blk_drewN ?_ _ | refine blk_drew ?_ | refine blk_alloc ?_ _)); exact BK486.out⟩, ⟨by (try simp only [hl495001_62]); (try simp only [hl495002_62]); (with_reducible repeat (first | refine blk_drewN ?_ _ | refine blk_drew ?_ | refine blk_alloc ?_ _)); exact BK494.out⟩, ⟨by (try simp only [hl495001_62]); (try simp only [hl495002_62]); (with_reducible repeat (first | refine blk_drewN ?_ _ | refine blk_drew ?_ | refine blk_alloc ?_ _)); exact BK500.out⟩, ⟨by (try simp only [hl495001_62]); (try simp only [hl495002_62]); (with_reducible repeat (first | refine blk_drewN ?_ _ | refine blk_drew ?_ | refine blk_alloc ?_ _)); exact BK529.out⟩, ⟨uH HB.out⟩⟩
           case rest =>
            clear HC100
            try clear c1
            try clear c2
            try clear p2
            try clear c3
            try clear c4
            try clear c4b0
            try clear c5
            try clear c6
            try clear c7
            try clear c8
            try clear c9
            try clear c10
            try clear c11
            try clear c12
            try clear c13
            try clear c14
            try clear c15
            try clear c17
            try clear c18
            try clear c22
            try clear c28
            try clear c29
            try clear c30
            try clear c31
            try clear c32
            try clear c35
            try clear c36
            try clear c37
            try clear c41
            try clear c42
            try clear c43
            try clear c44
            try clear c46
            try clear c47
            try clear c50
            try clear c51
            try clear c52
            try clear c54
            try clear c55
            try clear c58
            try clear c61
            try clear c69
            try clear c70
            try clear c71
            try clear c74
            try clear c74b0
            try clear c76
            try clear c77
            try clear c78
            try clear c79
            try clear c81
            try clear c82
            try clear c85
            try clear c86
            try clear c87
            try clear c89
            try clear c90
            try clear c93
            try clear c96
            try clear c96b0
            try clear c97
            try clear c97b0
            try clear c97b1
            try clear c101
            try clear c102
            try clear c103
            try clear c108
            try clear c109
            try clear c116
            try clear c117
            try clear c118
            try clear c119
            try clear c123
            try clear c124
            try clear c125
            try clear c126
            try clear c127
            try clear c129
            try clear c130
            try clear c131
            try clear c134
            try clear c135
            try clear c136
            try clear c137
            try clear c139
            try clear c140
            try clear c141
            try clear hcz104_0
            try clear hcz104_1
            try clear hcz106_0
            try clear hcz106_1
            try clear hcz110_0
            try clear hcz110_1
            try clear hcz110_2
            try clear hcz120_0
            try clear hcz120_1
            try clear hcz128_0
            try clear hcz128_1
            try clear hcz132_0
            try clear hcz132_1
            try clear hcz138_0
            try clear hcz138_1
            try clear hcz142_0
            try clear hcz142_1
            try clear hcz14_0
            try clear hcz14_1
            try clear hcz14_2
            try clear hcz16_0
            try clear hcz16_1
            try clear hcz16_2
            try clear hcz23_0
            try clear hcz23_1
            try clear hcz25_0
            try clear hcz25_1
            try clear hcz25_2
            try clear hcz30_0
            try clear hcz30_1
            try clear hcz30_2
            try clear hcz38_0
            try clear hcz38_1
            try clear hcz45_0
            try clear hcz45_1
            try clear hcz48_0
            try clear hcz48_1
            try clear hcz53_0
            try clear hcz53_1
            try clear hcz56_0
            try clear hcz56_1
            try clear hcz6_0
            try clear hcz6_1
            try clear hcz6_2
            try clear hcz72_0
            try clear hcz72_1
            try clear hcz72_2
            try clear hcz80_0
            try clear hcz80_1
            try clear hcz83_0
            try clear hcz83_1
            try clear hcz88_0
            try clear hcz88_1
            try clear hcz91_0
            try clear hcz91_1
            try clear hfz104_0
            try clear hfz104_1
            try clear hfz106_0
            try clear hfz106_1
            try clear hfz110_0
            try clear hfz110_1
            try clear hfz110_2
            try clear hfz120_0
            try clear hfz120_1
            try clear hfz128_0
            try clear hfz128_1
            try clear hfz132_0
            try clear hfz132_1
            try clear hfz138_0
            try clear hfz138_1
            try clear hfz142_0
            try clear hfz142_1
            try clear hfz14_0
            try clear hfz14_1
            try clear hfz14_2
            try clear hfz16_0
            try clear hfz16_1
            try clear hfz16_2
            try clear hfz23_0
            try clear hfz23_1
            try clear hfz25_0
            try clear hfz25_1
            try clear hfz25_2
            try clear hfz30_0
            try clear hfz30_1
            try clear hfz30_2
            try clear hfz38_0
            try clear hfz38_1
            try clear hfz45_0
            try clear hfz45_1
            try clear hfz48_0
            try clear hfz48_1
            try clear hfz53_0
            try clear hfz53_1
            try clear hfz56_0
            try clear hfz56_1
            try clear hfz6_0
            try clear hfz6_1
            try clear hfz6_2
            try clear hfz72_0
            try clear hfz72_1
            try clear hfz72_2
            try clear hfz80_0
            try clear hfz80_1
            try clear hfz83_0
            try clear hfz83_1
            try clear hfz88_0
            try clear hfz88_1
            try clear hfz91_0
            try clear hfz91_1
            try clear p2
            obtain ⟨kq, x92_99, rfl, HA, HJ99, HO_487001, HO_495001, HO_495002, HO_501001, HO_530001, BK472, BK486, BK494, BK500, BK529, HB⟩ := hcut
            have hl501001_99 := (Kd.R_reads' HO_501001.out).1
            rw [hl501001_99] at HO_501001
            (try simp only [hl501001_99])
            (try simp only [hl501001_99] at BK472)
            (try simp only [hl501001_99] at BK486)
            (try simp only [hl501001_99] at BK494)
            (try simp only [hl501001_99] at BK500)
            (try simp only [hl501001_99] at BK529)
            (try simp only [hl501001_99] at HO_487001)
            (try simp only [hl501001_99] at HO_495001)
            (try simp only [hl501001_99] at HO_495002)
            (try simp only [hl501001_99] at HO_530001)
            cases kq with
            | zero => exact absurd HA.out (by simp [laws_FnExactMomentsOfRule.j2])
            | succ kj99 =>
             have H := HA.out
             clear HA
             simp only [laws_FnExactMomentsOfRule.j2] at H
             by_cases c144 : x92_99 = true
             ·subst c144
              have H1 : (some false) = some r := by rw [if_pos rfl] at H; exact H
              clear H
              have H := H1
              clear H1
              rw [HRT.out] at H
              exact absurd H (by simp)
             ·replace c144 := Bool.eq_false_iff.mpr c144
              subst c144
              have H1 : ((laws_heldMoments.f kj99 t495 t515 1).bind fun t531 => (if t531 < 0 then (some false) else (if t531 = t514 then (some true) else (some false)))) = some r := by rw [if_neg (show ¬ (false = true) by decide)] at H; exact H
              clear H
              have H := H1
              clear H1
              replace H := Option.bind_eq_some_iff.mp H
              obtain ⟨t531, A1450, H⟩ := H
              replace H : (if t531 < 0 then (some false) else (if t531 = t514 then (some true) else (some false))) = some r := H
              have A145 := zA A1450
              clear A1450
              by_cases c146 : t531 < 0
              ·rw [if_pos c146] at H
               have c146b0 : decide (t531 < 0) = true := decide_eq_true c146
               clear c146
               rw [HRT.out] at H
               exact absurd H (by simp)
              ·rw [if_neg c146] at H
               have c146b0 : decide (t531 < 0) = false := decide_eq_false c146
               clear c146
               by_cases c147 : t531 = t514
               ·rw [if_pos c147] at H
                have c147b0 : (t531 == t514) = true := beq_iff_eq.mpr c147
                have c147b1 : (t531 != t514) = false := bne_eq_false_iff_eq.mpr c147
                clear c147
                obtain rfl := Option.some.inj H
                have hnb148 := NB500_472.out; have hnc148 := NB472_500.out; have hnb149 := NB500_486.out; have hnc149 := NB486_500.out; have hnb150 := NB500_494.out; have hnc150 := NB494_500.out; have hnb151 := NB500_529.out; have hnc151 := NB529_500.out
                have hcz152_0 : wc.cell? ⟨gb500, 0, none⟩ = some (.int .i64 t495) := (blk_cell BK500.out 0).trans rfl
                have hcz152_1 : wc.cell? ⟨gb500, 1, none⟩ = some (.slice Ao39 t515.length co39) := (blk_cell BK500.out 1).trans rfl
                have hfz152_0 := blk_frozen BK500.out 0
                have hfz152_1 := blk_frozen BK500.out 1
                go_wp2_with (first | ((with_reducible refine gate_callee (f := 32) rfl ?_); refine goesL_ (some 95) rfl rfl Try.func32 (by kernel_rfl) rfl #[.agg #[.int .i64 t495, .slice Ao39 t515.length co39], .int .i64 1] rfl (by (try simp only [la, lb, lc]); first | done | rfl | (simp only [ld, le]; rfl)) ?_; (with_reducible refine (laws_heldMoments.calls kj99 t495 _ _ t515 1 t531 _ ?side1 ?side2 A145.out).mono ?_); (case side1 => exact uC ((Kd.R_reads' HO_501001.out).2.2)); (case side2 => exact (Kd.R_reads' HO_501001.out).2.1); rintro e w153 ⟨rfl, hb⟩; refine ⟨_, rfl, ?_⟩; have n0_ := xR HO_487001 hb; have n1_ := xR HO_495001 hb; have n2_ := xR HO_495002 hb; have n3_ := xR HO_501001 hb; have n4_ := xR HO_530001 hb; have n5_ := xB BK472 hb; have n6_ := xB BK486 hb; have n7_ := xB BK494 hb; have n8_ := xB BK500 hb; have n9_ := xB BK529 hb; have n10_ := xH HB hb; clear HO_487001 HO_495001 HO_495002 HO_501001 HO_530001 BK472 BK486 BK494 BK500 BK529 HB; have HO_487001 := n0_; have HO_495001 := n1_; have HO_495002 := n2_; have HO_501001 := n3_; have HO_530001 := n4_; have BK472 := n5_; have BK486 := n6_; have BK494 := n7_; have BK500 := n8_; have BK529 := n9_; have HB := n10_; clear n0_ n1_ n2_ n3_ n4_ n5_ n6_ n7_ n8_ n9_ n10_; (try clear hb); (try clear hb2); (try clear hk); (try clear hi)))
                go_ret
                exact ⟨by first | rfl | (simp [errW_none, errW_some] <;> rfl) | (simp [*, errW_none, errW_some] <;> rfl), uH HB.out⟩
               ·rw [if_neg c147] at H
                have c147b0 : (t531 == t514) = false := beq_eq_false_iff_ne.mpr c147
                have c147b1 : (t531 != t514) = true := bne_iff_ne.mpr c147
                rw [HRT.out] at H
                exact absurd H (by simp)
          ·rw [if_neg c97] at H
           have c97b0 : (t516 == t514) = false := beq_eq_false_iff_ne.mpr c97
           have c97b1 : (t516 != t514) = true := bne_iff_ne.mpr c97
           rw [HRT.out] at H
           exact absurd H (by simp)
     ·replace c61 := Bool.eq_false_iff.mpr c61
      subst c61
      have H1 : (some false) = some r := by rw [if_neg (show ¬ (false = true) by decide)] at H; exact H
      clear H
      have H := H1
      clear H1
      rw [HRT.out] at H
      exact absurd H (by simp)

/-- THE ONE PURE STATEMENT of laws_FnExactMomentsOfRule: yours. -/
def laws_FnExactMomentsOfRule.Pure : Prop := ∀ (a0_0 : Int) (l0_1 : List Int) (l0_2 : List Int) (a1 : Int), (Lit.int .i64 a0_0).wf = true → l0_1.length ≤ maxLen → (∀ x ∈ l0_1, (Lit.int .i64 x).wf = true) → l0_2.length ≤ maxLen → (∀ x ∈ l0_2, (Lit.int .i64 x).wf = true) → (Lit.int .i64 a1).wf = true → ∃ k, laws_FnExactMomentsOfRule.f k a0_0 l0_1 l0_2 a1 = some true
theorem laws_FnExactMomentsOfRule.walk (P : laws_FnExactMomentsOfRule.Pure) (a0_0 : Int) (a0_1 : Option Addr) (len0_1 cap0_1 : Nat) (z0_1 : List Int) (a0_2 : Option Addr) (len0_2 cap0_2 : Nat) (z0_2 : List Int) (a1 : Int) (w : World) (w0_0 : (Lit.int .i64 a0_0).wf = true) (w0_1 : (a0_1 = none ∧ len0_1 = 0 ∧ cap0_1 = 0 ∧ z0_1 = []) ∨ ∃ x, a0_1 = some x ∧ len0_1 ≤ cap0_1 ∧ cap0_1 ≤ maxLen ∧ z0_1.length = cap0_1 ∧ (∀ i, i < z0_1.length → w.cell? (x.add i) = some (.int .i64 (z0_1.getD i 0))) ∧ ∀ n ∈ z0_1, (Lit.int .i64 n).wf = true) (w0_2 : (a0_2 = none ∧ len0_2 = 0 ∧ cap0_2 = 0 ∧ z0_2 = []) ∨ ∃ x, a0_2 = some x ∧ len0_2 ≤ cap0_2 ∧ cap0_2 ≤ maxLen ∧ z0_2.length = cap0_2 ∧ (∀ i, i < z0_2.length → w.cell? (x.add i) = some (.int .i64 (z0_2.getD i 0))) ∧ ∀ n ∈ z0_2, (Lit.int .i64 n).wf = true) (w1 : (Lit.int .i64 a1).wf = true) :
  Calls Try.prog 6 #[.agg #[.int .i64 a0_0, .slice a0_1 len0_1 cap0_1, .slice a0_2 len0_2 cap0_2], .int .i64 a1] w fun e w' => e = .returned (.bool true) ∧ Below w.heap.size w w' := by
 obtain ⟨l0_1, rfl, hr0_1, hm0_1, hw0_1, hc0_1⟩ := ReadsInt.ofRowC w0_1
 obtain ⟨l0_2, rfl, hr0_2, hm0_2, hw0_2, hc0_2⟩ := ReadsInt.ofRowC w0_2
 obtain ⟨k, h⟩ := P a0_0 l0_1 l0_2 a1 w0_0 hm0_1 hw0_1 hm0_2 hw0_2 w1
 refine (laws_FnExactMomentsOfRule.calls k a0_0 _ _ l0_1 _ _ l0_2 a1 true rfl w (Kd.C_of_reads (d := (0 : Int)) (h1 := fun _ => rfl) hr0_1) hc0_1 (Kd.C_of_reads (d := (0 : Int)) (h1 := fun _ => rfl) hr0_2) hc0_2 h).mono ?_
 rintro e w' ⟨rfl, hd⟩
 exact ⟨rfl, hd⟩

end Go.Proofs.Yteoipomgldioeaa.Pr
