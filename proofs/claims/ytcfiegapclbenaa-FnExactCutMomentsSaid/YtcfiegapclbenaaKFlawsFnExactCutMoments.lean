/- Printed by a program of this session out of the translation: what these functions of the program compute, under the conditions that each theorem names. -/
import Derived.Test.YtcfiegapclbenaaKC01
import Derived.Test.YtcfiegapclbenaaKC11
import Derived.Test.YtcfiegapclbenaaKCutMoments1
namespace Go.Proofs.Ytcfiegapclbenaa.Pr
open Go.RowKit Go.Proofs.YtcfiegapclbenaaW.PrintWords Go.Proofs.YtcfiegapclbenaaW.PrintLast Go.Proofs.YtcfiegapclbenaaW.PrintMore
attribute [local go_sem] max2_int min2_int max_two min_two max_three min_three max_four min_four   -- for this text's walks alone
set_option linter.unusedVariables false
set_option linter.unusedSimpArgs false

/-! ### laws_FnExactCutMoments: function 6 -/
mutual
def laws_FnExactCutMoments.j0 : Nat → Int → Int → Int → Bool → Int → List Int → Int → List Int → Int → List Int → Int → List Int → Option (Bool)
 | 0, _, _, _, _, _, _, _, _, _, _, _, _ => none
 | k + 1, x1, x7, x10, x44, x416000, x416001, x427000, x427001, x432000, x432001, x438000, x438001 => if x44 = true then (some false) else ((laws_toMoments.f k x416000 x416001).bind fun bt439 => ((laws_eqMoments.f k x432000 x432001 bt439.1 bt439.2).bind fun t443 => (if t443 = true then ((laws_markMoments.f k x432000 x432001 1).bind fun bt444 => (if bt444.1 < 0 then (laws_FnExactCutMoments.j1 k x1 x7 true x416000 x416001 x427000 x427001 x438000 x438001) else ((laws_eqMoments.f k x438000 x438001 x427000 x427001).bind fun t446 => (if t446 = true then (laws_FnExactCutMoments.j1 k x1 x7 (x10 != x7) x416000 x416001 x427000 x427001 x438000 x438001) else (laws_FnExactCutMoments.j1 k x1 x7 true x416000 x416001 x427000 x427001 x438000 x438001))))) else (some false))))
def laws_FnExactCutMoments.j1 : Nat → Int → Int → Bool → Int → List Int → Int → List Int → Int → List Int → Option (Bool)
 | 0, _, _, _, _, _, _, _, _, _ => none
 | k + 1, x1, x7, x65, x416000, x416001, x427000, x427001, x438000, x438001 => if x65 = true then (some false) else ((laws_markMoments.f k x438000 x438001 1).bind fun bt447 => ((laws_heldMoments.f k x438000 bt447.2 1).bind fun t449 => (if t449 < 0 then (some false) else (if t449 = bt447.1 then ((laws_toMoments.f k x416000 x416001).bind fun bt450 => ((impl_CutMoments.f k bt450.1 bt450.2 x1).bind fun bt454 => ((laws_eqMoments.f k bt454.1 bt454.2.1 x427000 x427001).bind fun t460 => (if t460 = true then (laws_FnExactCutMoments.j2 k bt447.1 (bt454.2.2 != x7) x438000 bt447.2) else (laws_FnExactCutMoments.j2 k bt447.1 true x438000 bt447.2))))) else (some false)))))
def laws_FnExactCutMoments.j2 : Nat → Int → Bool → Int → List Int → Option (Bool)
 | 0, _, _, _, _ => none
 | k + 1, x12, x92, x438000, x438001 => if x92 = true then (some false) else ((laws_heldMoments.f k x438000 x438001 1).bind fun t461 => (if t461 < 0 then (some false) else (if t461 = x12 then (some true) else (some false))))
end
def laws_FnExactCutMoments.f (k : Nat) (a0_0 : Int) (l0_1 : List Int) (a1 : Int) : Option (Bool) := (laws_szMoments.f a0_0 l0_1 1048576).bind fun t416 => (if t416 < 0 then (some true) else ((laws_toMoments.f k a0_0 l0_1).bind fun bt417 => ((spec_CutMoments.f k bt417.1 bt417.2 a1).bind fun bt421 => ((laws_toMoments.f k a0_0 l0_1).bind fun bt427 => ((impl_CutMoments.f k bt427.1 bt427.2 a1).bind fun bt432 => ((laws_eqMoments.f k bt432.1 bt432.2.1 bt421.1 bt421.2.1).bind fun t438 => (if t438 = true then (laws_FnExactCutMoments.j0 k a1 bt421.2.2 bt432.2.2 (bt432.2.2 != bt421.2.2) a0_0 l0_1 bt421.1 bt421.2.1 bt427.1 bt427.2 bt432.1 bt432.2.1) else (laws_FnExactCutMoments.j0 k a1 bt421.2.2 bt432.2.2 true a0_0 l0_1 bt421.1 bt421.2.1 bt427.1 bt427.2 bt432.1 bt432.2.1))))))))
theorem laws_FnExactCutMoments.mono_l : ∀ k, (∀ y0 y1 y2 y3 y4 y5 y6 y7 y8 y9 y10 y11, LeO (laws_FnExactCutMoments.j0 k y0 y1 y2 y3 y4 y5 y6 y7 y8 y9 y10 y11) (laws_FnExactCutMoments.j0 (k + 1) y0 y1 y2 y3 y4 y5 y6 y7 y8 y9 y10 y11)) ∧ (∀ y0 y1 y2 y3 y4 y5 y6 y7 y8, LeO (laws_FnExactCutMoments.j1 k y0 y1 y2 y3 y4 y5 y6 y7 y8) (laws_FnExactCutMoments.j1 (k + 1) y0 y1 y2 y3 y4 y5 y6 y7 y8)) ∧ (∀ y0 y1 y2 y3, LeO (laws_FnExactCutMoments.j2 k y0 y1 y2 y3) (laws_FnExactCutMoments.j2 (k + 1) y0 y1 y2 y3))
 | 0 => ⟨fun _ _ _ _ _ _ _ _ _ _ _ _ r h => by simp [laws_FnExactCutMoments.j0] at h, fun _ _ _ _ _ _ _ _ _ r h => by simp [laws_FnExactCutMoments.j1] at h, fun _ _ _ _ r h => by simp [laws_FnExactCutMoments.j2] at h⟩
 | k + 1 => by
  obtain ⟨ih0, ih1, ih2⟩ := laws_FnExactCutMoments.mono_l k
  refine ⟨?_, ?_, ?_⟩
  ·intro y0 y1 y2 y3 y4 y5 y6 y7 y8 y9 y10 y11
   unfold laws_FnExactCutMoments.j0
   repeat' first
   | (with_reducible exact ih0 _ _ _ _ _ _ _ _ _ _ _ _)
   | (with_reducible exact ih1 _ _ _ _ _ _ _ _ _)
   | (with_reducible exact ih2 _ _ _ _)
   | (with_reducible exact impl_CutMoments.mono _ _ _ _)
   | (with_reducible exact laws_eqMoments.mono _ _ _ _ _)
   | (with_reducible exact laws_heldMoments.mono _ _ _ _)
   | (with_reducible exact laws_markMoments.mono _ _ _ _)
   | (with_reducible exact laws_toMoments.mono _ _ _)
   | (with_reducible exact spec_CutMoments.mono _ _ _ _)
   | (with_reducible exact LeO.refl _)
   | (with_reducible exact LeO.none _)
   | (with_reducible refine LeO.ite ?_ ?_)
   | (with_reducible refine LeO.bind ?_ (fun _ => ?_))
   | exact ih0 _ _ _ _ _ _ _ _ _ _ _ _
   | exact ih1 _ _ _ _ _ _ _ _ _
   | exact ih2 _ _ _ _
   | exact impl_CutMoments.mono _ _ _ _
   | exact laws_eqMoments.mono _ _ _ _ _
   | exact laws_heldMoments.mono _ _ _ _
   | exact laws_markMoments.mono _ _ _ _
   | exact laws_toMoments.mono _ _ _
   | exact spec_CutMoments.mono _ _ _ _
   | exact LeO.none _
   | refine LeO.ite ?_ ?_
   | refine LeO.bind ?_ (fun _ => ?_)
  ·intro y0 y1 y2 y3 y4 y5 y6 y7 y8
   unfold laws_FnExactCutMoments.j1
   repeat' first
   | (with_reducible exact ih0 _ _ _ _ _ _ _ _ _ _ _ _)
   | (with_reducible exact ih1 _ _ _ _ _ _ _ _ _)
   | (with_reducible exact ih2 _ _ _ _)
   | (with_reducible exact impl_CutMoments.mono _ _ _ _)
   | (with_reducible exact laws_eqMoments.mono _ _ _ _ _)
   | (with_reducible exact laws_heldMoments.mono _ _ _ _)
   | (with_reducible exact laws_markMoments.mono _ _ _ _)
   | (with_reducible exact laws_toMoments.mono _ _ _)
   | (with_reducible exact spec_CutMoments.mono _ _ _ _)
   | (with_reducible exact LeO.refl _)
   | (with_reducible exact LeO.none _)
   | (with_reducible refine LeO.ite ?_ ?_)
   | (with_reducible refine LeO.bind ?_ (fun _ => ?_))
   | exact ih0 _ _ _ _ _ _ _ _ _ _ _ _
   | exact ih1 _ _ _ _ _ _ _ _ _
   | exact ih2 _ _ _ _
   | exact impl_CutMoments.mono _ _ _ _
   | exact laws_eqMoments.mono _ _ _ _ _
   | exact laws_heldMoments.mono _ _ _ _
   | exact laws_markMoments.mono _ _ _ _
   | exact laws_toMoments.mono _ _ _
   | exact spec_CutMoments.mono _ _ _ _
   | exact LeO.none _
   | refine LeO.ite ?_ ?_
   | refine LeO.bind ?_ (fun _ => ?_)
  ·intro y0 y1 y2 y3
   unfold laws_FnExactCutMoments.j2
   repeat' first
   | (with_reducible exact ih0 _ _ _ _ _ _ _ _ _ _ _ _)
   | (with_reducible exact ih1 _ _ _ _ _ _ _ _ _)
   | (with_reducible exact ih2 _ _ _ _)
   | (with_reducible exact impl_CutMoments.mono _ _ _ _)
   | (with_reducible exact laws_eqMoments.mono _ _ _ _ _)
   | (with_reducible exact laws_heldMoments.mono _ _ _ _)
   | (with_reducible exact laws_markMoments.mono _ _ _ _)
   | (with_reducible exact laws_toMoments.mono _ _ _)
   | (with_reducible exact spec_CutMoments.mono _ _ _ _)
   | (with_reducible exact LeO.refl _)
   | (with_reducible exact LeO.none _)
   | (with_reducible refine LeO.ite ?_ ?_)
   | (with_reducible refine LeO.bind ?_ (fun _ => ?_))
   | exact ih0 _ _ _ _ _ _ _ _ _ _ _ _
   | exact ih1 _ _ _ _ _ _ _ _ _
   | exact ih2 _ _ _ _
   | exact impl_CutMoments.mono _ _ _ _
   | exact laws_eqMoments.mono _ _ _ _ _
   | exact laws_heldMoments.mono _ _ _ _
   | exact laws_markMoments.mono _ _ _ _
   | exact laws_toMoments.mono _ _ _
   | exact spec_CutMoments.mono _ _ _ _
   | exact LeO.none _
   | refine LeO.ite ?_ ?_
   | refine LeO.bind ?_ (fun _ => ?_)
theorem laws_FnExactCutMoments.mono : ∀ a0 a1 a2 k, LeO (laws_FnExactCutMoments.f k a0 a1 a2) (laws_FnExactCutMoments.f (k + 1) a0 a1 a2) := by
 intro a0 a1 a2 k
 obtain ⟨ih0, ih1, ih2⟩ := laws_FnExactCutMoments.mono_l k
 unfold laws_FnExactCutMoments.f
 repeat' first
   | (with_reducible exact ih0 _ _ _ _ _ _ _ _ _ _ _ _)
   | (with_reducible exact ih1 _ _ _ _ _ _ _ _ _)
   | (with_reducible exact ih2 _ _ _ _)
   | (with_reducible exact impl_CutMoments.mono _ _ _ _)
   | (with_reducible exact laws_eqMoments.mono _ _ _ _ _)
   | (with_reducible exact laws_heldMoments.mono _ _ _ _)
   | (with_reducible exact laws_markMoments.mono _ _ _ _)
   | (with_reducible exact laws_toMoments.mono _ _ _)
   | (with_reducible exact spec_CutMoments.mono _ _ _ _)
   | (with_reducible exact LeO.refl _)
   | (with_reducible exact LeO.none _)
   | (with_reducible refine LeO.ite ?_ ?_)
   | (with_reducible refine LeO.bind ?_ (fun _ => ?_))
   | exact ih0 _ _ _ _ _ _ _ _ _ _ _ _
   | exact ih1 _ _ _ _ _ _ _ _ _
   | exact ih2 _ _ _ _
   | exact impl_CutMoments.mono _ _ _ _
   | exact laws_eqMoments.mono _ _ _ _ _
   | exact laws_heldMoments.mono _ _ _ _
   | exact laws_markMoments.mono _ _ _ _
   | exact laws_toMoments.mono _ _ _
   | exact spec_CutMoments.mono _ _ _ _
   | exact LeO.none _
   | refine LeO.ite ?_ ?_
   | refine LeO.bind ?_ (fun _ => ?_)
set_option maxHeartbeats 8000000 in
set_option maxRecDepth 100000 in
theorem laws_FnExactCutMoments.calls (k : Nat) (a0_0 : Int) (A0_1 : Option Addr) (c0_1 : Nat) (l0_1 : List Int) (a1 : Int) (r : Bool) (hr_ : r = true) (w : World) (hr0_1 : Kd.C (Kd.int .i64) w A0_1 l0_1.length l0_1) (hc0_1 : l0_1.length ≤ c0_1) (h : laws_FnExactCutMoments.f k a0_0 l0_1 a1 = some r) :
  Calls Try.prog 6 #[.agg #[.int .i64 a0_0, .slice A0_1 l0_1.length c0_1], .int .i64 a1] w fun e w' => e = .returned (.bool r) ∧ Below w.heap.size w w' := by
 have hu32 := Try.underlying32
 have hu36 := Try.underlying36
 have HRT := zA hr_
 clear hr_
 have HR0_1 := zA hr0_1
 have HC0_1 := zA hc0_1
 clear hr0_1 hc0_1
 have HB := zA (Below.refl w.heap.size w)
 have H : ((laws_szMoments.f a0_0 l0_1 1048576).bind fun t416 => (if t416 < 0 then (some true) else ((laws_toMoments.f k a0_0 l0_1).bind fun bt417 => ((spec_CutMoments.f k bt417.1 bt417.2 a1).bind fun bt421 => ((laws_toMoments.f k a0_0 l0_1).bind fun bt427 => ((impl_CutMoments.f k bt427.1 bt427.2 a1).bind fun bt432 => ((laws_eqMoments.f k bt432.1 bt432.2.1 bt421.1 bt421.2.1).bind fun t438 => (if t438 = true then (laws_FnExactCutMoments.j0 k a1 bt421.2.2 bt432.2.2 (bt432.2.2 != bt421.2.2) a0_0 l0_1 bt421.1 bt421.2.1 bt427.1 bt427.2 bt432.1 bt432.2.1) else (laws_FnExactCutMoments.j0 k a1 bt421.2.2 bt432.2.2 true a0_0 l0_1 bt421.1 bt421.2.1 bt427.1 bt427.2 bt432.1 bt432.2.1))))))))) = some r := h
 clear h
 replace H := Option.bind_eq_some_iff.mp H
 obtain ⟨t416, A30, H⟩ := H
 replace H : (if t416 < 0 then (some true) else ((laws_toMoments.f k a0_0 l0_1).bind fun bt417 => ((spec_CutMoments.f k bt417.1 bt417.2 a1).bind fun bt421 => ((laws_toMoments.f k a0_0 l0_1).bind fun bt427 => ((impl_CutMoments.f k bt427.1 bt427.2 a1).bind fun bt432 => ((laws_eqMoments.f k bt432.1 bt432.2.1 bt421.1 bt421.2.1).bind fun t438 => (if t438 = true then (laws_FnExactCutMoments.j0 k a1 bt421.2.2 bt432.2.2 (bt432.2.2 != bt421.2.2) a0_0 l0_1 bt421.1 bt421.2.1 bt427.1 bt427.2 bt432.1 bt432.2.1) else (laws_FnExactCutMoments.j0 k a1 bt421.2.2 bt432.2.2 true a0_0 l0_1 bt421.1 bt421.2.1 bt427.1 bt427.2 bt432.1 bt432.2.1)))))))) = some r := H
 have A3 := zA A30
 clear A30
 by_cases c4 : t416 < 0
 ·rw [if_pos c4] at H
  have c4b0 : decide (t416 < 0) = true := decide_eq_true c4
  clear c4
  obtain rfl := Option.some.inj H
  go_enter Try.func6, Try.ntmps6
  go_wp2_with (first | ((with_reducible refine gate_dst (N := 2) rfl ?_); refine box_event ?hg (N := 2) ?hd (cs := #[.int .i64 a0_0, .slice A0_1 l0_1.length c0_1]) (t := 32) ?hr ?_; (case hd => rfl); (case hg => rfl); (case hr => first | (go_simp; done) | (go_simp; rfl)); intro gb415 hg w5 hbox hb; have n0_ := xH HB hb; have n1_ := zA (hbox); have n2_ := zA ((by rw [hg]; exact (below_size (uH HB.out)) : w.heap.size ≤ gb415)); have n3_ := zA ((by rw [hg]; exact (below_size (uH HB.out)) : w.heap.size ≤ gb415)); clear HB; have HB := n0_; have BK415 := n1_; have GW415 := n2_; have GE415 := n3_; have := geI GE415; clear n0_ n1_ n2_ n3_ hb hbox hg; have hcz6_0 : w5.cell? ⟨gb415, 0, none⟩ = some (.int .i64 a0_0) := (blk_cell BK415.out 0).trans rfl; have hcz6_1 : w5.cell? ⟨gb415, 1, none⟩ = some (.slice A0_1 l0_1.length c0_1) := (blk_cell BK415.out 1).trans rfl; have hfz6_0 := blk_frozen BK415.out 0; have hfz6_1 := blk_frozen BK415.out 1) | ((with_reducible refine gate_callee (f := 14) rfl ?_); refine goesL_ (some 18) rfl rfl Try.func14 (by kernel_rfl) rfl #[.agg #[.int .i64 a0_0, .slice A0_1 l0_1.length c0_1], .int .i64 1048576] rfl (by (try simp only [List.map_toArray, List.map_cons, List.map_nil]); first | done | rfl | (simp only [List.length_drop, List.length_take]; rfl)) ?_; (with_reducible refine (laws_szMoments.calls a0_0 _ _ l0_1 1048576 t416 _ ?side1 ?side2 A3.out).mono ?_); (case side1 => exact uC ((Kd.C_below HR0_1.out HB.out))); (case side2 => exact HC0_1.out); rintro e w7 ⟨rfl, hb⟩; refine ⟨_, rfl, ?_⟩; have n0_ := xB BK415 hb; have n1_ := xH HB hb; clear BK415 HB; have BK415 := n0_; have HB := n1_; clear n0_ n1_; (try clear hb); (try clear hb2); (try clear hk); (try clear hi)))
  go_ret
  exact ⟨by first | rfl | (simp [errW_none, errW_some] <;> rfl) | (simp [*, errW_none, errW_some] <;> rfl), uH HB.out⟩
 ·rw [if_neg c4] at H
  have c4b0 : decide (t416 < 0) = false := decide_eq_false c4
  clear c4
  replace H := Option.bind_eq_some_iff.mp H
  obtain ⟨⟨t417, t418⟩, A80, H⟩ := H
  replace H : ((spec_CutMoments.f k t417 t418 a1).bind fun bt421 => ((laws_toMoments.f k a0_0 l0_1).bind fun bt427 => ((impl_CutMoments.f k bt427.1 bt427.2 a1).bind fun bt432 => ((laws_eqMoments.f k bt432.1 bt432.2.1 bt421.1 bt421.2.1).bind fun t438 => (if t438 = true then (laws_FnExactCutMoments.j0 k a1 bt421.2.2 bt432.2.2 (bt432.2.2 != bt421.2.2) a0_0 l0_1 bt421.1 bt421.2.1 bt427.1 bt427.2 bt432.1 bt432.2.1) else (laws_FnExactCutMoments.j0 k a1 bt421.2.2 bt432.2.2 true a0_0 l0_1 bt421.1 bt421.2.1 bt427.1 bt427.2 bt432.1 bt432.2.1)))))) = some r := H
  have A8 := zA A80
  clear A80
  replace H := Option.bind_eq_some_iff.mp H
  obtain ⟨⟨t421, t422, t425⟩, A90, H⟩ := H
  replace H : ((laws_toMoments.f k a0_0 l0_1).bind fun bt427 => ((impl_CutMoments.f k bt427.1 bt427.2 a1).bind fun bt432 => ((laws_eqMoments.f k bt432.1 bt432.2.1 t421 t422).bind fun t438 => (if t438 = true then (laws_FnExactCutMoments.j0 k a1 t425 bt432.2.2 (bt432.2.2 != t425) a0_0 l0_1 t421 t422 bt427.1 bt427.2 bt432.1 bt432.2.1) else (laws_FnExactCutMoments.j0 k a1 t425 bt432.2.2 true a0_0 l0_1 t421 t422 bt427.1 bt427.2 bt432.1 bt432.2.1))))) = some r := H
  have A9 := zA A90
  clear A90
  replace H := Option.bind_eq_some_iff.mp H
  obtain ⟨⟨t427, t428⟩, A100, H⟩ := H
  replace H : ((impl_CutMoments.f k t427 t428 a1).bind fun bt432 => ((laws_eqMoments.f k bt432.1 bt432.2.1 t421 t422).bind fun t438 => (if t438 = true then (laws_FnExactCutMoments.j0 k a1 t425 bt432.2.2 (bt432.2.2 != t425) a0_0 l0_1 t421 t422 t427 t428 bt432.1 bt432.2.1) else (laws_FnExactCutMoments.j0 k a1 t425 bt432.2.2 true a0_0 l0_1 t421 t422 t427 t428 bt432.1 bt432.2.1)))) = some r := H
  have A10 := zA A100
  clear A100
  replace H := Option.bind_eq_some_iff.mp H
  obtain ⟨⟨t432, t433, t436⟩, A110, H⟩ := H
  replace H : ((laws_eqMoments.f k t432 t433 t421 t422).bind fun t438 => (if t438 = true then (laws_FnExactCutMoments.j0 k a1 t425 t436 (t436 != t425) a0_0 l0_1 t421 t422 t427 t428 t432 t433) else (laws_FnExactCutMoments.j0 k a1 t425 t436 true a0_0 l0_1 t421 t422 t427 t428 t432 t433))) = some r := H
  have A11 := zA A110
  clear A110
  have HC12 := zA H
  clear H
  go_enter Try.func6, Try.ntmps6
  go_upto_region 8 with (first | ((with_reducible refine gate_dst (N := 2) rfl ?_); refine box_event ?hg (N := 2) ?hd (cs := #[.int .i64 a0_0, .slice A0_1 l0_1.length c0_1]) (t := 32) ?hr ?_; (case hd => rfl); (case hg => rfl); (case hr => first | (go_simp; done) | (go_simp; rfl)); intro gb415 hg w13 hbox hb; have n0_ := xH HB hb; have n1_ := zA (hbox); have n2_ := zA ((by rw [hg]; exact (below_size (uH HB.out)) : w.heap.size ≤ gb415)); have n3_ := zA ((by rw [hg]; exact (below_size (uH HB.out)) : w.heap.size ≤ gb415)); clear HB; have HB := n0_; have BK415 := n1_; have GW415 := n2_; have GE415 := n3_; have := geI GE415; clear n0_ n1_ n2_ n3_ hb hbox hg; have hcz14_0 : w13.cell? ⟨gb415, 0, none⟩ = some (.int .i64 a0_0) := (blk_cell BK415.out 0).trans rfl; have hcz14_1 : w13.cell? ⟨gb415, 1, none⟩ = some (.slice A0_1 l0_1.length c0_1) := (blk_cell BK415.out 1).trans rfl; have hfz14_0 := blk_frozen BK415.out 0; have hfz14_1 := blk_frozen BK415.out 1) | ((with_reducible refine gate_callee (f := 14) rfl ?_); refine goesL_ (some 18) rfl rfl Try.func14 (by kernel_rfl) rfl #[.agg #[.int .i64 a0_0, .slice A0_1 l0_1.length c0_1], .int .i64 1048576] rfl (by (try simp only [List.map_toArray, List.map_cons, List.map_nil]); first | done | rfl | (simp only [List.length_drop, List.length_take]; rfl)) ?_; (with_reducible refine (laws_szMoments.calls a0_0 _ _ l0_1 1048576 t416 _ ?side1 ?side2 A3.out).mono ?_); (case side1 => exact uC ((Kd.C_below HR0_1.out HB.out))); (case side2 => exact HC0_1.out); rintro e w15 ⟨rfl, hb⟩; refine ⟨_, rfl, ?_⟩; have n0_ := xB BK415 hb; have n1_ := xH HB hb; clear BK415 HB; have BK415 := n0_; have HB := n1_; clear n0_ n1_; (try clear hb); (try clear hb2); (try clear hk); (try clear hi); have hcz16_0 : w15.cell? ⟨gb415, 0, none⟩ = some (.int .i64 a0_0) := (blk_cell BK415.out 0).trans rfl; have hcz16_1 : w15.cell? ⟨gb415, 1, none⟩ = some (.slice A0_1 l0_1.length c0_1) := (blk_cell BK415.out 1).trans rfl; have hfz16_0 := blk_frozen BK415.out 0; have hfz16_1 := blk_frozen BK415.out 1) | ((with_reducible refine gate_callee (f := 16) rfl ?_); refine goesL_ (some 23) rfl rfl Try.func16 (by kernel_rfl) rfl #[.agg #[.int .i64 a0_0, .slice A0_1 l0_1.length c0_1]] rfl (by (try simp only [List.map_toArray, List.map_cons, List.map_nil]); first | done | rfl | (simp only [List.length_drop, List.length_take]; rfl)) ?_; (with_reducible refine (laws_toMoments.calls k a0_0 _ _ l0_1 t417 t418 _ ?side1 ?side2 A8.out).mono ?_); (case side1 => exact uC ((Kd.C_below HR0_1.out HB.out))); (case side2 => exact HC0_1.out); rintro e w17 ⟨v419, rfl, ho0, hb⟩; refine ⟨_, rfl, ?_⟩; have n0_ := zA (Kd.R_lower ho0 (below_size (uH HB.out))); have n1_ := xB BK415 hb; have n2_ := xH HB hb; clear BK415 HB; have HO420 := n0_; have BK415 := n1_; have HB := n2_; clear n0_ n1_ n2_; (try clear hb); (try clear hb2); (try clear hk); (try clear hi); (try clear ho0); obtain ⟨Ao18, co18, eo18⟩ := Kd.R_slice HO420.out; subst eo18) | ((with_reducible refine gate_callee (f := 25) rfl ?_); refine goesL_ (some 25) rfl rfl Try.func25 (by kernel_rfl) rfl #[.agg #[.int .i64 t417, .slice Ao18 t418.length co18], .int .i64 a1] rfl (by (try simp only [List.map_toArray, List.map_cons, List.map_nil]); first | done | rfl | (simp only [List.length_drop, List.length_take]; rfl)) ?_; (with_reducible refine (spec_CutMoments.calls k t417 _ _ t418 a1 t421 t422 t425 _ ?side1 ?side2 A9.out).mono ?_); (case side1 => exact uC ((Kd.R_reads' HO420.out).2.2)); (case side2 => exact (Kd.R_reads' HO420.out).2.1); rintro e w19 ⟨v423, rfl, ho0, hb⟩; refine ⟨_, rfl, ?_⟩; have n0_ := zA (Kd.R_elder' (uR HO420.out) (Kd.R_base ho0) hb); have n1_ := zA (Kd.R_lower (Kd.R_new' ho0 (Kd.R_lt (uR HO420.out))) (below_size (uH HB.out))); have n2_ := xB BK415 hb; have n3_ := xH HB hb; clear HO420 BK415 HB; have HO420 := n0_; have HO424 := n1_; have BK415 := n2_; have HB := n3_; clear n0_ n1_ n2_ n3_; (try clear hb); (try clear hb2); (try clear hk); (try clear hi); (try clear ho0)) | ((with_reducible refine gate_dst (N := 6) rfl ?_); refine box_event ?hg (N := 6) ?hd (cs := #[.int .i64 0, .slice none 0 0]) (t := 36) ?hr ?_; (case hd => rfl); (case hg => rfl); (case hr => first | (go_simp; done) | (go_simp; rfl)); intro gb426 hg w20 hbox hb; have n0_ := xR HO420 hb; have n1_ := xR HO424 hb; have n2_ := xB BK415 hb; have n3_ := xH HB hb; have n4_ := zA (hbox); have n5_ := zA ((by rw [hg]; exact (below_size (uH HB.out)) : w.heap.size ≤ gb426)); have n6_ := zA ((by rw [hg]; exact (below_size (uH HB.out)) : w.heap.size ≤ gb426)); have n7_ := zA ((by rw [hg]; exact neL BK415 : gb415 ≠ gb426)); have n8_ := zA ((by rw [hg]; exact neG BK415 : gb426 ≠ gb415)); clear HO420 HO424 BK415 HB; have HO420 := n0_; have HO424 := n1_; have BK415 := n2_; have HB := n3_; have BK426 := n4_; have GW426 := n5_; have GE426 := n6_; have := geI GE426; have NB415_426 := n7_; have NB426_415 := n8_; clear n0_ n1_ n2_ n3_ n4_ n5_ n6_ n7_ n8_ hb hbox hg; have hnb21 := NB426_415.out; have hnc21 := NB415_426.out; have hcz22_0 : w20.cell? ⟨gb426, 0, none⟩ = some (.int .i64 0) := (blk_cell BK426.out 0).trans rfl; have hcz22_1 : w20.cell? ⟨gb426, 1, none⟩ = some (.slice none 0 0) := (blk_cell BK426.out 1).trans rfl; have hfz22_0 := blk_frozen BK426.out 0; have hfz22_1 := blk_frozen BK426.out 1; obtain ⟨Ao23, co23, eo23⟩ := Kd.R_slice HO424.out; subst eo23; have hcz24_0 : w20.cell? ⟨gb415, 0, none⟩ = some (.int .i64 a0_0) := (blk_cell BK415.out 0).trans rfl; have hcz24_1 : w20.cell? ⟨gb415, 1, none⟩ = some (.slice A0_1 l0_1.length c0_1) := (blk_cell BK415.out 1).trans rfl; have hfz24_0 := blk_frozen BK415.out 0; have hfz24_1 := blk_frozen BK415.out 1) | ((with_reducible refine gate_callee (f := 16) rfl ?_); refine goesL_ (some 29) rfl rfl Try.func16 (by kernel_rfl) rfl #[.agg #[.int .i64 a0_0, .slice A0_1 l0_1.length c0_1]] rfl (by (try simp only [List.map_toArray, List.map_cons, List.map_nil]); first | done | rfl | (simp only [List.length_drop, List.length_take]; rfl)) ?_; (with_reducible refine (laws_toMoments.calls k a0_0 _ _ l0_1 t427 t428 _ ?side1 ?side2 A10.out).mono ?_); (case side1 => exact Kd.C_below HR0_1.out (uH HB.out)); (case side2 => exact HC0_1.out); rintro e w25 ⟨v429, rfl, ho0, hb⟩; refine ⟨_, rfl, ?_⟩; have n0_ := zA (Kd.R_elder' (uR ((Kd.R_mono (Kd.R_far (p := ⟨gb426, 1, none⟩) (Kd.R_far (p := ⟨gb426, 0, none⟩) (Kd.R_types HO420.out BK426.out (by decide)) (fun _ hk => hk.2) (.int .i64 t421)) (fun _ hk => hk.2) (.slice Ao23 t422.length co23)) (fun _ h_ => h_.1)))) (Kd.R_base ho0) hb); have n1_ := zA (Kd.R_elder' (uR ((Kd.R_mono (Kd.R_far (p := ⟨gb426, 1, none⟩) (Kd.R_far (p := ⟨gb426, 0, none⟩) (Kd.R_types HO424.out BK426.out (by decide)) (fun _ hk => hk.2) (.int .i64 t421)) (fun _ hk => hk.2) (.slice Ao23 t422.length co23)) (fun _ h_ => h_.1)))) (Kd.R_base ho0) hb); have n2_ := zA (Kd.R_lower (Kd.R_new' (Kd.R_new' ho0 (Kd.R_lt (uR ((Kd.R_mono (Kd.R_far (p := ⟨gb426, 1, none⟩) (Kd.R_far (p := ⟨gb426, 0, none⟩) (Kd.R_types HO420.out BK426.out (by decide)) (fun _ hk => hk.2) (.int .i64 t421)) (fun _ hk => hk.2) (.slice Ao23 t422.length co23)) (fun _ h_ => h_.1)))))) (Kd.R_lt (uR ((Kd.R_mono (Kd.R_far (p := ⟨gb426, 1, none⟩) (Kd.R_far (p := ⟨gb426, 0, none⟩) (Kd.R_types HO424.out BK426.out (by decide)) (fun _ hk => hk.2) (.int .i64 t421)) (fun _ hk => hk.2) (.slice Ao23 t422.length co23)) (fun _ h_ => h_.1)))))) (below_size (uH HB.out))); have n3_ := zA (blk_below (g := gb415) (o := .cells #[.int .i64 a0_0, .slice A0_1 l0_1.length c0_1] 32 (0, 0)) (by (with_reducible repeat (first | refine blk_drewN ?_ _ | refine blk_drew ?_ | refine blk_alloc ?_ _)); refine blk_far ?_ NB415_426.out _; (with_reducible repeat (first | refine blk_drewN ?_ _ | refine blk_drew ?_ | refine blk_alloc ?_ _)); refine blk_far ?_ NB415_426.out _; (with_reducible repeat (first | refine blk_drewN ?_ _ | refine blk_drew ?_ | refine blk_alloc ?_ _)); exact BK415.out) hb); have n4_ := zA (blk_below (g := gb426) (o := .cells #[.int .i64 t421, .slice Ao23 t422.length co23] 36 (0, 0)) (by (with_reducible repeat (first | refine blk_drewN ?_ _ | refine blk_drew ?_ | refine blk_alloc ?_ _)); refine blk_put (cs := #[.int .i64 t421, .slice none 0 0]) ?_ 1 _ rfl; (with_reducible repeat (first | refine blk_drewN ?_ _ | refine blk_drew ?_ | refine blk_alloc ?_ _)); refine blk_put (cs := #[.int .i64 0, .slice none 0 0]) ?_ 0 _ rfl; (with_reducible repeat (first | refine blk_drewN ?_ _ | refine blk_drew ?_ | refine blk_alloc ?_ _)); exact BK426.out) hb); have n5_ := xH HB hb; clear HO420 HO424 BK415 BK426 HB; have HO420 := n0_; have HO424 := n1_; have HO430 := n2_; have BK415 := n3_; have BK426 := n4_; have HB := n5_; clear n0_ n1_ n2_ n3_ n4_ n5_; (try clear hb); (try clear hb2); (try clear hk); (try clear hi); (try clear ho0)) | ((with_reducible refine gate_dst (N := 8) rfl ?_); refine box_event ?hg (N := 8) ?hd (cs := #[.int .i64 0, .slice none 0 0]) (t := 36) ?hr ?_; (case hd => rfl); (case hg => rfl); (case hr => first | (go_simp; done) | (go_simp; rfl)); intro gb431 hg w26 hbox hb; have n0_ := xR HO420 hb; have n1_ := xR HO424 hb; have n2_ := xR HO430 hb; have n3_ := xB BK415 hb; have n4_ := xB BK426 hb; have n5_ := xH HB hb; have n6_ := zA (hbox); have n7_ := zA ((by rw [hg]; exact (below_size (uH HB.out)) : w.heap.size ≤ gb431)); have n8_ := zA ((by rw [hg]; exact (below_size (uH HB.out)) : w.heap.size ≤ gb431)); have n9_ := zA ((by rw [hg]; exact neL BK415 : gb415 ≠ gb431)); have n10_ := zA ((by rw [hg]; exact neG BK415 : gb431 ≠ gb415)); have n11_ := zA ((by rw [hg]; exact neL BK426 : gb426 ≠ gb431)); have n12_ := zA ((by rw [hg]; exact neG BK426 : gb431 ≠ gb426)); clear HO420 HO424 HO430 BK415 BK426 HB; have HO420 := n0_; have HO424 := n1_; have HO430 := n2_; have BK415 := n3_; have BK426 := n4_; have HB := n5_; have BK431 := n6_; have GW431 := n7_; have GE431 := n8_; have := geI GE431; have NB415_431 := n9_; have NB431_415 := n10_; have NB426_431 := n11_; have NB431_426 := n12_; clear n0_ n1_ n2_ n3_ n4_ n5_ n6_ n7_ n8_ n9_ n10_ n11_ n12_ hb hbox hg; have hnb27 := NB431_415.out; have hnc27 := NB415_431.out; have hnb28 := NB431_426.out; have hnc28 := NB426_431.out; have hcz29_0 : w26.cell? ⟨gb431, 0, none⟩ = some (.int .i64 0) := (blk_cell BK431.out 0).trans rfl; have hcz29_1 : w26.cell? ⟨gb431, 1, none⟩ = some (.slice none 0 0) := (blk_cell BK431.out 1).trans rfl; have hfz29_0 := blk_frozen BK431.out 0; have hfz29_1 := blk_frozen BK431.out 1; obtain ⟨Ao30, co30, eo30⟩ := Kd.R_slice HO430.out; subst eo30) | ((with_reducible refine gate_callee (f := 26) rfl ?_); refine goesL_ (some 33) rfl rfl Try.func26 (by kernel_rfl) rfl #[.agg #[.int .i64 t427, .slice Ao30 t428.length co30], .int .i64 a1] rfl (by (try simp only [List.map_toArray, List.map_cons, List.map_nil]); first | done | rfl | (simp only [List.length_drop, List.length_take]; rfl)) ?_; (with_reducible refine (impl_CutMoments.calls k t427 _ _ t428 a1 t432 t433 t436 _ ?side1 ?side2 A11.out).mono ?_); (case side1 => refine (Kd.R_reads' (e := 2) (base := w.heap.size) (ok := fun k_ => ((True ∧ some k_ ≠ (.slice Ao18 t418.length co18 : Value).ownBlock) ∧ some k_ ≠ (.slice Ao23 t422.length co23 : Value).ownBlock)) (n := t428.length) (c := co30) ?_).2.2; exact (uR ((Kd.R_mono (Kd.R_far (p := ⟨gb431, 1, none⟩) (Kd.R_far (p := ⟨gb431, 0, none⟩) (Kd.R_types HO430.out BK431.out (by decide)) (fun _ hk => hk.2) (.int .i64 t427)) (fun _ hk => hk.2) (.slice Ao30 t428.length co30)) (fun _ h_ => h_.1))))); (case side2 => exact (Kd.R_reads' HO430.out).2.1); rintro e w31 ⟨v434, rfl, ho0, hb⟩; refine ⟨_, rfl, ?_⟩; have n0_ := zA (Kd.R_elder' (uR ((Kd.R_mono (Kd.R_far (p := ⟨gb431, 1, none⟩) (Kd.R_far (p := ⟨gb431, 0, none⟩) (Kd.R_types HO420.out BK431.out (by decide)) (fun _ hk => hk.2) (.int .i64 t427)) (fun _ hk => hk.2) (.slice Ao30 t428.length co30)) (fun _ h_ => h_.1)))) (Kd.R_base ho0) hb); have n1_ := zA (Kd.R_elder' (uR ((Kd.R_mono (Kd.R_far (p := ⟨gb431, 1, none⟩) (Kd.R_far (p := ⟨gb431, 0, none⟩) (Kd.R_types HO424.out BK431.out (by decide)) (fun _ hk => hk.2) (.int .i64 t427)) (fun _ hk => hk.2) (.slice Ao30 t428.length co30)) (fun _ h_ => h_.1)))) (Kd.R_base ho0) hb); have n2_ := zA (Kd.R_elder' (uR ((Kd.R_mono (Kd.R_far (p := ⟨gb431, 1, none⟩) (Kd.R_far (p := ⟨gb431, 0, none⟩) (Kd.R_types HO430.out BK431.out (by decide)) (fun _ hk => hk.2) (.int .i64 t427)) (fun _ hk => hk.2) (.slice Ao30 t428.length co30)) (fun _ h_ => h_.1)))) (Kd.R_base ho0) hb); have n3_ := zA (Kd.R_lower (Kd.R_new' (Kd.R_new' (Kd.R_new' ho0 (Kd.R_lt (uR ((Kd.R_mono (Kd.R_far (p := ⟨gb431, 1, none⟩) (Kd.R_far (p := ⟨gb431, 0, none⟩) (Kd.R_types HO420.out BK431.out (by decide)) (fun _ hk => hk.2) (.int .i64 t427)) (fun _ hk => hk.2) (.slice Ao30 t428.length co30)) (fun _ h_ => h_.1)))))) (Kd.R_lt (uR ((Kd.R_mono (Kd.R_far (p := ⟨gb431, 1, none⟩) (Kd.R_far (p := ⟨gb431, 0, none⟩) (Kd.R_types HO424.out BK431.out (by decide)) (fun _ hk => hk.2) (.int .i64 t427)) (fun _ hk => hk.2) (.slice Ao30 t428.length co30)) (fun _ h_ => h_.1)))))) (Kd.R_lt (uR ((Kd.R_mono (Kd.R_far (p := ⟨gb431, 1, none⟩) (Kd.R_far (p := ⟨gb431, 0, none⟩) (Kd.R_types HO430.out BK431.out (by decide)) (fun _ hk => hk.2) (.int .i64 t427)) (fun _ hk => hk.2) (.slice Ao30 t428.length co30)) (fun _ h_ => h_.1)))))) (below_size (uH HB.out))); have n4_ := zA (blk_below (g := gb415) (o := .cells #[.int .i64 a0_0, .slice A0_1 l0_1.length c0_1] 32 (0, 0)) (by (with_reducible repeat (first | refine blk_drewN ?_ _ | refine blk_drew ?_ | refine blk_alloc ?_ _)); refine blk_far ?_ NB415_431.out _; (with_reducible repeat (first | refine blk_drewN ?_ _ | refine blk_drew ?_ | refine blk_alloc ?_ _)); refine blk_far ?_ NB415_431.out _; (with_reducible repeat (first | refine blk_drewN ?_ _ | refine blk_drew ?_ | refine blk_alloc ?_ _)); exact BK415.out) hb); have n5_ := zA (blk_below (g := gb426) (o := .cells #[.int .i64 t421, .slice Ao23 t422.length co23] 36 (0, 0)) (by (with_reducible repeat (first | refine blk_drewN ?_ _ | refine blk_drew ?_ | refine blk_alloc ?_ _)); refine blk_far ?_ NB426_431.out _; (with_reducible repeat (first | refine blk_drewN ?_ _ | refine blk_drew ?_ | refine blk_alloc ?_ _)); refine blk_far ?_ NB426_431.out _; (with_reducible repeat (first | refine blk_drewN ?_ _ | refine blk_drew ?_ | refine blk_alloc ?_ _)); exact BK426.out) hb); have n6_ := zA (blk_below (g := gb431) (o := .cells #[.int .i64 t427, .slice Ao30 t428.length co30] 36 (0, 0)) (by (with_reducible repeat (first | refine blk_drewN ?_ _ | refine blk_drew ?_ | refine blk_alloc ?_ _)); refine blk_put (cs := #[.int .i64 t427, .slice none 0 0]) ?_ 1 _ rfl; (with_reducible repeat (first | refine blk_drewN ?_ _ | refine blk_drew ?_ | refine blk_alloc ?_ _)); refine blk_put (cs := #[.int .i64 0, .slice none 0 0]) ?_ 0 _ rfl; (with_reducible repeat (first | refine blk_drewN ?_ _ | refine blk_drew ?_ | refine blk_alloc ?_ _)); exact BK431.out) hb); have n7_ := xH HB hb; clear HO420 HO424 HO430 BK415 BK426 BK431 HB; have HO420 := n0_; have HO424 := n1_; have HO430 := n2_; have HO435 := n3_; have BK415 := n4_; have BK426 := n5_; have BK431 := n6_; have HB := n7_; clear n0_ n1_ n2_ n3_ n4_ n5_ n6_ n7_; (try clear hb); (try clear hb2); (try clear hk); (try clear hi); (try clear ho0)) | ((with_reducible refine gate_dst (N := 9) rfl ?_); refine box_event ?hg (N := 9) ?hd (cs := #[.int .i64 0, .slice none 0 0]) (t := 36) ?hr ?_; (case hd => rfl); (case hg => rfl); (case hr => first | (go_simp; done) | (go_simp; rfl)); intro gb437 hg w32 hbox hb; have n0_ := xR HO420 hb; have n1_ := xR HO424 hb; have n2_ := xR HO430 hb; have n3_ := xR HO435 hb; have n4_ := xB BK415 hb; have n5_ := xB BK426 hb; have n6_ := xB BK431 hb; have n7_ := xH HB hb; have n8_ := zA (hbox); have n9_ := zA ((by rw [hg]; exact (below_size (uH HB.out)) : w.heap.size ≤ gb437)); have n10_ := zA ((by rw [hg]; exact (below_size (uH HB.out)) : w.heap.size ≤ gb437)); have n11_ := zA ((by rw [hg]; exact neL BK415 : gb415 ≠ gb437)); have n12_ := zA ((by rw [hg]; exact neG BK415 : gb437 ≠ gb415)); have n13_ := zA ((by rw [hg]; exact neL BK426 : gb426 ≠ gb437)); have n14_ := zA ((by rw [hg]; exact neG BK426 : gb437 ≠ gb426)); have n15_ := zA ((by rw [hg]; exact neL BK431 : gb431 ≠ gb437)); have n16_ := zA ((by rw [hg]; exact neG BK431 : gb437 ≠ gb431)); clear HO420 HO424 HO430 HO435 BK415 BK426 BK431 HB; have HO420 := n0_; have HO424 := n1_; have HO430 := n2_; have HO435 := n3_; have BK415 := n4_; have BK426 := n5_; have BK431 := n6_; have HB := n7_; have BK437 := n8_; have GW437 := n9_; have GE437 := n10_; have := geI GE437; have NB415_437 := n11_; have NB437_415 := n12_; have NB426_437 := n13_; have NB437_426 := n14_; have NB431_437 := n15_; have NB437_431 := n16_; clear n0_ n1_ n2_ n3_ n4_ n5_ n6_ n7_ n8_ n9_ n10_ n11_ n12_ n13_ n14_ n15_ n16_ hb hbox hg; have hnb33 := NB437_415.out; have hnc33 := NB415_437.out; have hnb34 := NB437_426.out; have hnc34 := NB426_437.out; have hnb35 := NB437_431.out; have hnc35 := NB431_437.out; have hcz36_0 : w32.cell? ⟨gb437, 0, none⟩ = some (.int .i64 0) := (blk_cell BK437.out 0).trans rfl; have hcz36_1 : w32.cell? ⟨gb437, 1, none⟩ = some (.slice none 0 0) := (blk_cell BK437.out 1).trans rfl; have hfz36_0 := blk_frozen BK437.out 0; have hfz36_1 := blk_frozen BK437.out 1; obtain ⟨Ao37, co37, eo37⟩ := Kd.R_slice HO435.out; subst eo37))
  (try simp only [Act.put, List.setIfInBounds_toArray, List.set_cons_zero, List.set_cons_succ])
  go_cut [44] (fun v44 wc => ∃ (kq : Nat) (x44_11 : Bool), v44 = .bool x44_11 ∧ Aside0 (laws_FnExactCutMoments.j0 kq a1 t425 t436 x44_11 a0_0 l0_1 t421 t422 t427 t428 t432 t433 = some r) ∧ Aside0 (kq ≤ k) ∧ Aside0 (Kd.R (Kd.int .i64) 2 wc w.heap.size (fun k_ => some k_ ≠ ((.slice Ao30 t428.length co30) : Value).ownBlock ∧ some k_ ≠ ((.slice Ao37 t433.length co37) : Value).ownBlock) (.slice Ao23 t422.length co23) t422) ∧ Aside0 (Kd.R (Kd.int .i64) 2 wc w.heap.size (fun k_ => some k_ ≠ ((.slice Ao23 t422.length co23) : Value).ownBlock ∧ some k_ ≠ ((.slice Ao37 t433.length co37) : Value).ownBlock) (.slice Ao30 t428.length co30) t428) ∧ Aside0 (Kd.R (Kd.int .i64) 2 wc w.heap.size (fun k_ => some k_ ≠ ((.slice Ao23 t422.length co23) : Value).ownBlock ∧ some k_ ≠ ((.slice Ao30 t428.length co30) : Value).ownBlock) (.slice Ao37 t433.length co37) t433) ∧ Aside0 (wc.heap[gb415]? = some (.cells #[.int .i64 a0_0, (.slice A0_1 l0_1.length c0_1)] 32 (0, 0))) ∧ Aside0 (wc.heap[gb426]? = some (.cells #[.int .i64 t421, (.slice Ao23 t422.length co23)] 36 (0, 0))) ∧ Aside0 (wc.heap[gb431]? = some (.cells #[.int .i64 t427, (.slice Ao30 t428.length co30)] 36 (0, 0))) ∧ Aside0 (wc.heap[gb437]? = some (.cells #[.int .i64 t432, (.slice Ao37 t433.length co37)] 36 (0, 0))) ∧ Aside0 (Below w.heap.size w wc))
  case first =>
   have H := HC12.out
   clear HC12
   replace H := Option.bind_eq_some_iff.mp H
   obtain ⟨t438, A380, H⟩ := H
   replace H : (if t438 = true then (laws_FnExactCutMoments.j0 k a1 t425 t436 (t436 != t425) a0_0 l0_1 t421 t422 t427 t428 t432 t433) else (laws_FnExactCutMoments.j0 k a1 t425 t436 true a0_0 l0_1 t421 t422 t427 t428 t432 t433)) = some r := H
   have A38 := zA A380
   clear A380
   by_cases c39 : t438 = true
   ·subst c39
    have H1 : (laws_FnExactCutMoments.j0 k a1 t425 t436 (t436 != t425) a0_0 l0_1 t421 t422 t427 t428 t432 t433) = some r := by rw [if_pos rfl] at H; exact H
    clear H
    have H := H1
    clear H1
    have H' := zA H
    clear H
    have hnb40 := NB437_415.out; have hnc40 := NB415_437.out; have hnb41 := NB437_426.out; have hnc41 := NB426_437.out; have hnb42 := NB437_431.out; have hnc42 := NB431_437.out
    have hcz43_0 : w32.cell? ⟨gb437, 0, none⟩ = some (.int .i64 0) := (blk_cell BK437.out 0).trans rfl
    have hcz43_1 : w32.cell? ⟨gb437, 1, none⟩ = some (.slice none 0 0) := (blk_cell BK437.out 1).trans rfl
    have hfz43_0 := blk_frozen BK437.out 0
    have hfz43_1 := blk_frozen BK437.out 1
    have hnb44 := NB426_415.out; have hnc44 := NB415_426.out; have hnb45 := NB426_431.out; have hnc45 := NB431_426.out
    have hcz46_0 : w32.cell? ⟨gb426, 0, none⟩ = some (.int .i64 t421) := (blk_cell BK426.out 0).trans rfl
    have hcz46_1 : w32.cell? ⟨gb426, 1, none⟩ = some (.slice Ao23 t422.length co23) := (blk_cell BK426.out 1).trans rfl
    have hfz46_0 := blk_frozen BK426.out 0
    have hfz46_1 := blk_frozen BK426.out 1
    go_wp2_with (first | ((with_reducible refine gate_callee (f := 19) rfl ?_); refine goesL_ (some 38) rfl rfl Try.func19 (by kernel_rfl) rfl #[.agg #[.int .i64 t432, .slice Ao37 t433.length co37], .agg #[.int .i64 t421, .slice Ao23 t422.length co23]] rfl (by (try simp only [List.map_toArray, List.map_cons, List.map_nil]); first | done | rfl | (simp only [List.length_drop, List.length_take]; rfl)) ?_; (with_reducible refine (laws_eqMoments.calls k t432 _ _ t433 t421 _ _ t422 true _ ?side1 ?side2 ?side3 ?side4 A38.out).mono ?_); (case side1 => refine (Kd.R_reads' (e := 2) (base := w.heap.size) (ok := fun k_ => (((True ∧ some k_ ≠ (.slice Ao18 t418.length co18 : Value).ownBlock) ∧ some k_ ≠ (.slice Ao23 t422.length co23 : Value).ownBlock) ∧ some k_ ≠ (.slice Ao30 t428.length co30 : Value).ownBlock)) (n := t433.length) (c := co37) ?_).2.2; exact (uR ((Kd.R_mono (Kd.R_far (p := ⟨gb437, 1, none⟩) (Kd.R_far (p := ⟨gb437, 0, none⟩) (Kd.R_types HO435.out BK437.out (by decide)) (fun _ hk => hk.2) (.int .i64 t432)) (fun _ hk => hk.2) (.slice Ao37 t433.length co37)) (fun _ h_ => h_.1))))); (case side2 => exact (Kd.R_reads' HO435.out).2.1); (case side3 => refine (Kd.R_reads' (e := 2) (base := w.heap.size) (ok := fun k_ => (((True ∧ some k_ ≠ (.slice Ao18 t418.length co18 : Value).ownBlock) ∧ some k_ ≠ (.slice Ao30 t428.length co30 : Value).ownBlock) ∧ some k_ ≠ (.slice Ao37 t433.length co37 : Value).ownBlock)) (n := t422.length) (c := co23) ?_).2.2; exact (uR ((Kd.R_mono (Kd.R_far (p := ⟨gb437, 1, none⟩) (Kd.R_far (p := ⟨gb437, 0, none⟩) (Kd.R_types HO424.out BK437.out (by decide)) (fun _ hk => hk.2) (.int .i64 t432)) (fun _ hk => hk.2) (.slice Ao37 t433.length co37)) (fun _ h_ => h_.1))))); (case side4 => exact (Kd.R_reads' HO424.out).2.1); rintro e w47 ⟨rfl, hb⟩; refine ⟨_, rfl, ?_⟩; have n0_ := zA (Kd.R_below (uR ((Kd.R_mono (Kd.R_far (p := ⟨gb437, 1, none⟩) (Kd.R_far (p := ⟨gb437, 0, none⟩) (Kd.R_types HO420.out BK437.out (by decide)) (fun _ hk => hk.2) (.int .i64 t432)) (fun _ hk => hk.2) (.slice Ao37 t433.length co37)) (fun _ h_ => h_.1)))) hb); have n1_ := zA (Kd.R_below (uR ((Kd.R_mono (Kd.R_far (p := ⟨gb437, 1, none⟩) (Kd.R_far (p := ⟨gb437, 0, none⟩) (Kd.R_types HO424.out BK437.out (by decide)) (fun _ hk => hk.2) (.int .i64 t432)) (fun _ hk => hk.2) (.slice Ao37 t433.length co37)) (fun _ h_ => h_.1)))) hb); have n2_ := zA (Kd.R_below (uR ((Kd.R_mono (Kd.R_far (p := ⟨gb437, 1, none⟩) (Kd.R_far (p := ⟨gb437, 0, none⟩) (Kd.R_types HO430.out BK437.out (by decide)) (fun _ hk => hk.2) (.int .i64 t432)) (fun _ hk => hk.2) (.slice Ao37 t433.length co37)) (fun _ h_ => h_.1)))) hb); have n3_ := zA (Kd.R_below (uR ((Kd.R_mono (Kd.R_far (p := ⟨gb437, 1, none⟩) (Kd.R_far (p := ⟨gb437, 0, none⟩) (Kd.R_types HO435.out BK437.out (by decide)) (fun _ hk => hk.2) (.int .i64 t432)) (fun _ hk => hk.2) (.slice Ao37 t433.length co37)) (fun _ h_ => h_.1)))) hb); have n4_ := zA (blk_below (g := gb415) (o := .cells #[.int .i64 a0_0, .slice A0_1 l0_1.length c0_1] 32 (0, 0)) (by (with_reducible repeat (first | refine blk_drewN ?_ _ | refine blk_drew ?_ | refine blk_alloc ?_ _)); refine blk_far ?_ NB415_437.out _; (with_reducible repeat (first | refine blk_drewN ?_ _ | refine blk_drew ?_ | refine blk_alloc ?_ _)); refine blk_far ?_ NB415_437.out _; (with_reducible repeat (first | refine blk_drewN ?_ _ | refine blk_drew ?_ | refine blk_alloc ?_ _)); exact BK415.out) hb); have n5_ := zA (blk_below (g := gb426) (o := .cells #[.int .i64 t421, .slice Ao23 t422.length co23] 36 (0, 0)) (by (with_reducible repeat (first | refine blk_drewN ?_ _ | refine blk_drew ?_ | refine blk_alloc ?_ _)); refine blk_far ?_ NB426_437.out _; (with_reducible repeat (first | refine blk_drewN ?_ _ | refine blk_drew ?_ | refine blk_alloc ?_ _)); refine blk_far ?_ NB426_437.out _; (with_reducible repeat (first | refine blk_drewN ?_ _ | refine blk_drew ?_ | refine blk_alloc ?_ _)); exact BK426.out) hb); have n6_ := zA (blk_below (g := gb431) (o := .cells #[.int .i64 t427, .slice Ao30 t428.length co30] 36 (0, 0)) (by (with_reducible repeat (first | refine blk_drewN ?_ _ | refine blk_drew ?_ | refine blk_alloc ?_ _)); refine blk_far ?_ NB431_437.out _; (with_reducible repeat (first | refine blk_drewN ?_ _ | refine blk_drew ?_ | refine blk_alloc ?_ _)); refine blk_far ?_ NB431_437.out _; (with_reducible repeat (first | refine blk_drewN ?_ _ | refine blk_drew ?_ | refine blk_alloc ?_ _)); exact BK431.out) hb); have n7_ := zA (blk_below (g := gb437) (o := .cells #[.int .i64 t432, .slice Ao37 t433.length co37] 36 (0, 0)) (by (with_reducible repeat (first | refine blk_drewN ?_ _ | refine blk_drew ?_ | refine blk_alloc ?_ _)); refine blk_put (cs := #[.int .i64 t432, .slice none 0 0]) ?_ 1 _ rfl; (with_reducible repeat (first | refine blk_drewN ?_ _ | refine blk_drew ?_ | refine blk_alloc ?_ _)); refine blk_put (cs := #[.int .i64 0, .slice none 0 0]) ?_ 0 _ rfl; (with_reducible repeat (first | refine blk_drewN ?_ _ | refine blk_drew ?_ | refine blk_alloc ?_ _)); exact BK437.out) hb); have n8_ := xH HB hb; clear HO420 HO424 HO430 HO435 BK415 BK426 BK431 BK437 HB; have HO420 := n0_; have HO424 := n1_; have HO430 := n2_; have HO435 := n3_; have BK415 := n4_; have BK426 := n5_; have BK431 := n6_; have BK437 := n7_; have HB := n8_; clear n0_ n1_ n2_ n3_ n4_ n5_ n6_ n7_ n8_; (try clear hb); (try clear hb2); (try clear hk); (try clear hi)))
    go_meet
    case rel => exact ⟨_, ((t436 != t425)), (by first | rfl | (simp; done) | (simp [*]; done)), H', ⟨by first | omega | exact Nat.le_refl _⟩, ⟨uR (Kd.R_mono HO424.out (fun _ hk => ⟨hk.1.2, hk.2⟩))⟩, ⟨uR (Kd.R_mono HO430.out (fun _ hk => ⟨hk.1.2, hk.2⟩))⟩, ⟨uR (Kd.R_mono HO435.out (fun _ hk => ⟨hk.1.2, hk.2⟩))⟩, ⟨uB BK415.out⟩, ⟨uB BK426.out⟩, ⟨uB BK431.out⟩, ⟨uB BK437.out⟩, ⟨uH HB.out⟩⟩
   ·replace c39 := Bool.eq_false_iff.mpr c39
    subst c39
    have H1 : (laws_FnExactCutMoments.j0 k a1 t425 t436 true a0_0 l0_1 t421 t422 t427 t428 t432 t433) = some r := by rw [if_neg (show ¬ (false = true) by decide)] at H; exact H
    clear H
    have H := H1
    clear H1
    have H' := zA H
    clear H
    have hnb48 := NB437_415.out; have hnc48 := NB415_437.out; have hnb49 := NB437_426.out; have hnc49 := NB426_437.out; have hnb50 := NB437_431.out; have hnc50 := NB431_437.out
    have hcz51_0 : w32.cell? ⟨gb437, 0, none⟩ = some (.int .i64 0) := (blk_cell BK437.out 0).trans rfl
    have hcz51_1 : w32.cell? ⟨gb437, 1, none⟩ = some (.slice none 0 0) := (blk_cell BK437.out 1).trans rfl
    have hfz51_0 := blk_frozen BK437.out 0
    have hfz51_1 := blk_frozen BK437.out 1
    have hnb52 := NB426_415.out; have hnc52 := NB415_426.out; have hnb53 := NB426_431.out; have hnc53 := NB431_426.out
    have hcz54_0 : w32.cell? ⟨gb426, 0, none⟩ = some (.int .i64 t421) := (blk_cell BK426.out 0).trans rfl
    have hcz54_1 : w32.cell? ⟨gb426, 1, none⟩ = some (.slice Ao23 t422.length co23) := (blk_cell BK426.out 1).trans rfl
    have hfz54_0 := blk_frozen BK426.out 0
    have hfz54_1 := blk_frozen BK426.out 1
    go_wp2_with (first | ((with_reducible refine gate_callee (f := 19) rfl ?_); refine goesL_ (some 38) rfl rfl Try.func19 (by kernel_rfl) rfl #[.agg #[.int .i64 t432, .slice Ao37 t433.length co37], .agg #[.int .i64 t421, .slice Ao23 t422.length co23]] rfl (by (try simp only [List.map_toArray, List.map_cons, List.map_nil]); first | done | rfl | (simp only [List.length_drop, List.length_take]; rfl)) ?_; (with_reducible refine (laws_eqMoments.calls k t432 _ _ t433 t421 _ _ t422 false _ ?side1 ?side2 ?side3 ?side4 A38.out).mono ?_); (case side1 => refine (Kd.R_reads' (e := 2) (base := w.heap.size) (ok := fun k_ => (((True ∧ some k_ ≠ (.slice Ao18 t418.length co18 : Value).ownBlock) ∧ some k_ ≠ (.slice Ao23 t422.length co23 : Value).ownBlock) ∧ some k_ ≠ (.slice Ao30 t428.length co30 : Value).ownBlock)) (n := t433.length) (c := co37) ?_).2.2; exact (uR ((Kd.R_mono (Kd.R_far (p := ⟨gb437, 1, none⟩) (Kd.R_far (p := ⟨gb437, 0, none⟩) (Kd.R_types HO435.out BK437.out (by decide)) (fun _ hk => hk.2) (.int .i64 t432)) (fun _ hk => hk.2) (.slice Ao37 t433.length co37)) (fun _ h_ => h_.1))))); (case side2 => exact (Kd.R_reads' HO435.out).2.1); (case side3 => refine (Kd.R_reads' (e := 2) (base := w.heap.size) (ok := fun k_ => (((True ∧ some k_ ≠ (.slice Ao18 t418.length co18 : Value).ownBlock) ∧ some k_ ≠ (.slice Ao30 t428.length co30 : Value).ownBlock) ∧ some k_ ≠ (.slice Ao37 t433.length co37 : Value).ownBlock)) (n := t422.length) (c := co23) ?_).2.2; exact (uR ((Kd.R_mono (Kd.R_far (p := ⟨gb437, 1, none⟩) (Kd.R_far (p := ⟨gb437, 0, none⟩) (Kd.R_types HO424.out BK437.out (by decide)) (fun _ hk => hk.2) (.int .i64 t432)) (fun _ hk => hk.2) (.slice Ao37 t433.length co37)) (fun _ h_ => h_.1))))); (case side4 => exact (Kd.R_reads' HO424.out).2.1); rintro e w55 ⟨rfl, hb⟩; refine ⟨_, rfl, ?_⟩; have n0_ := zA (Kd.R_below (uR ((Kd.R_mono (Kd.R_far (p := ⟨gb437, 1, none⟩) (Kd.R_far (p := ⟨gb437, 0, none⟩) (Kd.R_types HO420.out BK437.out (by decide)) (fun _ hk => hk.2) (.int .i64 t432)) (fun _ hk => hk.2) (.slice Ao37 t433.length co37)) (fun _ h_ => h_.1)))) hb); have n1_ := zA (Kd.R_below (uR ((Kd.R_mono (Kd.R_far (p := ⟨gb437, 1, none⟩) (Kd.R_far (p := ⟨gb437, 0, none⟩) (Kd.R_types HO424.out BK437.out (by decide)) (fun _ hk => hk.2) (.int .i64 t432)) (fun _ hk => hk.2) (.slice Ao37 t433.length co37)) (fun _ h_ => h_.1)))) hb); have n2_ := zA (Kd.R_below (uR ((Kd.R_mono (Kd.R_far (p := ⟨gb437, 1, none⟩) (Kd.R_far (p := ⟨gb437, 0, none⟩) (Kd.R_types HO430.out BK437.out (by decide)) (fun _ hk => hk.2) (.int .i64 t432)) (fun _ hk => hk.2) (.slice Ao37 t433.length co37)) (fun _ h_ => h_.1)))) hb); have n3_ := zA (Kd.R_below (uR ((Kd.R_mono (Kd.R_far (p := ⟨gb437, 1, none⟩) (Kd.R_far (p := ⟨gb437, 0, none⟩) (Kd.R_types HO435.out BK437.out (by decide)) (fun _ hk => hk.2) (.int .i64 t432)) (fun _ hk => hk.2) (.slice Ao37 t433.length co37)) (fun _ h_ => h_.1)))) hb); have n4_ := zA (blk_below (g := gb415) (o := .cells #[.int .i64 a0_0, .slice A0_1 l0_1.length c0_1] 32 (0, 0)) (by (with_reducible repeat (first | refine blk_drewN ?_ _ | refine blk_drew ?_ | refine blk_alloc ?_ _)); refine blk_far ?_ NB415_437.out _; (with_reducible repeat (first | refine blk_drewN ?_ _ | refine blk_drew ?_ | refine blk_alloc ?_ _)); refine blk_far ?_ NB415_437.out _; (with_reducible repeat (first | refine blk_drewN ?_ _ | refine blk_drew ?_ | refine blk_alloc ?_ _)); exact BK415.out) hb); have n5_ := zA (blk_below (g := gb426) (o := .cells #[.int .i64 t421, .slice Ao23 t422.length co23] 36 (0, 0)) (by (with_reducible repeat (first | refine blk_drewN ?_ _ | refine blk_drew ?_ | refine blk_alloc ?_ _)); refine blk_far ?_ NB426_437.out _; (with_reducible repeat (first | refine blk_drewN ?_ _ | refine blk_drew ?_ | refine blk_alloc ?_ _)); refine blk_far ?_ NB426_437.out _; (with_reducible repeat (first | refine blk_drewN ?_ _ | refine blk_drew ?_ | refine blk_alloc ?_ _)); exact BK426.out) hb); have n6_ := zA (blk_below (g := gb431) (o := .cells #[.int .i64 t427, .slice Ao30 t428.length co30] 36 (0, 0)) (by (with_reducible repeat (first | refine blk_drewN ?_ _ | refine blk_drew ?_ | refine blk_alloc ?_ _)); refine blk_far ?_ NB431_437.out _; (with_reducible repeat (first | refine blk_drewN ?_ _ | refine blk_drew ?_ | refine blk_alloc ?_ _)); refine blk_far ?_ NB431_437.out _; (with_reducible repeat (first | refine blk_drewN ?_ _ | refine blk_drew ?_ | refine blk_alloc ?_ _)); exact BK431.out) hb); have n7_ := zA (blk_below (g := gb437) (o := .cells #[.int .i64 t432, .slice Ao37 t433.length co37] 36 (0, 0)) (by (with_reducible repeat (first | refine blk_drewN ?_ _ | refine blk_drew ?_ | refine blk_alloc ?_ _)); refine blk_put (cs := #[.int .i64 t432, .slice none 0 0]) ?_ 1 _ rfl; (with_reducible repeat (first | refine blk_drewN ?_ _ | refine blk_drew ?_ | refine blk_alloc ?_ _)); refine blk_put (cs := #[.int .i64 0, .slice none 0 0]) ?_ 0 _ rfl; (with_reducible repeat (first | refine blk_drewN ?_ _ | refine blk_drew ?_ | refine blk_alloc ?_ _)); exact BK437.out) hb); have n8_ := xH HB hb; clear HO420 HO424 HO430 HO435 BK415 BK426 BK431 BK437 HB; have HO420 := n0_; have HO424 := n1_; have HO430 := n2_; have HO435 := n3_; have BK415 := n4_; have BK426 := n5_; have BK431 := n6_; have BK437 := n7_; have HB := n8_; clear n0_ n1_ n2_ n3_ n4_ n5_ n6_ n7_ n8_; (try clear hb); (try clear hb2); (try clear hk); (try clear hi)))
    go_meet
    case rel => exact ⟨_, (true), (by first | rfl | (simp; done) | (simp [*]; done)), H', ⟨by first | omega | exact Nat.le_refl _⟩, ⟨uR (Kd.R_mono HO424.out (fun _ hk => ⟨hk.1.2, hk.2⟩))⟩, ⟨uR (Kd.R_mono HO430.out (fun _ hk => ⟨hk.1.2, hk.2⟩))⟩, ⟨uR (Kd.R_mono HO435.out (fun _ hk => ⟨hk.1.2, hk.2⟩))⟩, ⟨uB BK415.out⟩, ⟨uB BK426.out⟩, ⟨uB BK431.out⟩, ⟨uB BK437.out⟩, ⟨uH HB.out⟩⟩
  case rest =>
   clear HC12
   try clear c1
   try clear c2
   try clear p2
   try clear c3
   try clear c4
   try clear c4b0
   try clear c5
   try clear c6
   try clear c14
   try clear c16
   try clear c19
   try clear c21
   try clear c25
   try clear c26
   try clear c27
   try clear c28
   try clear c33
   try clear c34
   try clear c35
   try clear c39
   try clear c40
   try clear c41
   try clear c42
   try clear c44
   try clear c45
   try clear c48
   try clear c49
   try clear c50
   try clear c52
   try clear c53
   try clear hcz14_0
   try clear hcz14_1
   try clear hcz16_0
   try clear hcz16_1
   try clear hcz22_0
   try clear hcz22_1
   try clear hcz24_0
   try clear hcz24_1
   try clear hcz29_0
   try clear hcz29_1
   try clear hcz36_0
   try clear hcz36_1
   try clear hcz43_0
   try clear hcz43_1
   try clear hcz46_0
   try clear hcz46_1
   try clear hcz51_0
   try clear hcz51_1
   try clear hcz54_0
   try clear hcz54_1
   try clear hcz6_0
   try clear hcz6_1
   try clear hfz14_0
   try clear hfz14_1
   try clear hfz16_0
   try clear hfz16_1
   try clear hfz22_0
   try clear hfz22_1
   try clear hfz24_0
   try clear hfz24_1
   try clear hfz29_0
   try clear hfz29_1
   try clear hfz36_0
   try clear hfz36_1
   try clear hfz43_0
   try clear hfz43_1
   try clear hfz46_0
   try clear hfz46_1
   try clear hfz51_0
   try clear hfz51_1
   try clear hfz54_0
   try clear hfz54_1
   try clear hfz6_0
   try clear hfz6_1
   obtain ⟨kq, x44_11, rfl, HA, HJ11, HO_427001, HO_432001, HO_438001, BK415, BK426, BK431, BK437, HB⟩ := hcut
   cases kq with
   | zero => exact absurd HA.out (by simp [laws_FnExactCutMoments.j0])
   | succ kj11 =>
    have H := HA.out
    clear HA
    simp only [laws_FnExactCutMoments.j0] at H
    by_cases c56 : x44_11 = true
    ·subst c56
     have H1 : (some false) = some r := by rw [if_pos rfl] at H; exact H
     clear H
     have H := H1
     clear H1
     rw [HRT.out] at H
     exact absurd H (by simp)
    ·replace c56 := Bool.eq_false_iff.mpr c56
     subst c56
     have H1 : ((laws_toMoments.f kj11 a0_0 l0_1).bind fun bt439 => ((laws_eqMoments.f kj11 t427 t428 bt439.1 bt439.2).bind fun t443 => (if t443 = true then ((laws_markMoments.f kj11 t427 t428 1).bind fun bt444 => (if bt444.1 < 0 then (laws_FnExactCutMoments.j1 kj11 a1 t425 true a0_0 l0_1 t421 t422 t432 t433) else ((laws_eqMoments.f kj11 t432 t433 t421 t422).bind fun t446 => (if t446 = true then (laws_FnExactCutMoments.j1 kj11 a1 t425 (t436 != t425) a0_0 l0_1 t421 t422 t432 t433) else (laws_FnExactCutMoments.j1 kj11 a1 t425 true a0_0 l0_1 t421 t422 t432 t433))))) else (some false)))) = some r := by rw [if_neg (show ¬ (false = true) by decide)] at H; exact H
     clear H
     have H := H1
     clear H1
     replace H := Option.bind_eq_some_iff.mp H
     obtain ⟨⟨t439, t440⟩, A570, H⟩ := H
     replace H : ((laws_eqMoments.f kj11 t427 t428 t439 t440).bind fun t443 => (if t443 = true then ((laws_markMoments.f kj11 t427 t428 1).bind fun bt444 => (if bt444.1 < 0 then (laws_FnExactCutMoments.j1 kj11 a1 t425 true a0_0 l0_1 t421 t422 t432 t433) else ((laws_eqMoments.f kj11 t432 t433 t421 t422).bind fun t446 => (if t446 = true then (laws_FnExactCutMoments.j1 kj11 a1 t425 (t436 != t425) a0_0 l0_1 t421 t422 t432 t433) else (laws_FnExactCutMoments.j1 kj11 a1 t425 true a0_0 l0_1 t421 t422 t432 t433))))) else (some false))) = some r := H
     have A57 := zA A570
     clear A570
     replace H := Option.bind_eq_some_iff.mp H
     obtain ⟨t443, A580, H⟩ := H
     replace H : (if t443 = true then ((laws_markMoments.f kj11 t427 t428 1).bind fun bt444 => (if bt444.1 < 0 then (laws_FnExactCutMoments.j1 kj11 a1 t425 true a0_0 l0_1 t421 t422 t432 t433) else ((laws_eqMoments.f kj11 t432 t433 t421 t422).bind fun t446 => (if t446 = true then (laws_FnExactCutMoments.j1 kj11 a1 t425 (t436 != t425) a0_0 l0_1 t421 t422 t432 t433) else (laws_FnExactCutMoments.j1 kj11 a1 t425 true a0_0 l0_1 t421 t422 t432 t433))))) else (some false)) = some r := H
     have A58 := zA A580
     clear A580
     by_cases c59 : t443 = true
     ·subst c59
      have H1 : ((laws_markMoments.f kj11 t427 t428 1).bind fun bt444 => (if bt444.1 < 0 then (laws_FnExactCutMoments.j1 kj11 a1 t425 true a0_0 l0_1 t421 t422 t432 t433) else ((laws_eqMoments.f kj11 t432 t433 t421 t422).bind fun t446 => (if t446 = true then (laws_FnExactCutMoments.j1 kj11 a1 t425 (t436 != t425) a0_0 l0_1 t421 t422 t432 t433) else (laws_FnExactCutMoments.j1 kj11 a1 t425 true a0_0 l0_1 t421 t422 t432 t433))))) = some r := by rw [if_pos rfl] at H; exact H
      clear H
      have H := H1
      clear H1
      replace H := Option.bind_eq_some_iff.mp H
      obtain ⟨⟨t444, t445⟩, A600, H⟩ := H
      replace H : (if t444 < 0 then (laws_FnExactCutMoments.j1 kj11 a1 t425 true a0_0 l0_1 t421 t422 t432 t433) else ((laws_eqMoments.f kj11 t432 t433 t421 t422).bind fun t446 => (if t446 = true then (laws_FnExactCutMoments.j1 kj11 a1 t425 (t436 != t425) a0_0 l0_1 t421 t422 t432 t433) else (laws_FnExactCutMoments.j1 kj11 a1 t425 true a0_0 l0_1 t421 t422 t432 t433)))) = some r := H
      have A60 := zA A600
      clear A600
      have HC61 := zA H
      clear H
      try go_wp2
      have n0_ := zA (Kd.R_drew HO_427001.out)
      have n1_ := zA (Kd.R_drew HO_432001.out)
      have n2_ := zA (Kd.R_drew HO_438001.out)
      have n3_ := zA (blk_drew BK415.out)
      have n4_ := zA (blk_drew BK426.out)
      have n5_ := zA (blk_drew BK431.out)
      have n6_ := zA (blk_drew BK437.out)
      have n7_ := zA (below_drew1 HB.out)
      clear HO_427001 HO_432001 HO_438001 BK415 BK426 BK431 BK437 HB
      have HO_427001 := n0_; have HO_432001 := n1_; have HO_438001 := n2_; have BK415 := n3_; have BK426 := n4_; have BK431 := n5_; have BK437 := n6_; have HB := n7_
      clear n0_ n1_ n2_ n3_ n4_ n5_ n6_ n7_
      refine start_ (n := 5) (S := fun w' => w'.cell? ⟨gb431, 0, none⟩ = some (.int .i64 t427) ∧ w'.cell? ⟨gb431, 1, none⟩ = some (.slice Ao30 t428.length co30) ∧ w'.cell? ⟨gb415, 0, none⟩ = some (.int .i64 a0_0) ∧ w'.cell? ⟨gb415, 1, none⟩ = some (.slice A0_1 l0_1.length c0_1)) (ds := []) #[false, false, false, false, false] (by kernel_rfl) rfl rfl ⟨(blk_cell BK431.out 0).trans rfl, (blk_cell BK431.out 1).trans rfl, (blk_cell BK415.out 0).trans rfl, (blk_cell BK415.out 1).trans rfl⟩ (fun hHeld => ?_)
      generalize wc.drew = w62 at HO_427001 HO_432001 HO_438001 BK415 BK426 BK431 BK437 HB hHeld ⊢
      refine take_ (i := 0) (N := some 45) (v := ?_) (a' := ?_) #[true, false, false, false, false] rfl rfl (by kernel_rfl) (fun _ _ _ h => h) (Or.inl ⟨by rfl, ?_⟩) hHeld ?_ ?_
      rotate_left
      ·rintro w' ⟨s0, s1, s2, s3⟩
       go_simp
       with_reducible rfl
      rotate_left
      ·simp only [Act.put, List.setIfInBounds_toArray, List.set_cons_zero, List.set_cons_succ, i64_w, i32_w]
       rfl
      refine take_ (i := 1) (N := some 46) (v := ?_) (a' := ?_) #[true, true, false, false, false] rfl rfl (by kernel_rfl) (fun _ _ _ h => h) (Or.inl ⟨by rfl, ?_⟩) hHeld ?_ ?_
      rotate_left
      ·rintro w' ⟨s0, s1, s2, s3⟩
       go_simp
       with_reducible rfl
      rotate_left
      ·simp only [Act.put, List.setIfInBounds_toArray, List.set_cons_zero, List.set_cons_succ, i64_w, i32_w]
       rfl
      refine one_ (i := 2) (N := some 47) #[true, true, true, false, false] rfl rfl (by kernel_rfl) (by decide) (fun K hK => ?_)
      refine goes_ Try.func16 (by kernel_rfl) rfl #[.agg #[.int .i64 a0_0, .slice A0_1 l0_1.length c0_1]] (by rfl) rfl rfl (by (try simp only [List.map_toArray, List.map_cons, List.map_nil]); first | done | rfl | (simp only [List.length_drop, List.length_take]; rfl)) ?_
      with_reducible refine (laws_toMoments.calls kj11 a0_0 _ _ l0_1 t439 t440 _ ?side1 ?side2 A57.out).mono ?_
      (case side1 => exact uC ((Kd.C_below HR0_1.out HB.out)))
      (case side2 => exact HC0_1.out)
      rintro e w63 ⟨v441, rfl, ho0, hb⟩
      refine ⟨_, rfl, ?_⟩
      have n0_ := zA (Kd.R_elder' (uR HO_427001.out) (Kd.R_base ho0) hb)
      have n1_ := zA (Kd.R_elder' (uR HO_432001.out) (Kd.R_base ho0) hb)
      have n2_ := zA (Kd.R_elder' (uR HO_438001.out) (Kd.R_base ho0) hb)
      have n3_ := zA (Kd.R_lower (Kd.R_new' (Kd.R_new' (Kd.R_new' ho0 (Kd.R_lt (uR HO_427001.out))) (Kd.R_lt (uR HO_432001.out))) (Kd.R_lt (uR HO_438001.out))) (below_size (uH HB.out)))
      have n4_ := xB BK415 hb
      have n5_ := xB BK426 hb
      have n6_ := xB BK431 hb
      have n7_ := xB BK437 hb
      have n8_ := xH HB hb
      clear HO_427001 HO_432001 HO_438001 BK415 BK426 BK431 BK437 HB
      have HO_427001 := n0_; have HO_432001 := n1_; have HO_438001 := n2_; have HO442 := n3_; have BK415 := n4_; have BK426 := n5_; have BK431 := n6_; have BK437 := n7_; have HB := n8_
      clear n0_ n1_ n2_ n3_ n4_ n5_ n6_ n7_ n8_
      (try clear hb); (try clear hb2); (try clear hk); (try clear hi); (try clear ho0)
      obtain ⟨Ao64, co64, eo64⟩ := Kd.R_slice HO442.out
      (first | subst eo64 | (injection eo64 with f1_ f2_ f3_; have f4_ := f1_.symm; have f5_ := f3_.symm; clear f1_ f2_ f3_; subst f4_; subst f5_))
      refine hK.out _ _ ⟨(blk_cell BK431.out 0).trans rfl, (blk_cell BK431.out 1).trans rfl, (blk_cell BK415.out 0).trans rfl, (blk_cell BK415.out 1).trans rfl⟩ (fun hHeld => ?_)
      clear hK K
      refine norm_ (a' := ?_) ?_ ?_
      rotate_left
      ·show Act.put _ (some 47) _ = _
       simp only [Act.put, List.setIfInBounds_toArray, List.set_cons_zero, List.set_cons_succ, i64_w, i32_w]
       rfl
      refine one_ (i := 3) (N := some 48) #[true, true, true, true, false] rfl rfl (by kernel_rfl) (by decide) (fun K hK => ?_)
      refine goes_ Try.func19 (by kernel_rfl) rfl #[.agg #[.int .i64 t427, .slice Ao30 t428.length co30], .agg #[.int .i64 t439, .slice Ao64 t440.length co64]] (by rfl) rfl rfl (by (try simp only [List.map_toArray, List.map_cons, List.map_nil]); first | done | rfl | (simp only [List.length_drop, List.length_take]; rfl)) ?_
      with_reducible refine (laws_eqMoments.calls kj11 t427 _ _ t428 t439 _ _ t440 true _ ?side1 ?side2 ?side3 ?side4 A58.out).mono ?_
      (case side1 => exact uC ((Kd.R_reads' HO_432001.out).2.2))
      (case side2 => exact (Kd.R_reads' HO_432001.out).2.1)
      (case side3 => exact uC ((Kd.R_reads' HO442.out).2.2))
      (case side4 => exact (Kd.R_reads' HO442.out).2.1)
      rintro e w65 ⟨rfl, hb⟩
      refine ⟨_, rfl, ?_⟩
      have n0_ := xR HO_427001 hb
      have n1_ := xR HO_432001 hb
      have n2_ := xR HO_438001 hb
      have n3_ := xR HO442 hb
      have n4_ := xB BK415 hb
      have n5_ := xB BK426 hb
      have n6_ := xB BK431 hb
      have n7_ := xB BK437 hb
      have n8_ := xH HB hb
      clear HO_427001 HO_432001 HO_438001 HO442 BK415 BK426 BK431 BK437 HB
      have HO_427001 := n0_; have HO_432001 := n1_; have HO_438001 := n2_; have HO442 := n3_; have BK415 := n4_; have BK426 := n5_; have BK431 := n6_; have BK437 := n7_; have HB := n8_
      clear n0_ n1_ n2_ n3_ n4_ n5_ n6_ n7_ n8_
      (try clear hb); (try clear hb2); (try clear hk); (try clear hi)
      refine hK.out _ _ ⟨(blk_cell BK431.out 0).trans rfl, (blk_cell BK431.out 1).trans rfl, (blk_cell BK415.out 0).trans rfl, (blk_cell BK415.out 1).trans rfl⟩ (fun hHeld => ?_)
      clear hK K
      refine norm_ (a' := ?_) ?_ ?_
      rotate_left
      ·show Act.put _ (some 48) _ = _
       simp only [Act.put, List.setIfInBounds_toArray, List.set_cons_zero, List.set_cons_succ, i64_w, i32_w]
       rfl
      refine pure_ (i := 4) (N := some 49) (v := ?_) (a' := ?_) #[true, true, true, true, true] rfl rfl (by kernel_rfl) (fun _ _ _ h => h) (Or.inl ⟨by rfl, ?_⟩) ?_ ?_
      rotate_left
      ·intro w'
       go_simp
       with_reducible rfl
      rotate_left
      ·simp only [Act.put, List.setIfInBounds_toArray, List.set_cons_zero, List.set_cons_succ, i64_w, i32_w]
       rfl
      refine done_ (by kernel_rfl) ?_
      have hnb66 := NB431_415.out; have hnc66 := NB415_431.out; have hnb67 := NB431_426.out; have hnc67 := NB426_431.out; have hnb68 := NB431_437.out; have hnc68 := NB437_431.out
      have hcz69_0 : w65.cell? ⟨gb431, 0, none⟩ = some (.int .i64 t427) := (blk_cell BK431.out 0).trans rfl
      have hcz69_1 : w65.cell? ⟨gb431, 1, none⟩ = some (.slice Ao30 t428.length co30) := (blk_cell BK431.out 1).trans rfl
      have hfz69_0 := blk_frozen BK431.out 0
      have hfz69_1 := blk_frozen BK431.out 1
      go_upto_region 14 with (first | ((with_reducible refine gate_callee (f := 23) rfl ?_); refine goesL_ (some 52) rfl rfl Try.func23 (by kernel_rfl) rfl #[.agg #[.int .i64 t427, .slice Ao30 t428.length co30], .int .i64 1] rfl (by (try simp only [List.map_toArray, List.map_cons, List.map_nil]); first | done | rfl | (simp only [List.length_drop, List.length_take]; rfl)) ?_; (with_reducible refine (laws_markMoments.calls kj11 t427 (fun k_ => some k_ = (.slice Ao30 t428.length co30 : Value).ownBlock) (.slice Ao30 t428.length co30) t428 1 t444 t445 w _ ?side1 ?side2 A60.out).mono ?_); (case side1 => repeat (first | (with_reducible first | exact HB.out | apply below_alloc | apply pw_below_drewN | apply below_drew1 | refine below_set ?_ GE415.out | refine below_set ?_ GE426.out | refine below_set ?_ GE431.out | refine below_set ?_ GE437.out) | exact HB.out)); (case side2 => exact Kd.R_tight rfl HO_432001.out); rintro e w70 ⟨rfl, hy0, hb, hkp⟩; refine ⟨_, rfl, ?_⟩; have n0_ := zA (Kd.R_mono (ok' := fun k_ => some k_ ≠ (.slice Ao30 t428.length co30 : Value).ownBlock ∧ some k_ ≠ (.slice Ao37 t433.length co37 : Value).ownBlock ∧ some k_ ≠ (.slice Ao64 t440.length co64 : Value).ownBlock) (Kd.R_keptB (HO_427001.out) hkp (fun k_ hk_ hs_ => (hk_.1.1) hs_)) (fun k_ hk_ => ⟨hk_.1.1.1, hk_.1.1.2, hk_.1.2⟩)); have n1_ := zA (Kd.R_reok rfl hy0 (fun k_ e_ => HO_432001.out.1 k_ e_)); have n2_ := zA (Kd.R_mono (ok' := fun k_ => some k_ ≠ (.slice Ao23 t422.length co23 : Value).ownBlock ∧ some k_ ≠ (.slice Ao30 t428.length co30 : Value).ownBlock ∧ some k_ ≠ (.slice Ao64 t440.length co64 : Value).ownBlock) (Kd.R_keptB (HO_438001.out) hkp (fun k_ hk_ hs_ => (hk_.1.2) hs_)) (fun k_ hk_ => ⟨hk_.1.1.1, hk_.1.1.2, hk_.1.2⟩)); have n3_ := zA (blk_kept (uB BK415.out) hkp (fun hs_ => (fun e_ => (Kd.R_ne HO_432001.out BK415.out (by decide)) e_) hs_)); have n4_ := zA (blk_kept (uB BK426.out) hkp (fun hs_ => (fun e_ => (Kd.R_ne HO_432001.out BK426.out (by decide)) e_) hs_)); have n5_ := zA (blk_kept (uB BK431.out) hkp (fun hs_ => (fun e_ => (Kd.R_ne HO_432001.out BK431.out (by decide)) e_) hs_)); have n6_ := zA (blk_kept (uB BK437.out) hkp (fun hs_ => (fun e_ => (Kd.R_ne HO_432001.out BK437.out (by decide)) e_) hs_)); have n7_ := zA (Kd.R_mono (ok' := fun k_ => some k_ ≠ (.slice Ao23 t422.length co23 : Value).ownBlock ∧ some k_ ≠ (.slice Ao30 t428.length co30 : Value).ownBlock ∧ some k_ ≠ (.slice Ao37 t433.length co37 : Value).ownBlock) (Kd.R_keptB (HO442.out) hkp (fun k_ hk_ hs_ => (hk_.1.2) hs_)) (fun k_ hk_ => ⟨hk_.1.1.1.2, hk_.1.1.2, hk_.1.2⟩)); have n8_ := zA (hb); clear HO_427001 HO_432001 HO_438001 BK415 BK426 BK431 BK437 HO442 HB; have HO_427001 := n0_; have HO_432001 := n1_; have HO_438001 := n2_; have BK415 := n3_; have BK426 := n4_; have BK431 := n5_; have BK437 := n6_; have HO442 := n7_; have HB := n8_; clear n0_ n1_ n2_ n3_ n4_ n5_ n6_ n7_ n8_; (try clear hb); (try clear hkp); (try clear hy0)))
      (try simp only [Act.put, List.setIfInBounds_toArray, List.set_cons_zero, List.set_cons_succ])
      go_cut [65] (fun v65 wc => ∃ (kq : Nat) (x65_60 : Bool), v65 = .bool x65_60 ∧ Aside0 (laws_FnExactCutMoments.j1 kq a1 t425 x65_60 a0_0 l0_1 t421 t422 t432 t433 = some r) ∧ Aside0 (kq ≤ kj11) ∧ Aside0 (Kd.R (Kd.int .i64) 2 wc w.heap.size (fun k_ => some k_ ≠ ((.slice Ao30 t428.length co30) : Value).ownBlock ∧ some k_ ≠ ((.slice Ao37 t433.length co37) : Value).ownBlock) (.slice Ao23 t422.length co23) t422) ∧ Aside0 (Kd.R (Kd.int .i64) 2 wc w.heap.size (fun k_ => some k_ ≠ ((.slice Ao23 t422.length co23) : Value).ownBlock ∧ some k_ ≠ ((.slice Ao37 t433.length co37) : Value).ownBlock) (.slice Ao30 t428.length co30) t445) ∧ Aside0 (Kd.R (Kd.int .i64) 2 wc w.heap.size (fun k_ => some k_ ≠ ((.slice Ao23 t422.length co23) : Value).ownBlock ∧ some k_ ≠ ((.slice Ao30 t428.length co30) : Value).ownBlock) (.slice Ao37 t433.length co37) t433) ∧ Aside0 (wc.heap[gb415]? = some (.cells #[.int .i64 a0_0, (.slice A0_1 l0_1.length c0_1)] 32 (0, 0))) ∧ Aside0 (wc.heap[gb426]? = some (.cells #[.int .i64 t421, (.slice Ao23 t422.length co23)] 36 (0, 0))) ∧ Aside0 (wc.heap[gb431]? = some (.cells #[.int .i64 t427, (.slice Ao30 t428.length co30)] 36 (0, 0))) ∧ Aside0 (wc.heap[gb437]? = some (.cells #[.int .i64 t432, (.slice Ao37 t433.length co37)] 36 (0, 0))) ∧ Aside0 (Below w.heap.size w wc))
      case first =>
       have H := HC61.out
       clear HC61
       by_cases c71 : t444 < 0
       ·rw [if_pos c71] at H
        have c71b0 : decide (t444 < 0) = true := decide_eq_true c71
        clear c71
        (first | rw [c71b0] | (simp only [i64_w, i32_w]; rw [c71b0]) | skip)
        have H' := zA H
        clear H
        go_wp2
        go_meet
        case rel => exact ⟨_, (true), (by first | rfl | (simp; done) | (simp [*]; done)), H', ⟨by have := HJ11.out; first | omega | exact Nat.le_refl _⟩, ⟨uR (Kd.R_mono HO_427001.out (fun _ hk => ⟨hk.1, hk.2.1⟩))⟩, ⟨uR (Kd.R_mono HO_432001.out (fun _ hk => ⟨hk.1.1, hk.1.2⟩))⟩, ⟨uR (Kd.R_mono HO_438001.out (fun _ hk => ⟨hk.1, hk.2.1⟩))⟩, ⟨uB BK415.out⟩, ⟨uB BK426.out⟩, ⟨uB BK431.out⟩, ⟨uB BK437.out⟩, ⟨uH HB.out⟩⟩
       ·rw [if_neg c71] at H
        have c71b0 : decide (t444 < 0) = false := decide_eq_false c71
        clear c71
        (first | rw [c71b0] | (simp only [i64_w, i32_w]; rw [c71b0]) | skip)
        replace H := Option.bind_eq_some_iff.mp H
        obtain ⟨t446, A720, H⟩ := H
        replace H : (if t446 = true then (laws_FnExactCutMoments.j1 kj11 a1 t425 (t436 != t425) a0_0 l0_1 t421 t422 t432 t433) else (laws_FnExactCutMoments.j1 kj11 a1 t425 true a0_0 l0_1 t421 t422 t432 t433)) = some r := H
        have A72 := zA A720
        clear A720
        by_cases c73 : t446 = true
        ·subst c73
         have H1 : (laws_FnExactCutMoments.j1 kj11 a1 t425 (t436 != t425) a0_0 l0_1 t421 t422 t432 t433) = some r := by rw [if_pos rfl] at H; exact H
         clear H
         have H := H1
         clear H1
         have H' := zA H
         clear H
         have hnb74 := NB437_415.out; have hnc74 := NB415_437.out; have hnb75 := NB437_426.out; have hnc75 := NB426_437.out; have hnb76 := NB437_431.out; have hnc76 := NB431_437.out
         have hcz77_0 : w70.cell? ⟨gb437, 0, none⟩ = some (.int .i64 t432) := (blk_cell BK437.out 0).trans rfl
         have hcz77_1 : w70.cell? ⟨gb437, 1, none⟩ = some (.slice Ao37 t433.length co37) := (blk_cell BK437.out 1).trans rfl
         have hfz77_0 := blk_frozen BK437.out 0
         have hfz77_1 := blk_frozen BK437.out 1
         have hnb78 := NB426_415.out; have hnc78 := NB415_426.out; have hnb79 := NB426_431.out; have hnc79 := NB431_426.out
         have hcz80_0 : w70.cell? ⟨gb426, 0, none⟩ = some (.int .i64 t421) := (blk_cell BK426.out 0).trans rfl
         have hcz80_1 : w70.cell? ⟨gb426, 1, none⟩ = some (.slice Ao23 t422.length co23) := (blk_cell BK426.out 1).trans rfl
         have hfz80_0 := blk_frozen BK426.out 0
         have hfz80_1 := blk_frozen BK426.out 1
         go_wp2_with (first | (go_at_call 19; (with_reducible refine (laws_eqMoments.calls kj11 t432 _ _ t433 t421 _ _ t422 true _ ?side1 ?side2 ?side3 ?side4 A72.out).mono ?_); (case side1 => exact uC ((Kd.R_reads' HO_438001.out).2.2)); (case side2 => exact (Kd.R_reads' HO_438001.out).2.1); (case side3 => exact uC ((Kd.R_reads' HO_427001.out).2.2)); (case side4 => exact (Kd.R_reads' HO_427001.out).2.1); rintro e w81 ⟨rfl, hb⟩; have n0_ := xR HO_427001 hb; have n1_ := xR HO_432001 hb; have n2_ := xR HO_438001 hb; have n3_ := xR HO442 hb; have n4_ := xB BK415 hb; have n5_ := xB BK426 hb; have n6_ := xB BK431 hb; have n7_ := xB BK437 hb; have n8_ := xH HB hb; clear HO_427001 HO_432001 HO_438001 HO442 BK415 BK426 BK431 BK437 HB; have HO_427001 := n0_; have HO_432001 := n1_; have HO_438001 := n2_; have HO442 := n3_; have BK415 := n4_; have BK426 := n5_; have BK431 := n6_; have BK437 := n7_; have HB := n8_; clear n0_ n1_ n2_ n3_ n4_ n5_ n6_ n7_ n8_; (try clear hb); (try clear hb2); (try clear hk); (try clear hi)))
         go_meet
         case rel => exact ⟨_, ((t436 != t425)), (by first | rfl | (simp; done) | (simp [*]; done)), H', ⟨by have := HJ11.out; first | omega | exact Nat.le_refl _⟩, ⟨uR (Kd.R_mono HO_427001.out (fun _ hk => ⟨hk.1, hk.2.1⟩))⟩, ⟨uR (Kd.R_mono HO_432001.out (fun _ hk => ⟨hk.1.1, hk.1.2⟩))⟩, ⟨uR (Kd.R_mono HO_438001.out (fun _ hk => ⟨hk.1, hk.2.1⟩))⟩, ⟨uB BK415.out⟩, ⟨uB BK426.out⟩, ⟨uB BK431.out⟩, ⟨uB BK437.out⟩, ⟨uH HB.out⟩⟩
        ·replace c73 := Bool.eq_false_iff.mpr c73
         subst c73
         have H1 : (laws_FnExactCutMoments.j1 kj11 a1 t425 true a0_0 l0_1 t421 t422 t432 t433) = some r := by rw [if_neg (show ¬ (false = true) by decide)] at H; exact H
         clear H
         have H := H1
         clear H1
         have H' := zA H
         clear H
         have hnb82 := NB437_415.out; have hnc82 := NB415_437.out; have hnb83 := NB437_426.out; have hnc83 := NB426_437.out; have hnb84 := NB437_431.out; have hnc84 := NB431_437.out
         have hcz85_0 : w70.cell? ⟨gb437, 0, none⟩ = some (.int .i64 t432) := (blk_cell BK437.out 0).trans rfl
         have hcz85_1 : w70.cell? ⟨gb437, 1, none⟩ = some (.slice Ao37 t433.length co37) := (blk_cell BK437.out 1).trans rfl
         have hfz85_0 := blk_frozen BK437.out 0
         have hfz85_1 := blk_frozen BK437.out 1
         have hnb86 := NB426_415.out; have hnc86 := NB415_426.out; have hnb87 := NB426_431.out; have hnc87 := NB431_426.out
         have hcz88_0 : w70.cell? ⟨gb426, 0, none⟩ = some (.int .i64 t421) := (blk_cell BK426.out 0).trans rfl
         have hcz88_1 : w70.cell? ⟨gb426, 1, none⟩ = some (.slice Ao23 t422.length co23) := (blk_cell BK426.out 1).trans rfl
         have hfz88_0 := blk_frozen BK426.out 0
         have hfz88_1 := blk_frozen BK426.out 1
         go_wp2_with (first | (go_at_call 19; (with_reducible refine (laws_eqMoments.calls kj11 t432 _ _ t433 t421 _ _ t422 false _ ?side1 ?side2 ?side3 ?side4 A72.out).mono ?_); (case side1 => exact uC ((Kd.R_reads' HO_438001.out).2.2)); (case side2 => exact (Kd.R_reads' HO_438001.out).2.1); (case side3 => exact uC ((Kd.R_reads' HO_427001.out).2.2)); (case side4 => exact (Kd.R_reads' HO_427001.out).2.1); rintro e w89 ⟨rfl, hb⟩; have n0_ := xR HO_427001 hb; have n1_ := xR HO_432001 hb; have n2_ := xR HO_438001 hb; have n3_ := xR HO442 hb; have n4_ := xB BK415 hb; have n5_ := xB BK426 hb; have n6_ := xB BK431 hb; have n7_ := xB BK437 hb; have n8_ := xH HB hb; clear HO_427001 HO_432001 HO_438001 HO442 BK415 BK426 BK431 BK437 HB; have HO_427001 := n0_; have HO_432001 := n1_; have HO_438001 := n2_; have HO442 := n3_; have BK415 := n4_; have BK426 := n5_; have BK431 := n6_; have BK437 := n7_; have HB := n8_; clear n0_ n1_ n2_ n3_ n4_ n5_ n6_ n7_ n8_; (try clear hb); (try clear hb2); (try clear hk); (try clear hi)))
         go_meet
         case rel => exact ⟨_, (true), (by first | rfl | (simp; done) | (simp [*]; done)), H', ⟨by have := HJ11.out; first | omega | exact Nat.le_refl _⟩, ⟨uR (Kd.R_mono HO_427001.out (fun _ hk => ⟨hk.1, hk.2.1⟩))⟩, ⟨uR (Kd.R_mono HO_432001.out (fun _ hk => ⟨hk.1.1, hk.1.2⟩))⟩, ⟨uR (Kd.R_mono HO_438001.out (fun _ hk => ⟨hk.1, hk.2.1⟩))⟩, ⟨uB BK415.out⟩, ⟨uB BK426.out⟩, ⟨uB BK431.out⟩, ⟨uB BK437.out⟩, ⟨uH HB.out⟩⟩
      case rest =>
       clear HC61
       try clear c1
       try clear c2
       try clear p2
       try clear c3
       try clear c4
       try clear c4b0
       try clear c5
       try clear c6
       try clear c7
       try clear c8
       try clear c14
       try clear c16
       try clear c19
       try clear c21
       try clear c23
       try clear c25
       try clear c26
       try clear c27
       try clear c28
       try clear c33
       try clear c34
       try clear c35
       try clear c39
       try clear c40
       try clear c41
       try clear c42
       try clear c44
       try clear c45
       try clear c48
       try clear c49
       try clear c50
       try clear c52
       try clear c53
       try clear c56
       try clear c59
       try clear c66
       try clear c67
       try clear c68
       try clear c71
       try clear c71b0
       try clear c73
       try clear c74
       try clear c75
       try clear c76
       try clear c78
       try clear c79
       try clear c82
       try clear c83
       try clear c84
       try clear c86
       try clear c87
       try clear hcz14_0
       try clear hcz14_1
       try clear hcz16_0
       try clear hcz16_1
       try clear hcz22_0
       try clear hcz22_1
       try clear hcz24_0
       try clear hcz24_1
       try clear hcz29_0
       try clear hcz29_1
       try clear hcz36_0
       try clear hcz36_1
       try clear hcz43_0
       try clear hcz43_1
       try clear hcz46_0
       try clear hcz46_1
       try clear hcz51_0
       try clear hcz51_1
       try clear hcz54_0
       try clear hcz54_1
       try clear hcz69_0
       try clear hcz69_1
       try clear hcz6_0
       try clear hcz6_1
       try clear hcz77_0
       try clear hcz77_1
       try clear hcz80_0
       try clear hcz80_1
       try clear hcz85_0
       try clear hcz85_1
       try clear hcz88_0
       try clear hcz88_1
       try clear hfz14_0
       try clear hfz14_1
       try clear hfz16_0
       try clear hfz16_1
       try clear hfz22_0
       try clear hfz22_1
       try clear hfz24_0
       try clear hfz24_1
       try clear hfz29_0
       try clear hfz29_1
       try clear hfz36_0
       try clear hfz36_1
       try clear hfz43_0
       try clear hfz43_1
       try clear hfz46_0
       try clear hfz46_1
       try clear hfz51_0
       try clear hfz51_1
       try clear hfz54_0
       try clear hfz54_1
       try clear hfz69_0
       try clear hfz69_1
       try clear hfz6_0
       try clear hfz6_1
       try clear hfz77_0
       try clear hfz77_1
       try clear hfz80_0
       try clear hfz80_1
       try clear hfz85_0
       try clear hfz85_1
       try clear hfz88_0
       try clear hfz88_1
       try clear p2
       obtain ⟨kq, x65_60, rfl, HA, HJ60, HO_427001, HO_432001, HO_438001, BK415, BK426, BK431, BK437, HB⟩ := hcut
       have hl432001_60 := (Kd.R_reads' HO_432001.out).1
       rw [hl432001_60] at HO_432001
       (try simp only [hl432001_60])
       (try simp only [hl432001_60] at BK415)
       (try simp only [hl432001_60] at BK426)
       (try simp only [hl432001_60] at BK431)
       (try simp only [hl432001_60] at BK437)
       (try simp only [hl432001_60] at HO_427001)
       (try simp only [hl432001_60] at HO_438001)
       cases kq with
       | zero => exact absurd HA.out (by simp [laws_FnExactCutMoments.j1])
       | succ kj60 =>
        have H := HA.out
        clear HA
        simp only [laws_FnExactCutMoments.j1] at H
        by_cases c90 : x65_60 = true
        ·subst c90
         have H1 : (some false) = some r := by rw [if_pos rfl] at H; exact H
         clear H
         have H := H1
         clear H1
         rw [HRT.out] at H
         exact absurd H (by simp)
        ·replace c90 := Bool.eq_false_iff.mpr c90
         subst c90
         have H1 : ((laws_markMoments.f kj60 t432 t433 1).bind fun bt447 => ((laws_heldMoments.f kj60 t432 bt447.2 1).bind fun t449 => (if t449 < 0 then (some false) else (if t449 = bt447.1 then ((laws_toMoments.f kj60 a0_0 l0_1).bind fun bt450 => ((impl_CutMoments.f kj60 bt450.1 bt450.2 a1).bind fun bt454 => ((laws_eqMoments.f kj60 bt454.1 bt454.2.1 t421 t422).bind fun t460 => (if t460 = true then (laws_FnExactCutMoments.j2 kj60 bt447.1 (bt454.2.2 != t425) t432 bt447.2) else (laws_FnExactCutMoments.j2 kj60 bt447.1 true t432 bt447.2))))) else (some false))))) = some r := by rw [if_neg (show ¬ (false = true) by decide)] at H; exact H
         clear H
         have H := H1
         clear H1
         replace H := Option.bind_eq_some_iff.mp H
         obtain ⟨⟨t447, t448⟩, A910, H⟩ := H
         replace H : ((laws_heldMoments.f kj60 t432 t448 1).bind fun t449 => (if t449 < 0 then (some false) else (if t449 = t447 then ((laws_toMoments.f kj60 a0_0 l0_1).bind fun bt450 => ((impl_CutMoments.f kj60 bt450.1 bt450.2 a1).bind fun bt454 => ((laws_eqMoments.f kj60 bt454.1 bt454.2.1 t421 t422).bind fun t460 => (if t460 = true then (laws_FnExactCutMoments.j2 kj60 t447 (bt454.2.2 != t425) t432 t448) else (laws_FnExactCutMoments.j2 kj60 t447 true t432 t448))))) else (some false)))) = some r := H
         have A91 := zA A910
         clear A910
         replace H := Option.bind_eq_some_iff.mp H
         obtain ⟨t449, A920, H⟩ := H
         replace H : (if t449 < 0 then (some false) else (if t449 = t447 then ((laws_toMoments.f kj60 a0_0 l0_1).bind fun bt450 => ((impl_CutMoments.f kj60 bt450.1 bt450.2 a1).bind fun bt454 => ((laws_eqMoments.f kj60 bt454.1 bt454.2.1 t421 t422).bind fun t460 => (if t460 = true then (laws_FnExactCutMoments.j2 kj60 t447 (bt454.2.2 != t425) t432 t448) else (laws_FnExactCutMoments.j2 kj60 t447 true t432 t448))))) else (some false))) = some r := H
         have A92 := zA A920
         clear A920
         by_cases c93 : t449 < 0
         ·rw [if_pos c93] at H
          have c93b0 : decide (t449 < 0) = true := decide_eq_true c93
          clear c93
          rw [HRT.out] at H
          exact absurd H (by simp)
         ·rw [if_neg c93] at H
          have c93b0 : decide (t449 < 0) = false := decide_eq_false c93
          clear c93
          by_cases c94 : t449 = t447
          ·rw [if_pos c94] at H
           have c94b0 : (t449 == t447) = true := beq_iff_eq.mpr c94
           have c94b1 : (t449 != t447) = false := bne_eq_false_iff_eq.mpr c94
           clear c94
           replace H := Option.bind_eq_some_iff.mp H
           obtain ⟨⟨t450, t451⟩, A950, H⟩ := H
           replace H : ((impl_CutMoments.f kj60 t450 t451 a1).bind fun bt454 => ((laws_eqMoments.f kj60 bt454.1 bt454.2.1 t421 t422).bind fun t460 => (if t460 = true then (laws_FnExactCutMoments.j2 kj60 t447 (bt454.2.2 != t425) t432 t448) else (laws_FnExactCutMoments.j2 kj60 t447 true t432 t448)))) = some r := H
           have A95 := zA A950
           clear A950
           replace H := Option.bind_eq_some_iff.mp H
           obtain ⟨⟨t454, t455, t458⟩, A960, H⟩ := H
           replace H : ((laws_eqMoments.f kj60 t454 t455 t421 t422).bind fun t460 => (if t460 = true then (laws_FnExactCutMoments.j2 kj60 t447 (t458 != t425) t432 t448) else (laws_FnExactCutMoments.j2 kj60 t447 true t432 t448))) = some r := H
           have A96 := zA A960
           clear A960
           have HC97 := zA H
           clear H
           have hnb98 := NB437_415.out; have hnc98 := NB415_437.out; have hnb99 := NB437_426.out; have hnc99 := NB426_437.out; have hnb100 := NB437_431.out; have hnc100 := NB431_437.out
           have hcz101_0 : wc.cell? ⟨gb437, 0, none⟩ = some (.int .i64 t432) := (blk_cell BK437.out 0).trans rfl
           have hcz101_1 : wc.cell? ⟨gb437, 1, none⟩ = some (.slice Ao37 t433.length co37) := (blk_cell BK437.out 1).trans rfl
           have hfz101_0 := blk_frozen BK437.out 0
           have hfz101_1 := blk_frozen BK437.out 1
           go_upto_region 25 with (first | ((with_reducible refine gate_callee (f := 23) rfl ?_); refine goesL_ (some 68) rfl rfl Try.func23 (by kernel_rfl) rfl #[.agg #[.int .i64 t432, .slice Ao37 t433.length co37], .int .i64 1] rfl (by (try simp only [List.map_toArray, List.map_cons, List.map_nil]); first | done | rfl | (simp only [List.length_drop, List.length_take]; rfl)) ?_; (with_reducible refine (laws_markMoments.calls kj60 t432 (fun k_ => some k_ = (.slice Ao37 t433.length co37 : Value).ownBlock) (.slice Ao37 t433.length co37) t433 1 t447 t448 w _ ?side1 ?side2 A91.out).mono ?_); (case side1 => repeat (first | (with_reducible first | exact HB.out | apply below_alloc | apply pw_below_drewN | apply below_drew1 | refine below_set ?_ GE415.out | refine below_set ?_ GE426.out | refine below_set ?_ GE431.out | refine below_set ?_ GE437.out) | exact HB.out)); (case side2 => exact Kd.R_tight rfl HO_438001.out); rintro e w102 ⟨rfl, hy0, hb, hkp⟩; refine ⟨_, rfl, ?_⟩; have n0_ := zA (Kd.R_mono (ok' := fun k_ => some k_ ≠ (.slice Ao30 t445.length co30 : Value).ownBlock ∧ some k_ ≠ (.slice Ao37 t433.length co37 : Value).ownBlock) (Kd.R_keptB (HO_427001.out) hkp (fun k_ hk_ hs_ => (hk_.2) hs_)) (fun k_ hk_ => ⟨hk_.1.1, hk_.1.2⟩)); have n1_ := zA (Kd.R_mono (ok' := fun k_ => some k_ ≠ (.slice Ao23 t422.length co23 : Value).ownBlock ∧ some k_ ≠ (.slice Ao37 t433.length co37 : Value).ownBlock) (Kd.R_keptB (HO_432001.out) hkp (fun k_ hk_ hs_ => (hk_.2) hs_)) (fun k_ hk_ => ⟨hk_.1.1, hk_.1.2⟩)); have n2_ := zA (Kd.R_reok rfl hy0 (fun k_ e_ => HO_438001.out.1 k_ e_)); have n3_ := zA (blk_kept (uB BK415.out) hkp (fun hs_ => (fun e_ => (Kd.R_ne HO_438001.out BK415.out (by decide)) e_) hs_)); have n4_ := zA (blk_kept (uB BK426.out) hkp (fun hs_ => (fun e_ => (Kd.R_ne HO_438001.out BK426.out (by decide)) e_) hs_)); have n5_ := zA (blk_kept (uB BK431.out) hkp (fun hs_ => (fun e_ => (Kd.R_ne HO_438001.out BK431.out (by decide)) e_) hs_)); have n6_ := zA (blk_kept (uB BK437.out) hkp (fun hs_ => (fun e_ => (Kd.R_ne HO_438001.out BK437.out (by decide)) e_) hs_)); have n7_ := zA (hb); clear HO_427001 HO_432001 HO_438001 BK415 BK426 BK431 BK437 HB; have HO_427001 := n0_; have HO_432001 := n1_; have HO_438001 := n2_; have BK415 := n3_; have BK426 := n4_; have BK431 := n5_; have BK437 := n6_; have HB := n7_; clear n0_ n1_ n2_ n3_ n4_ n5_ n6_ n7_; (try clear hb); (try clear hkp); (try clear hy0); have hcz103_0 : w102.cell? ⟨gb437, 0, none⟩ = some (.int .i64 t432) := (blk_cell BK437.out 0).trans rfl; have hcz103_1 : w102.cell? ⟨gb437, 1, none⟩ = some (.slice Ao37 t433.length co37) := (blk_cell BK437.out 1).trans rfl; have hfz103_0 := blk_frozen BK437.out 0; have hfz103_1 := blk_frozen BK437.out 1) | ((with_reducible refine gate_callee (f := 24) rfl ?_); refine goesL_ (some 71) rfl rfl Try.func24 (by kernel_rfl) rfl #[.agg #[.int .i64 t432, .slice Ao37 t448.length co37], .int .i64 1] rfl (by (try simp only [List.map_toArray, List.map_cons, List.map_nil]); first | done | (rw [show t448.length = t433.length from (Kd.R_reads' HO_438001.out).1.symm] <;> rfl) | rfl | (simp only [List.length_drop, List.length_take]; rfl)) ?_; (with_reducible refine (laws_heldMoments.calls kj60 t432 _ _ t448 1 t449 _ ?side1 ?side2 A92.out).mono ?_); (case side1 => exact uC ((Kd.R_reads' HO_438001.out).2.2)); (case side2 => rw [show t448.length = t433.length from (Kd.R_reads' HO_438001.out).1.symm]; exact (Kd.R_reads' HO_438001.out).2.1); rintro e w104 ⟨rfl, hb⟩; refine ⟨_, rfl, ?_⟩; have n0_ := xR HO_427001 hb; have n1_ := xR HO_432001 hb; have n2_ := xR HO_438001 hb; have n3_ := xB BK415 hb; have n4_ := xB BK426 hb; have n5_ := xB BK431 hb; have n6_ := xB BK437 hb; have n7_ := xH HB hb; clear HO_427001 HO_432001 HO_438001 BK415 BK426 BK431 BK437 HB; have HO_427001 := n0_; have HO_432001 := n1_; have HO_438001 := n2_; have BK415 := n3_; have BK426 := n4_; have BK431 := n5_; have BK437 := n6_; have HB := n7_; clear n0_ n1_ n2_ n3_ n4_ n5_ n6_ n7_; (try clear hb); (try clear hb2); (try clear hk); (try clear hi); have hnb105 := NB415_426.out; have hnc105 := NB426_415.out; have hnb106 := NB415_431.out; have hnc106 := NB431_415.out; have hcz107_0 : w104.cell? ⟨gb415, 0, none⟩ = some (.int .i64 a0_0) := (blk_cell BK415.out 0).trans rfl; have hcz107_1 : w104.cell? ⟨gb415, 1, none⟩ = some (.slice A0_1 l0_1.length c0_1) := (blk_cell BK415.out 1).trans rfl; have hfz107_0 := blk_frozen BK415.out 0; have hfz107_1 := blk_frozen BK415.out 1) | ((with_reducible refine gate_callee (f := 16) rfl ?_); refine goesL_ (some 79) rfl rfl Try.func16 (by kernel_rfl) rfl #[.agg #[.int .i64 a0_0, .slice A0_1 l0_1.length c0_1]] rfl (by (try simp only [List.map_toArray, List.map_cons, List.map_nil]); first | done | rfl | (simp only [List.length_drop, List.length_take]; rfl)) ?_; (with_reducible refine (laws_toMoments.calls kj60 a0_0 _ _ l0_1 t450 t451 _ ?side1 ?side2 A95.out).mono ?_); (case side1 => exact uC ((Kd.C_below HR0_1.out HB.out))); (case side2 => exact HC0_1.out); rintro e w108 ⟨v452, rfl, ho0, hb⟩; refine ⟨_, rfl, ?_⟩; have n0_ := zA (Kd.R_elder' (uR HO_427001.out) (Kd.R_base ho0) hb); have n1_ := zA (Kd.R_elder' (uR HO_432001.out) (Kd.R_base ho0) hb); have n2_ := zA (Kd.R_elder' (uR HO_438001.out) (Kd.R_base ho0) hb); have n3_ := zA (Kd.R_lower (Kd.R_new' (Kd.R_new' (Kd.R_new' ho0 (Kd.R_lt (uR HO_427001.out))) (Kd.R_lt (uR HO_432001.out))) (Kd.R_lt (uR HO_438001.out))) (below_size (uH HB.out))); have n4_ := xB BK415 hb; have n5_ := xB BK426 hb; have n6_ := xB BK431 hb; have n7_ := xB BK437 hb; have n8_ := xH HB hb; clear HO_427001 HO_432001 HO_438001 BK415 BK426 BK431 BK437 HB; have HO_427001 := n0_; have HO_432001 := n1_; have HO_438001 := n2_; have HO453 := n3_; have BK415 := n4_; have BK426 := n5_; have BK431 := n6_; have BK437 := n7_; have HB := n8_; clear n0_ n1_ n2_ n3_ n4_ n5_ n6_ n7_ n8_; (try clear hb); (try clear hb2); (try clear hk); (try clear hi); (try clear ho0); obtain ⟨Ao109, co109, eo109⟩ := Kd.R_slice HO453.out; subst eo109) | ((with_reducible refine gate_callee (f := 26) rfl ?_); refine goesL_ (some 81) rfl rfl Try.func26 (by kernel_rfl) rfl #[.agg #[.int .i64 t450, .slice Ao109 t451.length co109], .int .i64 a1] rfl (by (try simp only [List.map_toArray, List.map_cons, List.map_nil]); first | done | rfl | (simp only [List.length_drop, List.length_take]; rfl)) ?_; (with_reducible refine (impl_CutMoments.calls kj60 t450 _ _ t451 a1 t454 t455 t458 _ ?side1 ?side2 A96.out).mono ?_); (case side1 => exact uC ((Kd.R_reads' HO453.out).2.2)); (case side2 => exact (Kd.R_reads' HO453.out).2.1); rintro e w110 ⟨v456, rfl, ho0, hb⟩; refine ⟨_, rfl, ?_⟩; have n0_ := zA (Kd.R_elder' (uR HO_427001.out) (Kd.R_base ho0) hb); have n1_ := zA (Kd.R_elder' (uR HO_432001.out) (Kd.R_base ho0) hb); have n2_ := zA (Kd.R_elder' (uR HO_438001.out) (Kd.R_base ho0) hb); have n3_ := zA (Kd.R_elder' (uR HO453.out) (Kd.R_base ho0) hb); have n4_ := zA (Kd.R_lower (Kd.R_new' (Kd.R_new' (Kd.R_new' (Kd.R_new' ho0 (Kd.R_lt (uR HO_427001.out))) (Kd.R_lt (uR HO_432001.out))) (Kd.R_lt (uR HO_438001.out))) (Kd.R_lt (uR HO453.out))) (below_size (uH HB.out))); have n5_ := xB BK415 hb; have n6_ := xB BK426 hb; have n7_ := xB BK431 hb; have n8_ := xB BK437 hb; have n9_ := xH HB hb; clear HO_427001 HO_432001 HO_438001 HO453 BK415 BK426 BK431 BK437 HB; have HO_427001 := n0_; have HO_432001 := n1_; have HO_438001 := n2_; have HO453 := n3_; have HO457 := n4_; have BK415 := n5_; have BK426 := n6_; have BK431 := n7_; have BK437 := n8_; have HB := n9_; clear n0_ n1_ n2_ n3_ n4_ n5_ n6_ n7_ n8_ n9_; (try clear hb); (try clear hb2); (try clear hk); (try clear hi); (try clear ho0)) | ((with_reducible refine gate_dst (N := 14) rfl ?_); refine box_event ?hg (N := 14) ?hd (cs := #[.int .i64 0, .slice none 0 0]) (t := 36) ?hr ?_; (case hd => rfl); (case hg => rfl); (case hr => first | (go_simp; done) | (go_simp; rfl)); intro gb459 hg w111 hbox hb; have n0_ := xR HO_427001 hb; have n1_ := xR HO_432001 hb; have n2_ := xR HO_438001 hb; have n3_ := xR HO453 hb; have n4_ := xR HO457 hb; have n5_ := xB BK415 hb; have n6_ := xB BK426 hb; have n7_ := xB BK431 hb; have n8_ := xB BK437 hb; have n9_ := xH HB hb; have n10_ := zA (hbox); have n11_ := zA ((by rw [hg]; exact (below_size (uH HB.out)) : w.heap.size ≤ gb459)); have n12_ := zA ((by rw [hg]; exact (below_size (uH HB.out)) : w.heap.size ≤ gb459)); have n13_ := zA ((by rw [hg]; exact neL BK415 : gb415 ≠ gb459)); have n14_ := zA ((by rw [hg]; exact neG BK415 : gb459 ≠ gb415)); have n15_ := zA ((by rw [hg]; exact neL BK426 : gb426 ≠ gb459)); have n16_ := zA ((by rw [hg]; exact neG BK426 : gb459 ≠ gb426)); have n17_ := zA ((by rw [hg]; exact neL BK431 : gb431 ≠ gb459)); have n18_ := zA ((by rw [hg]; exact neG BK431 : gb459 ≠ gb431)); have n19_ := zA ((by rw [hg]; exact neL BK437 : gb437 ≠ gb459)); have n20_ := zA ((by rw [hg]; exact neG BK437 : gb459 ≠ gb437)); clear HO_427001 HO_432001 HO_438001 HO453 HO457 BK415 BK426 BK431 BK437 HB; have HO_427001 := n0_; have HO_432001 := n1_; have HO_438001 := n2_; have HO453 := n3_; have HO457 := n4_; have BK415 := n5_; have BK426 := n6_; have BK431 := n7_; have BK437 := n8_; have HB := n9_; have BK459 := n10_; have GW459 := n11_; have GE459 := n12_; have := geI GE459; have NB415_459 := n13_; have NB459_415 := n14_; have NB426_459 := n15_; have NB459_426 := n16_; have NB431_459 := n17_; have NB459_431 := n18_; have NB437_459 := n19_; have NB459_437 := n20_; clear n0_ n1_ n2_ n3_ n4_ n5_ n6_ n7_ n8_ n9_ n10_ n11_ n12_ n13_ n14_ n15_ n16_ n17_ n18_ n19_ n20_ hb hbox hg; have hnb112 := NB459_415.out; have hnc112 := NB415_459.out; have hnb113 := NB459_426.out; have hnc113 := NB426_459.out; have hnb114 := NB459_431.out; have hnc114 := NB431_459.out; have hnb115 := NB459_437.out; have hnc115 := NB437_459.out; have hcz116_0 : w111.cell? ⟨gb459, 0, none⟩ = some (.int .i64 0) := (blk_cell BK459.out 0).trans rfl; have hcz116_1 : w111.cell? ⟨gb459, 1, none⟩ = some (.slice none 0 0) := (blk_cell BK459.out 1).trans rfl; have hfz116_0 := blk_frozen BK459.out 0; have hfz116_1 := blk_frozen BK459.out 1; obtain ⟨Ao117, co117, eo117⟩ := Kd.R_slice HO457.out; subst eo117))
           (try simp only [Act.put, List.setIfInBounds_toArray, List.set_cons_zero, List.set_cons_succ])
           go_cut [92] (fun v92 wc => ∃ (kq : Nat) (x92_96 : Bool), v92 = .bool x92_96 ∧ Aside0 (laws_FnExactCutMoments.j2 kq t447 x92_96 t432 t448 = some r) ∧ Aside0 (kq ≤ kj60) ∧ Aside0 (Kd.R (Kd.int .i64) 2 wc w.heap.size (fun k_ => some k_ ≠ ((.slice Ao30 t445.length co30) : Value).ownBlock ∧ some k_ ≠ ((.slice Ao37 t433.length co37) : Value).ownBlock ∧ some k_ ≠ ((.slice Ao117 t455.length co117) : Value).ownBlock) (.slice Ao23 t422.length co23) t422) ∧ Aside0 (Kd.R (Kd.int .i64) 2 wc w.heap.size (fun k_ => some k_ ≠ ((.slice Ao23 t422.length co23) : Value).ownBlock ∧ some k_ ≠ ((.slice Ao37 t433.length co37) : Value).ownBlock ∧ some k_ ≠ ((.slice Ao117 t455.length co117) : Value).ownBlock) (.slice Ao30 t445.length co30) t445) ∧ Aside0 (Kd.R (Kd.int .i64) 2 wc w.heap.size (fun k_ => some k_ ≠ ((.slice Ao23 t422.length co23) : Value).ownBlock ∧ some k_ ≠ ((.slice Ao30 t445.length co30) : Value).ownBlock ∧ some k_ ≠ ((.slice Ao117 t455.length co117) : Value).ownBlock) (.slice Ao37 t433.length co37) t448) ∧ Aside0 (Kd.R (Kd.int .i64) 2 wc w.heap.size (fun k_ => some k_ ≠ ((.slice Ao23 t422.length co23) : Value).ownBlock ∧ some k_ ≠ ((.slice Ao30 t445.length co30) : Value).ownBlock ∧ some k_ ≠ ((.slice Ao37 t433.length co37) : Value).ownBlock) (.slice Ao117 t455.length co117) t455) ∧ Aside0 (wc.heap[gb415]? = some (.cells #[.int .i64 a0_0, (.slice A0_1 l0_1.length c0_1)] 32 (0, 0))) ∧ Aside0 (wc.heap[gb426]? = some (.cells #[.int .i64 t421, (.slice Ao23 t422.length co23)] 36 (0, 0))) ∧ Aside0 (wc.heap[gb431]? = some (.cells #[.int .i64 t427, (.slice Ao30 t445.length co30)] 36 (0, 0))) ∧ Aside0 (wc.heap[gb437]? = some (.cells #[.int .i64 t432, (.slice Ao37 t433.length co37)] 36 (0, 0))) ∧ Aside0 (wc.heap[gb459]? = some (.cells #[.int .i64 t454, (.slice Ao117 t455.length co117)] 36 (0, 0))) ∧ Aside0 (Below w.heap.size w wc))
           case first =>
            have H := HC97.out
            clear HC97
            replace H := Option.bind_eq_some_iff.mp H
            obtain ⟨t460, A1180, H⟩ := H
            replace H : (if t460 = true then (laws_FnExactCutMoments.j2 kj60 t447 (t458 != t425) t432 t448) else (laws_FnExactCutMoments.j2 kj60 t447 true t432 t448)) = some r := H
            have A118 := zA A1180
            clear A1180
            by_cases c119 : t460 = true
            ·subst c119
             have H1 : (laws_FnExactCutMoments.j2 kj60 t447 (t458 != t425) t432 t448) = some r := by rw [if_pos rfl] at H; exact H
             clear H
             have H := H1
             clear H1
             have H' := zA H
             clear H
             have hnb120 := NB459_415.out; have hnc120 := NB415_459.out; have hnb121 := NB459_426.out; have hnc121 := NB426_459.out; have hnb122 := NB459_431.out; have hnc122 := NB431_459.out; have hnb123 := NB459_437.out; have hnc123 := NB437_459.out
             have hcz124_0 : w111.cell? ⟨gb459, 0, none⟩ = some (.int .i64 0) := (blk_cell BK459.out 0).trans rfl
             have hcz124_1 : w111.cell? ⟨gb459, 1, none⟩ = some (.slice none 0 0) := (blk_cell BK459.out 1).trans rfl
             have hfz124_0 := blk_frozen BK459.out 0
             have hfz124_1 := blk_frozen BK459.out 1
             have hnb125 := NB426_415.out; have hnc125 := NB415_426.out; have hnb126 := NB426_431.out; have hnc126 := NB431_426.out; have hnb127 := NB426_437.out; have hnc127 := NB437_426.out
             have hcz128_0 : w111.cell? ⟨gb426, 0, none⟩ = some (.int .i64 t421) := (blk_cell BK426.out 0).trans rfl
             have hcz128_1 : w111.cell? ⟨gb426, 1, none⟩ = some (.slice Ao23 t422.length co23) := (blk_cell BK426.out 1).trans rfl
             have hfz128_0 := blk_frozen BK426.out 0
             have hfz128_1 := blk_frozen BK426.out 1
             go_wp2_with (first | ((with_reducible refine gate_callee (f := 19) rfl ?_); refine goesL_ (some 86) rfl rfl Try.func19 (by kernel_rfl) rfl #[.agg #[.int .i64 t454, .slice Ao117 t455.length co117], .agg #[.int .i64 t421, .slice Ao23 t422.length co23]] rfl (by (try simp only [List.map_toArray, List.map_cons, List.map_nil]); first | done | rfl | (simp only [List.length_drop, List.length_take]; rfl)) ?_; (with_reducible refine (laws_eqMoments.calls kj60 t454 _ _ t455 t421 _ _ t422 true _ ?side1 ?side2 ?side3 ?side4 A118.out).mono ?_); (case side1 => refine (Kd.R_reads' (e := 2) (base := w.heap.size) (ok := fun k_ => ((((True ∧ some k_ ≠ (.slice Ao23 t422.length co23 : Value).ownBlock) ∧ some k_ ≠ (.slice Ao30 t445.length co30 : Value).ownBlock) ∧ some k_ ≠ (.slice Ao37 t433.length co37 : Value).ownBlock) ∧ some k_ ≠ (.slice Ao109 t451.length co109 : Value).ownBlock)) (n := t455.length) (c := co117) ?_).2.2; exact (uR ((Kd.R_mono (Kd.R_far (p := ⟨gb459, 1, none⟩) (Kd.R_far (p := ⟨gb459, 0, none⟩) (Kd.R_types HO457.out BK459.out (by decide)) (fun _ hk => hk.2) (.int .i64 t454)) (fun _ hk => hk.2) (.slice Ao117 t455.length co117)) (fun _ h_ => h_.1))))); (case side2 => exact (Kd.R_reads' HO457.out).2.1); (case side3 => refine (Kd.R_reads' (e := 2) (base := w.heap.size) (ok := fun k_ => (((some k_ ≠ (.slice Ao30 t445.length co30 : Value).ownBlock ∧ some k_ ≠ (.slice Ao37 t433.length co37 : Value).ownBlock) ∧ some k_ ≠ (.slice Ao109 t451.length co109 : Value).ownBlock) ∧ some k_ ≠ (.slice Ao117 t455.length co117 : Value).ownBlock)) (n := t422.length) (c := co23) ?_).2.2; exact (uR ((Kd.R_mono (Kd.R_far (p := ⟨gb459, 1, none⟩) (Kd.R_far (p := ⟨gb459, 0, none⟩) (Kd.R_types HO_427001.out BK459.out (by decide)) (fun _ hk => hk.2) (.int .i64 t454)) (fun _ hk => hk.2) (.slice Ao117 t455.length co117)) (fun _ h_ => h_.1))))); (case side4 => exact (Kd.R_reads' HO_427001.out).2.1); rintro e w129 ⟨rfl, hb⟩; refine ⟨_, rfl, ?_⟩; have n0_ := zA (Kd.R_below (uR ((Kd.R_mono (Kd.R_far (p := ⟨gb459, 1, none⟩) (Kd.R_far (p := ⟨gb459, 0, none⟩) (Kd.R_types HO_427001.out BK459.out (by decide)) (fun _ hk => hk.2) (.int .i64 t454)) (fun _ hk => hk.2) (.slice Ao117 t455.length co117)) (fun _ h_ => h_.1)))) hb); have n1_ := zA (Kd.R_below (uR ((Kd.R_mono (Kd.R_far (p := ⟨gb459, 1, none⟩) (Kd.R_far (p := ⟨gb459, 0, none⟩) (Kd.R_types HO_432001.out BK459.out (by decide)) (fun _ hk => hk.2) (.int .i64 t454)) (fun _ hk => hk.2) (.slice Ao117 t455.length co117)) (fun _ h_ => h_.1)))) hb); have n2_ := zA (Kd.R_below (uR ((Kd.R_mono (Kd.R_far (p := ⟨gb459, 1, none⟩) (Kd.R_far (p := ⟨gb459, 0, none⟩) (Kd.R_types HO_438001.out BK459.out (by decide)) (fun _ hk => hk.2) (.int .i64 t454)) (fun _ hk => hk.2) (.slice Ao117 t455.length co117)) (fun _ h_ => h_.1)))) hb); have n3_ := zA (Kd.R_below (uR ((Kd.R_mono (Kd.R_far (p := ⟨gb459, 1, none⟩) (Kd.R_far (p := ⟨gb459, 0, none⟩) (Kd.R_types HO453.out BK459.out (by decide)) (fun _ hk => hk.2) (.int .i64 t454)) (fun _ hk => hk.2) (.slice Ao117 t455.length co117)) (fun _ h_ => h_.1)))) hb); have n4_ := zA (Kd.R_below (uR ((Kd.R_mono (Kd.R_far (p := ⟨gb459, 1, none⟩) (Kd.R_far (p := ⟨gb459, 0, none⟩) (Kd.R_types HO457.out BK459.out (by decide)) (fun _ hk => hk.2) (.int .i64 t454)) (fun _ hk => hk.2) (.slice Ao117 t455.length co117)) (fun _ h_ => h_.1)))) hb); have n5_ := zA (blk_below (g := gb415) (o := .cells #[.int .i64 a0_0, .slice A0_1 l0_1.length c0_1] 32 (0, 0)) (by (with_reducible repeat (first | refine blk_drewN ?_ _ | refine blk_drew ?_ | refine blk_alloc ?_ _)); refine blk_far ?_ NB415_459.out _; (with_reducible repeat (first | refine blk_drewN ?_ _ | refine blk_drew ?_ | refine blk_alloc ?_ _)); refine blk_far ?_ NB415_459.out _; (with_reducible repeat (first | refine blk_drewN ?_ _ | refine blk_drew ?_ | refine blk_alloc ?_ _)); exact BK415.out) hb); have n6_ := zA (blk_below (g := gb426) (o := .cells #[.int .i64 t421, .slice Ao23 t422.length co23] 36 (0, 0)) (by (with_reducible repeat (first | refine blk_drewN ?_ _ | refine blk_drew ?_ | refine blk_alloc ?_ _)); refine blk_far ?_ NB426_459.out _; (with_reducible repeat (first | refine blk_drewN ?_ _ | refine blk_drew ?_ | refine blk_alloc ?_ _)); refine blk_far ?_ NB426_459.out _; (with_reducible repeat (first | refine blk_drewN ?_ _ | refine blk_drew ?_ | refine blk_alloc ?_ _)); exact BK426.out) hb); have n7_ := zA (blk_below (g := gb431) (o := .cells #[.int .i64 t427, .slice Ao30 t445.length co30] 36 (0, 0)) (by (with_reducible repeat (first | refine blk_drewN ?_ _ | refine blk_drew ?_ | refine blk_alloc ?_ _)); refine blk_far ?_ NB431_459.out _; (with_reducible repeat (first | refine blk_drewN ?_ _ | refine blk_drew ?_ | refine blk_alloc ?_ _)); refine blk_far ?_ NB431_459.out _; (with_reducible repeat (first | refine blk_drewN ?_ _ | refine blk_drew ?_ | refine blk_alloc ?_ _)); exact BK431.out) hb); have n8_ := zA (blk_below (g := gb437) (o := .cells #[.int .i64 t432, .slice Ao37 t433.length co37] 36 (0, 0)) (by (with_reducible repeat (first | refine blk_drewN ?_ _ | refine blk_drew ?_ | refine blk_alloc ?_ _)); refine blk_far ?_ NB437_459.out _; (with_reducible repeat (first | refine blk_drewN ?_ _ | refine blk_drew ?_ | refine blk_alloc ?_ _)); refine blk_far ?_ NB437_459.out _; (with_reducible repeat (first | refine blk_drewN ?_ _ | refine blk_drew ?_ | refine blk_alloc ?_ _)); exact BK437.out) hb); have n9_ := zA (blk_below (g := gb459) (o := .cells #[.int .i64 t454, .slice Ao117 t455.length co117] 36 (0, 0)) (by (with_reducible repeat (first | refine blk_drewN ?_ _ | refine blk_drew ?_ | refine blk_alloc ?_ _)); refine blk_put (cs := #[.int .i64 t454, .slice none 0 0]) ?_ 1 _ rfl; (with_reducible repeat (first | refine blk_drewN ?_ _ | refine blk_drew ?_ | refine blk_alloc ?_ _)); refine blk_put (cs := #[.int .i64 0, .slice none 0 0]) ?_ 0 _ rfl; (with_reducible repeat (first | refine blk_drewN ?_ _ | refine blk_drew ?_ | refine blk_alloc ?_ _)); exact BK459.out) hb); have n10_ := xH HB hb; clear HO_427001 HO_432001 HO_438001 HO453 HO457 BK415 BK426 BK431 BK437 BK459 HB; have HO_427001 := n0_; have HO_432001 := n1_; have HO_438001 := n2_; have HO453 := n3_; have HO457 := n4_; have BK415 := n5_; have BK426 := n6_; have BK431 := n7_; have BK437 := n8_; have BK459 := n9_; have HB := n10_; clear n0_ n1_ n2_ n3_ n4_ n5_ n6_ n7_ n8_ n9_ n10_; (try clear hb); (try clear hb2); (try clear hk); (try clear hi)))
             go_meet
             case rel => exact ⟨_, ((t458 != t425)), (by first | rfl | (simp; done) | (simp [*]; done)), H', ⟨by have := HJ11.out; have := HJ60.out; first | omega | exact Nat.le_refl _⟩, ⟨by (try simp only [hl432001_60]); (with_reducible repeat (first | apply Kd.R_alloc | apply Kd.R_drewN | apply Kd.R_drew)); exact Kd.R_mono HO_427001.out (fun _ hk => ⟨hk.1.1.1, ⟨hk.1.1.2, hk.2⟩⟩)⟩, ⟨by (try simp only [hl432001_60]); (with_reducible repeat (first | apply Kd.R_alloc | apply Kd.R_drewN | apply Kd.R_drew)); exact Kd.R_mono HO_432001.out (fun _ hk => ⟨hk.1.1.1, ⟨hk.1.1.2, hk.2⟩⟩)⟩, ⟨by (try simp only [hl432001_60]); (with_reducible repeat (first | apply Kd.R_alloc | apply Kd.R_drewN | apply Kd.R_drew)); exact Kd.R_mono HO_438001.out (fun _ hk => ⟨hk.1.1.1, ⟨hk.1.1.2, hk.2⟩⟩)⟩, ⟨by (try simp only [hl432001_60]); (with_reducible repeat (first | apply Kd.R_alloc | apply Kd.R_drewN | apply Kd.R_drew)); exact Kd.R_mono HO457.out (fun _ hk => ⟨hk.1.1.1.2, ⟨hk.1.1.2, hk.1.2⟩⟩)⟩, ⟨by (try simp only [hl432001_60]); (with_reducible repeat (first | refine blk_drewN ?_ _ | refine blk_drew ?_ | refine blk_alloc ?_ _)); exact BK415.out⟩, ⟨by (try simp only [hl432001_60]); (with_reducible repeat (first | refine blk_drewN ?_ _ | refine blk_drew ?_ | refine blk_alloc ?_ _)); exact BK426.out⟩, ⟨by (try simp only [hl432001_60]); (with_reducible repeat (first | refine blk_drewN ?_ _ | refine blk_drew ?_ | refine blk_alloc ?_ _)); exact BK431.out⟩, ⟨by (try simp only [hl432001_60]); (with_reducible repeat (first | refine blk_drewN ?_ _ | refine blk_drew ?_ | refine blk_alloc ?_ _)); exact BK437.out⟩, ⟨by (try simp only [hl432001_60]); (with_reducible repeat (first | refine blk_drewN ?_ _ | refine blk_drew ?_ | refine blk_alloc ?_ _)); exact BK459.out⟩, ⟨uH HB.out⟩⟩
            ·replace c119 := Bool.eq_false_iff.mpr c119
             subst c119
             have H1 : (laws_FnExactCutMoments.j2 kj60 t447 true t432 t448) = some r := by rw [if_neg (show ¬ (false = true) by decide)] at H; exact H
             clear H
             have H := H1
             clear H1
             have H' := zA H
             clear H
             have hnb130 := NB459_415.out; have hnc130 := NB415_459.out; have hnb131 := NB459_426.out; have hnc131 := NB426_459.out; have hnb132 := NB459_431.out; have hnc132 := NB431_459.out; have hnb133 := NB459_437.out; have hnc133 := NB437_459.out
             have hcz134_0 : w111.cell? ⟨gb459, 0, none⟩ = some (.int .i64 0) := (blk_cell BK459.out 0).trans rfl
             have hcz134_1 : w111.cell? ⟨gb459, 1, none⟩ = some (.slice none 0 0) := (blk_cell BK459.out 1).trans rfl
             have hfz134_0 := blk_frozen BK459.out 0
             have hfz134_1 := blk_frozen BK459.out 1
             have hnb135 := NB426_415.out; have hnc135 := NB415_426.out; have hnb136 := NB426_431.out; have hnc136 := NB431_426.out; have hnb137 := NB426_437.out; have hnc137 := NB437_426.out
             have hcz138_0 : w111.cell? ⟨gb426, 0, none⟩ = some (.int .i64 t421) := (blk_cell BK426.out 0).trans rfl
             have hcz138_1 : w111.cell? ⟨gb426, 1, none⟩ = some (.slice Ao23 t422.length co23) := (blk_cell BK426.out 1).trans rfl
             have hfz138_0 := blk_frozen BK426.out 0
             have hfz138_1 := blk_frozen BK426.out 1
             go_wp2_with (first | ((with_reducible refine gate_callee (f := 19) rfl ?_); refine goesL_ (some 86) rfl rfl Try.func19 (by kernel_rfl) rfl #[.agg #[.int .i64 t454, .slice Ao117 t455.length co117], .agg #[.int .i64 t421, .slice Ao23 t422.length co23]] rfl (by (try simp only [List.map_toArray, List.map_cons, List.map_nil]); first | done | rfl | (simp only [List.length_drop, List.length_take]; rfl)) ?_; (with_reducible refine (laws_eqMoments.calls kj60 t454 _ _ t455 t421 _ _ t422 false _ ?side1 ?side2 ?side3 ?side4 A118.out).mono ?_); (case side1 => refine (Kd.R_reads' (e := 2) (base := w.heap.size) (ok := fun k_ => ((((True ∧ some k_ ≠ (.slice Ao23 t422.length co23 : Value).ownBlock) ∧ some k_ ≠ (.slice Ao30 t445.length co30 : Value).ownBlock) ∧ some k_ ≠ (.slice Ao37 t433.length co37 : Value).ownBlock) ∧ some k_ ≠ (.slice Ao109 t451.length co109 : Value).ownBlock)) (n := t455.length) (c := co117) ?_).2.2; exact (uR ((Kd.R_mono (Kd.R_far (p := ⟨gb459, 1, none⟩) (Kd.R_far (p := ⟨gb459, 0, none⟩) (Kd.R_types HO457.out BK459.out (by decide)) (fun _ hk => hk.2) (.int .i64 t454)) (fun _ hk => hk.2) (.slice Ao117 t455.length co117)) (fun _ h_ => h_.1))))); (case side2 => exact (Kd.R_reads' HO457.out).2.1); (case side3 => refine (Kd.R_reads' (e := 2) (base := w.heap.size) (ok := fun k_ => (((some k_ ≠ (.slice Ao30 t445.length co30 : Value).ownBlock ∧ some k_ ≠ (.slice Ao37 t433.length co37 : Value).ownBlock) ∧ some k_ ≠ (.slice Ao109 t451.length co109 : Value).ownBlock) ∧ some k_ ≠ (.slice Ao117 t455.length co117 : Value).ownBlock)) (n := t422.length) (c := co23) ?_).2.2; exact (uR ((Kd.R_mono (Kd.R_far (p := ⟨gb459, 1, none⟩) (Kd.R_far (p := ⟨gb459, 0, none⟩) (Kd.R_types HO_427001.out BK459.out (by decide)) (fun _ hk => hk.2) (.int .i64 t454)) (fun _ hk => hk.2) (.slice Ao117 t455.length co117)) (fun _ h_ => h_.1))))); (case side4 => exact (Kd.R_reads' HO_427001.out).2.1); rintro e w139 ⟨rfl, hb⟩; refine ⟨_, rfl, ?_⟩; have n0_ := zA (Kd.R_below (uR ((Kd.R_mono (Kd.R_far (p := ⟨gb459, 1, none⟩) (Kd.R_far (p := ⟨gb459, 0, none⟩) (Kd.R_types HO_427001.out BK459.out (by decide)) (fun _ hk => hk.2) (.int .i64 t454)) (fun _ hk => hk.2) (.slice Ao117 t455.length co117)) (fun _ h_ => h_.1)))) hb); have n1_ := zA (Kd.R_below (uR ((Kd.R_mono (Kd.R_far (p := ⟨gb459, 1, none⟩) (Kd.R_far (p := ⟨gb459, 0, none⟩) (Kd.R_types HO_432001.out BK459.out (by decide)) (fun _ hk => hk.2) (.int .i64 t454)) (fun _ hk => hk.2) (.slice Ao117 t455.length co117)) (fun _ h_ => h_.1)))) hb); have n2_ := zA (Kd.R_below (uR ((Kd.R_mono (Kd.R_far (p := ⟨gb459, 1, none⟩) (Kd.R_far (p := ⟨gb459, 0, none⟩) (Kd.R_types HO_438001.out BK459.out (by decide)) (fun _ hk => hk.2) (.int .i64 t454)) (fun _ hk => hk.2) (.slice Ao117 t455.length co117)) (fun _ h_ => h_.1)))) hb); have n3_ := zA (Kd.R_below (uR ((Kd.R_mono (Kd.R_far (p := ⟨gb459, 1, none⟩) (Kd.R_far (p := ⟨gb459, 0, none⟩) (Kd.R_types HO453.out BK459.out (by decide)) (fun _ hk => hk.2) (.int .i64 t454)) (fun _ hk => hk.2) (.slice Ao117 t455.length co117)) (fun _ h_ => h_.1)))) hb); have n4_ := zA (Kd.R_below (uR ((Kd.R_mono (Kd.R_far (p := ⟨gb459, 1, none⟩) (Kd.R_far (p := ⟨gb459, 0, none⟩) (Kd.R_types HO457.out BK459.out (by decide)) (fun _ hk => hk.2) (.int .i64 t454)) (fun _ hk => hk.2) (.slice Ao117 t455.length co117)) (fun _ h_ => h_.1)))) hb); have n5_ := zA (blk_below (g := gb415) (o := .cells #[.int .i64 a0_0, .slice A0_1 l0_1.length c0_1] 32 (0, 0)) (by (with_reducible repeat (first | refine blk_drewN ?_ _ | refine blk_drew ?_ | refine blk_alloc ?_ _)); refine blk_far ?_ NB415_459.out _; (with_reducible repeat (first | refine blk_drewN ?_ _ | refine blk_drew ?_ | refine blk_alloc ?_ _)); refine blk_far ?_ NB415_459.out _; (with_reducible repeat (first | refine blk_drewN ?_ _ | refine blk_drew ?_ | refine blk_alloc ?_ _)); exact BK415.out) hb); have n6_ := zA (blk_below (g := gb426) (o := .cells #[.int .i64 t421, .slice Ao23 t422.length co23] 36 (0, 0)) (by (with_reducible repeat (first | refine blk_drewN ?_ _ | refine blk_drew ?_ | refine blk_alloc ?_ _)); refine blk_far ?_ NB426_459.out _; (with_reducible repeat (first | refine blk_drewN ?_ _ | refine blk_drew ?_ | refine blk_alloc ?_ _)); refine blk_far ?_ NB426_459.out _; (with_reducible repeat (first | refine blk_drewN ?_ _ | refine blk_drew ?_ | refine blk_alloc ?_ _)); exact BK426.out) hb); have n7_ := zA (blk_below (g := gb431) (o := .cells #[.int .i64 t427, .slice Ao30 t445.length co30] 36 (0, 0)) (by (with_reducible repeat (first | refine blk_drewN ?_ _ | refine blk_drew ?_ | refine blk_alloc ?_ _)); refine blk_far ?_ NB431_459.out _; (with_reducible repeat (first | refine blk_drewN ?_ _ | refine blk_drew ?_ | refine blk_alloc ?_ _)); refine blk_far ?_ NB431_459.out _; (with_reducible repeat (first | refine blk_drewN ?_ _ | refine blk_drew ?_ | refine blk_alloc ?_ _)); exact BK431.out) hb); have n8_ := zA (blk_below (g := gb437) (o := .cells #[.int .i64 t432, .slice Ao37 t433.length co37] 36 (0, 0)) (by (with_reducible repeat (first | refine blk_drewN ?_ _ | refine blk_drew ?_ | refine blk_alloc ?_ _)); refine blk_far ?_ NB437_459.out _; (with_reducible repeat (first | refine blk_drewN ?_ _ | refine blk_drew ?_ | refine blk_alloc ?_ _)); refine blk_far ?_ NB437_459.out _; (with_reducible repeat (first | refine blk_drewN ?_ _ | refine blk_drew ?_ | refine blk_alloc ?_ _)); exact BK437.out) hb); have n9_ := zA (blk_below (g := gb459) (o := .cells #[.int .i64 t454, .slice Ao117 t455.length co117] 36 (0, 0)) (by (with_reducible repeat (first | refine blk_drewN ?_ _ | refine blk_drew ?_ | refine blk_alloc ?_ _)); refine blk_put (cs := #[.int .i64 t454, .slice none 0 0]) ?_ 1 _ rfl; (with_reducible repeat (first | refine blk_drewN ?_ _ | refine blk_drew ?_ | refine blk_alloc ?_ _)); refine blk_put (cs := #[.int .i64 0, .slice none 0 0]) ?_ 0 _ rfl; (with_reducible repeat (first | refine blk_drewN ?_ _ | refine blk_drew ?_ | refine blk_alloc ?_ _)); exact BK459.out) hb); have n10_ := xH HB hb; clear HO_427001 HO_432001 HO_438001 HO453 HO457 BK415 BK426 BK431 BK437 BK459 HB; have HO_427001 := n0_; have HO_432001 := n1_; have HO_438001 := n2_; have HO453 := n3_; have HO457 := n4_; have BK415 := n5_; have BK426 := n6_; have BK431 := n7_; have BK437 := n8_; have BK459 := n9_; have HB := n10_; clear n0_ n1_ n2_ n3_ n4_ n5_ n6_ n7_ n8_ n9_ n10_; (try clear hb); (try clear hb2); (try clear hk); (try clear hi)))
             go_meet
             case rel => exact ⟨_, (true), (by first | rfl | (simp; done) | (simp [*]; done)), H', ⟨by have := HJ11.out; have := HJ60.out; first | omega | exact Nat.le_refl _⟩, ⟨by (try simp only [hl432001_60]); (with_reducible repeat (first | apply Kd.R_alloc | apply Kd.R_drewN | apply Kd.R_drew)); exact Kd.R_mono HO_427001.out (fun _ hk => ⟨hk.1.1.1, ⟨hk.1.1.2, hk.2⟩⟩)⟩, ⟨by (try simp only [hl432001_60]); (with_reducible repeat (first | apply Kd.R_alloc | apply Kd.R_drewN | apply Kd.R_drew)); exact Kd.R_mono HO_432001.out (fun _ hk => ⟨hk.1.1.1, ⟨hk.1.1.2, hk.2⟩⟩)⟩, ⟨by (try simp only [hl432001_60]); (with_reducible repeat (first | apply Kd.R_alloc | apply Kd.R_drewN | apply Kd.R_drew)); exact Kd.R_mono HO_438001.out (fun _ hk => ⟨hk.1.1.1, ⟨hk.1.1.2, hk.2⟩⟩)⟩, ⟨by (try simp only [hl432001_60]); (with_reducible repeat (first | apply Kd.R_alloc | apply Kd.R_drewN | apply Kd.R_drew)); exact Kd.R_mono HO457.out (fun _ hk => ⟨hk.1.1.1.2, ⟨hk.1.1.2, hk.1.2⟩⟩)⟩, ⟨by (try simp only [hl432001_60]); (with_reducible repeat (first | refine blk_drewN ?_ _ | refine blk_drew ?_ | refine blk_alloc ?_ _)); exact BK415.out⟩, ⟨by (try simp only [hl432001_60]); (with_reducible repeat (first | refine blk_drewN ?_ _ | refine blk_drew ?_ | refine blk_alloc ?_ _)); exact BK426.out⟩, ⟨by (try simp only [hl432001_60]); (with_reducible repeat (first | refine blk_drewN ?_ _ | refine blk_drew ?_ | refine blk_alloc ?_ _)); exact BK431.out⟩, ⟨by (try simp only [hl432001_60]); (with_reducible repeat (first | refine blk_drewN ?_ _ | refine blk_drew ?_ | refine blk_alloc ?_ _)); exact BK437.out⟩, ⟨by (try simp only [hl432001_60]); (with_reducible repeat (first | refine blk_drewN ?_ _ | refine blk_drew ?_ | refine blk_alloc ?_ _)); exact BK459.out⟩, ⟨uH HB.out⟩⟩
           case rest =>
            clear HC97
            try clear c1
            try clear c2
            try clear p2
            try clear c3
            try clear c4
            try clear c4b0
            try clear c5
            try clear c6
            try clear c7
            try clear c8
            try clear c9
            try clear c10
            try clear c11
            try clear c12
            try clear c13
            try clear c14
            try clear c16
            try clear c19
            try clear c21
            try clear c23
            try clear c24
            try clear c25
            try clear c26
            try clear c27
            try clear c28
            try clear c33
            try clear c34
            try clear c35
            try clear c39
            try clear c40
            try clear c41
            try clear c42
            try clear c44
            try clear c45
            try clear c48
            try clear c49
            try clear c50
            try clear c52
            try clear c53
            try clear c56
            try clear c59
            try clear c66
            try clear c67
            try clear c68
            try clear c71
            try clear c71b0
            try clear c73
            try clear c74
            try clear c75
            try clear c76
            try clear c78
            try clear c79
            try clear c82
            try clear c83
            try clear c84
            try clear c86
            try clear c87
            try clear c90
            try clear c93
            try clear c93b0
            try clear c94
            try clear c94b0
            try clear c94b1
            try clear c98
            try clear c99
            try clear c100
            try clear c105
            try clear c106
            try clear c112
            try clear c113
            try clear c114
            try clear c115
            try clear c119
            try clear c120
            try clear c121
            try clear c122
            try clear c123
            try clear c125
            try clear c126
            try clear c127
            try clear c130
            try clear c131
            try clear c132
            try clear c133
            try clear c135
            try clear c136
            try clear c137
            try clear hcz101_0
            try clear hcz101_1
            try clear hcz103_0
            try clear hcz103_1
            try clear hcz107_0
            try clear hcz107_1
            try clear hcz116_0
            try clear hcz116_1
            try clear hcz124_0
            try clear hcz124_1
            try clear hcz128_0
            try clear hcz128_1
            try clear hcz134_0
            try clear hcz134_1
            try clear hcz138_0
            try clear hcz138_1
            try clear hcz14_0
            try clear hcz14_1
            try clear hcz16_0
            try clear hcz16_1
            try clear hcz22_0
            try clear hcz22_1
            try clear hcz24_0
            try clear hcz24_1
            try clear hcz29_0
            try clear hcz29_1
            try clear hcz36_0
            try clear hcz36_1
            try clear hcz43_0
            try clear hcz43_1
            try clear hcz46_0
            try clear hcz46_1
            try clear hcz51_0
            try clear hcz51_1
            try clear hcz54_0
            try clear hcz54_1
            try clear hcz69_0
            try clear hcz69_1
            try clear hcz6_0
            try clear hcz6_1
            try clear hcz77_0
            try clear hcz77_1
            try clear hcz80_0
            try clear hcz80_1
            try clear hcz85_0
            try clear hcz85_1
            try clear hcz88_0
            try clear hcz88_1
            try clear hfz101_0
            try clear hfz101_1
            try clear hfz103_0
            try clear hfz103_1
            try clear hfz107_0
            try clear hfz107_1
            try clear hfz116_0
            try clear hfz116_1
            try clear hfz124_0
            try clear hfz124_1
            try clear hfz128_0
            try clear hfz128_1
            try clear hfz134_0
            try clear hfz134_1
            try clear hfz138_0
            try clear hfz138_1
            try clear hfz14_0
            try clear hfz14_1
            try clear hfz16_0
            try clear hfz16_1
            try clear hfz22_0
            try clear hfz22_1
            try clear hfz24_0
            try clear hfz24_1
            try clear hfz29_0
            try clear hfz29_1
            try clear hfz36_0
            try clear hfz36_1
            try clear hfz43_0
            try clear hfz43_1
            try clear hfz46_0
            try clear hfz46_1
            try clear hfz51_0
            try clear hfz51_1
            try clear hfz54_0
            try clear hfz54_1
            try clear hfz69_0
            try clear hfz69_1
            try clear hfz6_0
            try clear hfz6_1
            try clear hfz77_0
            try clear hfz77_1
            try clear hfz80_0
            try clear hfz80_1
            try clear hfz85_0
            try clear hfz85_1
            try clear hfz88_0
            try clear hfz88_1
            try clear p2
            obtain ⟨kq, x92_96, rfl, HA, HJ96, HO_427001, HO_432001, HO_438001, HO_460001, BK415, BK426, BK431, BK437, BK459, HB⟩ := hcut
            have hl438001_96 := (Kd.R_reads' HO_438001.out).1
            rw [hl438001_96] at HO_438001
            (try simp only [hl438001_96])
            (try simp only [hl438001_96] at BK415)
            (try simp only [hl438001_96] at BK426)
            (try simp only [hl438001_96] at BK431)
            (try simp only [hl438001_96] at BK437)
            (try simp only [hl438001_96] at BK459)
            (try simp only [hl438001_96] at HO_427001)
            (try simp only [hl438001_96] at HO_432001)
            (try simp only [hl438001_96] at HO_460001)
            cases kq with
            | zero => exact absurd HA.out (by simp [laws_FnExactCutMoments.j2])
            | succ kj96 =>
             have H := HA.out
             clear HA
             simp only [laws_FnExactCutMoments.j2] at H
             by_cases c140 : x92_96 = true
             ·subst c140
              have H1 : (some false) = some r := by rw [if_pos rfl] at H; exact H
              clear H
              have H := H1
              clear H1
              rw [HRT.out] at H
              exact absurd H (by simp)
             ·replace c140 := Bool.eq_false_iff.mpr c140
              subst c140
              have H1 : ((laws_heldMoments.f kj96 t432 t448 1).bind fun t461 => (if t461 < 0 then (some false) else (if t461 = t447 then (some true) else (some false)))) = some r := by rw [if_neg (show ¬ (false = true) by decide)] at H; exact H
              clear H
              have H := H1
              clear H1
              replace H := Option.bind_eq_some_iff.mp H
              obtain ⟨t461, A1410, H⟩ := H
              replace H : (if t461 < 0 then (some false) else (if t461 = t447 then (some true) else (some false))) = some r := H
              have A141 := zA A1410
              clear A1410
              by_cases c142 : t461 < 0
              ·rw [if_pos c142] at H
               have c142b0 : decide (t461 < 0) = true := decide_eq_true c142
               clear c142
               rw [HRT.out] at H
               exact absurd H (by simp)
              ·rw [if_neg c142] at H
               have c142b0 : decide (t461 < 0) = false := decide_eq_false c142
               clear c142
               by_cases c143 : t461 = t447
               ·rw [if_pos c143] at H
                have c143b0 : (t461 == t447) = true := beq_iff_eq.mpr c143
                have c143b1 : (t461 != t447) = false := bne_eq_false_iff_eq.mpr c143
                clear c143
                obtain rfl := Option.some.inj H
                have hnb144 := NB437_415.out; have hnc144 := NB415_437.out; have hnb145 := NB437_426.out; have hnc145 := NB426_437.out; have hnb146 := NB437_431.out; have hnc146 := NB431_437.out; have hnb147 := NB437_459.out; have hnc147 := NB459_437.out
                have hcz148_0 : wc.cell? ⟨gb437, 0, none⟩ = some (.int .i64 t432) := (blk_cell BK437.out 0).trans rfl
                have hcz148_1 : wc.cell? ⟨gb437, 1, none⟩ = some (.slice Ao37 t448.length co37) := (blk_cell BK437.out 1).trans rfl
                have hfz148_0 := blk_frozen BK437.out 0
                have hfz148_1 := blk_frozen BK437.out 1
                go_wp2_with (first | ((with_reducible refine gate_callee (f := 24) rfl ?_); refine goesL_ (some 95) rfl rfl Try.func24 (by kernel_rfl) rfl #[.agg #[.int .i64 t432, .slice Ao37 t448.length co37], .int .i64 1] rfl (by (try simp only [List.map_toArray, List.map_cons, List.map_nil]); first | done | rfl | (simp only [List.length_drop, List.length_take]; rfl)) ?_; (with_reducible refine (laws_heldMoments.calls kj96 t432 _ _ t448 1 t461 _ ?side1 ?side2 A141.out).mono ?_); (case side1 => exact uC ((Kd.R_reads' HO_438001.out).2.2)); (case side2 => exact (Kd.R_reads' HO_438001.out).2.1); rintro e w149 ⟨rfl, hb⟩; refine ⟨_, rfl, ?_⟩; have n0_ := xR HO_427001 hb; have n1_ := xR HO_432001 hb; have n2_ := xR HO_438001 hb; have n3_ := xR HO_460001 hb; have n4_ := xB BK415 hb; have n5_ := xB BK426 hb; have n6_ := xB BK431 hb; have n7_ := xB BK437 hb; have n8_ := xB BK459 hb; have n9_ := xH HB hb; clear HO_427001 HO_432001 HO_438001 HO_460001 BK415 BK426 BK431 BK437 BK459 HB; have HO_427001 := n0_; have HO_432001 := n1_; have HO_438001 := n2_; have HO_460001 := n3_; have BK415 := n4_; have BK426 := n5_; have BK431 := n6_; have BK437 := n7_; have BK459 := n8_; have HB := n9_; clear n0_ n1_ n2_ n3_ n4_ n5_ n6_ n7_ n8_ n9_; (try clear hb); (try clear hb2); (try clear hk); (try clear hi)))
                go_ret
                exact ⟨by first | rfl | (simp [errW_none, errW_some] <;> rfl) | (simp [*, errW_none, errW_some] <;> rfl), uH HB.out⟩
               ·rw [if_neg c143] at H
                have c143b0 : (t461 == t447) = false := beq_eq_false_iff_ne.mpr c143
                have c143b1 : (t461 != t447) = true := bne_iff_ne.mpr c143
                rw [HRT.out] at H
                exact absurd H (by simp)
          ·rw [if_neg c94] at H
           have c94b0 : (t449 == t447) = false := beq_eq_false_iff_ne.mpr c94
           have c94b1 : (t449 != t447) = true := bne_iff_ne.mpr c94
           rw [HRT.out] at H
           exact absurd H (by simp)
     ·replace c59 := Bool.eq_false_iff.mpr c59
      subst c59
      have H1 : (some false) = some r := by rw [if_neg (show ¬ (false = true) by decide)] at H; exact H
      clear H
      have H := H1
      clear H1
      rw [HRT.out] at H
      exact absurd H (by simp)

/-- THE ONE PURE STATEMENT of laws_FnExactCutMoments: yours. -/
def laws_FnExactCutMoments.Pure : Prop := ∀ (a0_0 : Int) (l0_1 : List Int) (a1 : Int), (Lit.int .i64 a0_0).wf = true → l0_1.length ≤ maxLen → (∀ x ∈ l0_1, (Lit.int .i64 x).wf = true) → (Lit.int .i64 a1).wf = true → ∃ k, laws_FnExactCutMoments.f k a0_0 l0_1 a1 = some true
theorem laws_FnExactCutMoments.walk (P : laws_FnExactCutMoments.Pure) (a0_0 : Int) (a0_1 : Option Addr) (len0_1 cap0_1 : Nat) (z0_1 : List Int) (a1 : Int) (w : World) (w0_0 : (Lit.int .i64 a0_0).wf = true) (w0_1 : (a0_1 = none ∧ len0_1 = 0 ∧ cap0_1 = 0 ∧ z0_1 = []) ∨ ∃ x, a0_1 = some x ∧ len0_1 ≤ cap0_1 ∧ cap0_1 ≤ maxLen ∧ z0_1.length = cap0_1 ∧ (∀ i, i < z0_1.length → w.cell? (x.add i) = some (.int .i64 (z0_1.getD i 0))) ∧ ∀ n ∈ z0_1, (Lit.int .i64 n).wf = true) (w1 : (Lit.int .i64 a1).wf = true) :
  Calls Try.prog 6 #[.agg #[.int .i64 a0_0, .slice a0_1 len0_1 cap0_1], .int .i64 a1] w fun e w' => e = .returned (.bool true) ∧ Below w.heap.size w w' := by
 obtain ⟨l0_1, rfl, hr0_1, hm0_1, hw0_1, hc0_1⟩ := ReadsInt.ofRowC w0_1
 obtain ⟨k, h⟩ := P a0_0 l0_1 a1 w0_0 hm0_1 hw0_1 w1
 refine (laws_FnExactCutMoments.calls k a0_0 _ _ l0_1 a1 true rfl w (Kd.C_of_reads (d := (0 : Int)) (h1 := fun _ => rfl) hr0_1) hc0_1 h).mono ?_
 rintro e w' ⟨rfl, hd⟩
 exact ⟨rfl, hd⟩

end Go.Proofs.Ytcfiegapclbenaa.Pr
