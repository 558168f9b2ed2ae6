/- Printed by a program of this session out of the translation: what these functions of the program compute, under the conditions that each theorem names. -/
import Derived.Test.YtjdannndpfkadaaKStepsOf1
import Derived.Test.YtjdannndpfkadaaKStepsOf4
import Derived.Test.YtjdannndpfkadaaKStepsOf2
import Derived.Test.YtjdannndpfkadaaKFspecStepsOf
import Derived.Test.YtjdannndpfkadaaKFimplStepsOf
namespace Go.Proofs.Ytjdannndpfkadaa.Pr
open Go.RowKit Go.Proofs.YtjdannndpfkadaaW.PrintWords Go.Proofs.YtjdannndpfkadaaW.PrintLast Go.Proofs.YtjdannndpfkadaaW.PrintMore
attribute [local go_sem] max2_int min2_int max_two min_two max_three min_three max_four min_four   -- for this text's walks alone
set_option linter.unusedVariables false
set_option linter.unusedSimpArgs false

/-! ### laws_FnExactStepsOf: function 4 -/
mutual
def laws_FnExactStepsOf.j0 : Nat → List Int → Int → List Int → Int → Bool → Int → List Int → Int → List Int → Option (Bool)
 | 0, _, _, _, _, _, _, _, _, _ => none
 | k + 1, x4, x5, x7, x8, x40, x252000, x252001, x266000, x266001 => if x40 = true then (some false) else ((laws_toMoments.f k x252000 x252001).bind fun bt271 => ((laws_eqMoments.f k x266000 x266001 bt271.1 bt271.2).bind fun t275 => (if t275 = true then ((laws_markMoments.f k x266000 x266001 1).bind fun bt276 => (if bt276.1 < 0 then (laws_FnExactStepsOf.j1 k x4 x5 x7 true x252000 x252001) else ((laws_eqInt64S.f k x7 x4).bind fun t278 => (if t278 = true then (laws_FnExactStepsOf.j1 k x4 x5 x7 (x8 != x5) x252000 x252001) else (laws_FnExactStepsOf.j1 k x4 x5 x7 true x252000 x252001))))) else (some false))))
def laws_FnExactStepsOf.j1 : Nat → List Int → Int → List Int → Bool → Int → List Int → Option (Bool)
 | 0, _, _, _, _, _, _ => none
 | k + 1, x4, x5, x7, x61, x252000, x252001 => if x61 = true then (some false) else ((laws_markInt64S.f k x7 1).bind fun bt279 => ((laws_heldInt64S.f k bt279.2 1).bind fun t281 => (if t281 < 0 then (some false) else (if t281 = bt279.1 then ((laws_toMoments.f k x252000 x252001).bind fun bt282 => ((impl_StepsOf.f k bt282.1 bt282.2).bind fun bt286 => ((laws_eqInt64S.f k bt286.1 x4).bind fun t290 => (if t290 = true then (laws_FnExactStepsOf.j2 k bt279.2 bt279.1 (bt286.2 != x5)) else (laws_FnExactStepsOf.j2 k bt279.2 bt279.1 true))))) else (some false)))))
def laws_FnExactStepsOf.j2 : Nat → List Int → Int → Bool → Option (Bool)
 | 0, _, _, _ => none
 | k + 1, x7, x10, x87 => if x87 = true then (some false) else ((laws_heldInt64S.f k x7 1).bind fun t291 => (if t291 < 0 then (some false) else (if t291 = x10 then (some true) else (some false))))
end
def laws_FnExactStepsOf.f (k : Nat) (a0_0 : Int) (l0_1 : List Int) : Option (Bool) := (laws_szMoments.f a0_0 l0_1 1048576).bind fun t252 => (if t252 < 0 then (some true) else ((laws_toMoments.f k a0_0 l0_1).bind fun bt253 => ((spec_StepsOf.f k bt253.1 bt253.2).bind fun bt257 => ((laws_toMoments.f k a0_0 l0_1).bind fun bt261 => ((impl_StepsOf.f k bt261.1 bt261.2).bind fun bt266 => ((laws_eqInt64S.f k bt266.1 bt257.1).bind fun t270 => (if t270 = true then (laws_FnExactStepsOf.j0 k bt257.1 bt257.2 bt266.1 bt266.2 (bt266.2 != bt257.2) a0_0 l0_1 bt261.1 bt261.2) else (laws_FnExactStepsOf.j0 k bt257.1 bt257.2 bt266.1 bt266.2 true a0_0 l0_1 bt261.1 bt261.2))))))))
theorem laws_FnExactStepsOf.mono_l : ∀ k, (∀ y0 y1 y2 y3 y4 y5 y6 y7 y8, LeO (laws_FnExactStepsOf.j0 k y0 y1 y2 y3 y4 y5 y6 y7 y8) (laws_FnExactStepsOf.j0 (k + 1) y0 y1 y2 y3 y4 y5 y6 y7 y8)) ∧ (∀ y0 y1 y2 y3 y4 y5, LeO (laws_FnExactStepsOf.j1 k y0 y1 y2 y3 y4 y5) (laws_FnExactStepsOf.j1 (k + 1) y0 y1 y2 y3 y4 y5)) ∧ (∀ y0 y1 y2, LeO (laws_FnExactStepsOf.j2 k y0 y1 y2) (laws_FnExactStepsOf.j2 (k + 1) y0 y1 y2))
 | 0 => ⟨fun _ _ _ _ _ _ _ _ _ r h => by simp [laws_FnExactStepsOf.j0] at h, fun _ _ _ _ _ _ r h => by simp [laws_FnExactStepsOf.j1] at h, fun _ _ _ r h => by simp [laws_FnExactStepsOf.j2] at h⟩
 | k + 1 => by
  obtain ⟨ih0, ih1, ih2⟩ := laws_FnExactStepsOf.mono_l k
  refine ⟨?_, ?_, ?_⟩
  ·intro y0 y1 y2 y3 y4 y5 y6 y7 y8
   unfold laws_FnExactStepsOf.j0
   repeat' first
   | (with_reducible exact ih0 _ _ _ _ _ _ _ _ _)
   | (with_reducible exact ih1 _ _ _ _ _ _)
   | (with_reducible exact ih2 _ _ _)
   | (with_reducible exact impl_StepsOf.mono _ _ _)
   | (with_reducible exact laws_eqInt64S.mono _ _ _)
   | (with_reducible exact laws_eqMoments.mono _ _ _ _ _)
   | (with_reducible exact laws_heldInt64S.mono _ _ _)
   | (with_reducible exact laws_markInt64S.mono _ _ _)
   | (with_reducible exact laws_markMoments.mono _ _ _ _)
   | (with_reducible exact laws_toMoments.mono _ _ _)
   | (with_reducible exact spec_StepsOf.mono _ _ _)
   | (with_reducible exact LeO.refl _)
   | (with_reducible exact LeO.none _)
   | (with_reducible refine LeO.ite ?_ ?_)
   | (with_reducible refine LeO.bind ?_ (fun _ => ?_))
   | exact ih0 _ _ _ _ _ _ _ _ _
   | exact ih1 _ _ _ _ _ _
   | exact ih2 _ _ _
   | exact impl_StepsOf.mono _ _ _
   | exact laws_eqInt64S.mono _ _ _
   | exact laws_eqMoments.mono _ _ _ _ _
   | exact laws_heldInt64S.mono _ _ _
   | exact laws_markInt64S.mono _ _ _
   | exact laws_markMoments.mono _ _ _ _
   | exact laws_toMoments.mono _ _ _
   | exact spec_StepsOf.mono _ _ _
   | exact LeO.none _
   | refine LeO.ite ?_ ?_
   | refine LeO.bind ?_ (fun _ => ?_)
  ·intro y0 y1 y2 y3 y4 y5
   unfold laws_FnExactStepsOf.j1
   repeat' first
   | (with_reducible exact ih0 _ _ _ _ _ _ _ _ _)
   | (with_reducible exact ih1 _ _ _ _ _ _)
   | (with_reducible exact ih2 _ _ _)
   | (with_reducible exact impl_StepsOf.mono _ _ _)
   | (with_reducible exact laws_eqInt64S.mono _ _ _)
   | (with_reducible exact laws_eqMoments.mono _ _ _ _ _)
   | (with_reducible exact laws_heldInt64S.mono _ _ _)
   | (with_reducible exact laws_markInt64S.mono _ _ _)
   | (with_reducible exact laws_markMoments.mono _ _ _ _)
   | (with_reducible exact laws_toMoments.mono _ _ _)
   | (with_reducible exact spec_StepsOf.mono _ _ _)
   | (with_reducible exact LeO.refl _)
   | (with_reducible exact LeO.none _)
   | (with_reducible refine LeO.ite ?_ ?_)
   | (with_reducible refine LeO.bind ?_ (fun _ => ?_))
   | exact ih0 _ _ _ _ _ _ _ _ _
   | exact ih1 _ _ _ _ _ _
   | exact ih2 _ _ _
   | exact impl_StepsOf.mono _ _ _
   | exact laws_eqInt64S.mono _ _ _
   | exact laws_eqMoments.mono _ _ _ _ _
   | exact laws_heldInt64S.mono _ _ _
   | exact laws_markInt64S.mono _ _ _
   | exact laws_markMoments.mono _ _ _ _
   | exact laws_toMoments.mono _ _ _
   | exact spec_StepsOf.mono _ _ _
   | exact LeO.none _
   | refine LeO.ite ?_ ?_
   | refine LeO.bind ?_ (fun _ => ?_)
  ·intro y0 y1 y2
   unfold laws_FnExactStepsOf.j2
   repeat' first
   | (with_reducible exact ih0 _ _ _ _ _ _ _ _ _)
   | (with_reducible exact ih1 _ _ _ _ _ _)
   | (with_reducible exact ih2 _ _ _)
   | (with_reducible exact impl_StepsOf.mono _ _ _)
   | (with_reducible exact laws_eqInt64S.mono _ _ _)
   | (with_reducible exact laws_eqMoments.mono _ _ _ _ _)
   | (with_reducible exact laws_heldInt64S.mono _ _ _)
   | (with_reducible exact laws_markInt64S.mono _ _ _)
   | (with_reducible exact laws_markMoments.mono _ _ _ _)
   | (with_reducible exact laws_toMoments.mono _ _ _)
   | (with_reducible exact spec_StepsOf.mono _ _ _)
   | (with_reducible exact LeO.refl _)
   | (with_reducible exact LeO.none _)
   | (with_reducible refine LeO.ite ?_ ?_)
   | (with_reducible refine LeO.bind ?_ (fun _ => ?_))
   | exact ih0 _ _ _ _ _ _ _ _ _
   | exact ih1 _ _ _ _ _ _
   | exact ih2 _ _ _
   | exact impl_StepsOf.mono _ _ _
   | exact laws_eqInt64S.mono _ _ _
   | exact laws_eqMoments.mono _ _ _ _ _
   | exact laws_heldInt64S.mono _ _ _
   | exact laws_markInt64S.mono _ _ _
   | exact laws_markMoments.mono _ _ _ _
   | exact laws_toMoments.mono _ _ _
   | exact spec_StepsOf.mono _ _ _
   | exact LeO.none _
   | refine LeO.ite ?_ ?_
   | refine LeO.bind ?_ (fun _ => ?_)
theorem laws_FnExactStepsOf.mono : ∀ a0 a1 k, LeO (laws_FnExactStepsOf.f k a0 a1) (laws_FnExactStepsOf.f (k + 1) a0 a1) := by
 intro a0 a1 k
 obtain ⟨ih0, ih1, ih2⟩ := laws_FnExactStepsOf.mono_l k
 unfold laws_FnExactStepsOf.f
 repeat' first
   | (with_reducible exact ih0 _ _ _ _ _ _ _ _ _)
   | (with_reducible exact ih1 _ _ _ _ _ _)
   | (with_reducible exact ih2 _ _ _)
   | (with_reducible exact impl_StepsOf.mono _ _ _)
   | (with_reducible exact laws_eqInt64S.mono _ _ _)
   | (with_reducible exact laws_eqMoments.mono _ _ _ _ _)
   | (with_reducible exact laws_heldInt64S.mono _ _ _)
   | (with_reducible exact laws_markInt64S.mono _ _ _)
   | (with_reducible exact laws_markMoments.mono _ _ _ _)
   | (with_reducible exact laws_toMoments.mono _ _ _)
   | (with_reducible exact spec_StepsOf.mono _ _ _)
   | (with_reducible exact LeO.refl _)
   | (with_reducible exact LeO.none _)
   | (with_reducible refine LeO.ite ?_ ?_)
   | (with_reducible refine LeO.bind ?_ (fun _ => ?_))
   | exact ih0 _ _ _ _ _ _ _ _ _
   | exact ih1 _ _ _ _ _ _
   | exact ih2 _ _ _
   | exact impl_StepsOf.mono _ _ _
   | exact laws_eqInt64S.mono _ _ _
   | exact laws_eqMoments.mono _ _ _ _ _
   | exact laws_heldInt64S.mono _ _ _
   | exact laws_markInt64S.mono _ _ _
   | exact laws_markMoments.mono _ _ _ _
   | exact laws_toMoments.mono _ _ _
   | exact spec_StepsOf.mono _ _ _
   | exact LeO.none _
   | refine LeO.ite ?_ ?_
   | refine LeO.bind ?_ (fun _ => ?_)
set_option maxHeartbeats 8000000 in
set_option maxRecDepth 100000 in
theorem laws_FnExactStepsOf.calls (k : Nat) (a0_0 : Int) (A0_1 : Option Addr) (c0_1 : Nat) (l0_1 : List Int) (r : Bool) (hr_ : r = true) (w : World) (hr0_1 : Kd.C (Kd.int .i64) w A0_1 l0_1.length l0_1) (hc0_1 : l0_1.length ≤ c0_1) (h : laws_FnExactStepsOf.f k a0_0 l0_1 = some r) :
  Calls Try.prog 4 #[.agg #[.int .i64 a0_0, .slice A0_1 l0_1.length c0_1]] w fun e w' => e = .returned (.bool r) ∧ Below w.heap.size w w' := by
 have hu37 := Try.underlying37
 have hu41 := Try.underlying41
 have HRT := zA hr_
 clear hr_
 have HR0_1 := zA hr0_1
 have HC0_1 := zA hc0_1
 clear hr0_1 hc0_1
 have HB := zA (Below.refl w.heap.size w)
 have H : ((laws_szMoments.f a0_0 l0_1 1048576).bind fun t252 => (if t252 < 0 then (some true) else ((laws_toMoments.f k a0_0 l0_1).bind fun bt253 => ((spec_StepsOf.f k bt253.1 bt253.2).bind fun bt257 => ((laws_toMoments.f k a0_0 l0_1).bind fun bt261 => ((impl_StepsOf.f k bt261.1 bt261.2).bind fun bt266 => ((laws_eqInt64S.f k bt266.1 bt257.1).bind fun t270 => (if t270 = true then (laws_FnExactStepsOf.j0 k bt257.1 bt257.2 bt266.1 bt266.2 (bt266.2 != bt257.2) a0_0 l0_1 bt261.1 bt261.2) else (laws_FnExactStepsOf.j0 k bt257.1 bt257.2 bt266.1 bt266.2 true a0_0 l0_1 bt261.1 bt261.2))))))))) = some r := h
 clear h
 replace H := Option.bind_eq_some_iff.mp H
 obtain ⟨t252, A20, H⟩ := H
 replace H : (if t252 < 0 then (some true) else ((laws_toMoments.f k a0_0 l0_1).bind fun bt253 => ((spec_StepsOf.f k bt253.1 bt253.2).bind fun bt257 => ((laws_toMoments.f k a0_0 l0_1).bind fun bt261 => ((impl_StepsOf.f k bt261.1 bt261.2).bind fun bt266 => ((laws_eqInt64S.f k bt266.1 bt257.1).bind fun t270 => (if t270 = true then (laws_FnExactStepsOf.j0 k bt257.1 bt257.2 bt266.1 bt266.2 (bt266.2 != bt257.2) a0_0 l0_1 bt261.1 bt261.2) else (laws_FnExactStepsOf.j0 k bt257.1 bt257.2 bt266.1 bt266.2 true a0_0 l0_1 bt261.1 bt261.2)))))))) = some r := H
 have A2 := zA A20
 clear A20
 by_cases c3 : t252 < 0
 ·rw [if_pos c3] at H
  have c3b0 : decide (t252 < 0) = true := decide_eq_true c3
  clear c3
  obtain rfl := Option.some.inj H
  go_enter Try.func4, Try.ntmps4
  go_wp2_with (first | ((with_reducible refine gate_dst (N := 1) rfl ?_); refine box_event ?hg (N := 1) ?hd (cs := #[.int .i64 a0_0, .slice A0_1 l0_1.length c0_1]) (t := 37) ?hr ?_; (case hd => rfl); (case hg => rfl); (case hr => first | (go_simp; done) | (go_simp; rfl)); intro gb251 hg w4 hbox hb; have n0_ := xH HB hb; have n1_ := zA (hbox); have n2_ := zA ((by rw [hg]; exact (below_size (uH HB.out)) : w.heap.size ≤ gb251)); have n3_ := zA ((by rw [hg]; exact (below_size (uH HB.out)) : w.heap.size ≤ gb251)); clear HB; have HB := n0_; have BK251 := n1_; have GW251 := n2_; have GE251 := n3_; have := geI GE251; clear n0_ n1_ n2_ n3_ hb hbox hg; have hcz5_0 : w4.cell? ⟨gb251, 0, none⟩ = some (.int .i64 a0_0) := (blk_cell BK251.out 0).trans rfl; have hcz5_1 : w4.cell? ⟨gb251, 1, none⟩ = some (.slice A0_1 l0_1.length c0_1) := (blk_cell BK251.out 1).trans rfl; have hfz5_0 := blk_frozen BK251.out 0; have hfz5_1 := blk_frozen BK251.out 1) | ((with_reducible refine gate_callee (f := 16) rfl ?_); refine goesL_ (some 16) rfl rfl Try.func16 (by kernel_rfl) rfl #[.agg #[.int .i64 a0_0, .slice A0_1 l0_1.length c0_1], .int .i64 1048576] rfl (by (try simp only [la, lb, lc]); first | done | rfl | (simp only [ld, le]; rfl)) ?_; (with_reducible refine (laws_szMoments.calls a0_0 _ _ l0_1 1048576 t252 _ ?side1 ?side2 A2.out).mono ?_); (case side1 => exact uC ((Kd.C_below HR0_1.out HB.out))); (case side2 => exact HC0_1.out); rintro e w6 ⟨rfl, hb⟩; refine ⟨_, rfl, ?_⟩; have n0_ := xB BK251 hb; have n1_ := xH HB hb; clear BK251 HB; have BK251 := n0_; have HB := n1_; clear n0_ n1_; (try clear hb); (try clear hb2); (try clear hk); (try clear hi)))
  go_ret
  exact ⟨by first | rfl | (simp [errW_none, errW_some] <;> rfl) | (simp [*, errW_none, errW_some] <;> rfl), uH HB.out⟩
 ·rw [if_neg c3] at H
  have c3b0 : decide (t252 < 0) = false := decide_eq_false c3
  clear c3
  replace H := Option.bind_eq_some_iff.mp H
  obtain ⟨⟨t253, t254⟩, A70, H⟩ := H
  replace H : ((spec_StepsOf.f k t253 t254).bind fun bt257 => ((laws_toMoments.f k a0_0 l0_1).bind fun bt261 => ((impl_StepsOf.f k bt261.1 bt261.2).bind fun bt266 => ((laws_eqInt64S.f k bt266.1 bt257.1).bind fun t270 => (if t270 = true then (laws_FnExactStepsOf.j0 k bt257.1 bt257.2 bt266.1 bt266.2 (bt266.2 != bt257.2) a0_0 l0_1 bt261.1 bt261.2) else (laws_FnExactStepsOf.j0 k bt257.1 bt257.2 bt266.1 bt266.2 true a0_0 l0_1 bt261.1 bt261.2)))))) = some r := H
  have A7 := zA A70
  clear A70
  replace H := Option.bind_eq_some_iff.mp H
  obtain ⟨⟨t257, t260⟩, A80, H⟩ := H
  replace H : ((laws_toMoments.f k a0_0 l0_1).bind fun bt261 => ((impl_StepsOf.f k bt261.1 bt261.2).bind fun bt266 => ((laws_eqInt64S.f k bt266.1 t257).bind fun t270 => (if t270 = true then (laws_FnExactStepsOf.j0 k t257 t260 bt266.1 bt266.2 (bt266.2 != t260) a0_0 l0_1 bt261.1 bt261.2) else (laws_FnExactStepsOf.j0 k t257 t260 bt266.1 bt266.2 true a0_0 l0_1 bt261.1 bt261.2))))) = some r := H
  have A8 := zA A80
  clear A80
  replace H := Option.bind_eq_some_iff.mp H
  obtain ⟨⟨t261, t262⟩, A90, H⟩ := H
  replace H : ((impl_StepsOf.f k t261 t262).bind fun bt266 => ((laws_eqInt64S.f k bt266.1 t257).bind fun t270 => (if t270 = true then (laws_FnExactStepsOf.j0 k t257 t260 bt266.1 bt266.2 (bt266.2 != t260) a0_0 l0_1 t261 t262) else (laws_FnExactStepsOf.j0 k t257 t260 bt266.1 bt266.2 true a0_0 l0_1 t261 t262)))) = some r := H
  have A9 := zA A90
  clear A90
  replace H := Option.bind_eq_some_iff.mp H
  obtain ⟨⟨t266, t269⟩, A100, H⟩ := H
  replace H : ((laws_eqInt64S.f k t266 t257).bind fun t270 => (if t270 = true then (laws_FnExactStepsOf.j0 k t257 t260 t266 t269 (t269 != t260) a0_0 l0_1 t261 t262) else (laws_FnExactStepsOf.j0 k t257 t260 t266 t269 true a0_0 l0_1 t261 t262))) = some r := H
  have A10 := zA A100
  clear A100
  have HC11 := zA H
  clear H
  go_enter Try.func4, Try.ntmps4
  go_upto_region 8 with (first | ((with_reducible refine gate_dst (N := 1) rfl ?_); refine box_event ?hg (N := 1) ?hd (cs := #[.int .i64 a0_0, .slice A0_1 l0_1.length c0_1]) (t := 37) ?hr ?_; (case hd => rfl); (case hg => rfl); (case hr => first | (go_simp; done) | (go_simp; rfl)); intro gb251 hg w12 hbox hb; have n0_ := xH HB hb; have n1_ := zA (hbox); have n2_ := zA ((by rw [hg]; exact (below_size (uH HB.out)) : w.heap.size ≤ gb251)); have n3_ := zA ((by rw [hg]; exact (below_size (uH HB.out)) : w.heap.size ≤ gb251)); clear HB; have HB := n0_; have BK251 := n1_; have GW251 := n2_; have GE251 := n3_; have := geI GE251; clear n0_ n1_ n2_ n3_ hb hbox hg; have hcz13_0 : w12.cell? ⟨gb251, 0, none⟩ = some (.int .i64 a0_0) := (blk_cell BK251.out 0).trans rfl; have hcz13_1 : w12.cell? ⟨gb251, 1, none⟩ = some (.slice A0_1 l0_1.length c0_1) := (blk_cell BK251.out 1).trans rfl; have hfz13_0 := blk_frozen BK251.out 0; have hfz13_1 := blk_frozen BK251.out 1) | ((with_reducible refine gate_callee (f := 16) rfl ?_); refine goesL_ (some 16) rfl rfl Try.func16 (by kernel_rfl) rfl #[.agg #[.int .i64 a0_0, .slice A0_1 l0_1.length c0_1], .int .i64 1048576] rfl (by (try simp only [la, lb, lc]); first | done | rfl | (simp only [ld, le]; rfl)) ?_; (with_reducible refine (laws_szMoments.calls a0_0 _ _ l0_1 1048576 t252 _ ?side1 ?side2 A2.out).mono ?_); (case side1 => exact uC ((Kd.C_below HR0_1.out HB.out))); (case side2 => exact HC0_1.out); rintro e w14 ⟨rfl, hb⟩; refine ⟨_, rfl, ?_⟩; have n0_ := xB BK251 hb; have n1_ := xH HB hb; clear BK251 HB; have BK251 := n0_; have HB := n1_; clear n0_ n1_; (try clear hb); (try clear hb2); (try clear hk); (try clear hi); have hcz15_0 : w14.cell? ⟨gb251, 0, none⟩ = some (.int .i64 a0_0) := (blk_cell BK251.out 0).trans rfl; have hcz15_1 : w14.cell? ⟨gb251, 1, none⟩ = some (.slice A0_1 l0_1.length c0_1) := (blk_cell BK251.out 1).trans rfl; have hfz15_0 := blk_frozen BK251.out 0; have hfz15_1 := blk_frozen BK251.out 1) | ((with_reducible refine gate_callee (f := 18) rfl ?_); refine goesL_ (some 21) rfl rfl Try.func18 (by kernel_rfl) rfl #[.agg #[.int .i64 a0_0, .slice A0_1 l0_1.length c0_1]] rfl (by (try simp only [la, lb, lc]); first | done | rfl | (simp only [ld, le]; rfl)) ?_; (with_reducible refine (laws_toMoments.calls k a0_0 _ _ l0_1 t253 t254 _ ?side1 ?side2 A7.out).mono ?_); (case side1 => exact uC ((Kd.C_below HR0_1.out HB.out))); (case side2 => exact HC0_1.out); rintro e w16 ⟨v255, rfl, ho0, hb⟩; refine ⟨_, rfl, ?_⟩; have n0_ := zA (Kd.R_lower ho0 (below_size (uH HB.out))); have n1_ := xB BK251 hb; have n2_ := xH HB hb; clear BK251 HB; have HO256 := n0_; have BK251 := n1_; have HB := n2_; clear n0_ n1_ n2_; (try clear hb); (try clear hb2); (try clear hk); (try clear hi); (try clear ho0); obtain ⟨Ao17, co17, eo17⟩ := Kd.R_slice HO256.out; subst eo17) | ((with_reducible refine gate_callee (f := 17) rfl ?_); refine goesL_ (some 22) rfl rfl Try.func17 (by kernel_rfl) rfl #[.agg #[.int .i64 t253, .slice Ao17 t254.length co17]] rfl (by (try simp only [la, lb, lc]); first | done | rfl | (simp only [ld, le]; rfl)) ?_; (with_reducible refine (spec_StepsOf.calls k t253 _ _ t254 t257 t260 _ ?side1 ?side2 A8.out).mono ?_); (case side1 => exact uC ((Kd.R_reads' HO256.out).2.2)); (case side2 => exact (Kd.R_reads' HO256.out).2.1); rintro e w18 ⟨v258, rfl, ho0, hb⟩; refine ⟨_, rfl, ?_⟩; have n0_ := zA (Kd.R_elder' (uR HO256.out) (Kd.R_base ho0) hb); have n1_ := zA (Kd.R_lower (Kd.R_new' ho0 (Kd.R_lt (uR HO256.out))) (below_size (uH HB.out))); have n2_ := xB BK251 hb; have n3_ := xH HB hb; clear HO256 BK251 HB; have HO256 := n0_; have HO259 := n1_; have BK251 := n2_; have HB := n3_; clear n0_ n1_ n2_ n3_; (try clear hb); (try clear hb2); (try clear hk); (try clear hi); (try clear ho0); have hcz19_0 : w18.cell? ⟨gb251, 0, none⟩ = some (.int .i64 a0_0) := (blk_cell BK251.out 0).trans rfl; have hcz19_1 : w18.cell? ⟨gb251, 1, none⟩ = some (.slice A0_1 l0_1.length c0_1) := (blk_cell BK251.out 1).trans rfl; have hfz19_0 := blk_frozen BK251.out 0; have hfz19_1 := blk_frozen BK251.out 1) | ((with_reducible refine gate_callee (f := 18) rfl ?_); refine goesL_ (some 26) rfl rfl Try.func18 (by kernel_rfl) rfl #[.agg #[.int .i64 a0_0, .slice A0_1 l0_1.length c0_1]] rfl (by (try simp only [la, lb, lc]); first | done | rfl | (simp only [ld, le]; rfl)) ?_; (with_reducible refine (laws_toMoments.calls k a0_0 _ _ l0_1 t261 t262 _ ?side1 ?side2 A9.out).mono ?_); (case side1 => exact uC ((Kd.C_below HR0_1.out HB.out))); (case side2 => exact HC0_1.out); rintro e w20 ⟨v263, rfl, ho0, hb⟩; refine ⟨_, rfl, ?_⟩; have n0_ := zA (Kd.R_elder' (uR HO256.out) (Kd.R_base ho0) hb); have n1_ := zA (Kd.R_elder' (uR HO259.out) (Kd.R_base ho0) hb); have n2_ := zA (Kd.R_lower (Kd.R_new' (Kd.R_new' ho0 (Kd.R_lt (uR HO256.out))) (Kd.R_lt (uR HO259.out))) (below_size (uH HB.out))); have n3_ := xB BK251 hb; have n4_ := xH HB hb; clear HO256 HO259 BK251 HB; have HO256 := n0_; have HO259 := n1_; have HO264 := n2_; have BK251 := n3_; have HB := n4_; clear n0_ n1_ n2_ n3_ n4_; (try clear hb); (try clear hb2); (try clear hk); (try clear hi); (try clear ho0)) | ((with_reducible refine gate_dst (N := 6) rfl ?_); refine box_event ?hg (N := 6) ?hd (cs := #[.int .i64 0, .slice none 0 0]) (t := 41) ?hr ?_; (case hd => rfl); (case hg => rfl); (case hr => first | (go_simp; done) | (go_simp; rfl)); intro gb265 hg w21 hbox hb; have n0_ := xR HO256 hb; have n1_ := xR HO259 hb; have n2_ := xR HO264 hb; have n3_ := xB BK251 hb; have n4_ := xH HB hb; have n5_ := zA (hbox); have n6_ := zA ((by rw [hg]; exact (below_size (uH HB.out)) : w.heap.size ≤ gb265)); have n7_ := zA ((by rw [hg]; exact (below_size (uH HB.out)) : w.heap.size ≤ gb265)); have n8_ := zA ((by rw [hg]; exact neL BK251 : gb251 ≠ gb265)); have n9_ := zA ((by rw [hg]; exact neG BK251 : gb265 ≠ gb251)); clear HO256 HO259 HO264 BK251 HB; have HO256 := n0_; have HO259 := n1_; have HO264 := n2_; have BK251 := n3_; have HB := n4_; have BK265 := n5_; have GW265 := n6_; have GE265 := n7_; have := geI GE265; have NB251_265 := n8_; have NB265_251 := n9_; clear n0_ n1_ n2_ n3_ n4_ n5_ n6_ n7_ n8_ n9_ hb hbox hg; have hnb22 := NB265_251.out; have hnc22 := NB251_265.out; have hcz23_0 : w21.cell? ⟨gb265, 0, none⟩ = some (.int .i64 0) := (blk_cell BK265.out 0).trans rfl; have hcz23_1 : w21.cell? ⟨gb265, 1, none⟩ = some (.slice none 0 0) := (blk_cell BK265.out 1).trans rfl; have hfz23_0 := blk_frozen BK265.out 0; have hfz23_1 := blk_frozen BK265.out 1; obtain ⟨Ao24, co24, eo24⟩ := Kd.R_slice HO264.out; subst eo24) | ((with_reducible refine gate_store (t := 41) (p := 6) rfl ?_); refine store_event (t := 41) (p := 6) (v := ?vo_w25) (w1 := ((w21.setCell ⟨gb265, 0, none⟩ (.int .i64 t261)).setCell ⟨gb265, 1, none⟩ (.slice Ao24 t262.length co24))) ?hg ?ho ?hn ?hr ?_; (case ho => rfl); (case hg => rfl); (case hn => rfl); (case hr => first | (go_simp; done) | (go_simp; rfl)); intro w25 hw; have n0_ : Aside0 (Kd.R (Kd.int .i64) 2 w25 w.heap.size (fun k_ => some k_ ≠ (v258 : Value).ownBlock ∧ some k_ ≠ (.slice Ao24 t262.length co24 : Value).ownBlock) (.slice Ao17 t254.length co17) t254) := ⟨(by rw [hw]; exact (uR (Kd.R_mono (Kd.R_far (p := ⟨gb265, 1, none⟩) (Kd.R_far (p := ⟨gb265, 0, none⟩) (Kd.R_types HO256.out BK265.out (by decide)) (fun _ hk => hk.2) (.int .i64 t261)) (fun _ hk => hk.2) (.slice Ao24 t262.length co24)) (fun _ hk => ⟨hk.1.1.2, hk.1.2⟩))))⟩; have n1_ : Aside0 (Kd.R (Kd.int .i64) 2 w25 w.heap.size (fun k_ => some k_ ≠ (.slice Ao17 t254.length co17 : Value).ownBlock ∧ some k_ ≠ (.slice Ao24 t262.length co24 : Value).ownBlock) v258 t257) := ⟨(by rw [hw]; exact (uR (Kd.R_mono (Kd.R_far (p := ⟨gb265, 1, none⟩) (Kd.R_far (p := ⟨gb265, 0, none⟩) (Kd.R_types HO259.out BK265.out (by decide)) (fun _ hk => hk.2) (.int .i64 t261)) (fun _ hk => hk.2) (.slice Ao24 t262.length co24)) (fun _ hk => ⟨hk.1.1.2, hk.1.2⟩))))⟩; have n2_ : Aside0 (Kd.R (Kd.int .i64) 2 w25 w.heap.size (fun k_ => some k_ ≠ (.slice Ao17 t254.length co17 : Value).ownBlock ∧ some k_ ≠ (v258 : Value).ownBlock) (.slice Ao24 t262.length co24) t262) := ⟨(by rw [hw]; exact (uR (Kd.R_mono (Kd.R_far (p := ⟨gb265, 1, none⟩) (Kd.R_far (p := ⟨gb265, 0, none⟩) (Kd.R_types HO264.out BK265.out (by decide)) (fun _ hk => hk.2) (.int .i64 t261)) (fun _ hk => hk.2) (.slice Ao24 t262.length co24)) (fun _ hk => ⟨hk.1.1.2, hk.1.2⟩))))⟩; have n3_ : Aside0 (w25.heap[gb251]? = some (.cells #[.int .i64 a0_0, .slice A0_1 l0_1.length c0_1] 37 (0, 0))) := ⟨(by rw [hw]; exact (by (with_reducible repeat (first | refine blk_drewN ?_ _ | refine blk_drew ?_ | refine blk_alloc ?_ _)); refine blk_far ?_ NB251_265.out _; (with_reducible repeat (first | refine blk_drewN ?_ _ | refine blk_drew ?_ | refine blk_alloc ?_ _)); refine blk_far ?_ NB251_265.out _; (with_reducible repeat (first | refine blk_drewN ?_ _ | refine blk_drew ?_ | refine blk_alloc ?_ _)); exact BK251.out))⟩; have n4_ : Aside0 (w25.heap[gb265]? = some (.cells #[.int .i64 t261, .slice Ao24 t262.length co24] 41 (0, 0))) := ⟨(by rw [hw]; exact (by (with_reducible repeat (first | refine blk_drewN ?_ _ | refine blk_drew ?_ | refine blk_alloc ?_ _)); refine blk_put (cs := #[.int .i64 t261, .slice none 0 0]) ?_ 1 _ rfl; (with_reducible repeat (first | refine blk_drewN ?_ _ | refine blk_drew ?_ | refine blk_alloc ?_ _)); refine blk_put (cs := #[.int .i64 0, .slice none 0 0]) ?_ 0 _ rfl; (with_reducible repeat (first | refine blk_drewN ?_ _ | refine blk_drew ?_ | refine blk_alloc ?_ _)); exact BK265.out))⟩; have n5_ : Aside0 (Below w.heap.size w w25) := ⟨(by rw [hw]; exact (uH HB.out))⟩; clear hw HO256 HO259 HO264 BK251 BK265 HB; have HO256 := n0_; have HO259 := n1_; have HO264 := n2_; have BK251 := n3_; have BK265 := n4_; have HB := n5_; clear n0_ n1_ n2_ n3_ n4_ n5_; have hcz26_0 : w25.cell? ⟨gb265, 0, none⟩ = some (.int .i64 t261) := (blk_cell BK265.out 0).trans rfl; have hcz26_1 : w25.cell? ⟨gb265, 1, none⟩ = some (.slice Ao24 t262.length co24) := (blk_cell BK265.out 1).trans rfl; have hfz26_0 := blk_frozen BK265.out 0; have hfz26_1 := blk_frozen BK265.out 1) | ((with_reducible refine gate_callee (f := 19) rfl ?_); refine goesL_ (some 29) rfl rfl Try.func19 (by kernel_rfl) rfl #[.agg #[.int .i64 t261, .slice Ao24 t262.length co24]] rfl (by (try simp only [la, lb, lc]); first | done | rfl | (simp only [ld, le]; rfl)) ?_; (with_reducible refine (impl_StepsOf.calls k t261 (fun k_ => some k_ = (.slice Ao24 t262.length co24 : Value).ownBlock) _ _ t262 t266 t269 _ ?side1 A10.out).mono ?_); (case side1 => exact Kd.R_V (Kd.R_tight rfl (Kd.R_types (Kd.R_types (HO264.out) BK251.out (by decide)) BK265.out (by decide)))); rintro e w27 ⟨v267, rfl, ho0, hb⟩; refine ⟨_, rfl, ?_⟩; have n0_ := zA (Kd.R_elder' (uR HO256.out) (Kd.R_base ho0) hb); have n1_ := zA (Kd.R_elder' (uR HO259.out) (Kd.R_base ho0) hb); have n2_ := zA (Kd.R_elder' (uR HO264.out) (Kd.R_base ho0) hb); have n3_ := zA (Kd.R_lower (Kd.R_new' (Kd.R_new' (Kd.R_new' (Kd.R_mono (ok' := fun k_ => True) ho0 (fun _ hk_ => trivial)) (Kd.R_lt (uR HO256.out))) (Kd.R_lt (uR HO259.out))) (Kd.R_lt (uR HO264.out))) (below_size (uH HB.out))); have n4_ := xB BK251 hb; have n5_ := xB BK265 hb; have n6_ := xH HB hb; clear HO256 HO259 HO264 BK251 BK265 HB; have HO256 := n0_; have HO259 := n1_; have HO264 := n2_; have HO268 := n3_; have BK251 := n4_; have BK265 := n5_; have HB := n6_; clear n0_ n1_ n2_ n3_ n4_ n5_ n6_; (try clear hb); (try clear hb2); (try clear hk); (try clear hi); (try clear ho0)))
  (try simp only [Act.put, ls, lz, ln])
  go_cut [40] (fun v40 wc => ∃ (kq : Nat) (x40_10 : Bool), v40 = .bool x40_10 ∧ Aside0 (laws_FnExactStepsOf.j0 kq t257 t260 t266 t269 x40_10 a0_0 l0_1 t261 t262 = some r) ∧ Aside0 (kq ≤ k) ∧ Aside0 (Kd.R (Kd.int .i64) 2 wc w.heap.size (fun k_ => some k_ ≠ (v267 : Value).ownBlock ∧ some k_ ≠ ((.slice Ao24 t262.length co24) : Value).ownBlock) v258 t257) ∧ Aside0 (Kd.R (Kd.int .i64) 2 wc w.heap.size (fun k_ => some k_ ≠ (v258 : Value).ownBlock ∧ some k_ ≠ ((.slice Ao24 t262.length co24) : Value).ownBlock) v267 t266) ∧ Aside0 (Kd.R (Kd.int .i64) 2 wc w.heap.size (fun k_ => some k_ ≠ (v258 : Value).ownBlock ∧ some k_ ≠ (v267 : Value).ownBlock) (.slice Ao24 t262.length co24) t262) ∧ Aside0 (wc.heap[gb251]? = some (.cells #[.int .i64 a0_0, (.slice A0_1 l0_1.length c0_1)] 37 (0, 0))) ∧ Aside0 (wc.heap[gb265]? = some (.cells #[.int .i64 t261, (.slice Ao24 t262.length co24)] 41 (0, 0))) ∧ Aside0 (Below w.heap.size w wc))
  case first =>
   have H := HC11.out
   clear HC11
   replace H := Option.bind_eq_some_iff.mp H
   obtain ⟨t270, A280, H⟩ := H
   replace H : (if t270 = true then (laws_FnExactStepsOf.j0 k t257 t260 t266 t269 (t269 != t260) a0_0 l0_1 t261 t262) else (laws_FnExactStepsOf.j0 k t257 t260 t266 t269 true a0_0 l0_1 t261 t262)) = some r := H
   have A28 := zA A280
   clear A280
   by_cases c29 : t270 = true
   ·subst c29
    have H1 : (laws_FnExactStepsOf.j0 k t257 t260 t266 t269 (t269 != t260) a0_0 l0_1 t261 t262) = some r := by rw [if_pos rfl] at H; exact H
    clear H
    have H := H1
    clear H1
    have H' := zA H
    clear H
    obtain ⟨Ao30, co30, eo30⟩ := Kd.R_slice HO268.out
    subst eo30
    obtain ⟨Ao31, co31, eo31⟩ := Kd.R_slice HO259.out
    subst eo31
    go_wp2_with (first | ((with_reducible refine gate_callee (f := 20) rfl ?_); refine goesL_ (some 34) rfl rfl Try.func20 (by kernel_rfl) rfl #[.slice Ao30 t266.length co30, .slice Ao31 t257.length co31] rfl (by (try simp only [la, lb, lc]); first | done | rfl | (simp only [ld, le]; rfl)) ?_; (with_reducible refine (laws_eqInt64S.calls k _ _ t266 _ _ t257 true _ ?side1 ?side2 ?side3 ?side4 A28.out).mono ?_); (case side1 => exact uC ((Kd.R_reads' HO268.out).2.2)); (case side2 => exact (Kd.R_reads' HO268.out).2.1); (case side3 => exact uC ((Kd.R_reads' HO259.out).2.2)); (case side4 => exact (Kd.R_reads' HO259.out).2.1); rintro e w' ⟨rfl, ⟨nd, rfl⟩⟩; refine ⟨_, rfl, ?_⟩))
    go_meet
    case rel => exact ⟨_, ((t269 != t260)), (by first | rfl | (simp; done) | (simp [*]; done)), H', ⟨by first | omega | exact Nat.le_refl _⟩, ⟨uR (Kd.R_mono HO259.out (fun _ hk => ⟨hk.2, hk.1.2⟩))⟩, ⟨uR (Kd.R_mono HO268.out (fun _ hk => ⟨hk.1.2, hk.2⟩))⟩, ⟨uR (Kd.R_mono HO264.out (fun _ hk => ⟨hk.1.2, hk.2⟩))⟩, ⟨uB BK251.out⟩, ⟨uB BK265.out⟩, ⟨uH HB.out⟩⟩
   ·replace c29 := Bool.eq_false_iff.mpr c29
    subst c29
    have H1 : (laws_FnExactStepsOf.j0 k t257 t260 t266 t269 true a0_0 l0_1 t261 t262) = some r := by rw [if_neg (show ¬ (false = true) by decide)] at H; exact H
    clear H
    have H := H1
    clear H1
    have H' := zA H
    clear H
    obtain ⟨Ao32, co32, eo32⟩ := Kd.R_slice HO268.out
    subst eo32
    obtain ⟨Ao33, co33, eo33⟩ := Kd.R_slice HO259.out
    subst eo33
    go_wp2_with (first | ((with_reducible refine gate_callee (f := 20) rfl ?_); refine goesL_ (some 34) rfl rfl Try.func20 (by kernel_rfl) rfl #[.slice Ao32 t266.length co32, .slice Ao33 t257.length co33] rfl (by (try simp only [la, lb, lc]); first | done | rfl | (simp only [ld, le]; rfl)) ?_; (with_reducible refine (laws_eqInt64S.calls k _ _ t266 _ _ t257 false _ ?side1 ?side2 ?side3 ?side4 A28.out).mono ?_); (case side1 => exact uC ((Kd.R_reads' HO268.out).2.2)); (case side2 => exact (Kd.R_reads' HO268.out).2.1); (case side3 => exact uC ((Kd.R_reads' HO259.out).2.2)); (case side4 => exact (Kd.R_reads' HO259.out).2.1); rintro e w' ⟨rfl, ⟨nd, rfl⟩⟩; refine ⟨_, rfl, ?_⟩))
    go_meet
    case rel => exact ⟨_, (true), (by first | rfl | (simp; done) | (simp [*]; done)), H', ⟨by first | omega | exact Nat.le_refl _⟩, ⟨uR (Kd.R_mono HO259.out (fun _ hk => ⟨hk.2, hk.1.2⟩))⟩, ⟨uR (Kd.R_mono HO268.out (fun _ hk => ⟨hk.1.2, hk.2⟩))⟩, ⟨uR (Kd.R_mono HO264.out (fun _ hk => ⟨hk.1.2, hk.2⟩))⟩, ⟨uB BK251.out⟩, ⟨uB BK265.out⟩, ⟨uH HB.out⟩⟩
  case rest =>
   clear HC11
   try clear c1
   try clear c2
   try clear p2
   try clear c3
   try clear c3b0
   try clear c4
   try clear c16
   try clear c17
   try clear c18
   try clear c19
   try clear c20
   try clear c22
   try clear c29
   try clear hcz13_0
   try clear hcz13_1
   try clear hcz15_0
   try clear hcz15_1
   try clear hcz19_0
   try clear hcz19_1
   try clear hcz23_0
   try clear hcz23_1
   try clear hcz26_0
   try clear hcz26_1
   try clear hcz5_0
   try clear hcz5_1
   try clear hfz13_0
   try clear hfz13_1
   try clear hfz15_0
   try clear hfz15_1
   try clear hfz19_0
   try clear hfz19_1
   try clear hfz23_0
   try clear hfz23_1
   try clear hfz26_0
   try clear hfz26_1
   try clear hfz5_0
   try clear hfz5_1
   obtain ⟨kq, x40_10, rfl, HA, HJ10, HO_4, HO_7, HO_266001, BK251, BK265, HB⟩ := hcut
   cases kq with
   | zero => exact absurd HA.out (by simp [laws_FnExactStepsOf.j0])
   | succ kj10 =>
    have H := HA.out
    clear HA
    simp only [laws_FnExactStepsOf.j0] at H
    by_cases c34 : x40_10 = true
    ·subst c34
     have H1 : (some false) = some r := by rw [if_pos rfl] at H; exact H
     clear H
     have H := H1
     clear H1
     rw [HRT.out] at H
     exact absurd H (by simp)
    ·replace c34 := Bool.eq_false_iff.mpr c34
     subst c34
     have H1 : ((laws_toMoments.f kj10 a0_0 l0_1).bind fun bt271 => ((laws_eqMoments.f kj10 t261 t262 bt271.1 bt271.2).bind fun t275 => (if t275 = true then ((laws_markMoments.f kj10 t261 t262 1).bind fun bt276 => (if bt276.1 < 0 then (laws_FnExactStepsOf.j1 kj10 t257 t260 t266 true a0_0 l0_1) else ((laws_eqInt64S.f kj10 t266 t257).bind fun t278 => (if t278 = true then (laws_FnExactStepsOf.j1 kj10 t257 t260 t266 (t269 != t260) a0_0 l0_1) else (laws_FnExactStepsOf.j1 kj10 t257 t260 t266 true a0_0 l0_1))))) else (some false)))) = some r := by rw [if_neg (show ¬ (false = true) by decide)] at H; exact H
     clear H
     have H := H1
     clear H1
     replace H := Option.bind_eq_some_iff.mp H
     obtain ⟨⟨t271, t272⟩, A350, H⟩ := H
     replace H : ((laws_eqMoments.f kj10 t261 t262 t271 t272).bind fun t275 => (if t275 = true then ((laws_markMoments.f kj10 t261 t262 1).bind fun bt276 => (if bt276.1 < 0 then (laws_FnExactStepsOf.j1 kj10 t257 t260 t266 true a0_0 l0_1) else ((laws_eqInt64S.f kj10 t266 t257).bind fun t278 => (if t278 = true then (laws_FnExactStepsOf.j1 kj10 t257 t260 t266 (t269 != t260) a0_0 l0_1) else (laws_FnExactStepsOf.j1 kj10 t257 t260 t266 true a0_0 l0_1))))) else (some false))) = some r := H
     have A35 := zA A350
     clear A350
     replace H := Option.bind_eq_some_iff.mp H
     obtain ⟨t275, A360, H⟩ := H
     replace H : (if t275 = true then ((laws_markMoments.f kj10 t261 t262 1).bind fun bt276 => (if bt276.1 < 0 then (laws_FnExactStepsOf.j1 kj10 t257 t260 t266 true a0_0 l0_1) else ((laws_eqInt64S.f kj10 t266 t257).bind fun t278 => (if t278 = true then (laws_FnExactStepsOf.j1 kj10 t257 t260 t266 (t269 != t260) a0_0 l0_1) else (laws_FnExactStepsOf.j1 kj10 t257 t260 t266 true a0_0 l0_1))))) else (some false)) = some r := H
     have A36 := zA A360
     clear A360
     by_cases c37 : t275 = true
     ·subst c37
      have H1 : ((laws_markMoments.f kj10 t261 t262 1).bind fun bt276 => (if bt276.1 < 0 then (laws_FnExactStepsOf.j1 kj10 t257 t260 t266 true a0_0 l0_1) else ((laws_eqInt64S.f kj10 t266 t257).bind fun t278 => (if t278 = true then (laws_FnExactStepsOf.j1 kj10 t257 t260 t266 (t269 != t260) a0_0 l0_1) else (laws_FnExactStepsOf.j1 kj10 t257 t260 t266 true a0_0 l0_1))))) = some r := by rw [if_pos rfl] at H; exact H
      clear H
      have H := H1
      clear H1
      replace H := Option.bind_eq_some_iff.mp H
      obtain ⟨⟨t276, t277⟩, A380, H⟩ := H
      replace H : (if t276 < 0 then (laws_FnExactStepsOf.j1 kj10 t257 t260 t266 true a0_0 l0_1) else ((laws_eqInt64S.f kj10 t266 t257).bind fun t278 => (if t278 = true then (laws_FnExactStepsOf.j1 kj10 t257 t260 t266 (t269 != t260) a0_0 l0_1) else (laws_FnExactStepsOf.j1 kj10 t257 t260 t266 true a0_0 l0_1)))) = some r := H
      have A38 := zA A380
      clear A380
      have HC39 := zA H
      clear H
      try go_wp2
      have n0_ := zA (Kd.R_drew HO_4.out)
      have n1_ := zA (Kd.R_drew HO_7.out)
      have n2_ := zA (Kd.R_drew HO_266001.out)
      have n3_ := zA (blk_drew BK251.out)
      have n4_ := zA (blk_drew BK265.out)
      have n5_ := zA (below_drew1 HB.out)
      clear HO_4 HO_7 HO_266001 BK251 BK265 HB
      have HO_4 := n0_; have HO_7 := n1_; have HO_266001 := n2_; have BK251 := n3_; have BK265 := n4_; have HB := n5_
      clear n0_ n1_ n2_ n3_ n4_ n5_
      refine start_ (n := 5) (S := fun w' => w'.cell? ⟨gb265, 0, none⟩ = some (.int .i64 t261) ∧ w'.cell? ⟨gb265, 1, none⟩ = some (.slice Ao24 t262.length co24) ∧ w'.cell? ⟨gb251, 0, none⟩ = some (.int .i64 a0_0) ∧ w'.cell? ⟨gb251, 1, none⟩ = some (.slice A0_1 l0_1.length c0_1)) (ds := []) #[false, false, false, false, false] (by kernel_rfl) rfl rfl ⟨(blk_cell BK265.out 0).trans rfl, (blk_cell BK265.out 1).trans rfl, (blk_cell BK251.out 0).trans rfl, (blk_cell BK251.out 1).trans rfl⟩ (fun hHeld => ?_)
      generalize wc.drew = w40 at HO_4 HO_7 HO_266001 BK251 BK265 HB hHeld ⊢
      refine take_ (i := 0) (N := some 41) (v := ?_) (a' := ?_) (bl 5 1) rfl rfl (by kernel_rfl) (fun _ _ _ h => h) (Or.inl ⟨by rfl, ?_⟩) hHeld ?_ ?_
      rotate_left
      ·rintro w' ⟨s0, s1, s2, s3⟩
       go_simp
       with_reducible rfl
      rotate_left
      ·simp only [Act.put, ls, lz, ln, i64_w, i32_w]
       rfl
      refine take_ (i := 1) (N := some 42) (v := ?_) (a' := ?_) (bl 5 3) rfl rfl (by kernel_rfl) (fun _ _ _ h => h) (Or.inl ⟨by rfl, ?_⟩) hHeld ?_ ?_
      rotate_left
      ·rintro w' ⟨s0, s1, s2, s3⟩
       go_simp
       with_reducible rfl
      rotate_left
      ·simp only [Act.put, ls, lz, ln, i64_w, i32_w]
       rfl
      refine one_ (i := 2) (N := some 43) (bl 5 7) rfl rfl (by kernel_rfl) (by decide) (fun K hK => ?_)
      refine goes_ Try.func18 (by kernel_rfl) rfl #[.agg #[.int .i64 a0_0, .slice A0_1 l0_1.length c0_1]] (by rfl) rfl rfl (by (try simp only [la, lb, lc]); first | done | rfl | (simp only [ld, le]; rfl)) ?_
      with_reducible refine (laws_toMoments.calls kj10 a0_0 _ _ l0_1 t271 t272 _ ?side1 ?side2 A35.out).mono ?_
      (case side1 => exact uC ((Kd.C_below HR0_1.out HB.out)))
      (case side2 => exact HC0_1.out)
      rintro e w41 ⟨v273, rfl, ho0, hb⟩
      refine ⟨_, rfl, ?_⟩
      have n0_ := zA (Kd.R_elder' (uR HO_4.out) (Kd.R_base ho0) hb)
      have n1_ := zA (Kd.R_elder' (uR HO_7.out) (Kd.R_base ho0) hb)
      have n2_ := zA (Kd.R_elder' (uR HO_266001.out) (Kd.R_base ho0) hb)
      have n3_ := zA (Kd.R_lower (Kd.R_new' (Kd.R_new' (Kd.R_new' ho0 (Kd.R_lt (uR HO_4.out))) (Kd.R_lt (uR HO_7.out))) (Kd.R_lt (uR HO_266001.out))) (below_size (uH HB.out)))
      have n4_ := xB BK251 hb
      have n5_ := xB BK265 hb
      have n6_ := xH HB hb
      clear HO_4 HO_7 HO_266001 BK251 BK265 HB
      have HO_4 := n0_; have HO_7 := n1_; have HO_266001 := n2_; have HO274 := n3_; have BK251 := n4_; have BK265 := n5_; have HB := n6_
      clear n0_ n1_ n2_ n3_ n4_ n5_ n6_
      (try clear hb); (try clear hb2); (try clear hk); (try clear hi); (try clear ho0)
      obtain ⟨Ao42, co42, eo42⟩ := Kd.R_slice HO274.out
      (first | subst eo42 | (injection eo42 with f1_ f2_ f3_; have f4_ := f1_.symm; have f5_ := f3_.symm; clear f1_ f2_ f3_; subst f4_; subst f5_))
      refine hK.out _ _ ⟨(blk_cell BK265.out 0).trans rfl, (blk_cell BK265.out 1).trans rfl, (blk_cell BK251.out 0).trans rfl, (blk_cell BK251.out 1).trans rfl⟩ (fun hHeld => ?_)
      clear hK K
      refine no_ 43 ?_
      refine one_ (i := 3) (N := some 44) (bl 5 15) rfl rfl (by kernel_rfl) (by decide) (fun K hK => ?_)
      refine goes_ Try.func21 (by kernel_rfl) rfl #[.agg #[.int .i64 t261, .slice Ao24 t262.length co24], .agg #[.int .i64 t271, .slice Ao42 t272.length co42]] (by rfl) rfl rfl (by (try simp only [la, lb, lc]); first | done | rfl | (simp only [ld, le]; rfl)) ?_
      with_reducible refine (laws_eqMoments.calls kj10 t261 _ _ t262 t271 _ _ t272 true _ ?side1 ?side2 ?side3 ?side4 A36.out).mono ?_
      (case side1 => exact uC ((Kd.R_reads' HO_266001.out).2.2))
      (case side2 => exact (Kd.R_reads' HO_266001.out).2.1)
      (case side3 => exact uC ((Kd.R_reads' HO274.out).2.2))
      (case side4 => exact (Kd.R_reads' HO274.out).2.1)
      rintro e w43 ⟨rfl, hb⟩
      refine ⟨_, rfl, ?_⟩
      have n0_ := xR HO_4 hb
      have n1_ := xR HO_7 hb
      have n2_ := xR HO_266001 hb
      have n3_ := xR HO274 hb
      have n4_ := xB BK251 hb
      have n5_ := xB BK265 hb
      have n6_ := xH HB hb
      clear HO_4 HO_7 HO_266001 HO274 BK251 BK265 HB
      have HO_4 := n0_; have HO_7 := n1_; have HO_266001 := n2_; have HO274 := n3_; have BK251 := n4_; have BK265 := n5_; have HB := n6_
      clear n0_ n1_ n2_ n3_ n4_ n5_ n6_
      (try clear hb); (try clear hb2); (try clear hk); (try clear hi)
      refine hK.out _ _ ⟨(blk_cell BK265.out 0).trans rfl, (blk_cell BK265.out 1).trans rfl, (blk_cell BK251.out 0).trans rfl, (blk_cell BK251.out 1).trans rfl⟩ (fun hHeld => ?_)
      clear hK K
      refine no_ 44 ?_
      refine pure_ (i := 4) (N := some 45) (v := ?_) (a' := ?_) (bl 5 31) rfl rfl (by kernel_rfl) (fun _ _ _ h => h) (Or.inl ⟨by rfl, ?_⟩) ?_ ?_
      rotate_left
      ·intro w'
       go_simp
       with_reducible rfl
      rotate_left
      ·simp only [Act.put, ls, lz, ln, i64_w, i32_w]
       rfl
      refine done_ (by kernel_rfl) ?_
      have hnb44 := NB265_251.out; have hnc44 := NB251_265.out
      have hcz45_0 : w43.cell? ⟨gb265, 0, none⟩ = some (.int .i64 t261) := (blk_cell BK265.out 0).trans rfl
      have hcz45_1 : w43.cell? ⟨gb265, 1, none⟩ = some (.slice Ao24 t262.length co24) := (blk_cell BK265.out 1).trans rfl
      have hfz45_0 := blk_frozen BK265.out 0
      have hfz45_1 := blk_frozen BK265.out 1
      go_upto_region 14 with (first | ((with_reducible refine gate_callee (f := 22) rfl ?_); refine goesL_ (some 48) rfl rfl Try.func22 (by kernel_rfl) rfl #[.agg #[.int .i64 t261, .slice Ao24 t262.length co24], .int .i64 1] rfl (by (try simp only [la, lb, lc]); first | done | rfl | (simp only [ld, le]; rfl)) ?_; (with_reducible refine (laws_markMoments.calls kj10 t261 (fun k_ => some k_ = (.slice Ao24 t262.length co24 : Value).ownBlock) (.slice Ao24 t262.length co24) t262 1 t276 t277 w _ ?side1 ?side2 A38.out).mono ?_); (case side1 => repeat (first | (with_reducible first | exact HB.out | apply below_alloc | apply pw_below_drewN | apply below_drew1 | refine below_set ?_ GE251.out | refine below_set ?_ GE265.out) | exact HB.out)); (case side2 => exact Kd.R_tight rfl HO_266001.out); rintro e w46 ⟨rfl, hy0, hb, hkp⟩; refine ⟨_, rfl, ?_⟩; have n0_ := zA (Kd.R_mono (ok' := fun k_ => some k_ ≠ (v267 : Value).ownBlock ∧ some k_ ≠ (.slice Ao24 t262.length co24 : Value).ownBlock ∧ some k_ ≠ (.slice Ao42 t272.length co42 : Value).ownBlock) (Kd.R_keptB (HO_4.out) hkp (fun k_ hk_ hs_ => (hk_.1.2) hs_)) (fun k_ hk_ => ⟨hk_.1.1.1, hk_.1.1.2, hk_.1.2⟩)); have n1_ := zA (Kd.R_mono (ok' := fun k_ => some k_ ≠ (v258 : Value).ownBlock ∧ some k_ ≠ (.slice Ao24 t262.length co24 : Value).ownBlock ∧ some k_ ≠ (.slice Ao42 t272.length co42 : Value).ownBlock) (Kd.R_keptB (HO_7.out) hkp (fun k_ hk_ hs_ => (hk_.1.2) hs_)) (fun k_ hk_ => ⟨hk_.1.1.1, hk_.1.1.2, hk_.1.2⟩)); have n2_ := zA (Kd.R_reok rfl hy0 (fun k_ e_ => HO_266001.out.1 k_ e_)); have n3_ := zA (blk_kept (uB BK251.out) hkp (fun hs_ => (fun e_ => (Kd.R_ne HO_266001.out BK251.out (by decide)) e_) hs_)); have n4_ := zA (blk_kept (uB BK265.out) hkp (fun hs_ => (fun e_ => (Kd.R_ne HO_266001.out BK265.out (by decide)) e_) hs_)); have n5_ := zA (Kd.R_mono (ok' := fun k_ => some k_ ≠ (v258 : Value).ownBlock ∧ some k_ ≠ (v267 : Value).ownBlock ∧ some k_ ≠ (.slice Ao24 t262.length co24 : Value).ownBlock) (Kd.R_keptB (HO274.out) hkp (fun k_ hk_ hs_ => (hk_.2) hs_)) (fun k_ hk_ => ⟨hk_.1.1.1.2, hk_.1.1.2, hk_.1.2⟩)); have n6_ := zA (hb); clear HO_4 HO_7 HO_266001 BK251 BK265 HO274 HB; have HO_4 := n0_; have HO_7 := n1_; have HO_266001 := n2_; have BK251 := n3_; have BK265 := n4_; have HO274 := n5_; have HB := n6_; clear n0_ n1_ n2_ n3_ n4_ n5_ n6_; (try clear hb); (try clear hkp); (try clear hy0)))
      (try simp only [Act.put, ls, lz, ln])
      go_cut [61] (fun v61 wc => ∃ (kq : Nat) (x61_38 : Bool), v61 = .bool x61_38 ∧ Aside0 (laws_FnExactStepsOf.j1 kq t257 t260 t266 x61_38 a0_0 l0_1 = some r) ∧ Aside0 (kq ≤ kj10) ∧ Aside0 (Kd.R (Kd.int .i64) 2 wc w.heap.size (fun k_ => some k_ ≠ (v267 : Value).ownBlock ∧ some k_ ≠ ((.slice Ao24 t262.length co24) : Value).ownBlock) v258 t257) ∧ Aside0 (Kd.R (Kd.int .i64) 2 wc w.heap.size (fun k_ => some k_ ≠ (v258 : Value).ownBlock ∧ some k_ ≠ ((.slice Ao24 t262.length co24) : Value).ownBlock) v267 t266) ∧ Aside0 (Kd.R (Kd.int .i64) 2 wc w.heap.size (fun k_ => some k_ ≠ (v258 : Value).ownBlock ∧ some k_ ≠ (v267 : Value).ownBlock) (.slice Ao24 t262.length co24) t277) ∧ Aside0 (wc.heap[gb251]? = some (.cells #[.int .i64 a0_0, (.slice A0_1 l0_1.length c0_1)] 37 (0, 0))) ∧ Aside0 (wc.heap[gb265]? = some (.cells #[.int .i64 t261, (.slice Ao24 t262.length co24)] 41 (0, 0))) ∧ Aside0 (Below w.heap.size w wc))
      case first =>
       have H := HC39.out
       clear HC39
       by_cases c47 : t276 < 0
       ·rw [if_pos c47] at H
        have c47b0 : decide (t276 < 0) = true := decide_eq_true c47
        clear c47
        (first | rw [c47b0] | (simp only [i64_w, i32_w]; rw [c47b0]) | skip)
        have H' := zA H
        clear H
        go_wp2
        go_meet
        case rel => exact ⟨_, (true), (by first | rfl | (simp; done) | (simp [*]; done)), H', ⟨by have := HJ10.out; first | omega | exact Nat.le_refl _⟩, ⟨uR (Kd.R_mono HO_4.out (fun _ hk => ⟨hk.1, hk.2.1⟩))⟩, ⟨uR (Kd.R_mono HO_7.out (fun _ hk => ⟨hk.1, hk.2.1⟩))⟩, ⟨uR (Kd.R_mono HO_266001.out (fun _ hk => ⟨hk.1.1, hk.1.2⟩))⟩, ⟨uB BK251.out⟩, ⟨uB BK265.out⟩, ⟨uH HB.out⟩⟩
       ·rw [if_neg c47] at H
        have c47b0 : decide (t276 < 0) = false := decide_eq_false c47
        clear c47
        (first | rw [c47b0] | (simp only [i64_w, i32_w]; rw [c47b0]) | skip)
        replace H := Option.bind_eq_some_iff.mp H
        obtain ⟨t278, A480, H⟩ := H
        replace H : (if t278 = true then (laws_FnExactStepsOf.j1 kj10 t257 t260 t266 (t269 != t260) a0_0 l0_1) else (laws_FnExactStepsOf.j1 kj10 t257 t260 t266 true a0_0 l0_1)) = some r := H
        have A48 := zA A480
        clear A480
        by_cases c49 : t278 = true
        ·subst c49
         have H1 : (laws_FnExactStepsOf.j1 kj10 t257 t260 t266 (t269 != t260) a0_0 l0_1) = some r := by rw [if_pos rfl] at H; exact H
         clear H
         have H := H1
         clear H1
         have H' := zA H
         clear H
         obtain ⟨Ao50, co50, eo50⟩ := Kd.R_slice HO_7.out
         subst eo50
         obtain ⟨Ao51, co51, eo51⟩ := Kd.R_slice HO_4.out
         subst eo51
         go_wp2_with (first | (go_at_call 20; (with_reducible refine (laws_eqInt64S.calls kj10 _ _ t266 _ _ t257 true _ ?side1 ?side2 ?side3 ?side4 A48.out).mono ?_); (case side1 => exact uC ((Kd.R_reads' HO_7.out).2.2)); (case side2 => exact (Kd.R_reads' HO_7.out).2.1); (case side3 => exact uC ((Kd.R_reads' HO_4.out).2.2)); (case side4 => exact (Kd.R_reads' HO_4.out).2.1); rintro e w' ⟨rfl, ⟨nd, rfl⟩⟩))
         go_meet
         case rel => exact ⟨_, ((t269 != t260)), (by first | rfl | (simp; done) | (simp [*]; done)), H', ⟨by have := HJ10.out; first | omega | exact Nat.le_refl _⟩, ⟨uR (Kd.R_mono HO_4.out (fun _ hk => ⟨hk.1, hk.2.1⟩))⟩, ⟨uR (Kd.R_mono HO_7.out (fun _ hk => ⟨hk.1, hk.2.1⟩))⟩, ⟨uR (Kd.R_mono HO_266001.out (fun _ hk => ⟨hk.1.1, hk.1.2⟩))⟩, ⟨uB BK251.out⟩, ⟨uB BK265.out⟩, ⟨uH HB.out⟩⟩
        ·replace c49 := Bool.eq_false_iff.mpr c49
         subst c49
         have H1 : (laws_FnExactStepsOf.j1 kj10 t257 t260 t266 true a0_0 l0_1) = some r := by rw [if_neg (show ¬ (false = true) by decide)] at H; exact H
         clear H
         have H := H1
         clear H1
         have H' := zA H
         clear H
         obtain ⟨Ao52, co52, eo52⟩ := Kd.R_slice HO_7.out
         subst eo52
         obtain ⟨Ao53, co53, eo53⟩ := Kd.R_slice HO_4.out
         subst eo53
         go_wp2_with (first | (go_at_call 20; (with_reducible refine (laws_eqInt64S.calls kj10 _ _ t266 _ _ t257 false _ ?side1 ?side2 ?side3 ?side4 A48.out).mono ?_); (case side1 => exact uC ((Kd.R_reads' HO_7.out).2.2)); (case side2 => exact (Kd.R_reads' HO_7.out).2.1); (case side3 => exact uC ((Kd.R_reads' HO_4.out).2.2)); (case side4 => exact (Kd.R_reads' HO_4.out).2.1); rintro e w' ⟨rfl, ⟨nd, rfl⟩⟩))
         go_meet
         case rel => exact ⟨_, (true), (by first | rfl | (simp; done) | (simp [*]; done)), H', ⟨by have := HJ10.out; first | omega | exact Nat.le_refl _⟩, ⟨uR (Kd.R_mono HO_4.out (fun _ hk => ⟨hk.1, hk.2.1⟩))⟩, ⟨uR (Kd.R_mono HO_7.out (fun _ hk => ⟨hk.1, hk.2.1⟩))⟩, ⟨uR (Kd.R_mono HO_266001.out (fun _ hk => ⟨hk.1.1, hk.1.2⟩))⟩, ⟨uB BK251.out⟩, ⟨uB BK265.out⟩, ⟨uH HB.out⟩⟩
      case rest =>
       clear HC39
       try clear c1
       try clear c2
       try clear p2
       try clear c3
       try clear c3b0
       try clear c4
       try clear c16
       try clear c17
       try clear c18
       try clear c19
       try clear c20
       try clear c21
       try clear c22
       try clear c29
       try clear c34
       try clear c37
       try clear c44
       try clear c47
       try clear c47b0
       try clear c49
       try clear hcz13_0
       try clear hcz13_1
       try clear hcz15_0
       try clear hcz15_1
       try clear hcz19_0
       try clear hcz19_1
       try clear hcz23_0
       try clear hcz23_1
       try clear hcz26_0
       try clear hcz26_1
       try clear hcz45_0
       try clear hcz45_1
       try clear hcz5_0
       try clear hcz5_1
       try clear hfz13_0
       try clear hfz13_1
       try clear hfz15_0
       try clear hfz15_1
       try clear hfz19_0
       try clear hfz19_1
       try clear hfz23_0
       try clear hfz23_1
       try clear hfz26_0
       try clear hfz26_1
       try clear hfz45_0
       try clear hfz45_1
       try clear hfz5_0
       try clear hfz5_1
       try clear p2
       obtain ⟨kq, x61_38, rfl, HA, HJ38, HO_4, HO_7, HO_266001, BK251, BK265, HB⟩ := hcut
       have hl266001_38 := (Kd.R_reads' HO_266001.out).1
       rw [hl266001_38] at HO_266001
       (try simp only [hl266001_38])
       (try simp only [hl266001_38] at BK251)
       (try simp only [hl266001_38] at BK265)
       (try simp only [hl266001_38] at HO_4)
       (try simp only [hl266001_38] at HO_7)
       cases kq with
       | zero => exact absurd HA.out (by simp [laws_FnExactStepsOf.j1])
       | succ kj38 =>
        have H := HA.out
        clear HA
        simp only [laws_FnExactStepsOf.j1] at H
        by_cases c54 : x61_38 = true
        ·subst c54
         have H1 : (some false) = some r := by rw [if_pos rfl] at H; exact H
         clear H
         have H := H1
         clear H1
         rw [HRT.out] at H
         exact absurd H (by simp)
        ·replace c54 := Bool.eq_false_iff.mpr c54
         subst c54
         have H1 : ((laws_markInt64S.f kj38 t266 1).bind fun bt279 => ((laws_heldInt64S.f kj38 bt279.2 1).bind fun t281 => (if t281 < 0 then (some false) else (if t281 = bt279.1 then ((laws_toMoments.f kj38 a0_0 l0_1).bind fun bt282 => ((impl_StepsOf.f kj38 bt282.1 bt282.2).bind fun bt286 => ((laws_eqInt64S.f kj38 bt286.1 t257).bind fun t290 => (if t290 = true then (laws_FnExactStepsOf.j2 kj38 bt279.2 bt279.1 (bt286.2 != t260)) else (laws_FnExactStepsOf.j2 kj38 bt279.2 bt279.1 true))))) else (some false))))) = some r := by rw [if_neg (show ¬ (false = true) by decide)] at H; exact H
         clear H
         have H := H1
         clear H1
         replace H := Option.bind_eq_some_iff.mp H
         obtain ⟨⟨t279, t280⟩, A550, H⟩ := H
         replace H : ((laws_heldInt64S.f kj38 t280 1).bind fun t281 => (if t281 < 0 then (some false) else (if t281 = t279 then ((laws_toMoments.f kj38 a0_0 l0_1).bind fun bt282 => ((impl_StepsOf.f kj38 bt282.1 bt282.2).bind fun bt286 => ((laws_eqInt64S.f kj38 bt286.1 t257).bind fun t290 => (if t290 = true then (laws_FnExactStepsOf.j2 kj38 t280 t279 (bt286.2 != t260)) else (laws_FnExactStepsOf.j2 kj38 t280 t279 true))))) else (some false)))) = some r := H
         have A55 := zA A550
         clear A550
         replace H := Option.bind_eq_some_iff.mp H
         obtain ⟨t281, A560, H⟩ := H
         replace H : (if t281 < 0 then (some false) else (if t281 = t279 then ((laws_toMoments.f kj38 a0_0 l0_1).bind fun bt282 => ((impl_StepsOf.f kj38 bt282.1 bt282.2).bind fun bt286 => ((laws_eqInt64S.f kj38 bt286.1 t257).bind fun t290 => (if t290 = true then (laws_FnExactStepsOf.j2 kj38 t280 t279 (bt286.2 != t260)) else (laws_FnExactStepsOf.j2 kj38 t280 t279 true))))) else (some false))) = some r := H
         have A56 := zA A560
         clear A560
         by_cases c57 : t281 < 0
         ·rw [if_pos c57] at H
          have c57b0 : decide (t281 < 0) = true := decide_eq_true c57
          clear c57
          rw [HRT.out] at H
          exact absurd H (by simp)
         ·rw [if_neg c57] at H
          have c57b0 : decide (t281 < 0) = false := decide_eq_false c57
          clear c57
          by_cases c58 : t281 = t279
          ·rw [if_pos c58] at H
           have c58b0 : (t281 == t279) = true := beq_iff_eq.mpr c58
           have c58b1 : (t281 != t279) = false := bne_eq_false_iff_eq.mpr c58
           clear c58
           replace H := Option.bind_eq_some_iff.mp H
           obtain ⟨⟨t282, t283⟩, A590, H⟩ := H
           replace H : ((impl_StepsOf.f kj38 t282 t283).bind fun bt286 => ((laws_eqInt64S.f kj38 bt286.1 t257).bind fun t290 => (if t290 = true then (laws_FnExactStepsOf.j2 kj38 t280 t279 (bt286.2 != t260)) else (laws_FnExactStepsOf.j2 kj38 t280 t279 true)))) = some r := H
           have A59 := zA A590
           clear A590
           replace H := Option.bind_eq_some_iff.mp H
           obtain ⟨⟨t286, t289⟩, A600, H⟩ := H
           replace H : ((laws_eqInt64S.f kj38 t286 t257).bind fun t290 => (if t290 = true then (laws_FnExactStepsOf.j2 kj38 t280 t279 (t289 != t260)) else (laws_FnExactStepsOf.j2 kj38 t280 t279 true))) = some r := H
           have A60 := zA A600
           clear A600
           have HC61 := zA H
           clear H
           obtain ⟨Ao62, co62, eo62⟩ := Kd.R_slice HO_7.out
           subst eo62
           go_upto_region 25 with (first | ((with_reducible refine gate_callee (f := 23) rfl ?_); refine goesL_ (some 64) rfl rfl Try.func23 (by kernel_rfl) rfl #[.slice Ao62 t266.length co62, .int .i64 1] rfl (by (try simp only [la, lb, lc]); first | done | rfl | (simp only [ld, le]; rfl)) ?_; (with_reducible refine (laws_markInt64S.calls kj38 (fun k_ => some k_ = (.slice Ao62 t266.length co62 : Value).ownBlock) (.slice Ao62 t266.length co62) t266 1 t279 t280 w _ ?side1 ?side2 A55.out).mono ?_); (case side1 => repeat (first | (with_reducible first | exact HB.out | apply below_alloc | apply pw_below_drewN | apply below_drew1 | refine below_set ?_ GE251.out | refine below_set ?_ GE265.out) | exact HB.out)); (case side2 => exact Kd.R_tight rfl HO_7.out); rintro e w63 ⟨rfl, hy0, hb, hkp⟩; refine ⟨_, rfl, ?_⟩; have n0_ := zA (Kd.R_mono (ok' := fun k_ => some k_ ≠ (.slice Ao62 t266.length co62 : Value).ownBlock ∧ some k_ ≠ (.slice Ao24 t277.length co24 : Value).ownBlock) (Kd.R_keptB (HO_4.out) hkp (fun k_ hk_ hs_ => (hk_.1) hs_)) (fun k_ hk_ => ⟨hk_.1.1, hk_.1.2⟩)); have n1_ := zA (Kd.R_reok rfl hy0 (fun k_ e_ => HO_7.out.1 k_ e_)); have n2_ := zA (Kd.R_mono (ok' := fun k_ => some k_ ≠ (v258 : Value).ownBlock ∧ some k_ ≠ (.slice Ao62 t266.length co62 : Value).ownBlock) (Kd.R_keptB (HO_266001.out) hkp (fun k_ hk_ hs_ => (hk_.2) hs_)) (fun k_ hk_ => ⟨hk_.1.1, hk_.1.2⟩)); have n3_ := zA (blk_kept (uB BK251.out) hkp (fun hs_ => (fun e_ => (Kd.R_ne HO_7.out BK251.out (by decide)) e_) hs_)); have n4_ := zA (blk_kept (uB BK265.out) hkp (fun hs_ => (fun e_ => (Kd.R_ne HO_7.out BK265.out (by decide)) e_) hs_)); have n5_ := zA (hb); clear HO_4 HO_7 HO_266001 BK251 BK265 HB; have HO_4 := n0_; have HO_7 := n1_; have HO_266001 := n2_; have BK251 := n3_; have BK265 := n4_; have HB := n5_; clear n0_ n1_ n2_ n3_ n4_ n5_; (try clear hb); (try clear hkp); (try clear hy0)) | ((with_reducible refine gate_callee (f := 24) rfl ?_); refine goesL_ (some 67) rfl rfl Try.func24 (by kernel_rfl) rfl #[.slice Ao62 t280.length co62, .int .i64 1] rfl (by (try simp only [la, lb, lc]); first | done | (rw [show t280.length = t266.length from (Kd.R_reads' HO_7.out).1.symm] <;> rfl) | rfl | (simp only [ld, le]; rfl)) ?_; (with_reducible refine (laws_heldInt64S.calls kj38 _ _ t280 1 t281 _ ?side1 ?side2 A56.out).mono ?_); (case side1 => exact uC ((Kd.R_reads' HO_7.out).2.2)); (case side2 => rw [show t280.length = t266.length from (Kd.R_reads' HO_7.out).1.symm]; exact (Kd.R_reads' HO_7.out).2.1); rintro e w' ⟨rfl, ⟨nd, rfl⟩⟩; refine ⟨_, rfl, ?_⟩; have hnb64 := NB251_265.out; have hnc64 := NB265_251.out; have hcz65_0 : w63.cell? ⟨gb251, 0, none⟩ = some (.int .i64 a0_0) := (blk_cell BK251.out 0).trans rfl; have hcz65_1 : w63.cell? ⟨gb251, 1, none⟩ = some (.slice A0_1 l0_1.length c0_1) := (blk_cell BK251.out 1).trans rfl; have hfz65_0 := blk_frozen BK251.out 0; have hfz65_1 := blk_frozen BK251.out 1) | ((with_reducible refine gate_callee (f := 18) rfl ?_); refine goesL_ (some 75) rfl rfl Try.func18 (by kernel_rfl) rfl #[.agg #[.int .i64 a0_0, .slice A0_1 l0_1.length c0_1]] rfl (by (try simp only [la, lb, lc]); first | done | rfl | (simp only [ld, le]; rfl)) ?_; (with_reducible refine (laws_toMoments.calls kj38 a0_0 _ _ l0_1 t282 t283 _ ?side1 ?side2 A59.out).mono ?_); (case side1 => repeat (first | exact (Kd.C_below HR0_1.out (uH HB.out)) | (with_reducible refine Kd.C_alloc ?_ _) | (with_reducible refine Kd.C_drewN ?_ _) | (with_reducible refine Kd.C_drew ?_))); (case side2 => exact HC0_1.out); rintro e w66 ⟨v284, rfl, ho0, hb⟩; refine ⟨_, rfl, ?_⟩; have n0_ := zA (Kd.R_elder' (uR HO_4.out) (Kd.R_base ho0) hb); have n1_ := zA (Kd.R_elder' (uR HO_7.out) (Kd.R_base ho0) hb); have n2_ := zA (Kd.R_elder' (uR HO_266001.out) (Kd.R_base ho0) hb); have n3_ := zA (Kd.R_lower (Kd.R_new' (Kd.R_new' (Kd.R_new' ho0 (Kd.R_lt (uR HO_4.out))) (Kd.R_lt (uR HO_7.out))) (Kd.R_lt (uR HO_266001.out))) (below_size (uH HB.out))); have n4_ := xB BK251 hb; have n5_ := xB BK265 hb; have n6_ := xH HB hb; clear HO_4 HO_7 HO_266001 BK251 BK265 HB; have HO_4 := n0_; have HO_7 := n1_; have HO_266001 := n2_; have HO285 := n3_; have BK251 := n4_; have BK265 := n5_; have HB := n6_; clear n0_ n1_ n2_ n3_ n4_ n5_ n6_; (try clear hb); (try clear hb2); (try clear hk); (try clear hi); (try clear ho0); obtain ⟨Ao67, co67, eo67⟩ := Kd.R_slice HO285.out; subst eo67) | ((with_reducible refine gate_callee (f := 19) rfl ?_); refine goesL_ (some 76) rfl rfl Try.func19 (by kernel_rfl) rfl #[.agg #[.int .i64 t282, .slice Ao67 t283.length co67]] rfl (by (try simp only [la, lb, lc]); first | done | rfl | (simp only [ld, le]; rfl)) ?_; (with_reducible refine (impl_StepsOf.calls kj38 t282 (fun k_ => some k_ = (.slice Ao67 t283.length co67 : Value).ownBlock) _ _ t283 t286 t289 _ ?side1 A60.out).mono ?_); (case side1 => exact Kd.R_V (Kd.R_tight rfl (Kd.R_types (Kd.R_types (HO285.out) BK251.out (by decide)) BK265.out (by decide)))); rintro e w68 ⟨v287, rfl, ho0, hb⟩; refine ⟨_, rfl, ?_⟩; have n0_ := zA (Kd.R_elder' (uR HO_4.out) (Kd.R_base ho0) hb); have n1_ := zA (Kd.R_elder' (uR HO_7.out) (Kd.R_base ho0) hb); have n2_ := zA (Kd.R_elder' (uR HO_266001.out) (Kd.R_base ho0) hb); have n3_ := zA (Kd.R_elder' (uR HO285.out) (Kd.R_base ho0) hb); have n4_ := zA (Kd.R_lower (Kd.R_new' (Kd.R_new' (Kd.R_new' (Kd.R_new' (Kd.R_mono (ok' := fun k_ => True) ho0 (fun _ hk_ => trivial)) (Kd.R_lt (uR HO_4.out))) (Kd.R_lt (uR HO_7.out))) (Kd.R_lt (uR HO_266001.out))) (Kd.R_lt (uR HO285.out))) (below_size (uH HB.out))); have n5_ := xB BK251 hb; have n6_ := xB BK265 hb; have n7_ := xH HB hb; clear HO_4 HO_7 HO_266001 HO285 BK251 BK265 HB; have HO_4 := n0_; have HO_7 := n1_; have HO_266001 := n2_; have HO285 := n3_; have HO288 := n4_; have BK251 := n5_; have BK265 := n6_; have HB := n7_; clear n0_ n1_ n2_ n3_ n4_ n5_ n6_ n7_; (try clear hb); (try clear hb2); (try clear hk); (try clear hi); (try clear ho0)))
           (try simp only [Act.put, ls, lz, ln])
           go_cut [87] (fun v87 wc => ∃ (kq : Nat) (x87_60 : Bool), v87 = .bool x87_60 ∧ Aside0 (laws_FnExactStepsOf.j2 kq t280 t279 x87_60 = some r) ∧ Aside0 (kq ≤ kj38) ∧ Aside0 (Kd.R (Kd.int .i64) 2 wc w.heap.size (fun k_ => some k_ ≠ ((.slice Ao24 t277.length co24) : Value).ownBlock) (.slice Ao62 t266.length co62) t280) ∧ Aside0 (Kd.R (Kd.int .i64) 2 wc w.heap.size (fun k_ => some k_ ≠ ((.slice Ao62 t266.length co62) : Value).ownBlock) (.slice Ao24 t277.length co24) t277) ∧ Aside0 (wc.heap[gb251]? = some (.cells #[.int .i64 a0_0, (.slice A0_1 l0_1.length c0_1)] 37 (0, 0))) ∧ Aside0 (wc.heap[gb265]? = some (.cells #[.int .i64 t261, (.slice Ao24 t277.length co24)] 41 (0, 0))) ∧ Aside0 (Below w.heap.size w wc))
           case first =>
            have H := HC61.out
            clear HC61
            replace H := Option.bind_eq_some_iff.mp H
            obtain ⟨t290, A690, H⟩ := H
            replace H : (if t290 = true then (laws_FnExactStepsOf.j2 kj38 t280 t279 (t289 != t260)) else (laws_FnExactStepsOf.j2 kj38 t280 t279 true)) = some r := H
            have A69 := zA A690
            clear A690
            by_cases c70 : t290 = true
            ·subst c70
             have H1 : (laws_FnExactStepsOf.j2 kj38 t280 t279 (t289 != t260)) = some r := by rw [if_pos rfl] at H; exact H
             clear H
             have H := H1
             clear H1
             have H' := zA H
             clear H
             obtain ⟨Ao71, co71, eo71⟩ := Kd.R_slice HO288.out
             subst eo71
             obtain ⟨Ao72, co72, eo72⟩ := Kd.R_slice HO_4.out
             subst eo72
             go_wp2_with (first | ((with_reducible refine gate_callee (f := 20) rfl ?_); refine goesL_ (some 81) rfl rfl Try.func20 (by kernel_rfl) rfl #[.slice Ao71 t286.length co71, .slice Ao72 t257.length co72] rfl (by (try simp only [la, lb, lc]); first | done | rfl | (simp only [ld, le]; rfl)) ?_; (with_reducible refine (laws_eqInt64S.calls kj38 _ _ t286 _ _ t257 true _ ?side1 ?side2 ?side3 ?side4 A69.out).mono ?_); (case side1 => exact uC ((Kd.R_reads' HO288.out).2.2)); (case side2 => exact (Kd.R_reads' HO288.out).2.1); (case side3 => exact uC ((Kd.R_reads' HO_4.out).2.2)); (case side4 => exact (Kd.R_reads' HO_4.out).2.1); rintro e w' ⟨rfl, ⟨nd, rfl⟩⟩; refine ⟨_, rfl, ?_⟩))
             go_meet
             case rel => exact ⟨_, ((t289 != t260)), (by first | rfl | (simp; done) | (simp [*]; done)), H', ⟨by have := HJ10.out; have := HJ38.out; first | omega | exact Nat.le_refl _⟩, ⟨by (try simp only [hl266001_38]); (with_reducible repeat (first | apply Kd.R_alloc | apply Kd.R_drewN | apply Kd.R_drew)); exact Kd.R_mono HO_7.out (fun _ hk => hk.1.1.2)⟩, ⟨by (try simp only [hl266001_38]); (with_reducible repeat (first | apply Kd.R_alloc | apply Kd.R_drewN | apply Kd.R_drew)); exact Kd.R_mono HO_266001.out (fun _ hk => hk.1.1.2)⟩, ⟨by (try simp only [hl266001_38]); (with_reducible repeat (first | refine blk_drewN ?_ _ | refine blk_drew ?_ | refine blk_alloc ?_ _)); exact BK251.out⟩, ⟨by (try simp only [hl266001_38]); (with_reducible repeat (first | refine blk_drewN ?_ _ | refine blk_drew ?_ | refine blk_alloc ?_ _)); exact BK265.out⟩, ⟨uH HB.out⟩⟩
            ·replace c70 := Bool.eq_false_iff.mpr c70
             subst c70
             have H1 : (laws_FnExactStepsOf.j2 kj38 t280 t279 true) = some r := by rw [if_neg (show ¬ (false = true) by decide)] at H; exact H
             clear H
             have H := H1
             clear H1
             have H' := zA H
             clear H
             obtain ⟨Ao73, co73, eo73⟩ := Kd.R_slice HO288.out
             subst eo73
             obtain ⟨Ao74, co74, eo74⟩ := Kd.R_slice HO_4.out
             subst eo74
             go_wp2_with (first | ((with_reducible refine gate_callee (f := 20) rfl ?_); refine goesL_ (some 81) rfl rfl Try.func20 (by kernel_rfl) rfl #[.slice Ao73 t286.length co73, .slice Ao74 t257.length co74] rfl (by (try simp only [la, lb, lc]); first | done | rfl | (simp only [ld, le]; rfl)) ?_; (with_reducible refine (laws_eqInt64S.calls kj38 _ _ t286 _ _ t257 false _ ?side1 ?side2 ?side3 ?side4 A69.out).mono ?_); (case side1 => exact uC ((Kd.R_reads' HO288.out).2.2)); (case side2 => exact (Kd.R_reads' HO288.out).2.1); (case side3 => exact uC ((Kd.R_reads' HO_4.out).2.2)); (case side4 => exact (Kd.R_reads' HO_4.out).2.1); rintro e w' ⟨rfl, ⟨nd, rfl⟩⟩; refine ⟨_, rfl, ?_⟩))
             go_meet
             case rel => exact ⟨_, (true), (by first | rfl | (simp; done) | (simp [*]; done)), H', ⟨by have := HJ10.out; have := HJ38.out; first | omega | exact Nat.le_refl _⟩, ⟨by (try simp only [hl266001_38]); (with_reducible repeat (first | apply Kd.R_alloc | apply Kd.R_drewN | apply Kd.R_drew)); exact Kd.R_mono HO_7.out (fun _ hk => hk.1.1.2)⟩, ⟨by (try simp only [hl266001_38]); (with_reducible repeat (first | apply Kd.R_alloc | apply Kd.R_drewN | apply Kd.R_drew)); exact Kd.R_mono HO_266001.out (fun _ hk => hk.1.1.2)⟩, ⟨by (try simp only [hl266001_38]); (with_reducible repeat (first | refine blk_drewN ?_ _ | refine blk_drew ?_ | refine blk_alloc ?_ _)); exact BK251.out⟩, ⟨by (try simp only [hl266001_38]); (with_reducible repeat (first | refine blk_drewN ?_ _ | refine blk_drew ?_ | refine blk_alloc ?_ _)); exact BK265.out⟩, ⟨uH HB.out⟩⟩
           case rest =>
            clear HC61
            try clear c1
            try clear c2
            try clear p2
            try clear c3
            try clear c3b0
            try clear c4
            try clear c5
            try clear c6
            try clear c7
            try clear c16
            try clear c17
            try clear c18
            try clear c19
            try clear c20
            try clear c21
            try clear c22
            try clear c23
            try clear c24
            try clear c29
            try clear c34
            try clear c37
            try clear c44
            try clear c47
            try clear c47b0
            try clear c49
            try clear c54
            try clear c57
            try clear c57b0
            try clear c58
            try clear c58b0
            try clear c58b1
            try clear c64
            try clear c70
            try clear hcz13_0
            try clear hcz13_1
            try clear hcz15_0
            try clear hcz15_1
            try clear hcz19_0
            try clear hcz19_1
            try clear hcz23_0
            try clear hcz23_1
            try clear hcz26_0
            try clear hcz26_1
            try clear hcz45_0
            try clear hcz45_1
            try clear hcz5_0
            try clear hcz5_1
            try clear hcz65_0
            try clear hcz65_1
            try clear hfz13_0
            try clear hfz13_1
            try clear hfz15_0
            try clear hfz15_1
            try clear hfz19_0
            try clear hfz19_1
            try clear hfz23_0
            try clear hfz23_1
            try clear hfz26_0
            try clear hfz26_1
            try clear hfz45_0
            try clear hfz45_1
            try clear hfz5_0
            try clear hfz5_1
            try clear hfz65_0
            try clear hfz65_1
            try clear p2
            obtain ⟨kq, x87_60, rfl, HA, HJ60, HO_7, HO_266001, BK251, BK265, HB⟩ := hcut
            have hl7_60 := (Kd.R_reads' HO_7.out).1
            rw [hl7_60] at HO_7
            (try simp only [hl7_60])
            (try simp only [hl7_60] at BK251)
            (try simp only [hl7_60] at BK265)
            (try simp only [hl7_60] at HO_266001)
            cases kq with
            | zero => exact absurd HA.out (by simp [laws_FnExactStepsOf.j2])
            | succ kj60 =>
             have H := HA.out
             clear HA
             simp only [laws_FnExactStepsOf.j2] at H
             by_cases c75 : x87_60 = true
             ·subst c75
              have H1 : (some false) = some r := by rw [if_pos rfl] at H; exact H
              clear H
              have H := H1
              clear H1
              rw [HRT.out] at H
              exact absurd H (by simp)
             ·replace c75 := Bool.eq_false_iff.mpr c75
              subst c75
              have H1 : ((laws_heldInt64S.f kj60 t280 1).bind fun t291 => (if t291 < 0 then (some false) else (if t291 = t279 then (some true) else (some false)))) = some r := by rw [if_neg (show ¬ (false = true) by decide)] at H; exact H
              clear H
              have H := H1
              clear H1
              replace H := Option.bind_eq_some_iff.mp H
              obtain ⟨t291, A760, H⟩ := H
              replace H : (if t291 < 0 then (some false) else (if t291 = t279 then (some true) else (some false))) = some r := H
              have A76 := zA A760
              clear A760
              by_cases c77 : t291 < 0
              ·rw [if_pos c77] at H
               have c77b0 : decide (t291 < 0) = true := decide_eq_true c77
               clear c77
               rw [HRT.out] at H
               exact absurd H (by simp)
              ·rw [if_neg c77] at H
               have c77b0 : decide (t291 < 0) = false := decide_eq_false c77
               clear c77
               by_cases c78 : t291 = t279
               ·rw [if_pos c78] at H
                have c78b0 : (t291 == t279) = true := beq_iff_eq.mpr c78
                have c78b1 : (t291 != t279) = false := bne_eq_false_iff_eq.mpr c78
                clear c78
                obtain rfl := Option.some.inj H
                go_wp2_with (first | ((with_reducible refine gate_callee (f := 24) rfl ?_); refine goesL_ (some 90) rfl rfl Try.func24 (by kernel_rfl) rfl #[.slice Ao62 t280.length co62, .int .i64 1] rfl (by (try simp only [la, lb, lc]); first | done | rfl | (simp only [ld, le]; rfl)) ?_; (with_reducible refine (laws_heldInt64S.calls kj60 _ _ t280 1 t291 _ ?side1 ?side2 A76.out).mono ?_); (case side1 => exact uC ((Kd.R_reads' HO_7.out).2.2)); (case side2 => exact (Kd.R_reads' HO_7.out).2.1); rintro e w' ⟨rfl, ⟨nd, rfl⟩⟩; refine ⟨_, rfl, ?_⟩))
                go_ret
                exact ⟨by first | rfl | (simp [errW_none, errW_some] <;> rfl) | (simp [*, errW_none, errW_some] <;> rfl), uH HB.out⟩
               ·rw [if_neg c78] at H
                have c78b0 : (t291 == t279) = false := beq_eq_false_iff_ne.mpr c78
                have c78b1 : (t291 != t279) = true := bne_iff_ne.mpr c78
                rw [HRT.out] at H
                exact absurd H (by simp)
          ·rw [if_neg c58] at H
           have c58b0 : (t281 == t279) = false := beq_eq_false_iff_ne.mpr c58
           have c58b1 : (t281 != t279) = true := bne_iff_ne.mpr c58
           rw [HRT.out] at H
           exact absurd H (by simp)
     ·replace c37 := Bool.eq_false_iff.mpr c37
      subst c37
      have H1 : (some false) = some r := by rw [if_neg (show ¬ (false = true) by decide)] at H; exact H
      clear H
      have H := H1
      clear H1
      rw [HRT.out] at H
      exact absurd H (by simp)

/-- THE ONE PURE STATEMENT of laws_FnExactStepsOf: yours. -/
def laws_FnExactStepsOf.Pure : Prop := ∀ (a0_0 : Int) (l0_1 : List Int), (Lit.int .i64 a0_0).wf = true → l0_1.length ≤ maxLen → (∀ x ∈ l0_1, (Lit.int .i64 x).wf = true) → ∃ k, laws_FnExactStepsOf.f k a0_0 l0_1 = some true
theorem laws_FnExactStepsOf.walk (P : laws_FnExactStepsOf.Pure) (a0_0 : Int) (a0_1 : Option Addr) (len0_1 cap0_1 : Nat) (z0_1 : List Int) (w : World) (w0_0 : (Lit.int .i64 a0_0).wf = true) (w0_1 : (a0_1 = none ∧ len0_1 = 0 ∧ cap0_1 = 0 ∧ z0_1 = []) ∨ ∃ x, a0_1 = some x ∧ len0_1 ≤ cap0_1 ∧ cap0_1 ≤ maxLen ∧ z0_1.length = cap0_1 ∧ (∀ i, i < z0_1.length → w.cell? (x.add i) = some (.int .i64 (z0_1.getD i 0))) ∧ ∀ n ∈ z0_1, (Lit.int .i64 n).wf = true) :
  Calls Try.prog 4 #[.agg #[.int .i64 a0_0, .slice a0_1 len0_1 cap0_1]] w fun e w' => e = .returned (.bool true) ∧ Below w.heap.size w w' := by
 obtain ⟨l0_1, rfl, hr0_1, hm0_1, hw0_1, hc0_1⟩ := ReadsInt.ofRowC w0_1
 obtain ⟨k, h⟩ := P a0_0 l0_1 w0_0 hm0_1 hw0_1
 refine (laws_FnExactStepsOf.calls k a0_0 _ _ l0_1 true rfl w (Kd.C_of_reads (d := (0 : Int)) (h1 := fun _ => rfl) hr0_1) hc0_1 h).mono ?_
 rintro e w' ⟨rfl, hd⟩
 exact ⟨rfl, hd⟩

end Go.Proofs.Ytjdannndpfkadaa.Pr
