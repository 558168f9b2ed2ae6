/- Printed by a program of this session out of the translation: what these functions of the program compute, under the conditions that each theorem names. -/
import Derived.Test.YtokkabgkjhpecaaKAffineMoments1
import Derived.Test.YtokkabgkjhpecaaKAffineMoments2
import Derived.Test.YtokkabgkjhpecaaKAffineMoments3
import Derived.Test.YtokkabgkjhpecaaKFspecAffineMoments
import Derived.Test.YtokkabgkjhpecaaKFimplAffineMoments
namespace Go.Proofs.Ytokkabgkjhpecaa.Pr
open Go.RowKit Go.Proofs.YtokkabgkjhpecaaW.PrintWords Go.Proofs.YtokkabgkjhpecaaW.PrintLast Go.Proofs.YtokkabgkjhpecaaW.PrintMore
attribute [local go_sem] max2_int min2_int max_two min_two max_three min_three max_four min_four   -- for this text's walks alone
set_option linter.unusedVariables false
set_option linter.unusedSimpArgs false

/-! ### laws_FnExactAffineMoments: function 9 -/
mutual
def laws_FnExactAffineMoments.j0 : Nat → Int → Int → Int → Int → Bool → Int → List Int → Int → List Int → Int → List Int → Int → List Int → Option (Bool)
 | 0, _, _, _, _, _, _, _, _, _, _, _, _, _ => none
 | k + 1, x1, x2, x9, x12, x48, x1054000, x1054001, x1065000, x1065001, x1070000, x1070001, x1076000, x1076001 => if x48 = true then (some false) else ((laws_toMoments.f k x1054000 x1054001).bind fun bt1077 => ((laws_eqMoments.f k x1070000 x1070001 bt1077.1 bt1077.2).bind fun t1081 => (if t1081 = true then ((laws_markMoments.f k x1070000 x1070001 1).bind fun bt1082 => (if bt1082.1 < 0 then (laws_FnExactAffineMoments.j1 k x1 x2 x9 true x1054000 x1054001 x1065000 x1065001 x1076000 x1076001) else ((laws_eqMoments.f k x1076000 x1076001 x1065000 x1065001).bind fun t1084 => (if t1084 = true then (laws_FnExactAffineMoments.j1 k x1 x2 x9 (x12 != x9) x1054000 x1054001 x1065000 x1065001 x1076000 x1076001) else (laws_FnExactAffineMoments.j1 k x1 x2 x9 true x1054000 x1054001 x1065000 x1065001 x1076000 x1076001))))) else (some false))))
def laws_FnExactAffineMoments.j1 : Nat → Int → Int → Int → Bool → Int → List Int → Int → List Int → Int → List Int → Option (Bool)
 | 0, _, _, _, _, _, _, _, _, _, _ => none
 | k + 1, x1, x2, x9, x69, x1054000, x1054001, x1065000, x1065001, x1076000, x1076001 => if x69 = true then (some false) else ((laws_markMoments.f k x1076000 x1076001 1).bind fun bt1085 => ((laws_heldMoments.f k x1076000 bt1085.2 1).bind fun t1087 => (if t1087 < 0 then (some false) else (if t1087 = bt1085.1 then ((laws_toMoments.f k x1054000 x1054001).bind fun bt1088 => ((impl_AffineMoments.f k bt1088.1 bt1088.2 x1 x2).bind fun bt1092 => ((laws_eqMoments.f k bt1092.1 bt1092.2.1 x1065000 x1065001).bind fun t1098 => (if t1098 = true then (laws_FnExactAffineMoments.j2 k bt1085.1 (bt1092.2.2 != x9) x1076000 bt1085.2) else (laws_FnExactAffineMoments.j2 k bt1085.1 true x1076000 bt1085.2))))) else (some false)))))
def laws_FnExactAffineMoments.j2 : Nat → Int → Bool → Int → List Int → Option (Bool)
 | 0, _, _, _, _ => none
 | k + 1, x14, x97, x1076000, x1076001 => if x97 = true then (some false) else ((laws_heldMoments.f k x1076000 x1076001 1).bind fun t1099 => (if t1099 < 0 then (some false) else (if t1099 = x14 then (some true) else (some false))))
end
def laws_FnExactAffineMoments.f (k : Nat) (a0_0 : Int) (l0_1 : List Int) (a1 : Int) (a2 : Int) : Option (Bool) := (laws_szMoments.f a0_0 l0_1 1048576).bind fun t1054 => (if t1054 < 0 then (some true) else ((laws_toMoments.f k a0_0 l0_1).bind fun bt1055 => ((spec_AffineMoments.f k bt1055.1 bt1055.2 a1 a2).bind fun bt1059 => ((laws_toMoments.f k a0_0 l0_1).bind fun bt1065 => ((impl_AffineMoments.f k bt1065.1 bt1065.2 a1 a2).bind fun bt1070 => ((laws_eqMoments.f k bt1070.1 bt1070.2.1 bt1059.1 bt1059.2.1).bind fun t1076 => (if t1076 = true then (laws_FnExactAffineMoments.j0 k a1 a2 bt1059.2.2 bt1070.2.2 (bt1070.2.2 != bt1059.2.2) a0_0 l0_1 bt1059.1 bt1059.2.1 bt1065.1 bt1065.2 bt1070.1 bt1070.2.1) else (laws_FnExactAffineMoments.j0 k a1 a2 bt1059.2.2 bt1070.2.2 true a0_0 l0_1 bt1059.1 bt1059.2.1 bt1065.1 bt1065.2 bt1070.1 bt1070.2.1))))))))
theorem laws_FnExactAffineMoments.mono_l : ∀ k, (∀ y0 y1 y2 y3 y4 y5 y6 y7 y8 y9 y10 y11 y12, LeO (laws_FnExactAffineMoments.j0 k y0 y1 y2 y3 y4 y5 y6 y7 y8 y9 y10 y11 y12) (laws_FnExactAffineMoments.j0 (k + 1) y0 y1 y2 y3 y4 y5 y6 y7 y8 y9 y10 y11 y12)) ∧ (∀ y0 y1 y2 y3 y4 y5 y6 y7 y8 y9, LeO (laws_FnExactAffineMoments.j1 k y0 y1 y2 y3 y4 y5 y6 y7 y8 y9) (laws_FnExactAffineMoments.j1 (k + 1) y0 y1 y2 y3 y4 y5 y6 y7 y8 y9)) ∧ (∀ y0 y1 y2 y3, LeO (laws_FnExactAffineMoments.j2 k y0 y1 y2 y3) (laws_FnExactAffineMoments.j2 (k + 1) y0 y1 y2 y3))
 | 0 => ⟨fun _ _ _ _ _ _ _ _ _ _ _ _ _ r h => by simp [laws_FnExactAffineMoments.j0] at h, fun _ _ _ _ _ _ _ _ _ _ r h => by simp [laws_FnExactAffineMoments.j1] at h, fun _ _ _ _ r h => by simp [laws_FnExactAffineMoments.j2] at h⟩
 | k + 1 => by
  obtain ⟨ih0, ih1, ih2⟩ := laws_FnExactAffineMoments.mono_l k
  refine ⟨?_, ?_, ?_⟩
  ·intro y0 y1 y2 y3 y4 y5 y6 y7 y8 y9 y10 y11 y12
   unfold laws_FnExactAffineMoments.j0
   repeat' first
   | (with_reducible exact ih0 _ _ _ _ _ _ _ _ _ _ _ _ _)
   | (with_reducible exact ih1 _ _ _ _ _ _ _ _ _ _)
   | (with_reducible exact ih2 _ _ _ _)
   | (with_reducible exact impl_AffineMoments.mono _ _ _ _ _)
   | (with_reducible exact laws_eqMoments.mono _ _ _ _ _)
   | (with_reducible exact laws_heldMoments.mono _ _ _ _)
   | (with_reducible exact laws_markMoments.mono _ _ _ _)
   | (with_reducible exact laws_toMoments.mono _ _ _)
   | (with_reducible exact spec_AffineMoments.mono _ _ _ _ _)
   | (with_reducible exact LeO.refl _)
   | (with_reducible exact LeO.none _)
   | (with_reducible refine LeO.ite ?_ ?_)
   | (with_reducible refine LeO.bind ?_ (fun _ => ?_))
   | exact ih0 _ _ _ _ _ _ _ _ _ _ _ _ _
   | exact ih1 _ _ _ _ _ _ _ _ _ _
   | exact ih2 _ _ _ _
   | exact impl_AffineMoments.mono _ _ _ _ _
   | exact laws_eqMoments.mono _ _ _ _ _
   | exact laws_heldMoments.mono _ _ _ _
   | exact laws_markMoments.mono _ _ _ _
   | exact laws_toMoments.mono _ _ _
   | exact spec_AffineMoments.mono _ _ _ _ _
   | exact LeO.none _
   | refine LeO.ite ?_ ?_
   | refine LeO.bind ?_ (fun _ => ?_)
  ·intro y0 y1 y2 y3 y4 y5 y6 y7 y8 y9
   unfold laws_FnExactAffineMoments.j1
   repeat' first
   | (with_reducible exact ih0 _ _ _ _ _ _ _ _ _ _ _ _ _)
   | (with_reducible exact ih1 _ _ _ _ _ _ _ _ _ _)
   | (with_reducible exact ih2 _ _ _ _)
   | (with_reducible exact impl_AffineMoments.mono _ _ _ _ _)
   | (with_reducible exact laws_eqMoments.mono _ _ _ _ _)
   | (with_reducible exact laws_heldMoments.mono _ _ _ _)
   | (with_reducible exact laws_markMoments.mono _ _ _ _)
   | (with_reducible exact laws_toMoments.mono _ _ _)
   | (with_reducible exact spec_AffineMoments.mono _ _ _ _ _)
   | (with_reducible exact LeO.refl _)
   | (with_reducible exact LeO.none _)
   | (with_reducible refine LeO.ite ?_ ?_)
   | (with_reducible refine LeO.bind ?_ (fun _ => ?_))
   | exact ih0 _ _ _ _ _ _ _ _ _ _ _ _ _
   | exact ih1 _ _ _ _ _ _ _ _ _ _
   | exact ih2 _ _ _ _
   | exact impl_AffineMoments.mono _ _ _ _ _
   | exact laws_eqMoments.mono _ _ _ _ _
   | exact laws_heldMoments.mono _ _ _ _
   | exact laws_markMoments.mono _ _ _ _
   | exact laws_toMoments.mono _ _ _
   | exact spec_AffineMoments.mono _ _ _ _ _
   | exact LeO.none _
   | refine LeO.ite ?_ ?_
   | refine LeO.bind ?_ (fun _ => ?_)
  ·intro y0 y1 y2 y3
   unfold laws_FnExactAffineMoments.j2
   repeat' first
   | (with_reducible exact ih0 _ _ _ _ _ _ _ _ _ _ _ _ _)
   | (with_reducible exact ih1 _ _ _ _ _ _ _ _ _ _)
   | (with_reducible exact ih2 _ _ _ _)
   | (with_reducible exact impl_AffineMoments.mono _ _ _ _ _)
   | (with_reducible exact laws_eqMoments.mono _ _ _ _ _)
   | (with_reducible exact laws_heldMoments.mono _ _ _ _)
   | (with_reducible exact laws_markMoments.mono _ _ _ _)
   | (with_reducible exact laws_toMoments.mono _ _ _)
   | (with_reducible exact spec_AffineMoments.mono _ _ _ _ _)
   | (with_reducible exact LeO.refl _)
   | (with_reducible exact LeO.none _)
   | (with_reducible refine LeO.ite ?_ ?_)
   | (with_reducible refine LeO.bind ?_ (fun _ => ?_))
   | exact ih0 _ _ _ _ _ _ _ _ _ _ _ _ _
   | exact ih1 _ _ _ _ _ _ _ _ _ _
   | exact ih2 _ _ _ _
   | exact impl_AffineMoments.mono _ _ _ _ _
   | exact laws_eqMoments.mono _ _ _ _ _
   | exact laws_heldMoments.mono _ _ _ _
   | exact laws_markMoments.mono _ _ _ _
   | exact laws_toMoments.mono _ _ _
   | exact spec_AffineMoments.mono _ _ _ _ _
   | exact LeO.none _
   | refine LeO.ite ?_ ?_
   | refine LeO.bind ?_ (fun _ => ?_)
theorem laws_FnExactAffineMoments.mono : ∀ a0 a1 a2 a3 k, LeO (laws_FnExactAffineMoments.f k a0 a1 a2 a3) (laws_FnExactAffineMoments.f (k + 1) a0 a1 a2 a3) := by
 intro a0 a1 a2 a3 k
 obtain ⟨ih0, ih1, ih2⟩ := laws_FnExactAffineMoments.mono_l k
 unfold laws_FnExactAffineMoments.f
 repeat' first
   | (with_reducible exact ih0 _ _ _ _ _ _ _ _ _ _ _ _ _)
   | (with_reducible exact ih1 _ _ _ _ _ _ _ _ _ _)
   | (with_reducible exact ih2 _ _ _ _)
   | (with_reducible exact impl_AffineMoments.mono _ _ _ _ _)
   | (with_reducible exact laws_eqMoments.mono _ _ _ _ _)
   | (with_reducible exact laws_heldMoments.mono _ _ _ _)
   | (with_reducible exact laws_markMoments.mono _ _ _ _)
   | (with_reducible exact laws_toMoments.mono _ _ _)
   | (with_reducible exact spec_AffineMoments.mono _ _ _ _ _)
   | (with_reducible exact LeO.refl _)
   | (with_reducible exact LeO.none _)
   | (with_reducible refine LeO.ite ?_ ?_)
   | (with_reducible refine LeO.bind ?_ (fun _ => ?_))
   | exact ih0 _ _ _ _ _ _ _ _ _ _ _ _ _
   | exact ih1 _ _ _ _ _ _ _ _ _ _
   | exact ih2 _ _ _ _
   | exact impl_AffineMoments.mono _ _ _ _ _
   | exact laws_eqMoments.mono _ _ _ _ _
   | exact laws_heldMoments.mono _ _ _ _
   | exact laws_markMoments.mono _ _ _ _
   | exact laws_toMoments.mono _ _ _
   | exact spec_AffineMoments.mono _ _ _ _ _
   | exact LeO.none _
   | refine LeO.ite ?_ ?_
   | refine LeO.bind ?_ (fun _ => ?_)
set_option maxHeartbeats 8000000 in
set_option maxRecDepth 100000 in
theorem laws_FnExactAffineMoments.calls (k : Nat) (a0_0 : Int) (A0_1 : Option Addr) (c0_1 : Nat) (l0_1 : List Int) (a1 : Int) (a2 : Int) (r : Bool) (hr_ : r = true) (w : World) (hr0_1 : Kd.C (Kd.int .i64) w A0_1 l0_1.length l0_1) (hc0_1 : l0_1.length ≤ c0_1) (h : laws_FnExactAffineMoments.f k a0_0 l0_1 a1 a2 = some r) :
  Calls Try.prog 9 #[.agg #[.int .i64 a0_0, .slice A0_1 l0_1.length c0_1], .int .i64 a1, .int .i64 a2] w fun e w' => e = .returned (.bool r) ∧ Below w.heap.size w w' := by
 have hu24 := Try.underlying24
 have hu31 := Try.underlying31
 have HRT := zA hr_
 clear hr_
 have HR0_1 := zA hr0_1
 have HC0_1 := zA hc0_1
 clear hr0_1 hc0_1
 have HB := zA (Below.refl w.heap.size w)
 have H : ((laws_szMoments.f a0_0 l0_1 1048576).bind fun t1054 => (if t1054 < 0 then (some true) else ((laws_toMoments.f k a0_0 l0_1).bind fun bt1055 => ((spec_AffineMoments.f k bt1055.1 bt1055.2 a1 a2).bind fun bt1059 => ((laws_toMoments.f k a0_0 l0_1).bind fun bt1065 => ((impl_AffineMoments.f k bt1065.1 bt1065.2 a1 a2).bind fun bt1070 => ((laws_eqMoments.f k bt1070.1 bt1070.2.1 bt1059.1 bt1059.2.1).bind fun t1076 => (if t1076 = true then (laws_FnExactAffineMoments.j0 k a1 a2 bt1059.2.2 bt1070.2.2 (bt1070.2.2 != bt1059.2.2) a0_0 l0_1 bt1059.1 bt1059.2.1 bt1065.1 bt1065.2 bt1070.1 bt1070.2.1) else (laws_FnExactAffineMoments.j0 k a1 a2 bt1059.2.2 bt1070.2.2 true a0_0 l0_1 bt1059.1 bt1059.2.1 bt1065.1 bt1065.2 bt1070.1 bt1070.2.1))))))))) = some r := h
 clear h
 replace H := Option.bind_eq_some_iff.mp H
 obtain ⟨t1054, A40, H⟩ := H
 replace H : (if t1054 < 0 then (some true) else ((laws_toMoments.f k a0_0 l0_1).bind fun bt1055 => ((spec_AffineMoments.f k bt1055.1 bt1055.2 a1 a2).bind fun bt1059 => ((laws_toMoments.f k a0_0 l0_1).bind fun bt1065 => ((impl_AffineMoments.f k bt1065.1 bt1065.2 a1 a2).bind fun bt1070 => ((laws_eqMoments.f k bt1070.1 bt1070.2.1 bt1059.1 bt1059.2.1).bind fun t1076 => (if t1076 = true then (laws_FnExactAffineMoments.j0 k a1 a2 bt1059.2.2 bt1070.2.2 (bt1070.2.2 != bt1059.2.2) a0_0 l0_1 bt1059.1 bt1059.2.1 bt1065.1 bt1065.2 bt1070.1 bt1070.2.1) else (laws_FnExactAffineMoments.j0 k a1 a2 bt1059.2.2 bt1070.2.2 true a0_0 l0_1 bt1059.1 bt1059.2.1 bt1065.1 bt1065.2 bt1070.1 bt1070.2.1)))))))) = some r := H
 have A4 := zA A40
 clear A40
 by_cases c5 : t1054 < 0
 rotate_left
 ·rw [if_neg c5] at H
  have c5b0 : decide (t1054 < 0) = false := decide_eq_false c5
  clear c5
  replace H := Option.bind_eq_some_iff.mp H
  obtain ⟨⟨t1055, t1056⟩, A90, H⟩ := H
  replace H : ((spec_AffineMoments.f k t1055 t1056 a1 a2).bind fun bt1059 => ((laws_toMoments.f k a0_0 l0_1).bind fun bt1065 => ((impl_AffineMoments.f k bt1065.1 bt1065.2 a1 a2).bind fun bt1070 => ((laws_eqMoments.f k bt1070.1 bt1070.2.1 bt1059.1 bt1059.2.1).bind fun t1076 => (if t1076 = true then (laws_FnExactAffineMoments.j0 k a1 a2 bt1059.2.2 bt1070.2.2 (bt1070.2.2 != bt1059.2.2) a0_0 l0_1 bt1059.1 bt1059.2.1 bt1065.1 bt1065.2 bt1070.1 bt1070.2.1) else (laws_FnExactAffineMoments.j0 k a1 a2 bt1059.2.2 bt1070.2.2 true a0_0 l0_1 bt1059.1 bt1059.2.1 bt1065.1 bt1065.2 bt1070.1 bt1070.2.1)))))) = some r := H
  have A9 := zA A90
  clear A90
  replace H := Option.bind_eq_some_iff.mp H
  obtain ⟨⟨t1059, t1060, t1063⟩, A100, H⟩ := H
  replace H : ((laws_toMoments.f k a0_0 l0_1).bind fun bt1065 => ((impl_AffineMoments.f k bt1065.1 bt1065.2 a1 a2).bind fun bt1070 => ((laws_eqMoments.f k bt1070.1 bt1070.2.1 t1059 t1060).bind fun t1076 => (if t1076 = true then (laws_FnExactAffineMoments.j0 k a1 a2 t1063 bt1070.2.2 (bt1070.2.2 != t1063) a0_0 l0_1 t1059 t1060 bt1065.1 bt1065.2 bt1070.1 bt1070.2.1) else (laws_FnExactAffineMoments.j0 k a1 a2 t1063 bt1070.2.2 true a0_0 l0_1 t1059 t1060 bt1065.1 bt1065.2 bt1070.1 bt1070.2.1))))) = some r := H
  have A10 := zA A100
  clear A100
  replace H := Option.bind_eq_some_iff.mp H
  obtain ⟨⟨t1065, t1066⟩, A110, H⟩ := H
  replace H : ((impl_AffineMoments.f k t1065 t1066 a1 a2).bind fun bt1070 => ((laws_eqMoments.f k bt1070.1 bt1070.2.1 t1059 t1060).bind fun t1076 => (if t1076 = true then (laws_FnExactAffineMoments.j0 k a1 a2 t1063 bt1070.2.2 (bt1070.2.2 != t1063) a0_0 l0_1 t1059 t1060 t1065 t1066 bt1070.1 bt1070.2.1) else (laws_FnExactAffineMoments.j0 k a1 a2 t1063 bt1070.2.2 true a0_0 l0_1 t1059 t1060 t1065 t1066 bt1070.1 bt1070.2.1)))) = some r := H
  have A11 := zA A110
  clear A110
  replace H := Option.bind_eq_some_iff.mp H
  obtain ⟨⟨t1070, t1071, t1074⟩, A120, H⟩ := H
  replace H : ((laws_eqMoments.f k t1070 t1071 t1059 t1060).bind fun t1076 => (if t1076 = true then (laws_FnExactAffineMoments.j0 k a1 a2 t1063 t1074 (t1074 != t1063) a0_0 l0_1 t1059 t1060 t1065 t1066 t1070 t1071) else (laws_FnExactAffineMoments.j0 k a1 a2 t1063 t1074 true a0_0 l0_1 t1059 t1060 t1065 t1066 t1070 t1071))) = some r := H
  have A12 := zA A120
  clear A120
  have HC13 := zA H
  clear H
  go_enter Try.func9, Try.ntmps9
  go_upto_region 8 with (first | ((with_reducible refine gate_dst (N := 3) rfl ?_); refine bx 3 #[.int .i64 a0_0, .slice A0_1 l0_1.length c0_1] 24 ?_; intro gb1053 hg w14 hbox hb; have BK1053 := zA (hbox); have GW1053 := gq HB hg; have GE1053 := gq HB hg; replace HB := xH HB hb; have := geI GE1053; clear hb hbox hg; have hcz15_0 := bc BK1053 0; have hcz15_1 := bc BK1053 1; have hfz15_0 := bf BK1053 0; have hfz15_1 := bf BK1053 1) | ((with_reducible refine gate_callee (f := 15) rfl ?_); refine gL (some 20) Try.func15 #[.agg #[.int .i64 a0_0, .slice A0_1 l0_1.length c0_1], .int .i64 1048576] ?_; (with_reducible refine (laws_szMoments.calls a0_0 _ _ l0_1 1048576 t1054 _ ?side1 ?side2 A4.out).mono ?_); (case side1 => exact uC ((Kd.C_below HR0_1.out HB.out))); (case side2 => exact HC0_1.out); rintro e w16 ⟨rfl, hb⟩; refine ⟨_, rfl, ?_⟩; replace BK1053 := xB BK1053 hb; replace HB := xH HB hb; (try clear hb); (try clear hb2); (try clear hk); (try clear hi); have hcz17_0 := bc BK1053 0; have hcz17_1 := bc BK1053 1; have hfz17_0 := bf BK1053 0; have hfz17_1 := bf BK1053 1) | ((with_reducible refine gate_callee (f := 18) rfl ?_); refine gL (some 25) Try.func18 #[.agg #[.int .i64 a0_0, .slice A0_1 l0_1.length c0_1]] ?_; (with_reducible refine (laws_toMoments.calls k a0_0 _ _ l0_1 t1055 t1056 _ ?side1 ?side2 A9.out).mono ?_); (case side1 => exact uC ((Kd.C_below HR0_1.out HB.out))); (case side2 => exact HC0_1.out); rintro e w18 ⟨v1057, rfl, ho0, hb⟩; refine ⟨_, rfl, ?_⟩; have HO1058 := zA (Kd.R_lower ho0 (below_size (uH HB.out))); replace BK1053 := xB BK1053 hb; replace HB := xH HB hb; (try clear hb); (try clear hb2); (try clear hk); (try clear hi); (try clear ho0); obtain ⟨Ao19, co19, eo19⟩ := Kd.R_slice HO1058.out; subst eo19) | ((with_reducible refine gate_callee (f := 43) rfl ?_); refine gL (some 28) Try.func43 #[.agg #[.int .i64 t1055, .slice Ao19 t1056.length co19], .int .i64 a1, .int .i64 a2] ?_; (with_reducible refine (spec_AffineMoments.calls k t1055 _ _ t1056 a1 a2 t1059 t1060 t1063 _ ?side1 ?side2 A10.out).mono ?_); (case side1 => exact uC ((Kd.R_reads' HO1058.out).2.2)); (case side2 => exact (Kd.R_reads' HO1058.out).2.1); rintro e w20 ⟨v1061, rfl, ho0, hb⟩; refine ⟨_, rfl, ?_⟩; have HO1062 := zA (Kd.R_lower (Kd.R_new' ho0 (Kd.R_lt (uR HO1058.out))) (below_size (uH HB.out))); replace HO1058 := zA (Kd.R_elder' (uR HO1058.out) (Kd.R_base ho0) hb); replace BK1053 := xB BK1053 hb; replace HB := xH HB hb; (try clear hb); (try clear hb2); (try clear hk); (try clear hi); (try clear ho0)) | ((with_reducible refine gate_dst (N := 8) rfl ?_); refine bx 8 #[.int .i64 0, .slice none 0 0] 31 ?_; intro gb1064 hg w21 hbox hb; replace HO1058 := xR HO1058 hb; replace HO1062 := xR HO1062 hb; have BK1064 := zA (hbox); have GW1064 := gq HB hg; have GE1064 := gq HB hg; replace HB := xH HB hb; have NB1053_1064 := zA ((by rw [hg]; exact neL BK1053 : gb1053 ≠ gb1064)); have NB1064_1053 := zA ((by rw [hg]; exact neG BK1053 : gb1064 ≠ gb1053)); replace BK1053 := xB BK1053 hb; have := geI GE1064; clear hb hbox hg; have hnb22 := NB1064_1053.out; have hnc22 := NB1053_1064.out; have hcz23_0 := bc BK1064 0; have hcz23_1 := bc BK1064 1; have hfz23_0 := bf BK1064 0; have hfz23_1 := bf BK1064 1; obtain ⟨Ao24, co24, eo24⟩ := Kd.R_slice HO1062.out; subst eo24; have hcz25_0 := bc BK1053 0; have hcz25_1 := bc BK1053 1; have hfz25_0 := bf BK1053 0; have hfz25_1 := bf BK1053 1) | ((with_reducible refine gate_callee (f := 18) rfl ?_); refine gL (some 32) Try.func18 #[.agg #[.int .i64 a0_0, .slice A0_1 l0_1.length c0_1]] ?_; (with_reducible refine (laws_toMoments.calls k a0_0 _ _ l0_1 t1065 t1066 _ ?side1 ?side2 A11.out).mono ?_); (case side1 => exact Kd.C_below HR0_1.out (uH HB.out)); (case side2 => exact HC0_1.out); rintro e w26 ⟨v1067, rfl, ho0, hb⟩; refine ⟨_, rfl, ?_⟩; have HO1068 := zA (Kd.R_lower (Kd.R_new' (Kd.R_new' ho0 (Kd.R_lt (uR ((rf2 HO1058 BK1064 (by decide) (.int .i64 t1059) (.slice Ao24 t1060.length co24)))))) (Kd.R_lt (uR ((rf2 HO1062 BK1064 (by decide) (.int .i64 t1059) (.slice Ao24 t1060.length co24)))))) (below_size (uH HB.out))); replace HO1058 := zA (Kd.R_elder' (uR ((rf2 HO1058 BK1064 (by decide) (.int .i64 t1059) (.slice Ao24 t1060.length co24)))) (Kd.R_base ho0) hb); replace HO1062 := zA (Kd.R_elder' (uR ((rf2 HO1062 BK1064 (by decide) (.int .i64 t1059) (.slice Ao24 t1060.length co24)))) (Kd.R_base ho0) hb); replace BK1053 := zA (blk_below (g := gb1053) (o := .cells #[.int .i64 a0_0, .slice A0_1 l0_1.length c0_1] 24 (0, 0)) (by (repeat refine up1 ?_); refine blk_far ?_ NB1053_1064.out _; (repeat refine up1 ?_); refine blk_far ?_ NB1053_1064.out _; (repeat refine up1 ?_); exact BK1053.out) hb); replace BK1064 := zA (blk_below (g := gb1064) (o := .cells #[.int .i64 t1059, .slice Ao24 t1060.length co24] 31 (0, 0)) (by (repeat refine up1 ?_); refine blk_put (cs := #[.int .i64 t1059, .slice none 0 0]) ?_ 1 _ rfl; (repeat refine up1 ?_); refine blk_put (cs := #[.int .i64 0, .slice none 0 0]) ?_ 0 _ rfl; (repeat refine up1 ?_); exact BK1064.out) hb); replace HB := xH HB hb; (try clear hb); (try clear hb2); (try clear hk); (try clear hi); (try clear ho0)) | ((with_reducible refine gate_dst (N := 10) rfl ?_); refine bx 10 #[.int .i64 0, .slice none 0 0] 31 ?_; intro gb1069 hg w27 hbox hb; replace HO1058 := xR HO1058 hb; replace HO1062 := xR HO1062 hb; replace HO1068 := xR HO1068 hb; have BK1069 := zA (hbox); have GW1069 := gq HB hg; have GE1069 := gq HB hg; replace HB := xH HB hb; have NB1053_1069 := zA ((by rw [hg]; exact neL BK1053 : gb1053 ≠ gb1069)); have NB1069_1053 := zA ((by rw [hg]; exact neG BK1053 : gb1069 ≠ gb1053)); replace BK1053 := xB BK1053 hb; have NB1064_1069 := zA ((by rw [hg]; exact neL BK1064 : gb1064 ≠ gb1069)); have NB1069_1064 := zA ((by rw [hg]; exact neG BK1064 : gb1069 ≠ gb1064)); replace BK1064 := xB BK1064 hb; have := geI GE1069; clear hb hbox hg; have hnb28 := NB1069_1053.out; have hnc28 := NB1053_1069.out; have hnb29 := NB1069_1064.out; have hnc29 := NB1064_1069.out; have hcz30_0 := bc BK1069 0; have hcz30_1 := bc BK1069 1; have hfz30_0 := bf BK1069 0; have hfz30_1 := bf BK1069 1; obtain ⟨Ao31, co31, eo31⟩ := Kd.R_slice HO1068.out; subst eo31) | ((with_reducible refine gate_callee (f := 44) rfl ?_); refine gL (some 37) Try.func44 #[.agg #[.int .i64 t1065, .slice Ao31 t1066.length co31], .int .i64 a1, .int .i64 a2] ?_; (with_reducible refine (impl_AffineMoments.calls k t1065 _ _ t1066 a1 a2 t1070 t1071 t1074 _ ?side1 ?side2 A12.out).mono ?_); (case side1 => refine (Kd.R_reads' (e := 2) (base := w.heap.size) (ok := fun k_ => ((True ∧ ax k_ (.slice Ao19 t1056.length co19)) ∧ ax k_ (.slice Ao24 t1060.length co24))) (n := t1066.length) (c := co31) ?_).2.2; exact (uR ((rf2 HO1068 BK1069 (by decide) (.int .i64 t1065) (.slice Ao31 t1066.length co31))))); (case side2 => exact (Kd.R_reads' HO1068.out).2.1); rintro e w32 ⟨v1072, rfl, ho0, hb⟩; refine ⟨_, rfl, ?_⟩; have HO1073 := zA (Kd.R_lower (Kd.R_new' (Kd.R_new' (Kd.R_new' ho0 (Kd.R_lt (uR ((rf2 HO1058 BK1069 (by decide) (.int .i64 t1065) (.slice Ao31 t1066.length co31)))))) (Kd.R_lt (uR ((rf2 HO1062 BK1069 (by decide) (.int .i64 t1065) (.slice Ao31 t1066.length co31)))))) (Kd.R_lt (uR ((rf2 HO1068 BK1069 (by decide) (.int .i64 t1065) (.slice Ao31 t1066.length co31)))))) (below_size (uH HB.out))); replace HO1058 := zA (Kd.R_elder' (uR ((rf2 HO1058 BK1069 (by decide) (.int .i64 t1065) (.slice Ao31 t1066.length co31)))) (Kd.R_base ho0) hb); replace HO1062 := zA (Kd.R_elder' (uR ((rf2 HO1062 BK1069 (by decide) (.int .i64 t1065) (.slice Ao31 t1066.length co31)))) (Kd.R_base ho0) hb); replace HO1068 := zA (Kd.R_elder' (uR ((rf2 HO1068 BK1069 (by decide) (.int .i64 t1065) (.slice Ao31 t1066.length co31)))) (Kd.R_base ho0) hb); replace BK1053 := zA (blk_below (g := gb1053) (o := .cells #[.int .i64 a0_0, .slice A0_1 l0_1.length c0_1] 24 (0, 0)) (by (repeat refine up1 ?_); refine blk_far ?_ NB1053_1069.out _; (repeat refine up1 ?_); refine blk_far ?_ NB1053_1069.out _; (repeat refine up1 ?_); exact BK1053.out) hb); replace BK1064 := zA (blk_below (g := gb1064) (o := .cells #[.int .i64 t1059, .slice Ao24 t1060.length co24] 31 (0, 0)) (by (repeat refine up1 ?_); refine blk_far ?_ NB1064_1069.out _; (repeat refine up1 ?_); refine blk_far ?_ NB1064_1069.out _; (repeat refine up1 ?_); exact BK1064.out) hb); replace BK1069 := zA (blk_below (g := gb1069) (o := .cells #[.int .i64 t1065, .slice Ao31 t1066.length co31] 31 (0, 0)) (by (repeat refine up1 ?_); refine blk_put (cs := #[.int .i64 t1065, .slice none 0 0]) ?_ 1 _ rfl; (repeat refine up1 ?_); refine blk_put (cs := #[.int .i64 0, .slice none 0 0]) ?_ 0 _ rfl; (repeat refine up1 ?_); exact BK1069.out) hb); replace HB := xH HB hb; (try clear hb); (try clear hb2); (try clear hk); (try clear hi); (try clear ho0)) | ((with_reducible refine gate_dst (N := 11) rfl ?_); refine bx 11 #[.int .i64 0, .slice none 0 0] 31 ?_; intro gb1075 hg w33 hbox hb; replace HO1058 := xR HO1058 hb; replace HO1062 := xR HO1062 hb; replace HO1068 := xR HO1068 hb; replace HO1073 := xR HO1073 hb; have BK1075 := zA (hbox); have GW1075 := gq HB hg; have GE1075 := gq HB hg; replace HB := xH HB hb; have NB1053_1075 := zA ((by rw [hg]; exact neL BK1053 : gb1053 ≠ gb1075)); have NB1075_1053 := zA ((by rw [hg]; exact neG BK1053 : gb1075 ≠ gb1053)); replace BK1053 := xB BK1053 hb; have NB1064_1075 := zA ((by rw [hg]; exact neL BK1064 : gb1064 ≠ gb1075)); have NB1075_1064 := zA ((by rw [hg]; exact neG BK1064 : gb1075 ≠ gb1064)); replace BK1064 := xB BK1064 hb; have NB1069_1075 := zA ((by rw [hg]; exact neL BK1069 : gb1069 ≠ gb1075)); have NB1075_1069 := zA ((by rw [hg]; exact neG BK1069 : gb1075 ≠ gb1069)); replace BK1069 := xB BK1069 hb; have := geI GE1075; clear hb hbox hg; have hnb34 := NB1075_1053.out; have hnc34 := NB1053_1075.out; have hnb35 := NB1075_1064.out; have hnc35 := NB1064_1075.out; have hnb36 := NB1075_1069.out; have hnc36 := NB1069_1075.out; have hcz37_0 := bc BK1075 0; have hcz37_1 := bc BK1075 1; have hfz37_0 := bf BK1075 0; have hfz37_1 := bf BK1075 1; obtain ⟨Ao38, co38, eo38⟩ := Kd.R_slice HO1073.out; subst eo38))
  (try simp only [Act.put, ls, lz, ln])
  go_cut [48] (fun v48 wc => ∃ (kq : Nat) (x48_12 : Bool), v48 = .bool x48_12 ∧ Aside0 (laws_FnExactAffineMoments.j0 kq a1 a2 t1063 t1074 x48_12 a0_0 l0_1 t1059 t1060 t1065 t1066 t1070 t1071 = some r) ∧ Aside0 (kq ≤ k) ∧ Aside0 (Kd.R (Kd.int .i64) 2 wc w.heap.size (fun k_ => ax k_ (.slice Ao31 t1066.length co31) ∧ ax k_ (.slice Ao38 t1071.length co38)) (.slice Ao24 t1060.length co24) t1060) ∧ Aside0 (Kd.R (Kd.int .i64) 2 wc w.heap.size (fun k_ => ax k_ (.slice Ao24 t1060.length co24) ∧ ax k_ (.slice Ao38 t1071.length co38)) (.slice Ao31 t1066.length co31) t1066) ∧ Aside0 (Kd.R (Kd.int .i64) 2 wc w.heap.size (fun k_ => ax k_ (.slice Ao24 t1060.length co24) ∧ ax k_ (.slice Ao31 t1066.length co31)) (.slice Ao38 t1071.length co38) t1071) ∧ Aside0 (wc.heap[gb1053]? = some (.cells #[.int .i64 a0_0, (.slice A0_1 l0_1.length c0_1)] 24 (0, 0))) ∧ Aside0 (wc.heap[gb1064]? = some (.cells #[.int .i64 t1059, (.slice Ao24 t1060.length co24)] 31 (0, 0))) ∧ Aside0 (wc.heap[gb1069]? = some (.cells #[.int .i64 t1065, (.slice Ao31 t1066.length co31)] 31 (0, 0))) ∧ Aside0 (wc.heap[gb1075]? = some (.cells #[.int .i64 t1070, (.slice Ao38 t1071.length co38)] 31 (0, 0))) ∧ Aside0 (Below w.heap.size w wc))
  case first =>
   have H := HC13.out
   clear HC13
   replace H := Option.bind_eq_some_iff.mp H
   obtain ⟨t1076, A390, H⟩ := H
   replace H : (if t1076 = true then (laws_FnExactAffineMoments.j0 k a1 a2 t1063 t1074 (t1074 != t1063) a0_0 l0_1 t1059 t1060 t1065 t1066 t1070 t1071) else (laws_FnExactAffineMoments.j0 k a1 a2 t1063 t1074 true a0_0 l0_1 t1059 t1060 t1065 t1066 t1070 t1071)) = some r := H
   have A39 := zA A390
   clear A390
   by_cases c40 : t1076 = true
   ·subst c40
    have H1 : (laws_FnExactAffineMoments.j0 k a1 a2 t1063 t1074 (t1074 != t1063) a0_0 l0_1 t1059 t1060 t1065 t1066 t1070 t1071) = some r := by rw [if_pos rfl] at H; exact H
    clear H
    have H := H1
    clear H1
    have H' := zA H
    clear H
    have hnb41 := NB1075_1053.out; have hnc41 := NB1053_1075.out; have hnb42 := NB1075_1064.out; have hnc42 := NB1064_1075.out; have hnb43 := NB1075_1069.out; have hnc43 := NB1069_1075.out
    have hcz44_0 := bc BK1075 0
    have hcz44_1 := bc BK1075 1
    have hfz44_0 := bf BK1075 0
    have hfz44_1 := bf BK1075 1
    have hnb45 := NB1064_1053.out; have hnc45 := NB1053_1064.out; have hnb46 := NB1064_1069.out; have hnc46 := NB1069_1064.out
    have hcz47_0 := bc BK1064 0
    have hcz47_1 := bc BK1064 1
    have hfz47_0 := bf BK1064 0
    have hfz47_1 := bf BK1064 1
    go_wp2_with (first | ((with_reducible refine gate_callee (f := 22) rfl ?_); refine gL (some 42) Try.func22 #[.agg #[.int .i64 t1070, .slice Ao38 t1071.length co38], .agg #[.int .i64 t1059, .slice Ao24 t1060.length co24]] ?_; (with_reducible refine (laws_eqMoments.calls k t1070 _ _ t1071 t1059 _ _ t1060 true _ ?side1 ?side2 ?side3 ?side4 A39.out).mono ?_); (case side1 => refine (Kd.R_reads' (e := 2) (base := w.heap.size) (ok := fun k_ => (((True ∧ ax k_ (.slice Ao19 t1056.length co19)) ∧ ax k_ (.slice Ao24 t1060.length co24)) ∧ ax k_ (.slice Ao31 t1066.length co31))) (n := t1071.length) (c := co38) ?_).2.2; exact (uR ((rf2 HO1073 BK1075 (by decide) (.int .i64 t1070) (.slice Ao38 t1071.length co38))))); (case side2 => exact (Kd.R_reads' HO1073.out).2.1); (case side3 => refine (Kd.R_reads' (e := 2) (base := w.heap.size) (ok := fun k_ => (((True ∧ ax k_ (.slice Ao19 t1056.length co19)) ∧ ax k_ (.slice Ao31 t1066.length co31)) ∧ ax k_ (.slice Ao38 t1071.length co38))) (n := t1060.length) (c := co24) ?_).2.2; exact (uR ((rf2 HO1062 BK1075 (by decide) (.int .i64 t1070) (.slice Ao38 t1071.length co38))))); (case side4 => exact (Kd.R_reads' HO1062.out).2.1); rintro e w48 ⟨rfl, hb⟩; refine ⟨_, rfl, ?_⟩; replace HO1058 := zA (Kd.R_below (uR ((rf2 HO1058 BK1075 (by decide) (.int .i64 t1070) (.slice Ao38 t1071.length co38)))) hb); replace HO1062 := zA (Kd.R_below (uR ((rf2 HO1062 BK1075 (by decide) (.int .i64 t1070) (.slice Ao38 t1071.length co38)))) hb); replace HO1068 := zA (Kd.R_below (uR ((rf2 HO1068 BK1075 (by decide) (.int .i64 t1070) (.slice Ao38 t1071.length co38)))) hb); replace HO1073 := zA (Kd.R_below (uR ((rf2 HO1073 BK1075 (by decide) (.int .i64 t1070) (.slice Ao38 t1071.length co38)))) hb); replace BK1053 := zA (blk_below (g := gb1053) (o := .cells #[.int .i64 a0_0, .slice A0_1 l0_1.length c0_1] 24 (0, 0)) (by (repeat refine up1 ?_); refine blk_far ?_ NB1053_1075.out _; (repeat refine up1 ?_); refine blk_far ?_ NB1053_1075.out _; (repeat refine up1 ?_); exact BK1053.out) hb); replace BK1064 := zA (blk_below (g := gb1064) (o := .cells #[.int .i64 t1059, .slice Ao24 t1060.length co24] 31 (0, 0)) (by (repeat refine up1 ?_); refine blk_far ?_ NB1064_1075.out _; (repeat refine up1 ?_); refine blk_far ?_ NB1064_1075.out _; (repeat refine up1 ?_); exact BK1064.out) hb); replace BK1069 := zA (blk_below (g := gb1069) (o := .cells #[.int .i64 t1065, .slice Ao31 t1066.length co31] 31 (0, 0)) (by (repeat refine up1 ?_); refine blk_far ?_ NB1069_1075.out _; (repeat refine up1 ?_); refine blk_far ?_ NB1069_1075.out _; (repeat refine up1 ?_); exact BK1069.out) hb); replace BK1075 := zA (blk_below (g := gb1075) (o := .cells #[.int .i64 t1070, .slice Ao38 t1071.length co38] 31 (0, 0)) (by (repeat refine up1 ?_); refine blk_put (cs := #[.int .i64 t1070, .slice none 0 0]) ?_ 1 _ rfl; (repeat refine up1 ?_); refine blk_put (cs := #[.int .i64 0, .slice none 0 0]) ?_ 0 _ rfl; (repeat refine up1 ?_); exact BK1075.out) hb); replace HB := xH HB hb; (try clear hb); (try clear hb2); (try clear hk); (try clear hi)))
    go_meet
    case rel => exact ⟨_, ((t1074 != t1063)), (by first | rfl | (simp; done) | (simp [*]; done)), H', ⟨by first | omega | exact Nat.le_refl _⟩, ⟨uR (Kd.R_mono HO1062.out (fun _ hk => ⟨hk.1.2, hk.2⟩))⟩, ⟨uR (Kd.R_mono HO1068.out (fun _ hk => ⟨hk.1.2, hk.2⟩))⟩, ⟨uR (Kd.R_mono HO1073.out (fun _ hk => ⟨hk.1.2, hk.2⟩))⟩, ⟨uB BK1053.out⟩, ⟨uB BK1064.out⟩, ⟨uB BK1069.out⟩, ⟨uB BK1075.out⟩, ⟨uH HB.out⟩⟩
   ·replace c40 := Bool.eq_false_iff.mpr c40
    subst c40
    have H1 : (laws_FnExactAffineMoments.j0 k a1 a2 t1063 t1074 true a0_0 l0_1 t1059 t1060 t1065 t1066 t1070 t1071) = some r := by rw [if_neg (show ¬ (false = true) by decide)] at H; exact H
    clear H
    have H := H1
    clear H1
    have H' := zA H
    clear H
    have hnb49 := NB1075_1053.out; have hnc49 := NB1053_1075.out; have hnb50 := NB1075_1064.out; have hnc50 := NB1064_1075.out; have hnb51 := NB1075_1069.out; have hnc51 := NB1069_1075.out
    have hcz52_0 := bc BK1075 0
    have hcz52_1 := bc BK1075 1
    have hfz52_0 := bf BK1075 0
    have hfz52_1 := bf BK1075 1
    have hnb53 := NB1064_1053.out; have hnc53 := NB1053_1064.out; have hnb54 := NB1064_1069.out; have hnc54 := NB1069_1064.out
    have hcz55_0 := bc BK1064 0
    have hcz55_1 := bc BK1064 1
    have hfz55_0 := bf BK1064 0
    have hfz55_1 := bf BK1064 1
    go_wp2_with (first | ((with_reducible refine gate_callee (f := 22) rfl ?_); refine gL (some 42) Try.func22 #[.agg #[.int .i64 t1070, .slice Ao38 t1071.length co38], .agg #[.int .i64 t1059, .slice Ao24 t1060.length co24]] ?_; (with_reducible refine (laws_eqMoments.calls k t1070 _ _ t1071 t1059 _ _ t1060 false _ ?side1 ?side2 ?side3 ?side4 A39.out).mono ?_); (case side1 => refine (Kd.R_reads' (e := 2) (base := w.heap.size) (ok := fun k_ => (((True ∧ ax k_ (.slice Ao19 t1056.length co19)) ∧ ax k_ (.slice Ao24 t1060.length co24)) ∧ ax k_ (.slice Ao31 t1066.length co31))) (n := t1071.length) (c := co38) ?_).2.2; exact (uR ((rf2 HO1073 BK1075 (by decide) (.int .i64 t1070) (.slice Ao38 t1071.length co38))))); (case side2 => exact (Kd.R_reads' HO1073.out).2.1); (case side3 => refine (Kd.R_reads' (e := 2) (base := w.heap.size) (ok := fun k_ => (((True ∧ ax k_ (.slice Ao19 t1056.length co19)) ∧ ax k_ (.slice Ao31 t1066.length co31)) ∧ ax k_ (.slice Ao38 t1071.length co38))) (n := t1060.length) (c := co24) ?_).2.2; exact (uR ((rf2 HO1062 BK1075 (by decide) (.int .i64 t1070) (.slice Ao38 t1071.length co38))))); (case side4 => exact (Kd.R_reads' HO1062.out).2.1); rintro e w56 ⟨rfl, hb⟩; refine ⟨_, rfl, ?_⟩; replace HO1058 := zA (Kd.R_below (uR ((rf2 HO1058 BK1075 (by decide) (.int .i64 t1070) (.slice Ao38 t1071.length co38)))) hb); replace HO1062 := zA (Kd.R_below (uR ((rf2 HO1062 BK1075 (by decide) (.int .i64 t1070) (.slice Ao38 t1071.length co38)))) hb); replace HO1068 := zA (Kd.R_below (uR ((rf2 HO1068 BK1075 (by decide) (.int .i64 t1070) (.slice Ao38 t1071.length co38)))) hb); replace HO1073 := zA (Kd.R_below (uR ((rf2 HO1073 BK1075 (by decide) (.int .i64 t1070) (.slice Ao38 t1071.length co38)))) hb); replace BK1053 := zA (blk_below (g := gb1053) (o := .cells #[.int .i64 a0_0, .slice A0_1 l0_1.length c0_1] 24 (0, 0)) (by (repeat refine up1 ?_); refine blk_far ?_ NB1053_1075.out _; (repeat refine up1 ?_); refine blk_far ?_ NB1053_1075.out _; (repeat refine up1 ?_); exact BK1053.out) hb); replace BK1064 := zA (blk_below (g := gb1064) (o := .cells #[.int .i64 t1059, .slice Ao24 t1060.length co24] 31 (0, 0)) (by (repeat refine up1 ?_); refine blk_far ?_ NB1064_1075.out _; (repeat refine up1 ?_); refine blk_far ?_ NB1064_1075.out _; (repeat refine up1 ?_); exact BK1064.out) hb); replace BK1069 := zA (blk_below (g := gb1069) (o := .cells #[.int .i64 t1065, .slice Ao31 t1066.length co31] 31 (0, 0)) (by (repeat refine up1 ?_); refine blk_far ?_ NB1069_1075.out _; (repeat refine up1 ?_); refine blk_far ?_ NB1069_1075.out _; (repeat refine up1 ?_); exact BK1069.out) hb); replace BK1075 := zA (blk_below (g := gb1075) (o := .cells #[.int .i64 t1070, .slice Ao38 t1071.length co38] 31 (0, 0)) (by (repeat refine up1 ?_); refine blk_put (cs := #[.int .i64 t1070, .slice none 0 0]) ?_ 1 _ rfl; (repeat refine up1 ?_); refine blk_put (cs := #[.int .i64 0, .slice none 0 0]) ?_ 0 _ rfl; (repeat refine up1 ?_); exact BK1075.out) hb); replace HB := xH HB hb; (try clear hb); (try clear hb2); (try clear hk); (try clear hi)))
    go_meet
    case rel => exact ⟨_, (true), (by first | rfl | (simp; done) | (simp [*]; done)), H', ⟨by first | omega | exact Nat.le_refl _⟩, ⟨uR (Kd.R_mono HO1062.out (fun _ hk => ⟨hk.1.2, hk.2⟩))⟩, ⟨uR (Kd.R_mono HO1068.out (fun _ hk => ⟨hk.1.2, hk.2⟩))⟩, ⟨uR (Kd.R_mono HO1073.out (fun _ hk => ⟨hk.1.2, hk.2⟩))⟩, ⟨uB BK1053.out⟩, ⟨uB BK1064.out⟩, ⟨uB BK1069.out⟩, ⟨uB BK1075.out⟩, ⟨uH HB.out⟩⟩
  case rest =>
   clear HC13
   (try clear c1);(try clear c2);(try clear p2);(try clear c3);(try clear c4);(try clear c5);(try clear c5b0);(try clear c9);(try clear c15);(try clear c18);(try clear c22);(try clear c28);(try clear c29);(try clear c34);(try clear c35);(try clear c36);(try clear c40);(try clear c41);(try clear c42);(try clear c43);(try clear c44);(try clear c45);(try clear c46);(try clear c49);(try clear c50);(try clear c51)
   (try clear c53);(try clear c54);(try clear hcz15_0);(try clear hcz15_1);(try clear hcz17_0);(try clear hcz17_1);(try clear hcz23_0);(try clear hcz23_1);(try clear hcz25_0);(try clear hcz25_1);(try clear hcz30_0);(try clear hcz30_1);(try clear hcz37_0);(try clear hcz37_1);(try clear hcz44_0);(try clear hcz44_1);(try clear hcz47_0);(try clear hcz47_1);(try clear hcz52_0);(try clear hcz52_1);(try clear hcz55_0)
   (try clear hcz55_1);(try clear hcz7_0);(try clear hcz7_1);(try clear hfz15_0);(try clear hfz15_1);(try clear hfz17_0);(try clear hfz17_1);(try clear hfz23_0);(try clear hfz23_1);(try clear hfz25_0);(try clear hfz25_1);(try clear hfz30_0);(try clear hfz30_1);(try clear hfz37_0);(try clear hfz37_1);(try clear hfz44_0);(try clear hfz44_1);(try clear hfz47_0);(try clear hfz47_1);(try clear hfz52_0)
   (try clear hfz52_1);(try clear hfz55_0);(try clear hfz55_1);(try clear hfz7_0);(try clear hfz7_1)
   obtain ⟨kq, x48_12, rfl, HA, HJ12, HO_1065001, HO_1070001, HO_1076001, BK1053, BK1064, BK1069, BK1075, HB⟩ := hcut
   cases kq with
   | zero => exact absurd HA.out (by simp [laws_FnExactAffineMoments.j0])
   | succ kj12 =>
    have H := HA.out
    clear HA
    simp only [laws_FnExactAffineMoments.j0] at H
    by_cases c57 : x48_12 = true
    ·subst c57
     have H1 : (some false) = some r := by rw [if_pos rfl] at H; exact H
     clear H
     have H := H1
     clear H1
     rw [HRT.out] at H
     exact absurd H (by simp)
    ·replace c57 := Bool.eq_false_iff.mpr c57
     subst c57
     have H1 : ((laws_toMoments.f kj12 a0_0 l0_1).bind fun bt1077 => ((laws_eqMoments.f kj12 t1065 t1066 bt1077.1 bt1077.2).bind fun t1081 => (if t1081 = true then ((laws_markMoments.f kj12 t1065 t1066 1).bind fun bt1082 => (if bt1082.1 < 0 then (laws_FnExactAffineMoments.j1 kj12 a1 a2 t1063 true a0_0 l0_1 t1059 t1060 t1070 t1071) else ((laws_eqMoments.f kj12 t1070 t1071 t1059 t1060).bind fun t1084 => (if t1084 = true then (laws_FnExactAffineMoments.j1 kj12 a1 a2 t1063 (t1074 != t1063) a0_0 l0_1 t1059 t1060 t1070 t1071) else (laws_FnExactAffineMoments.j1 kj12 a1 a2 t1063 true a0_0 l0_1 t1059 t1060 t1070 t1071))))) else (some false)))) = some r := by rw [if_neg (show ¬ (false = true) by decide)] at H; exact H
     clear H
     have H := H1
     clear H1
     replace H := Option.bind_eq_some_iff.mp H
     obtain ⟨⟨t1077, t1078⟩, A580, H⟩ := H
     replace H : ((laws_eqMoments.f kj12 t1065 t1066 t1077 t1078).bind fun t1081 => (if t1081 = true then ((laws_markMoments.f kj12 t1065 t1066 1).bind fun bt1082 => (if bt1082.1 < 0 then (laws_FnExactAffineMoments.j1 kj12 a1 a2 t1063 true a0_0 l0_1 t1059 t1060 t1070 t1071) else ((laws_eqMoments.f kj12 t1070 t1071 t1059 t1060).bind fun t1084 => (if t1084 = true then (laws_FnExactAffineMoments.j1 kj12 a1 a2 t1063 (t1074 != t1063) a0_0 l0_1 t1059 t1060 t1070 t1071) else (laws_FnExactAffineMoments.j1 kj12 a1 a2 t1063 true a0_0 l0_1 t1059 t1060 t1070 t1071))))) else (some false))) = some r := H
     have A58 := zA A580
     clear A580
     replace H := Option.bind_eq_some_iff.mp H
     obtain ⟨t1081, A590, H⟩ := H
     replace H : (if t1081 = true then ((laws_markMoments.f kj12 t1065 t1066 1).bind fun bt1082 => (if bt1082.1 < 0 then (laws_FnExactAffineMoments.j1 kj12 a1 a2 t1063 true a0_0 l0_1 t1059 t1060 t1070 t1071) else ((laws_eqMoments.f kj12 t1070 t1071 t1059 t1060).bind fun t1084 => (if t1084 = true then (laws_FnExactAffineMoments.j1 kj12 a1 a2 t1063 (t1074 != t1063) a0_0 l0_1 t1059 t1060 t1070 t1071) else (laws_FnExactAffineMoments.j1 kj12 a1 a2 t1063 true a0_0 l0_1 t1059 t1060 t1070 t1071))))) else (some false)) = some r := H
     have A59 := zA A590
     clear A590
     by_cases c60 : t1081 = true
     ·subst c60
      have H1 : ((laws_markMoments.f kj12 t1065 t1066 1).bind fun bt1082 => (if bt1082.1 < 0 then (laws_FnExactAffineMoments.j1 kj12 a1 a2 t1063 true a0_0 l0_1 t1059 t1060 t1070 t1071) else ((laws_eqMoments.f kj12 t1070 t1071 t1059 t1060).bind fun t1084 => (if t1084 = true then (laws_FnExactAffineMoments.j1 kj12 a1 a2 t1063 (t1074 != t1063) a0_0 l0_1 t1059 t1060 t1070 t1071) else (laws_FnExactAffineMoments.j1 kj12 a1 a2 t1063 true a0_0 l0_1 t1059 t1060 t1070 t1071))))) = some r := by rw [if_pos rfl] at H; exact H
      clear H
      have H := H1
      clear H1
      replace H := Option.bind_eq_some_iff.mp H
      obtain ⟨⟨t1082, t1083⟩, A610, H⟩ := H
      replace H : (if t1082 < 0 then (laws_FnExactAffineMoments.j1 kj12 a1 a2 t1063 true a0_0 l0_1 t1059 t1060 t1070 t1071) else ((laws_eqMoments.f kj12 t1070 t1071 t1059 t1060).bind fun t1084 => (if t1084 = true then (laws_FnExactAffineMoments.j1 kj12 a1 a2 t1063 (t1074 != t1063) a0_0 l0_1 t1059 t1060 t1070 t1071) else (laws_FnExactAffineMoments.j1 kj12 a1 a2 t1063 true a0_0 l0_1 t1059 t1060 t1070 t1071)))) = some r := H
      have A61 := zA A610
      clear A610
      have HC62 := zA H
      clear H
      try go_wp2
      replace HO_1065001 := zA (Kd.R_drew HO_1065001.out)
      replace HO_1070001 := zA (Kd.R_drew HO_1070001.out)
      replace HO_1076001 := zA (Kd.R_drew HO_1076001.out)
      replace BK1053 := zA (blk_drew BK1053.out)
      replace BK1064 := zA (blk_drew BK1064.out)
      replace BK1069 := zA (blk_drew BK1069.out)
      replace BK1075 := zA (blk_drew BK1075.out)
      replace HB := zA (below_drew1 HB.out)
      refine start_ (n := 5) (S := fun w' => w'.cell? ⟨gb1069, 0, none⟩ = some (.int .i64 t1065) ∧ w'.cell? ⟨gb1069, 1, none⟩ = some (.slice Ao31 t1066.length co31) ∧ w'.cell? ⟨gb1053, 0, none⟩ = some (.int .i64 a0_0) ∧ w'.cell? ⟨gb1053, 1, none⟩ = some (.slice A0_1 l0_1.length c0_1)) (ds := []) #[false, false, false, false, false] (by kernel_rfl) rfl rfl ⟨bcu BK1069 0, bcu BK1069 1, bcu BK1053 0, bcu BK1053 1⟩ (fun hHeld => ?_)
      generalize wc.drew = w63 at HO_1065001 HO_1070001 HO_1076001 BK1053 BK1064 BK1069 BK1075 HB hHeld ⊢
      refine take_ (i := 0) (N := some 49) (v := ?_) (a' := ?_) (bl 5 1) rfl rfl (by kernel_rfl) (fun _ _ _ h => h) (Or.inl ⟨by rfl, ?_⟩) hHeld ?_ ?_
      rotate_left
      ·rintro w' ⟨s0, s1, s2, s3⟩
       go_simp
       with_reducible rfl
      rotate_left
      ·simp only [Act.put, ls, lz, ln, i64_w, i32_w]
       rfl
      refine take_ (i := 1) (N := some 50) (v := ?_) (a' := ?_) (bl 5 3) rfl rfl (by kernel_rfl) (fun _ _ _ h => h) (Or.inl ⟨by rfl, ?_⟩) hHeld ?_ ?_
      rotate_left
      ·rintro w' ⟨s0, s1, s2, s3⟩
       go_simp
       with_reducible rfl
      rotate_left
      ·simp only [Act.put, ls, lz, ln, i64_w, i32_w]
       rfl
      refine one_ (i := 2) (N := some 51) (bl 5 7) rfl rfl (by kernel_rfl) (by decide) (fun K hK => ?_)
      refine gS Try.func18 #[.agg #[.int .i64 a0_0, .slice A0_1 l0_1.length c0_1]] ?_
      with_reducible refine (laws_toMoments.calls kj12 a0_0 _ _ l0_1 t1077 t1078 _ ?side1 ?side2 A58.out).mono ?_
      (case side1 => exact uC ((Kd.C_below HR0_1.out HB.out)))
      (case side2 => exact HC0_1.out)
      rintro e w64 ⟨v1079, rfl, ho0, hb⟩
      refine ⟨_, rfl, ?_⟩
      have HO1080 := zA (Kd.R_lower (Kd.R_new' (Kd.R_new' (Kd.R_new' ho0 (Kd.R_lt (uR HO_1065001.out))) (Kd.R_lt (uR HO_1070001.out))) (Kd.R_lt (uR HO_1076001.out))) (below_size (uH HB.out)))
      replace HO_1065001 := zA (Kd.R_elder' (uR HO_1065001.out) (Kd.R_base ho0) hb)
      replace HO_1070001 := zA (Kd.R_elder' (uR HO_1070001.out) (Kd.R_base ho0) hb)
      replace HO_1076001 := zA (Kd.R_elder' (uR HO_1076001.out) (Kd.R_base ho0) hb)
      replace BK1053 := xB BK1053 hb
      replace BK1064 := xB BK1064 hb
      replace BK1069 := xB BK1069 hb
      replace BK1075 := xB BK1075 hb
      replace HB := xH HB hb
      (try clear hb); (try clear hb2); (try clear hk); (try clear hi); (try clear ho0)
      obtain ⟨Ao65, co65, eo65⟩ := Kd.R_slice HO1080.out
      (first | subst eo65 | (injection eo65 with f1_ f2_ f3_; have f4_ := f1_.symm; have f5_ := f3_.symm; clear f1_ f2_ f3_; subst f4_; subst f5_))
      refine hK.out _ _ ⟨bcu BK1069 0, bcu BK1069 1, bcu BK1053 0, bcu BK1053 1⟩ (fun hHeld => ?_)
      clear hK K
      refine no_ 51 ?_
      refine one_ (i := 3) (N := some 52) (bl 5 15) rfl rfl (by kernel_rfl) (by decide) (fun K hK => ?_)
      refine gS Try.func22 #[.agg #[.int .i64 t1065, .slice Ao31 t1066.length co31], .agg #[.int .i64 t1077, .slice Ao65 t1078.length co65]] ?_
      with_reducible refine (laws_eqMoments.calls kj12 t1065 _ _ t1066 t1077 _ _ t1078 true _ ?side1 ?side2 ?side3 ?side4 A59.out).mono ?_
      (case side1 => exact uC ((Kd.R_reads' HO_1070001.out).2.2))
      (case side2 => exact (Kd.R_reads' HO_1070001.out).2.1)
      (case side3 => exact uC ((Kd.R_reads' HO1080.out).2.2))
      (case side4 => exact (Kd.R_reads' HO1080.out).2.1)
      rintro e w66 ⟨rfl, hb⟩
      refine ⟨_, rfl, ?_⟩
      replace HO_1065001 := xR HO_1065001 hb
      replace HO_1070001 := xR HO_1070001 hb
      replace HO_1076001 := xR HO_1076001 hb
      replace HO1080 := xR HO1080 hb
      replace BK1053 := xB BK1053 hb
      replace BK1064 := xB BK1064 hb
      replace BK1069 := xB BK1069 hb
      replace BK1075 := xB BK1075 hb
      replace HB := xH HB hb
      (try clear hb); (try clear hb2); (try clear hk); (try clear hi)
      refine hK.out _ _ ⟨bcu BK1069 0, bcu BK1069 1, bcu BK1053 0, bcu BK1053 1⟩ (fun hHeld => ?_)
      clear hK K
      refine no_ 52 ?_
      refine pure_ (i := 4) (N := some 53) (v := ?_) (a' := ?_) (bl 5 31) rfl rfl (by kernel_rfl) (fun _ _ _ h => h) (Or.inl ⟨by rfl, ?_⟩) ?_ ?_
      rotate_left
      ·intro w'
       go_simp
       with_reducible rfl
      rotate_left
      ·simp only [Act.put, ls, lz, ln, i64_w, i32_w]
       rfl
      refine done_ (by kernel_rfl) ?_
      have hnb67 := NB1069_1053.out; have hnc67 := NB1053_1069.out; have hnb68 := NB1069_1064.out; have hnc68 := NB1064_1069.out; have hnb69 := NB1069_1075.out; have hnc69 := NB1075_1069.out
      have hcz70_0 := bc BK1069 0
      have hcz70_1 := bc BK1069 1
      have hfz70_0 := bf BK1069 0
      have hfz70_1 := bf BK1069 1
      go_upto_region 14 with (first | ((with_reducible refine gate_callee (f := 40) rfl ?_); refine gL (some 56) Try.func40 #[.agg #[.int .i64 t1065, .slice Ao31 t1066.length co31], .int .i64 1] ?_; (with_reducible refine (laws_markMoments.calls kj12 t1065 (fun k_ => some k_ = (.slice Ao31 t1066.length co31 : Value).ownBlock) (.slice Ao31 t1066.length co31) t1066 1 t1082 t1083 w _ ?side1 ?side2 A61.out).mono ?_); (case side1 => repeat (first | (with_reducible first | exact HB.out | apply below_alloc | apply pw_below_drewN | apply below_drew1 | refine below_set ?_ GE1053.out | refine below_set ?_ GE1064.out | refine below_set ?_ GE1069.out | refine below_set ?_ GE1075.out) | exact HB.out)); (case side2 => exact Kd.R_tight rfl HO_1070001.out); rintro e w71 ⟨rfl, hy0, hb, hkp⟩; refine ⟨_, rfl, ?_⟩; replace HO_1065001 := zA (Kd.R_mono (ok' := fun k_ => ax k_ (.slice Ao31 t1066.length co31) ∧ ax k_ (.slice Ao38 t1071.length co38) ∧ ax k_ (.slice Ao65 t1078.length co65)) (Kd.R_keptB (HO_1065001.out) hkp (fun k_ hk_ hs_ => (hk_.1.1) hs_)) (fun k_ hk_ => ⟨hk_.1.1.1, hk_.1.1.2, hk_.1.2⟩)); replace HO_1076001 := zA (Kd.R_mono (ok' := fun k_ => ax k_ (.slice Ao24 t1060.length co24) ∧ ax k_ (.slice Ao31 t1066.length co31) ∧ ax k_ (.slice Ao65 t1078.length co65)) (Kd.R_keptB (HO_1076001.out) hkp (fun k_ hk_ hs_ => (hk_.1.2) hs_)) (fun k_ hk_ => ⟨hk_.1.1.1, hk_.1.1.2, hk_.1.2⟩)); replace BK1053 := zA (blk_kept (uB BK1053.out) hkp (fun hs_ => (fun e_ => (Kd.R_ne HO_1070001.out BK1053.out (by decide)) e_) hs_)); replace BK1064 := zA (blk_kept (uB BK1064.out) hkp (fun hs_ => (fun e_ => (Kd.R_ne HO_1070001.out BK1064.out (by decide)) e_) hs_)); replace BK1069 := zA (blk_kept (uB BK1069.out) hkp (fun hs_ => (fun e_ => (Kd.R_ne HO_1070001.out BK1069.out (by decide)) e_) hs_)); replace BK1075 := zA (blk_kept (uB BK1075.out) hkp (fun hs_ => (fun e_ => (Kd.R_ne HO_1070001.out BK1075.out (by decide)) e_) hs_)); replace HO_1070001 := zA (Kd.R_reok rfl hy0 (fun k_ e_ => HO_1070001.out.1 k_ e_)); replace HO1080 := zA (Kd.R_mono (ok' := fun k_ => ax k_ (.slice Ao24 t1060.length co24) ∧ ax k_ (.slice Ao31 t1066.length co31) ∧ ax k_ (.slice Ao38 t1071.length co38)) (Kd.R_keptB (HO1080.out) hkp (fun k_ hk_ hs_ => (hk_.1.2) hs_)) (fun k_ hk_ => ⟨hk_.1.1.1.2, hk_.1.1.2, hk_.1.2⟩)); replace HB := zA (hb); (try clear hb); (try clear hkp); (try clear hy0)))
      (try simp only [Act.put, ls, lz, ln])
      go_cut [69] (fun v69 wc => ∃ (kq : Nat) (x69_61 : Bool), v69 = .bool x69_61 ∧ Aside0 (laws_FnExactAffineMoments.j1 kq a1 a2 t1063 x69_61 a0_0 l0_1 t1059 t1060 t1070 t1071 = some r) ∧ Aside0 (kq ≤ kj12) ∧ Aside0 (Kd.R (Kd.int .i64) 2 wc w.heap.size (fun k_ => ax k_ (.slice Ao31 t1066.length co31) ∧ ax k_ (.slice Ao38 t1071.length co38)) (.slice Ao24 t1060.length co24) t1060) ∧ Aside0 (Kd.R (Kd.int .i64) 2 wc w.heap.size (fun k_ => ax k_ (.slice Ao24 t1060.length co24) ∧ ax k_ (.slice Ao38 t1071.length co38)) (.slice Ao31 t1066.length co31) t1083) ∧ Aside0 (Kd.R (Kd.int .i64) 2 wc w.heap.size (fun k_ => ax k_ (.slice Ao24 t1060.length co24) ∧ ax k_ (.slice Ao31 t1066.length co31)) (.slice Ao38 t1071.length co38) t1071) ∧ Aside0 (wc.heap[gb1053]? = some (.cells #[.int .i64 a0_0, (.slice A0_1 l0_1.length c0_1)] 24 (0, 0))) ∧ Aside0 (wc.heap[gb1064]? = some (.cells #[.int .i64 t1059, (.slice Ao24 t1060.length co24)] 31 (0, 0))) ∧ Aside0 (wc.heap[gb1069]? = some (.cells #[.int .i64 t1065, (.slice Ao31 t1066.length co31)] 31 (0, 0))) ∧ Aside0 (wc.heap[gb1075]? = some (.cells #[.int .i64 t1070, (.slice Ao38 t1071.length co38)] 31 (0, 0))) ∧ Aside0 (Below w.heap.size w wc))
      case first =>
       have H := HC62.out
       clear HC62
       by_cases c72 : t1082 < 0
       rotate_left
       ·rw [if_neg c72] at H
        have c72b0 : decide (t1082 < 0) = false := decide_eq_false c72
        clear c72
        (first | rw [c72b0] | (simp only [i64_w, i32_w]; rw [c72b0]) | skip)
        replace H := Option.bind_eq_some_iff.mp H
        obtain ⟨t1084, A730, H⟩ := H
        replace H : (if t1084 = true then (laws_FnExactAffineMoments.j1 kj12 a1 a2 t1063 (t1074 != t1063) a0_0 l0_1 t1059 t1060 t1070 t1071) else (laws_FnExactAffineMoments.j1 kj12 a1 a2 t1063 true a0_0 l0_1 t1059 t1060 t1070 t1071)) = some r := H
        have A73 := zA A730
        clear A730
        by_cases c74 : t1084 = true
        ·subst c74
         have H1 : (laws_FnExactAffineMoments.j1 kj12 a1 a2 t1063 (t1074 != t1063) a0_0 l0_1 t1059 t1060 t1070 t1071) = some r := by rw [if_pos rfl] at H; exact H
         clear H
         have H := H1
         clear H1
         have H' := zA H
         clear H
         have hnb75 := NB1075_1053.out; have hnc75 := NB1053_1075.out; have hnb76 := NB1075_1064.out; have hnc76 := NB1064_1075.out; have hnb77 := NB1075_1069.out; have hnc77 := NB1069_1075.out
         have hcz78_0 := bc BK1075 0
         have hcz78_1 := bc BK1075 1
         have hfz78_0 := bf BK1075 0
         have hfz78_1 := bf BK1075 1
         have hnb79 := NB1064_1053.out; have hnc79 := NB1053_1064.out; have hnb80 := NB1064_1069.out; have hnc80 := NB1069_1064.out
         have hcz81_0 := bc BK1064 0
         have hcz81_1 := bc BK1064 1
         have hfz81_0 := bf BK1064 0
         have hfz81_1 := bf BK1064 1
         go_wp2_with (first | (go_at_call 22; (with_reducible refine (laws_eqMoments.calls kj12 t1070 _ _ t1071 t1059 _ _ t1060 true _ ?side1 ?side2 ?side3 ?side4 A73.out).mono ?_); (case side1 => exact uC ((Kd.R_reads' HO_1076001.out).2.2)); (case side2 => exact (Kd.R_reads' HO_1076001.out).2.1); (case side3 => exact uC ((Kd.R_reads' HO_1065001.out).2.2)); (case side4 => exact (Kd.R_reads' HO_1065001.out).2.1); rintro e w82 ⟨rfl, hb⟩; replace HO_1065001 := xR HO_1065001 hb; replace HO_1070001 := xR HO_1070001 hb; replace HO_1076001 := xR HO_1076001 hb; replace HO1080 := xR HO1080 hb; replace BK1053 := xB BK1053 hb; replace BK1064 := xB BK1064 hb; replace BK1069 := xB BK1069 hb; replace BK1075 := xB BK1075 hb; replace HB := xH HB hb; (try clear hb); (try clear hb2); (try clear hk); (try clear hi)))
         go_meet
         case rel => exact ⟨_, ((t1074 != t1063)), (by first | rfl | (simp; done) | (simp [*]; done)), H', ⟨by have := HJ12.out; first | omega | exact Nat.le_refl _⟩, ⟨uR (Kd.R_mono HO_1065001.out (fun _ hk => ⟨hk.1, hk.2.1⟩))⟩, ⟨uR (Kd.R_mono HO_1070001.out (fun _ hk => ⟨hk.1.1, hk.1.2⟩))⟩, ⟨uR (Kd.R_mono HO_1076001.out (fun _ hk => ⟨hk.1, hk.2.1⟩))⟩, ⟨uB BK1053.out⟩, ⟨uB BK1064.out⟩, ⟨uB BK1069.out⟩, ⟨uB BK1075.out⟩, ⟨uH HB.out⟩⟩
        ·replace c74 := Bool.eq_false_iff.mpr c74
         subst c74
         have H1 : (laws_FnExactAffineMoments.j1 kj12 a1 a2 t1063 true a0_0 l0_1 t1059 t1060 t1070 t1071) = some r := by rw [if_neg (show ¬ (false = true) by decide)] at H; exact H
         clear H
         have H := H1
         clear H1
         have H' := zA H
         clear H
         have hnb83 := NB1075_1053.out; have hnc83 := NB1053_1075.out; have hnb84 := NB1075_1064.out; have hnc84 := NB1064_1075.out; have hnb85 := NB1075_1069.out; have hnc85 := NB1069_1075.out
         have hcz86_0 := bc BK1075 0
         have hcz86_1 := bc BK1075 1
         have hfz86_0 := bf BK1075 0
         have hfz86_1 := bf BK1075 1
         have hnb87 := NB1064_1053.out; have hnc87 := NB1053_1064.out; have hnb88 := NB1064_1069.out; have hnc88 := NB1069_1064.out
         have hcz89_0 := bc BK1064 0
         have hcz89_1 := bc BK1064 1
         have hfz89_0 := bf BK1064 0
         have hfz89_1 := bf BK1064 1
         go_wp2_with (first | (go_at_call 22; (with_reducible refine (laws_eqMoments.calls kj12 t1070 _ _ t1071 t1059 _ _ t1060 false _ ?side1 ?side2 ?side3 ?side4 A73.out).mono ?_); (case side1 => exact uC ((Kd.R_reads' HO_1076001.out).2.2)); (case side2 => exact (Kd.R_reads' HO_1076001.out).2.1); (case side3 => exact uC ((Kd.R_reads' HO_1065001.out).2.2)); (case side4 => exact (Kd.R_reads' HO_1065001.out).2.1); rintro e w90 ⟨rfl, hb⟩; replace HO_1065001 := xR HO_1065001 hb; replace HO_1070001 := xR HO_1070001 hb; replace HO_1076001 := xR HO_1076001 hb; replace HO1080 := xR HO1080 hb; replace BK1053 := xB BK1053 hb; replace BK1064 := xB BK1064 hb; replace BK1069 := xB BK1069 hb; replace BK1075 := xB BK1075 hb; replace HB := xH HB hb; (try clear hb); (try clear hb2); (try clear hk); (try clear hi)))
         go_meet
         case rel => exact ⟨_, (true), (by first | rfl | (simp; done) | (simp [*]; done)), H', ⟨by have := HJ12.out; first | omega | exact Nat.le_refl _⟩, ⟨uR (Kd.R_mono HO_1065001.out (fun _ hk => ⟨hk.1, hk.2.1⟩))⟩, ⟨uR (Kd.R_mono HO_1070001.out (fun _ hk => ⟨hk.1.1, hk.1.2⟩))⟩, ⟨uR (Kd.R_mono HO_1076001.out (fun _ hk => ⟨hk.1, hk.2.1⟩))⟩, ⟨uB BK1053.out⟩, ⟨uB BK1064.out⟩, ⟨uB BK1069.out⟩, ⟨uB BK1075.out⟩, ⟨uH HB.out⟩⟩
       rw [if_pos c72] at H
       have c72b0 : decide (t1082 < 0) = true := decide_eq_true c72
       clear c72
       (first | rw [c72b0] | (simp only [i64_w, i32_w]; rw [c72b0]) | skip)
       have H' := zA H
       clear H
       go_wp2
       go_meet
       case rel => exact ⟨_, (true), (by first | rfl | (simp; done) | (simp [*]; done)), H', ⟨by have := HJ12.out; first | omega | exact Nat.le_refl _⟩, ⟨uR (Kd.R_mono HO_1065001.out (fun _ hk => ⟨hk.1, hk.2.1⟩))⟩, ⟨uR (Kd.R_mono HO_1070001.out (fun _ hk => ⟨hk.1.1, hk.1.2⟩))⟩, ⟨uR (Kd.R_mono HO_1076001.out (fun _ hk => ⟨hk.1, hk.2.1⟩))⟩, ⟨uB BK1053.out⟩, ⟨uB BK1064.out⟩, ⟨uB BK1069.out⟩, ⟨uB BK1075.out⟩, ⟨uH HB.out⟩⟩
      case rest =>
       clear HC62
       (try clear c1);(try clear c2);(try clear p2);(try clear c3);(try clear c4);(try clear c5);(try clear c5b0);(try clear c6);(try clear c7);(try clear c8);(try clear c9);(try clear c15);(try clear c18);(try clear c22);(try clear c28);(try clear c29);(try clear c34);(try clear c35);(try clear c36);(try clear c40);(try clear c41);(try clear c42);(try clear c43);(try clear c44);(try clear c45);(try clear c46)
       (try clear c49);(try clear c50);(try clear c51);(try clear c53);(try clear c54);(try clear c57);(try clear c60);(try clear c67);(try clear c68);(try clear c69);(try clear c72);(try clear c72b0);(try clear c74);(try clear c75);(try clear c76);(try clear c77);(try clear c79);(try clear c80);(try clear c83);(try clear c84);(try clear c85);(try clear c87);(try clear c88);(try clear hcz15_0);(try clear hcz15_1)
       (try clear hcz17_0);(try clear hcz17_1);(try clear hcz23_0);(try clear hcz23_1);(try clear hcz25_0);(try clear hcz25_1);(try clear hcz30_0);(try clear hcz30_1);(try clear hcz37_0);(try clear hcz37_1);(try clear hcz44_0);(try clear hcz44_1);(try clear hcz47_0);(try clear hcz47_1);(try clear hcz52_0);(try clear hcz52_1);(try clear hcz55_0);(try clear hcz55_1);(try clear hcz70_0);(try clear hcz70_1)
       (try clear hcz78_0);(try clear hcz78_1);(try clear hcz7_0);(try clear hcz7_1);(try clear hcz81_0);(try clear hcz81_1);(try clear hcz86_0);(try clear hcz86_1);(try clear hcz89_0);(try clear hcz89_1);(try clear hfz15_0);(try clear hfz15_1);(try clear hfz17_0);(try clear hfz17_1);(try clear hfz23_0);(try clear hfz23_1);(try clear hfz25_0);(try clear hfz25_1);(try clear hfz30_0);(try clear hfz30_1)
       (try clear hfz37_0);(try clear hfz37_1);(try clear hfz44_0);(try clear hfz44_1);(try clear hfz47_0);(try clear hfz47_1);(try clear hfz52_0);(try clear hfz52_1);(try clear hfz55_0);(try clear hfz55_1);(try clear hfz70_0);(try clear hfz70_1);(try clear hfz78_0);(try clear hfz78_1);(try clear hfz7_0);(try clear hfz7_1);(try clear hfz81_0);(try clear hfz81_1);(try clear hfz86_0);(try clear hfz86_1)
       (try clear hfz89_0);(try clear hfz89_1);(try clear p2)
       obtain ⟨kq, x69_61, rfl, HA, HJ61, HO_1065001, HO_1070001, HO_1076001, BK1053, BK1064, BK1069, BK1075, HB⟩ := hcut
       have hl1070001_61 := (Kd.R_reads' HO_1070001.out).1
       rw [hl1070001_61] at HO_1070001
       (try simp only [hl1070001_61])
       (try simp only [hl1070001_61] at BK1053)
       (try simp only [hl1070001_61] at BK1064)
       (try simp only [hl1070001_61] at BK1069)
       (try simp only [hl1070001_61] at BK1075)
       (try simp only [hl1070001_61] at HO_1065001)
       (try simp only [hl1070001_61] at HO_1076001)
       cases kq with
       | zero => exact absurd HA.out (by simp [laws_FnExactAffineMoments.j1])
       | succ kj61 =>
        have H := HA.out
        clear HA
        simp only [laws_FnExactAffineMoments.j1] at H
        by_cases c91 : x69_61 = true
        ·subst c91
         have H1 : (some false) = some r := by rw [if_pos rfl] at H; exact H
         clear H
         have H := H1
         clear H1
         rw [HRT.out] at H
         exact absurd H (by simp)
        ·replace c91 := Bool.eq_false_iff.mpr c91
         subst c91
         have H1 : ((laws_markMoments.f kj61 t1070 t1071 1).bind fun bt1085 => ((laws_heldMoments.f kj61 t1070 bt1085.2 1).bind fun t1087 => (if t1087 < 0 then (some false) else (if t1087 = bt1085.1 then ((laws_toMoments.f kj61 a0_0 l0_1).bind fun bt1088 => ((impl_AffineMoments.f kj61 bt1088.1 bt1088.2 a1 a2).bind fun bt1092 => ((laws_eqMoments.f kj61 bt1092.1 bt1092.2.1 t1059 t1060).bind fun t1098 => (if t1098 = true then (laws_FnExactAffineMoments.j2 kj61 bt1085.1 (bt1092.2.2 != t1063) t1070 bt1085.2) else (laws_FnExactAffineMoments.j2 kj61 bt1085.1 true t1070 bt1085.2))))) else (some false))))) = some r := by rw [if_neg (show ¬ (false = true) by decide)] at H; exact H
         clear H
         have H := H1
         clear H1
         replace H := Option.bind_eq_some_iff.mp H
         obtain ⟨⟨t1085, t1086⟩, A920, H⟩ := H
         replace H : ((laws_heldMoments.f kj61 t1070 t1086 1).bind fun t1087 => (if t1087 < 0 then (some false) else (if t1087 = t1085 then ((laws_toMoments.f kj61 a0_0 l0_1).bind fun bt1088 => ((impl_AffineMoments.f kj61 bt1088.1 bt1088.2 a1 a2).bind fun bt1092 => ((laws_eqMoments.f kj61 bt1092.1 bt1092.2.1 t1059 t1060).bind fun t1098 => (if t1098 = true then (laws_FnExactAffineMoments.j2 kj61 t1085 (bt1092.2.2 != t1063) t1070 t1086) else (laws_FnExactAffineMoments.j2 kj61 t1085 true t1070 t1086))))) else (some false)))) = some r := H
         have A92 := zA A920
         clear A920
         replace H := Option.bind_eq_some_iff.mp H
         obtain ⟨t1087, A930, H⟩ := H
         replace H : (if t1087 < 0 then (some false) else (if t1087 = t1085 then ((laws_toMoments.f kj61 a0_0 l0_1).bind fun bt1088 => ((impl_AffineMoments.f kj61 bt1088.1 bt1088.2 a1 a2).bind fun bt1092 => ((laws_eqMoments.f kj61 bt1092.1 bt1092.2.1 t1059 t1060).bind fun t1098 => (if t1098 = true then (laws_FnExactAffineMoments.j2 kj61 t1085 (bt1092.2.2 != t1063) t1070 t1086) else (laws_FnExactAffineMoments.j2 kj61 t1085 true t1070 t1086))))) else (some false))) = some r := H
         have A93 := zA A930
         clear A930
         by_cases c94 : t1087 < 0
         rotate_left
         ·rw [if_neg c94] at H
          have c94b0 : decide (t1087 < 0) = false := decide_eq_false c94
          clear c94
          by_cases c95 : t1087 = t1085
          rotate_left
          ·rw [if_neg c95] at H
           have c95b0 : (t1087 == t1085) = false := beq_eq_false_iff_ne.mpr c95
           have c95b1 : (t1087 != t1085) = true := bne_iff_ne.mpr c95
           rw [HRT.out] at H
           exact absurd H (by simp)
          rw [if_pos c95] at H
          have c95b0 : (t1087 == t1085) = true := beq_iff_eq.mpr c95
          have c95b1 : (t1087 != t1085) = false := bne_eq_false_iff_eq.mpr c95
          clear c95
          replace H := Option.bind_eq_some_iff.mp H
          obtain ⟨⟨t1088, t1089⟩, A960, H⟩ := H
          replace H : ((impl_AffineMoments.f kj61 t1088 t1089 a1 a2).bind fun bt1092 => ((laws_eqMoments.f kj61 bt1092.1 bt1092.2.1 t1059 t1060).bind fun t1098 => (if t1098 = true then (laws_FnExactAffineMoments.j2 kj61 t1085 (bt1092.2.2 != t1063) t1070 t1086) else (laws_FnExactAffineMoments.j2 kj61 t1085 true t1070 t1086)))) = some r := H
          have A96 := zA A960
          clear A960
          replace H := Option.bind_eq_some_iff.mp H
          obtain ⟨⟨t1092, t1093, t1096⟩, A970, H⟩ := H
          replace H : ((laws_eqMoments.f kj61 t1092 t1093 t1059 t1060).bind fun t1098 => (if t1098 = true then (laws_FnExactAffineMoments.j2 kj61 t1085 (t1096 != t1063) t1070 t1086) else (laws_FnExactAffineMoments.j2 kj61 t1085 true t1070 t1086))) = some r := H
          have A97 := zA A970
          clear A970
          have HC98 := zA H
          clear H
          have hnb99 := NB1075_1053.out; have hnc99 := NB1053_1075.out; have hnb100 := NB1075_1064.out; have hnc100 := NB1064_1075.out; have hnb101 := NB1075_1069.out; have hnc101 := NB1069_1075.out
          have hcz102_0 := bc BK1075 0
          have hcz102_1 := bc BK1075 1
          have hfz102_0 := bf BK1075 0
          have hfz102_1 := bf BK1075 1
          go_upto_region 25 with (first | ((with_reducible refine gate_callee (f := 40) rfl ?_); refine gL (some 72) Try.func40 #[.agg #[.int .i64 t1070, .slice Ao38 t1071.length co38], .int .i64 1] ?_; (with_reducible refine (laws_markMoments.calls kj61 t1070 (fun k_ => some k_ = (.slice Ao38 t1071.length co38 : Value).ownBlock) (.slice Ao38 t1071.length co38) t1071 1 t1085 t1086 w _ ?side1 ?side2 A92.out).mono ?_); (case side1 => repeat (first | (with_reducible first | exact HB.out | apply below_alloc | apply pw_below_drewN | apply below_drew1 | refine below_set ?_ GE1053.out | refine below_set ?_ GE1064.out | refine below_set ?_ GE1069.out | refine below_set ?_ GE1075.out) | exact HB.out)); (case side2 => exact Kd.R_tight rfl HO_1076001.out); rintro e w103 ⟨rfl, hy0, hb, hkp⟩; refine ⟨_, rfl, ?_⟩; replace HO_1065001 := zA (Kd.R_mono (ok' := fun k_ => ax k_ (.slice Ao31 t1083.length co31) ∧ ax k_ (.slice Ao38 t1071.length co38)) (Kd.R_keptB (HO_1065001.out) hkp (fun k_ hk_ hs_ => (hk_.2) hs_)) (fun k_ hk_ => ⟨hk_.1.1, hk_.1.2⟩)); replace HO_1070001 := zA (Kd.R_mono (ok' := fun k_ => ax k_ (.slice Ao24 t1060.length co24) ∧ ax k_ (.slice Ao38 t1071.length co38)) (Kd.R_keptB (HO_1070001.out) hkp (fun k_ hk_ hs_ => (hk_.2) hs_)) (fun k_ hk_ => ⟨hk_.1.1, hk_.1.2⟩)); replace BK1053 := zA (blk_kept (uB BK1053.out) hkp (fun hs_ => (fun e_ => (Kd.R_ne HO_1076001.out BK1053.out (by decide)) e_) hs_)); replace BK1064 := zA (blk_kept (uB BK1064.out) hkp (fun hs_ => (fun e_ => (Kd.R_ne HO_1076001.out BK1064.out (by decide)) e_) hs_)); replace BK1069 := zA (blk_kept (uB BK1069.out) hkp (fun hs_ => (fun e_ => (Kd.R_ne HO_1076001.out BK1069.out (by decide)) e_) hs_)); replace BK1075 := zA (blk_kept (uB BK1075.out) hkp (fun hs_ => (fun e_ => (Kd.R_ne HO_1076001.out BK1075.out (by decide)) e_) hs_)); replace HO_1076001 := zA (Kd.R_reok rfl hy0 (fun k_ e_ => HO_1076001.out.1 k_ e_)); replace HB := zA (hb); (try clear hb); (try clear hkp); (try clear hy0); have hcz104_0 := bc BK1075 0; have hcz104_1 := bc BK1075 1; have hfz104_0 := bf BK1075 0; have hfz104_1 := bf BK1075 1) | ((with_reducible refine gate_callee (f := 42) rfl ?_); refine goesL_ (some 75) rfl rfl Try.func42 (by kernel_rfl) rfl #[.agg #[.int .i64 t1070, .slice Ao38 t1086.length co38], .int .i64 1] rfl (by (try simp only [la, lb, lc]); first | done | (rw [show t1086.length = t1071.length from (Kd.R_reads' HO_1076001.out).1.symm] <;> rfl) | rfl | (simp only [ld, le]; rfl)) ?_; (with_reducible refine (laws_heldMoments.calls kj61 t1070 _ _ t1086 1 t1087 _ ?side1 ?side2 A93.out).mono ?_); (case side1 => exact uC ((Kd.R_reads' HO_1076001.out).2.2)); (case side2 => rw [show t1086.length = t1071.length from (Kd.R_reads' HO_1076001.out).1.symm]; exact (Kd.R_reads' HO_1076001.out).2.1); rintro e w105 ⟨rfl, hb⟩; refine ⟨_, rfl, ?_⟩; replace HO_1065001 := xR HO_1065001 hb; replace HO_1070001 := xR HO_1070001 hb; replace HO_1076001 := xR HO_1076001 hb; replace BK1053 := xB BK1053 hb; replace BK1064 := xB BK1064 hb; replace BK1069 := xB BK1069 hb; replace BK1075 := xB BK1075 hb; replace HB := xH HB hb; (try clear hb); (try clear hb2); (try clear hk); (try clear hi); have hnb106 := NB1053_1064.out; have hnc106 := NB1064_1053.out; have hnb107 := NB1053_1069.out; have hnc107 := NB1069_1053.out; have hcz108_0 := bc BK1053 0; have hcz108_1 := bc BK1053 1; have hfz108_0 := bf BK1053 0; have hfz108_1 := bf BK1053 1) | ((with_reducible refine gate_callee (f := 18) rfl ?_); refine gL (some 83) Try.func18 #[.agg #[.int .i64 a0_0, .slice A0_1 l0_1.length c0_1]] ?_; (with_reducible refine (laws_toMoments.calls kj61 a0_0 _ _ l0_1 t1088 t1089 _ ?side1 ?side2 A96.out).mono ?_); (case side1 => exact uC ((Kd.C_below HR0_1.out HB.out))); (case side2 => exact HC0_1.out); rintro e w109 ⟨v1090, rfl, ho0, hb⟩; refine ⟨_, rfl, ?_⟩; have HO1091 := zA (Kd.R_lower (Kd.R_new' (Kd.R_new' (Kd.R_new' ho0 (Kd.R_lt (uR HO_1065001.out))) (Kd.R_lt (uR HO_1070001.out))) (Kd.R_lt (uR HO_1076001.out))) (below_size (uH HB.out))); replace HO_1065001 := zA (Kd.R_elder' (uR HO_1065001.out) (Kd.R_base ho0) hb); replace HO_1070001 := zA (Kd.R_elder' (uR HO_1070001.out) (Kd.R_base ho0) hb); replace HO_1076001 := zA (Kd.R_elder' (uR HO_1076001.out) (Kd.R_base ho0) hb); replace BK1053 := xB BK1053 hb; replace BK1064 := xB BK1064 hb; replace BK1069 := xB BK1069 hb; replace BK1075 := xB BK1075 hb; replace HB := xH HB hb; (try clear hb); (try clear hb2); (try clear hk); (try clear hi); (try clear ho0); obtain ⟨Ao110, co110, eo110⟩ := Kd.R_slice HO1091.out; subst eo110) | ((with_reducible refine gate_callee (f := 44) rfl ?_); refine gL (some 86) Try.func44 #[.agg #[.int .i64 t1088, .slice Ao110 t1089.length co110], .int .i64 a1, .int .i64 a2] ?_; (with_reducible refine (impl_AffineMoments.calls kj61 t1088 _ _ t1089 a1 a2 t1092 t1093 t1096 _ ?side1 ?side2 A97.out).mono ?_); (case side1 => exact uC ((Kd.R_reads' HO1091.out).2.2)); (case side2 => exact (Kd.R_reads' HO1091.out).2.1); rintro e w111 ⟨v1094, rfl, ho0, hb⟩; refine ⟨_, rfl, ?_⟩; have HO1095 := zA (Kd.R_lower (Kd.R_new' (Kd.R_new' (Kd.R_new' (Kd.R_new' ho0 (Kd.R_lt (uR HO_1065001.out))) (Kd.R_lt (uR HO_1070001.out))) (Kd.R_lt (uR HO_1076001.out))) (Kd.R_lt (uR HO1091.out))) (below_size (uH HB.out))); replace HO_1065001 := zA (Kd.R_elder' (uR HO_1065001.out) (Kd.R_base ho0) hb); replace HO_1070001 := zA (Kd.R_elder' (uR HO_1070001.out) (Kd.R_base ho0) hb); replace HO_1076001 := zA (Kd.R_elder' (uR HO_1076001.out) (Kd.R_base ho0) hb); replace HO1091 := zA (Kd.R_elder' (uR HO1091.out) (Kd.R_base ho0) hb); replace BK1053 := xB BK1053 hb; replace BK1064 := xB BK1064 hb; replace BK1069 := xB BK1069 hb; replace BK1075 := xB BK1075 hb; replace HB := xH HB hb; (try clear hb); (try clear hb2); (try clear hk); (try clear hi); (try clear ho0)) | ((with_reducible refine gate_dst (N := 16) rfl ?_); refine bx 16 #[.int .i64 0, .slice none 0 0] 31 ?_; intro gb1097 hg w112 hbox hb; replace HO_1065001 := xR HO_1065001 hb; replace HO_1070001 := xR HO_1070001 hb; replace HO_1076001 := xR HO_1076001 hb; replace HO1091 := xR HO1091 hb; replace HO1095 := xR HO1095 hb; have BK1097 := zA (hbox); have GW1097 := gq HB hg; have GE1097 := gq HB hg; replace HB := xH HB hb; have NB1053_1097 := zA ((by rw [hg]; exact neL BK1053 : gb1053 ≠ gb1097)); have NB1097_1053 := zA ((by rw [hg]; exact neG BK1053 : gb1097 ≠ gb1053)); replace BK1053 := xB BK1053 hb; have NB1064_1097 := zA ((by rw [hg]; exact neL BK1064 : gb1064 ≠ gb1097)); have NB1097_1064 := zA ((by rw [hg]; exact neG BK1064 : gb1097 ≠ gb1064)); replace BK1064 := xB BK1064 hb; have NB1069_1097 := zA ((by rw [hg]; exact neL BK1069 : gb1069 ≠ gb1097)); have NB1097_1069 := zA ((by rw [hg]; exact neG BK1069 : gb1097 ≠ gb1069)); replace BK1069 := xB BK1069 hb; have NB1075_1097 := zA ((by rw [hg]; exact neL BK1075 : gb1075 ≠ gb1097)); have NB1097_1075 := zA ((by rw [hg]; exact neG BK1075 : gb1097 ≠ gb1075)); replace BK1075 := xB BK1075 hb; have := geI GE1097; clear hb hbox hg; have hnb113 := NB1097_1053.out; have hnc113 := NB1053_1097.out; have hnb114 := NB1097_1064.out; have hnc114 := NB1064_1097.out; have hnb115 := NB1097_1069.out; have hnc115 := NB1069_1097.out; have hnb116 := NB1097_1075.out; have hnc116 := NB1075_1097.out; have hcz117_0 := bc BK1097 0; have hcz117_1 := bc BK1097 1; have hfz117_0 := bf BK1097 0; have hfz117_1 := bf BK1097 1; obtain ⟨Ao118, co118, eo118⟩ := Kd.R_slice HO1095.out; subst eo118))
          (try simp only [Act.put, ls, lz, ln])
          go_cut [97] (fun v97 wc => ∃ (kq : Nat) (x97_97 : Bool), v97 = .bool x97_97 ∧ Aside0 (laws_FnExactAffineMoments.j2 kq t1085 x97_97 t1070 t1086 = some r) ∧ Aside0 (kq ≤ kj61) ∧ Aside0 (Kd.R (Kd.int .i64) 2 wc w.heap.size (fun k_ => ax k_ (.slice Ao31 t1083.length co31) ∧ ax k_ (.slice Ao38 t1071.length co38) ∧ ax k_ (.slice Ao118 t1093.length co118)) (.slice Ao24 t1060.length co24) t1060) ∧ Aside0 (Kd.R (Kd.int .i64) 2 wc w.heap.size (fun k_ => ax k_ (.slice Ao24 t1060.length co24) ∧ ax k_ (.slice Ao38 t1071.length co38) ∧ ax k_ (.slice Ao118 t1093.length co118)) (.slice Ao31 t1083.length co31) t1083) ∧ Aside0 (Kd.R (Kd.int .i64) 2 wc w.heap.size (fun k_ => ax k_ (.slice Ao24 t1060.length co24) ∧ ax k_ (.slice Ao31 t1083.length co31) ∧ ax k_ (.slice Ao118 t1093.length co118)) (.slice Ao38 t1071.length co38) t1086) ∧ Aside0 (Kd.R (Kd.int .i64) 2 wc w.heap.size (fun k_ => ax k_ (.slice Ao24 t1060.length co24) ∧ ax k_ (.slice Ao31 t1083.length co31) ∧ ax k_ (.slice Ao38 t1071.length co38)) (.slice Ao118 t1093.length co118) t1093) ∧ Aside0 (wc.heap[gb1053]? = some (.cells #[.int .i64 a0_0, (.slice A0_1 l0_1.length c0_1)] 24 (0, 0))) ∧ Aside0 (wc.heap[gb1064]? = some (.cells #[.int .i64 t1059, (.slice Ao24 t1060.length co24)] 31 (0, 0))) ∧ Aside0 (wc.heap[gb1069]? = some (.cells #[.int .i64 t1065, (.slice Ao31 t1083.length co31)] 31 (0, 0))) ∧ Aside0 (wc.heap[gb1075]? = some (.cells #[.int .i64 t1070, (.slice Ao38 t1071.length co38)] 31 (0, 0))) ∧ Aside0 (wc.heap[gb1097]? = some (.cells #[.int .i64 t1092, (.slice Ao118 t1093.length co118)] 31 (0, 0))) ∧ Aside0 (Below w.heap.size w wc))
          case first =>
           have H := HC98.out
           clear HC98
           replace H := Option.bind_eq_some_iff.mp H
           obtain ⟨t1098, A1190, H⟩ := H
           replace H : (if t1098 = true then (laws_FnExactAffineMoments.j2 kj61 t1085 (t1096 != t1063) t1070 t1086) else (laws_FnExactAffineMoments.j2 kj61 t1085 true t1070 t1086)) = some r := H
           have A119 := zA A1190
           clear A1190
           by_cases c120 : t1098 = true
           ·subst c120
            have H1 : (laws_FnExactAffineMoments.j2 kj61 t1085 (t1096 != t1063) t1070 t1086) = some r := by rw [if_pos rfl] at H; exact H
            clear H
            have H := H1
            clear H1
            have H' := zA H
            clear H
            have hnb121 := NB1097_1053.out; have hnc121 := NB1053_1097.out; have hnb122 := NB1097_1064.out; have hnc122 := NB1064_1097.out; have hnb123 := NB1097_1069.out; have hnc123 := NB1069_1097.out; have hnb124 := NB1097_1075.out; have hnc124 := NB1075_1097.out
            have hcz125_0 := bc BK1097 0
            have hcz125_1 := bc BK1097 1
            have hfz125_0 := bf BK1097 0
            have hfz125_1 := bf BK1097 1
            have hnb126 := NB1064_1053.out; have hnc126 := NB1053_1064.out; have hnb127 := NB1064_1069.out; have hnc127 := NB1069_1064.out; have hnb128 := NB1064_1075.out; have hnc128 := NB1075_1064.out
            have hcz129_0 := bc BK1064 0
            have hcz129_1 := bc BK1064 1
            have hfz129_0 := bf BK1064 0
            have hfz129_1 := bf BK1064 1
            go_wp2_with (first | ((with_reducible refine gate_callee (f := 22) rfl ?_); refine gL (some 91) Try.func22 #[.agg #[.int .i64 t1092, .slice Ao118 t1093.length co118], .agg #[.int .i64 t1059, .slice Ao24 t1060.length co24]] ?_; (with_reducible refine (laws_eqMoments.calls kj61 t1092 _ _ t1093 t1059 _ _ t1060 true _ ?side1 ?side2 ?side3 ?side4 A119.out).mono ?_); (case side1 => refine (Kd.R_reads' (e := 2) (base := w.heap.size) (ok := fun k_ => ((((True ∧ ax k_ (.slice Ao24 t1060.length co24)) ∧ ax k_ (.slice Ao31 t1083.length co31)) ∧ ax k_ (.slice Ao38 t1071.length co38)) ∧ ax k_ (.slice Ao110 t1089.length co110))) (n := t1093.length) (c := co118) ?_).2.2; exact (uR ((rf2 HO1095 BK1097 (by decide) (.int .i64 t1092) (.slice Ao118 t1093.length co118))))); (case side2 => exact (Kd.R_reads' HO1095.out).2.1); (case side3 => refine (Kd.R_reads' (e := 2) (base := w.heap.size) (ok := fun k_ => (((ax k_ (.slice Ao31 t1083.length co31) ∧ ax k_ (.slice Ao38 t1071.length co38)) ∧ ax k_ (.slice Ao110 t1089.length co110)) ∧ ax k_ (.slice Ao118 t1093.length co118))) (n := t1060.length) (c := co24) ?_).2.2; exact (uR ((rf2 HO_1065001 BK1097 (by decide) (.int .i64 t1092) (.slice Ao118 t1093.length co118))))); (case side4 => exact (Kd.R_reads' HO_1065001.out).2.1); rintro e w130 ⟨rfl, hb⟩; refine ⟨_, rfl, ?_⟩; replace HO_1065001 := zA (Kd.R_below (uR ((rf2 HO_1065001 BK1097 (by decide) (.int .i64 t1092) (.slice Ao118 t1093.length co118)))) hb); replace HO_1070001 := zA (Kd.R_below (uR ((rf2 HO_1070001 BK1097 (by decide) (.int .i64 t1092) (.slice Ao118 t1093.length co118)))) hb); replace HO_1076001 := zA (Kd.R_below (uR ((rf2 HO_1076001 BK1097 (by decide) (.int .i64 t1092) (.slice Ao118 t1093.length co118)))) hb); replace HO1091 := zA (Kd.R_below (uR ((rf2 HO1091 BK1097 (by decide) (.int .i64 t1092) (.slice Ao118 t1093.length co118)))) hb); replace HO1095 := zA (Kd.R_below (uR ((rf2 HO1095 BK1097 (by decide) (.int .i64 t1092) (.slice Ao118 t1093.length co118)))) hb); replace BK1053 := zA (blk_below (g := gb1053) (o := .cells #[.int .i64 a0_0, .slice A0_1 l0_1.length c0_1] 24 (0, 0)) (by (repeat refine up1 ?_); refine blk_far ?_ NB1053_1097.out _; (repeat refine up1 ?_); refine blk_far ?_ NB1053_1097.out _; (repeat refine up1 ?_); exact BK1053.out) hb); replace BK1064 := zA (blk_below (g := gb1064) (o := .cells #[.int .i64 t1059, .slice Ao24 t1060.length co24] 31 (0, 0)) (by (repeat refine up1 ?_); refine blk_far ?_ NB1064_1097.out _; (repeat refine up1 ?_); refine blk_far ?_ NB1064_1097.out _; (repeat refine up1 ?_); exact BK1064.out) hb); replace BK1069 := zA (blk_below (g := gb1069) (o := .cells #[.int .i64 t1065, .slice Ao31 t1083.length co31] 31 (0, 0)) (by (repeat refine up1 ?_); refine blk_far ?_ NB1069_1097.out _; (repeat refine up1 ?_); refine blk_far ?_ NB1069_1097.out _; (repeat refine up1 ?_); exact BK1069.out) hb); replace BK1075 := zA (blk_below (g := gb1075) (o := .cells #[.int .i64 t1070, .slice Ao38 t1071.length co38] 31 (0, 0)) (by (repeat refine up1 ?_); refine blk_far ?_ NB1075_1097.out _; (repeat refine up1 ?_); refine blk_far ?_ NB1075_1097.out _; (repeat refine up1 ?_); exact BK1075.out) hb); replace BK1097 := zA (blk_below (g := gb1097) (o := .cells #[.int .i64 t1092, .slice Ao118 t1093.length co118] 31 (0, 0)) (by (repeat refine up1 ?_); refine blk_put (cs := #[.int .i64 t1092, .slice none 0 0]) ?_ 1 _ rfl; (repeat refine up1 ?_); refine blk_put (cs := #[.int .i64 0, .slice none 0 0]) ?_ 0 _ rfl; (repeat refine up1 ?_); exact BK1097.out) hb); replace HB := xH HB hb; (try clear hb); (try clear hb2); (try clear hk); (try clear hi)))
            go_meet
            case rel => exact ⟨_, ((t1096 != t1063)), (by first | rfl | (simp; done) | (simp [*]; done)), H', ⟨by have := HJ12.out; have := HJ61.out; first | omega | exact Nat.le_refl _⟩, ⟨by (try simp only [hl1070001_61]); (with_reducible repeat (first | apply Kd.R_alloc | apply Kd.R_drewN | apply Kd.R_drew)); exact Kd.R_mono HO_1065001.out (fun _ hk => ⟨hk.1.1.1, ⟨hk.1.1.2, hk.2⟩⟩)⟩, ⟨by (try simp only [hl1070001_61]); (with_reducible repeat (first | apply Kd.R_alloc | apply Kd.R_drewN | apply Kd.R_drew)); exact Kd.R_mono HO_1070001.out (fun _ hk => ⟨hk.1.1.1, ⟨hk.1.1.2, hk.2⟩⟩)⟩, ⟨by (try simp only [hl1070001_61]); (with_reducible repeat (first | apply Kd.R_alloc | apply Kd.R_drewN | apply Kd.R_drew)); exact Kd.R_mono HO_1076001.out (fun _ hk => ⟨hk.1.1.1, ⟨hk.1.1.2, hk.2⟩⟩)⟩, ⟨by (try simp only [hl1070001_61]); (with_reducible repeat (first | apply Kd.R_alloc | apply Kd.R_drewN | apply Kd.R_drew)); exact Kd.R_mono HO1095.out (fun _ hk => ⟨hk.1.1.1.2, ⟨hk.1.1.2, hk.1.2⟩⟩)⟩, ⟨by (try simp only [hl1070001_61]); (repeat refine up1 ?_); exact BK1053.out⟩, ⟨by (try simp only [hl1070001_61]); (repeat refine up1 ?_); exact BK1064.out⟩, ⟨by (try simp only [hl1070001_61]); (repeat refine up1 ?_); exact BK1069.out⟩, ⟨by (try simp only [hl1070001_61]); (repeat refine up1 ?_); exact BK1075.out⟩, ⟨by (try simp only [hl1070001_61]); (repeat refine up1 ?_); exact BK1097.out⟩, ⟨uH HB.out⟩⟩
           ·replace c120 := Bool.eq_false_iff.mpr c120
            subst c120
            have H1 : (laws_FnExactAffineMoments.j2 kj61 t1085 true t1070 t1086) = some r := by rw [if_neg (show ¬ (false = true) by decide)] at H; exact H
            clear H
            have H := H1
            clear H1
            have H' := zA H
            clear H
            have hnb131 := NB1097_1053.out; have hnc131 := NB1053_1097.out; have hnb132 := NB1097_1064.out; have hnc132 := NB1064_1097.out; have hnb133 := NB1097_1069.out; have hnc133 := NB1069_1097.out; have hnb134 := NB1097_1075.out; have hnc134 := NB1075_1097.out
            have hcz135_0 := bc BK1097 0
            have hcz135_1 := bc BK1097 1
            have hfz135_0 := bf BK1097 0
            have hfz135_1 := bf BK1097 1
            have hnb136 := NB1064_1053.out; have hnc136 := NB1053_1064.out; have hnb137 := NB1064_1069.out; have hnc137 := NB1069_1064.out; have hnb138 := NB1064_1075.out; have hnc138 := NB1075_1064.out
            have hcz139_0 := bc BK1064 0
            have hcz139_1 := bc BK1064 1
            have hfz139_0 := bf BK1064 0
            have hfz139_1 := bf BK1064 1
            go_wp2_with (first | ((with_reducible refine gate_callee (f := 22) rfl ?_); refine gL (some 91) Try.func22 #[.agg #[.int .i64 t1092, .slice Ao118 t1093.length co118], .agg #[.int .i64 t1059, .slice Ao24 t1060.length co24]] ?_; (with_reducible refine (laws_eqMoments.calls kj61 t1092 _ _ t1093 t1059 _ _ t1060 false _ ?side1 ?side2 ?side3 ?side4 A119.out).mono ?_); (case side1 => refine (Kd.R_reads' (e := 2) (base := w.heap.size) (ok := fun k_ => ((((True ∧ ax k_ (.slice Ao24 t1060.length co24)) ∧ ax k_ (.slice Ao31 t1083.length co31)) ∧ ax k_ (.slice Ao38 t1071.length co38)) ∧ ax k_ (.slice Ao110 t1089.length co110))) (n := t1093.length) (c := co118) ?_).2.2; exact (uR ((rf2 HO1095 BK1097 (by decide) (.int .i64 t1092) (.slice Ao118 t1093.length co118))))); (case side2 => exact (Kd.R_reads' HO1095.out).2.1); (case side3 => refine (Kd.R_reads' (e := 2) (base := w.heap.size) (ok := fun k_ => (((ax k_ (.slice Ao31 t1083.length co31) ∧ ax k_ (.slice Ao38 t1071.length co38)) ∧ ax k_ (.slice Ao110 t1089.length co110)) ∧ ax k_ (.slice Ao118 t1093.length co118))) (n := t1060.length) (c := co24) ?_).2.2; exact (uR ((rf2 HO_1065001 BK1097 (by decide) (.int .i64 t1092) (.slice Ao118 t1093.length co118))))); (case side4 => exact (Kd.R_reads' HO_1065001.out).2.1); rintro e w140 ⟨rfl, hb⟩; refine ⟨_, rfl, ?_⟩; replace HO_1065001 := zA (Kd.R_below (uR ((rf2 HO_1065001 BK1097 (by decide) (.int .i64 t1092) (.slice Ao118 t1093.length co118)))) hb); replace HO_1070001 := zA (Kd.R_below (uR ((rf2 HO_1070001 BK1097 (by decide) (.int .i64 t1092) (.slice Ao118 t1093.length co118)))) hb); replace HO_1076001 := zA (Kd.R_below (uR ((rf2 HO_1076001 BK1097 (by decide) (.int .i64 t1092) (.slice Ao118 t1093.length co118)))) hb); replace HO1091 := zA (Kd.R_below (uR ((rf2 HO1091 BK1097 (by decide) (.int .i64 t1092) (.slice Ao118 t1093.length co118)))) hb); replace HO1095 := zA (Kd.R_below (uR ((rf2 HO1095 BK1097 (by decide) (.int .i64 t1092) (.slice Ao118 t1093.length co118)))) hb); replace BK1053 := zA (blk_below (g := gb1053) (o := .cells #[.int .i64 a0_0, .slice A0_1 l0_1.length c0_1] 24 (0, 0)) (by (repeat refine up1 ?_); refine blk_far ?_ NB1053_1097.out _; (repeat refine up1 ?_); refine blk_far ?_ NB1053_1097.out _; (repeat refine up1 ?_); exact BK1053.out) hb); replace BK1064 := zA (blk_below (g := gb1064) (o := .cells #[.int .i64 t1059, .slice Ao24 t1060.length co24] 31 (0, 0)) (by (repeat refine up1 ?_); refine blk_far ?_ NB1064_1097.out _; (repeat refine up1 ?_); refine blk_far ?_ NB1064_1097.out _; (repeat refine up1 ?_); exact BK1064.out) hb); replace BK1069 := zA (blk_below (g := gb1069) (o := .cells #[.int .i64 t1065, .slice Ao31 t1083.length co31] 31 (0, 0)) (by (repeat refine up1 ?_); refine blk_far ?_ NB1069_1097.out _; (repeat refine up1 ?_); refine blk_far ?_ NB1069_1097.out _; (repeat refine up1 ?_); exact BK1069.out) hb); replace BK1075 := zA (blk_below (g := gb1075) (o := .cells #[.int .i64 t1070, .slice Ao38 t1071.length co38] 31 (0, 0)) (by (repeat refine up1 ?_); refine blk_far ?_ NB1075_1097.out _; (repeat refine up1 ?_); refine blk_far ?_ NB1075_1097.out _; (repeat refine up1 ?_); exact BK1075.out) hb); replace BK1097 := zA (blk_below (g := gb1097) (o := .cells #[.int .i64 t1092, .slice Ao118 t1093.length co118] 31 (0, 0)) (by (repeat refine up1 ?_); refine blk_put (cs := #[.int .i64 t1092, .slice none 0 0]) ?_ 1 _ rfl; (repeat refine up1 ?_); refine blk_put (cs := #[.int .i64 0, .slice none 0 0]) ?_ 0 _ rfl; (repeat refine up1 ?_); exact BK1097.out) hb); replace HB := xH HB hb; (try clear hb); (try clear hb2); (try clear hk); (try clear hi)))
            go_meet
            case rel => exact ⟨_, (true), (by first | rfl | (simp; done) | (simp [*]; done)), H', ⟨by have := HJ12.out; have := HJ61.out; first | omega | exact Nat.le_refl _⟩, ⟨by (try simp only [hl1070001_61]); (with_reducible repeat (first | apply Kd.R_alloc | apply Kd.R_drewN | apply Kd.R_drew)); exact Kd.R_mono HO_1065001.out (fun _ hk => ⟨hk.1.1.1, ⟨hk.1.1.2, hk.2⟩⟩)⟩, ⟨by (try simp only [hl1070001_61]); (with_reducible repeat (first | apply Kd.R_alloc | apply Kd.R_drewN | apply Kd.R_drew)); exact Kd.R_mono HO_1070001.out (fun _ hk => ⟨hk.1.1.1, ⟨hk.1.1.2, hk.2⟩⟩)⟩, ⟨by (try simp only [hl1070001_61]); (with_reducible repeat (first | apply Kd.R_alloc | apply Kd.R_drewN | apply Kd.R_drew)); exact Kd.R_mono HO_1076001.out (fun _ hk => ⟨hk.1.1.1, ⟨hk.1.1.2, hk.2⟩⟩)⟩, ⟨by (try simp only [hl1070001_61]); (with_reducible repeat (first | apply Kd.R_alloc | apply Kd.R_drewN | apply Kd.R_drew)); exact Kd.R_mono HO1095.out (fun _ hk => ⟨hk.1.1.1.2, ⟨hk.1.1.2, hk.1.2⟩⟩)⟩, ⟨by (try simp only [hl1070001_61]); (repeat refine up1 ?_); exact BK1053.out⟩, ⟨by (try simp only [hl1070001_61]); (repeat refine up1 ?_); exact BK1064.out⟩, ⟨by (try simp only [hl1070001_61]); (repeat refine up1 ?_); exact BK1069.out⟩, ⟨by (try simp only [hl1070001_61]); (repeat refine up1 ?_); exact BK1075.out⟩, ⟨by (try simp only [hl1070001_61]); (repeat refine up1 ?_); exact BK1097.out⟩, ⟨uH HB.out⟩⟩
          case rest =>
           clear HC98
           (try clear c1);(try clear c2);(try clear p2);(try clear c3);(try clear c4);(try clear c5);(try clear c5b0);(try clear c6);(try clear c7);(try clear c8);(try clear c9);(try clear c10);(try clear c11);(try clear c12);(try clear c13);(try clear c15);(try clear c18);(try clear c22);(try clear c28);(try clear c29);(try clear c34);(try clear c35);(try clear c36);(try clear c40);(try clear c41)
           (try clear c42);(try clear c43);(try clear c44);(try clear c45);(try clear c46);(try clear c49);(try clear c50);(try clear c51);(try clear c53);(try clear c54);(try clear c57);(try clear c60);(try clear c67);(try clear c68);(try clear c69);(try clear c72);(try clear c72b0);(try clear c74);(try clear c75);(try clear c76);(try clear c77);(try clear c79);(try clear c80);(try clear c83);(try clear c84)
           (try clear c85);(try clear c87);(try clear c88);(try clear c91);(try clear c94);(try clear c94b0);(try clear c95);(try clear c95b0);(try clear c95b1);(try clear c99);(try clear c100);(try clear c101);(try clear c106);(try clear c107);(try clear c113);(try clear c114);(try clear c115);(try clear c116);(try clear c120);(try clear c121);(try clear c122);(try clear c123);(try clear c124);(try clear c126)
           (try clear c127);(try clear c128);(try clear c131);(try clear c132);(try clear c133);(try clear c134);(try clear c136);(try clear c137);(try clear c138);(try clear hcz102_0);(try clear hcz102_1);(try clear hcz104_0);(try clear hcz104_1);(try clear hcz108_0);(try clear hcz108_1);(try clear hcz117_0);(try clear hcz117_1);(try clear hcz125_0);(try clear hcz125_1);(try clear hcz129_0);(try clear hcz129_1)
           (try clear hcz135_0);(try clear hcz135_1);(try clear hcz139_0);(try clear hcz139_1);(try clear hcz15_0);(try clear hcz15_1);(try clear hcz17_0);(try clear hcz17_1);(try clear hcz23_0);(try clear hcz23_1);(try clear hcz25_0);(try clear hcz25_1);(try clear hcz30_0);(try clear hcz30_1);(try clear hcz37_0);(try clear hcz37_1);(try clear hcz44_0);(try clear hcz44_1);(try clear hcz47_0);(try clear hcz47_1)
           (try clear hcz52_0);(try clear hcz52_1);(try clear hcz55_0);(try clear hcz55_1);(try clear hcz70_0);(try clear hcz70_1);(try clear hcz78_0);(try clear hcz78_1);(try clear hcz7_0);(try clear hcz7_1);(try clear hcz81_0);(try clear hcz81_1);(try clear hcz86_0);(try clear hcz86_1);(try clear hcz89_0);(try clear hcz89_1);(try clear hfz102_0);(try clear hfz102_1);(try clear hfz104_0);(try clear hfz104_1)
           (try clear hfz108_0);(try clear hfz108_1);(try clear hfz117_0);(try clear hfz117_1);(try clear hfz125_0);(try clear hfz125_1);(try clear hfz129_0);(try clear hfz129_1);(try clear hfz135_0);(try clear hfz135_1);(try clear hfz139_0);(try clear hfz139_1);(try clear hfz15_0);(try clear hfz15_1);(try clear hfz17_0);(try clear hfz17_1);(try clear hfz23_0);(try clear hfz23_1);(try clear hfz25_0)
           (try clear hfz25_1);(try clear hfz30_0);(try clear hfz30_1);(try clear hfz37_0);(try clear hfz37_1);(try clear hfz44_0);(try clear hfz44_1);(try clear hfz47_0);(try clear hfz47_1);(try clear hfz52_0);(try clear hfz52_1);(try clear hfz55_0);(try clear hfz55_1);(try clear hfz70_0);(try clear hfz70_1);(try clear hfz78_0);(try clear hfz78_1);(try clear hfz7_0);(try clear hfz7_1);(try clear hfz81_0)
           (try clear hfz81_1);(try clear hfz86_0);(try clear hfz86_1);(try clear hfz89_0);(try clear hfz89_1);(try clear p2)
           obtain ⟨kq, x97_97, rfl, HA, HJ97, HO_1065001, HO_1070001, HO_1076001, HO_1098001, BK1053, BK1064, BK1069, BK1075, BK1097, HB⟩ := hcut
           have hl1076001_97 := (Kd.R_reads' HO_1076001.out).1
           rw [hl1076001_97] at HO_1076001
           (try simp only [hl1076001_97])
           (try simp only [hl1076001_97] at BK1053)
           (try simp only [hl1076001_97] at BK1064)
           (try simp only [hl1076001_97] at BK1069)
           (try simp only [hl1076001_97] at BK1075)
           (try simp only [hl1076001_97] at BK1097)
           (try simp only [hl1076001_97] at HO_1065001)
           (try simp only [hl1076001_97] at HO_1070001)
           (try simp only [hl1076001_97] at HO_1098001)
           cases kq with
           | zero => exact absurd HA.out (by simp [laws_FnExactAffineMoments.j2])
           | succ kj97 =>
            have H := HA.out
            clear HA
            simp only [laws_FnExactAffineMoments.j2] at H
            by_cases c141 : x97_97 = true
            ·subst c141
             have H1 : (some false) = some r := by rw [if_pos rfl] at H; exact H
             clear H
             have H := H1
             clear H1
             rw [HRT.out] at H
             exact absurd H (by simp)
            ·replace c141 := Bool.eq_false_iff.mpr c141
             subst c141
             have H1 : ((laws_heldMoments.f kj97 t1070 t1086 1).bind fun t1099 => (if t1099 < 0 then (some false) else (if t1099 = t1085 then (some true) else (some false)))) = some r := by rw [if_neg (show ¬ (false = true) by decide)] at H; exact H
             clear H
             have H := H1
             clear H1
             replace H := Option.bind_eq_some_iff.mp H
             obtain ⟨t1099, A1420, H⟩ := H
             replace H : (if t1099 < 0 then (some false) else (if t1099 = t1085 then (some true) else (some false))) = some r := H
             have A142 := zA A1420
             clear A1420
             by_cases c143 : t1099 < 0
             rotate_left
             ·rw [if_neg c143] at H
              have c143b0 : decide (t1099 < 0) = false := decide_eq_false c143
              clear c143
              by_cases c144 : t1099 = t1085
              rotate_left
              ·rw [if_neg c144] at H
               have c144b0 : (t1099 == t1085) = false := beq_eq_false_iff_ne.mpr c144
               have c144b1 : (t1099 != t1085) = true := bne_iff_ne.mpr c144
               rw [HRT.out] at H
               exact absurd H (by simp)
              rw [if_pos c144] at H
              have c144b0 : (t1099 == t1085) = true := beq_iff_eq.mpr c144
              have c144b1 : (t1099 != t1085) = false := bne_eq_false_iff_eq.mpr c144
              clear c144
              obtain rfl := Option.some.inj H
              have hnb145 := NB1075_1053.out; have hnc145 := NB1053_1075.out; have hnb146 := NB1075_1064.out; have hnc146 := NB1064_1075.out; have hnb147 := NB1075_1069.out; have hnc147 := NB1069_1075.out; have hnb148 := NB1075_1097.out; have hnc148 := NB1097_1075.out
              have hcz149_0 := bc BK1075 0
              have hcz149_1 := bc BK1075 1
              have hfz149_0 := bf BK1075 0
              have hfz149_1 := bf BK1075 1
              go_wp2_with (first | ((with_reducible refine gate_callee (f := 42) rfl ?_); refine gL (some 100) Try.func42 #[.agg #[.int .i64 t1070, .slice Ao38 t1086.length co38], .int .i64 1] ?_; (with_reducible refine (laws_heldMoments.calls kj97 t1070 _ _ t1086 1 t1099 _ ?side1 ?side2 A142.out).mono ?_); (case side1 => exact uC ((Kd.R_reads' HO_1076001.out).2.2)); (case side2 => exact (Kd.R_reads' HO_1076001.out).2.1); rintro e w150 ⟨rfl, hb⟩; refine ⟨_, rfl, ?_⟩; replace HO_1065001 := xR HO_1065001 hb; replace HO_1070001 := xR HO_1070001 hb; replace HO_1076001 := xR HO_1076001 hb; replace HO_1098001 := xR HO_1098001 hb; replace BK1053 := xB BK1053 hb; replace BK1064 := xB BK1064 hb; replace BK1069 := xB BK1069 hb; replace BK1075 := xB BK1075 hb; replace BK1097 := xB BK1097 hb; replace HB := xH HB hb; (try clear hb); (try clear hb2); (try clear hk); (try clear hi)))
              go_ret
              exact ⟨by first | rfl | (simp [errW_none, errW_some] <;> rfl) | (simp [*, errW_none, errW_some] <;> rfl), uH HB.out⟩
             rw [if_pos c143] at H
             have c143b0 : decide (t1099 < 0) = true := decide_eq_true c143
             clear c143
             rw [HRT.out] at H
             exact absurd H (by simp)
         rw [if_pos c94] at H
         have c94b0 : decide (t1087 < 0) = true := decide_eq_true c94
         clear c94
         rw [HRT.out] at H
         exact absurd H (by simp)
     ·replace c60 := Bool.eq_false_iff.mpr c60
      subst c60
      have H1 : (some false) = some r := by rw [if_neg (show ¬ (false = true) by decide)] at H; exact H
      clear H
      have H := H1
      clear H1
      rw [HRT.out] at H
      exact absurd H (by simp)

 rw [if_pos c5] at H
 have c5b0 : decide (t1054 < 0) = true := decide_eq_true c5
 clear c5
 obtain rfl := Option.some.inj H
 go_enter Try.func9, Try.ntmps9
 go_wp2_with (first | ((with_reducible refine gate_dst (N := 3) rfl ?_); refine bx 3 #[.int .i64 a0_0, .slice A0_1 l0_1.length c0_1] 24 ?_; intro gb1053 hg w6 hbox hb; have BK1053 := zA (hbox); have GW1053 := gq HB hg; have GE1053 := gq HB hg; replace HB := xH HB hb; have := geI GE1053; clear hb hbox hg; have hcz7_0 := bc BK1053 0; have hcz7_1 := bc BK1053 1; have hfz7_0 := bf BK1053 0; have hfz7_1 := bf BK1053 1) | ((with_reducible refine gate_callee (f := 15) rfl ?_); refine gL (some 20) Try.func15 #[.agg #[.int .i64 a0_0, .slice A0_1 l0_1.length c0_1], .int .i64 1048576] ?_; (with_reducible refine (laws_szMoments.calls a0_0 _ _ l0_1 1048576 t1054 _ ?side1 ?side2 A4.out).mono ?_); (case side1 => exact uC ((Kd.C_below HR0_1.out HB.out))); (case side2 => exact HC0_1.out); rintro e w8 ⟨rfl, hb⟩; refine ⟨_, rfl, ?_⟩; replace BK1053 := xB BK1053 hb; replace HB := xH HB hb; (try clear hb); (try clear hb2); (try clear hk); (try clear hi)))
 go_ret
 exact ⟨by first | rfl | (simp [errW_none, errW_some] <;> rfl) | (simp [*, errW_none, errW_some] <;> rfl), uH HB.out⟩
/-- THE ONE PURE STATEMENT of laws_FnExactAffineMoments: yours. -/
def laws_FnExactAffineMoments.Pure : Prop := ∀ (a0_0 : Int) (l0_1 : List Int) (a1 : Int) (a2 : Int), (Lit.int .i64 a0_0).wf = true → l0_1.length ≤ maxLen → (∀ x ∈ l0_1, (Lit.int .i64 x).wf = true) → (Lit.int .i64 a1).wf = true → (Lit.int .i64 a2).wf = true → ∃ k, laws_FnExactAffineMoments.f k a0_0 l0_1 a1 a2 = some true
theorem laws_FnExactAffineMoments.walk (P : laws_FnExactAffineMoments.Pure) (a0_0 : Int) (a0_1 : Option Addr) (len0_1 cap0_1 : Nat) (z0_1 : List Int) (a1 : Int) (a2 : Int) (w : World) (w0_0 : (Lit.int .i64 a0_0).wf = true) (w0_1 : (a0_1 = none ∧ len0_1 = 0 ∧ cap0_1 = 0 ∧ z0_1 = []) ∨ ∃ x, a0_1 = some x ∧ len0_1 ≤ cap0_1 ∧ cap0_1 ≤ maxLen ∧ z0_1.length = cap0_1 ∧ (∀ i, i < z0_1.length → w.cell? (x.add i) = some (.int .i64 (z0_1.getD i 0))) ∧ ∀ n ∈ z0_1, (Lit.int .i64 n).wf = true) (w1 : (Lit.int .i64 a1).wf = true) (w2 : (Lit.int .i64 a2).wf = true) :
  Calls Try.prog 9 #[.agg #[.int .i64 a0_0, .slice a0_1 len0_1 cap0_1], .int .i64 a1, .int .i64 a2] w fun e w' => e = .returned (.bool true) ∧ Below w.heap.size w w' := by
 obtain ⟨l0_1, rfl, hr0_1, hm0_1, hw0_1, hc0_1⟩ := ReadsInt.ofRowC w0_1
 obtain ⟨k, h⟩ := P a0_0 l0_1 a1 a2 w0_0 hm0_1 hw0_1 w1 w2
 refine (laws_FnExactAffineMoments.calls k a0_0 _ _ l0_1 a1 a2 true rfl w (Kd.C_of_reads (d := (0 : Int)) (h1 := fun _ => rfl) hr0_1) hc0_1 h).mono ?_
 rintro e w' ⟨rfl, hd⟩
 exact ⟨rfl, hd⟩

end Go.Proofs.Ytokkabgkjhpecaa.Pr
