/- Printed by a program of this session out of the translation: what these functions of the program compute, under the conditions that each theorem names. -/
import Derived.Test.YtokkabgkjhpecaaKC01
import Derived.Test.YtokkabgkjhpecaaKC04
import Derived.Test.YtokkabgkjhpecaaKC03
import Derived.Test.YtokkabgkjhpecaaKFspecRadauJacobi
import Derived.Test.YtokkabgkjhpecaaKFimplRadauJacobi
namespace Go.Proofs.Ytokkabgkjhpecaa.Pr
open Go.RowKit Go.Proofs.YtokkabgkjhpecaaW.PrintWords Go.Proofs.YtokkabgkjhpecaaW.PrintLast Go.Proofs.YtokkabgkjhpecaaW.PrintMore
attribute [local go_sem] max2_int min2_int max_two min_two max_three min_three max_four min_four   -- for this text's walks alone
set_option linter.unusedVariables false
set_option linter.unusedSimpArgs false

/-! ### laws_FnExactRadauJacobi: function 7 -/
mutual
def laws_FnExactRadauJacobi.j0 : Nat → Int → Int → Int → Bool → Int → List Int → List Int → Int → List Int → List Int → Int → List Int → List Int → Int → List Int → List Int → Option (Bool)
 | 0, _, _, _, _, _, _, _, _, _, _, _, _, _, _, _, _ => none
 | k + 1, x1, x7, x10, x44, x817000, x817001, x817002, x834000, x834001, x834002, x842000, x842001, x842002, x851000, x851001, x851002 => if x44 = true then (some false) else ((laws_toJacobi.f k x817000 x817001 x817002).bind fun bt852 => ((laws_eqJacobi.f k x842000 x842001 x842002 bt852.1 bt852.2.1 bt852.2.2).bind fun t859 => (if t859 = true then ((laws_markJacobi.f k x842000 x842001 x842002 1).bind fun bt860 => (if bt860.1 < 0 then (laws_FnExactRadauJacobi.j1 k x1 x7 true x817000 x817001 x817002 x834000 x834001 x834002 x851000 x851001 x851002) else ((laws_eqJacobi.f k x851000 x851001 x851002 x834000 x834001 x834002).bind fun t863 => (if t863 = true then (laws_FnExactRadauJacobi.j1 k x1 x7 (x10 != x7) x817000 x817001 x817002 x834000 x834001 x834002 x851000 x851001 x851002) else (laws_FnExactRadauJacobi.j1 k x1 x7 true x817000 x817001 x817002 x834000 x834001 x834002 x851000 x851001 x851002))))) else (some false))))
def laws_FnExactRadauJacobi.j1 : Nat → Int → Int → Bool → Int → List Int → List Int → Int → List Int → List Int → Int → List Int → List Int → Option (Bool)
 | 0, _, _, _, _, _, _, _, _, _, _, _, _ => none
 | k + 1, x1, x7, x65, x817000, x817001, x817002, x834000, x834001, x834002, x851000, x851001, x851002 => if x65 = true then (some false) else ((laws_markJacobi.f k x851000 x851001 x851002 1).bind fun bt864 => ((laws_heldJacobi.f k x851000 bt864.2.1 bt864.2.2 1).bind fun t867 => (if t867 < 0 then (some false) else (if t867 = bt864.1 then ((laws_toJacobi.f k x817000 x817001 x817002).bind fun bt868 => ((impl_RadauJacobi.f k bt868.1 bt868.2.1 bt868.2.2 x1).bind fun bt875 => ((laws_eqJacobi.f k bt875.1 bt875.2.1 bt875.2.2.1 x834000 x834001 x834002).bind fun t884 => (if t884 = true then (laws_FnExactRadauJacobi.j2 k bt864.1 (bt875.2.2.2 != x7) x851000 bt864.2.1 bt864.2.2) else (laws_FnExactRadauJacobi.j2 k bt864.1 true x851000 bt864.2.1 bt864.2.2))))) else (some false)))))
def laws_FnExactRadauJacobi.j2 : Nat → Int → Bool → Int → List Int → List Int → Option (Bool)
 | 0, _, _, _, _, _ => none
 | k + 1, x12, x92, x851000, x851001, x851002 => if x92 = true then (some false) else ((laws_heldJacobi.f k x851000 x851001 x851002 1).bind fun t885 => (if t885 < 0 then (some false) else (if t885 = x12 then (some true) else (some false))))
end
def laws_FnExactRadauJacobi.f (k : Nat) (a0_0 : Int) (l0_1 : List Int) (l0_2 : List Int) (a1 : Int) : Option (Bool) := (laws_szJacobi.f a0_0 l0_1 l0_2 1048576).bind fun t817 => (if t817 < 0 then (some true) else ((laws_toJacobi.f k a0_0 l0_1 l0_2).bind fun bt818 => ((spec_RadauJacobi.f k bt818.1 bt818.2.1 bt818.2.2 a1).bind fun bt825 => ((laws_toJacobi.f k a0_0 l0_1 l0_2).bind fun bt834 => ((impl_RadauJacobi.f k bt834.1 bt834.2.1 bt834.2.2 a1).bind fun bt842 => ((laws_eqJacobi.f k bt842.1 bt842.2.1 bt842.2.2.1 bt825.1 bt825.2.1 bt825.2.2.1).bind fun t851 => (if t851 = true then (laws_FnExactRadauJacobi.j0 k a1 bt825.2.2.2 bt842.2.2.2 (bt842.2.2.2 != bt825.2.2.2) a0_0 l0_1 l0_2 bt825.1 bt825.2.1 bt825.2.2.1 bt834.1 bt834.2.1 bt834.2.2 bt842.1 bt842.2.1 bt842.2.2.1) else (laws_FnExactRadauJacobi.j0 k a1 bt825.2.2.2 bt842.2.2.2 true a0_0 l0_1 l0_2 bt825.1 bt825.2.1 bt825.2.2.1 bt834.1 bt834.2.1 bt834.2.2 bt842.1 bt842.2.1 bt842.2.2.1))))))))
theorem laws_FnExactRadauJacobi.mono_l : ∀ k, (∀ y0 y1 y2 y3 y4 y5 y6 y7 y8 y9 y10 y11 y12 y13 y14 y15, LeO (laws_FnExactRadauJacobi.j0 k y0 y1 y2 y3 y4 y5 y6 y7 y8 y9 y10 y11 y12 y13 y14 y15) (laws_FnExactRadauJacobi.j0 (k + 1) y0 y1 y2 y3 y4 y5 y6 y7 y8 y9 y10 y11 y12 y13 y14 y15)) ∧ (∀ y0 y1 y2 y3 y4 y5 y6 y7 y8 y9 y10 y11, LeO (laws_FnExactRadauJacobi.j1 k y0 y1 y2 y3 y4 y5 y6 y7 y8 y9 y10 y11) (laws_FnExactRadauJacobi.j1 (k + 1) y0 y1 y2 y3 y4 y5 y6 y7 y8 y9 y10 y11)) ∧ (∀ y0 y1 y2 y3 y4, LeO (laws_FnExactRadauJacobi.j2 k y0 y1 y2 y3 y4) (laws_FnExactRadauJacobi.j2 (k + 1) y0 y1 y2 y3 y4))
 | 0 => ⟨fun _ _ _ _ _ _ _ _ _ _ _ _ _ _ _ _ r h => by simp [laws_FnExactRadauJacobi.j0] at h, fun _ _ _ _ _ _ _ _ _ _ _ _ r h => by simp [laws_FnExactRadauJacobi.j1] at h, fun _ _ _ _ _ r h => by simp [laws_FnExactRadauJacobi.j2] at h⟩
 | k + 1 => by
  obtain ⟨ih0, ih1, ih2⟩ := laws_FnExactRadauJacobi.mono_l k
  refine ⟨?_, ?_, ?_⟩
  ·intro y0 y1 y2 y3 y4 y5 y6 y7 y8 y9 y10 y11 y12 y13 y14 y15
   unfold laws_FnExactRadauJacobi.j0
   repeat' first
   | (with_reducible exact ih0 _ _ _ _ _ _ _ _ _ _ _ _ _ _ _ _)
   | (with_reducible exact ih1 _ _ _ _ _ _ _ _ _ _ _ _)
   | (with_reducible exact ih2 _ _ _ _ _)
   | (with_reducible exact impl_RadauJacobi.mono _ _ _ _ _)
   | (with_reducible exact laws_eqJacobi.mono _ _ _ _ _ _ _)
   | (with_reducible exact laws_heldJacobi.mono _ _ _ _ _)
   | (with_reducible exact laws_markJacobi.mono _ _ _ _ _)
   | (with_reducible exact laws_toJacobi.mono _ _ _ _)
   | (with_reducible exact spec_RadauJacobi.mono _ _ _ _ _)
   | (with_reducible exact LeO.refl _)
   | (with_reducible exact LeO.none _)
   | (with_reducible refine LeO.ite ?_ ?_)
   | (with_reducible refine LeO.bind ?_ (fun _ => ?_))
   | exact ih0 _ _ _ _ _ _ _ _ _ _ _ _ _ _ _ _
   | exact ih1 _ _ _ _ _ _ _ _ _ _ _ _
   | exact ih2 _ _ _ _ _
   | exact impl_RadauJacobi.mono _ _ _ _ _
   | exact laws_eqJacobi.mono _ _ _ _ _ _ _
   | exact laws_heldJacobi.mono _ _ _ _ _
   | exact laws_markJacobi.mono _ _ _ _ _
   | exact laws_toJacobi.mono _ _ _ _
   | exact spec_RadauJacobi.mono _ _ _ _ _
   | exact LeO.none _
   | refine LeO.ite ?_ ?_
   | refine LeO.bind ?_ (fun _ => ?_)
  ·intro y0 y1 y2 y3 y4 y5 y6 y7 y8 y9 y10 y11
   unfold laws_FnExactRadauJacobi.j1
   repeat' first
   | (with_reducible exact ih0 _ _ _ _ _ _ _ _ _ _ _ _ _ _ _ _)
   | (with_reducible exact ih1 _ _ _ _ _ _ _ _ _ _ _ _)
   | (with_reducible exact ih2 _ _ _ _ _)
   | (with_reducible exact impl_RadauJacobi.mono _ _ _ _ _)
   | (with_reducible exact laws_eqJacobi.mono _ _ _ _ _ _ _)
   | (with_reducible exact laws_heldJacobi.mono _ _ _ _ _)
   | (with_reducible exact laws_markJacobi.mono _ _ _ _ _)
   | (with_reducible exact laws_toJacobi.mono _ _ _ _)
   | (with_reducible exact spec_RadauJacobi.mono _ _ _ _ _)
   | (with_reducible exact LeO.refl _)
   | (with_reducible exact LeO.none _)
   | (with_reducible refine LeO.ite ?_ ?_)
   | (with_reducible refine LeO.bind ?_ (fun _ => ?_))
   | exact ih0 _ _ _ _ _ _ _ _ _ _ _ _ _ _ _ _
   | exact ih1 _ _ _ _ _ _ _ _ _ _ _ _
   | exact ih2 _ _ _ _ _
   | exact impl_RadauJacobi.mono _ _ _ _ _
   | exact laws_eqJacobi.mono _ _ _ _ _ _ _
   | exact laws_heldJacobi.mono _ _ _ _ _
   | exact laws_markJacobi.mono _ _ _ _ _
   | exact laws_toJacobi.mono _ _ _ _
   | exact spec_RadauJacobi.mono _ _ _ _ _
   | exact LeO.none _
   | refine LeO.ite ?_ ?_
   | refine LeO.bind ?_ (fun _ => ?_)
  ·intro y0 y1 y2 y3 y4
   unfold laws_FnExactRadauJacobi.j2
   repeat' first
   | (with_reducible exact ih0 _ _ _ _ _ _ _ _ _ _ _ _ _ _ _ _)
   | (with_reducible exact ih1 _ _ _ _ _ _ _ _ _ _ _ _)
   | (with_reducible exact ih2 _ _ _ _ _)
   | (with_reducible exact impl_RadauJacobi.mono _ _ _ _ _)
   | (with_reducible exact laws_eqJacobi.mono _ _ _ _ _ _ _)
   | (with_reducible exact laws_heldJacobi.mono _ _ _ _ _)
   | (with_reducible exact laws_markJacobi.mono _ _ _ _ _)
   | (with_reducible exact laws_toJacobi.mono _ _ _ _)
   | (with_reducible exact spec_RadauJacobi.mono _ _ _ _ _)
   | (with_reducible exact LeO.refl _)
   | (with_reducible exact LeO.none _)
   | (with_reducible refine LeO.ite ?_ ?_)
   | (with_reducible refine LeO.bind ?_ (fun _ => ?_))
   | exact ih0 _ _ _ _ _ _ _ _ _ _ _ _ _ _ _ _
   | exact ih1 _ _ _ _ _ _ _ _ _ _ _ _
   | exact ih2 _ _ _ _ _
   | exact impl_RadauJacobi.mono _ _ _ _ _
   | exact laws_eqJacobi.mono _ _ _ _ _ _ _
   | exact laws_heldJacobi.mono _ _ _ _ _
   | exact laws_markJacobi.mono _ _ _ _ _
   | exact laws_toJacobi.mono _ _ _ _
   | exact spec_RadauJacobi.mono _ _ _ _ _
   | exact LeO.none _
   | refine LeO.ite ?_ ?_
   | refine LeO.bind ?_ (fun _ => ?_)
theorem laws_FnExactRadauJacobi.mono : ∀ a0 a1 a2 a3 k, LeO (laws_FnExactRadauJacobi.f k a0 a1 a2 a3) (laws_FnExactRadauJacobi.f (k + 1) a0 a1 a2 a3) := by
 intro a0 a1 a2 a3 k
 obtain ⟨ih0, ih1, ih2⟩ := laws_FnExactRadauJacobi.mono_l k
 unfold laws_FnExactRadauJacobi.f
 repeat' first
   | (with_reducible exact ih0 _ _ _ _ _ _ _ _ _ _ _ _ _ _ _ _)
   | (with_reducible exact ih1 _ _ _ _ _ _ _ _ _ _ _ _)
   | (with_reducible exact ih2 _ _ _ _ _)
   | (with_reducible exact impl_RadauJacobi.mono _ _ _ _ _)
   | (with_reducible exact laws_eqJacobi.mono _ _ _ _ _ _ _)
   | (with_reducible exact laws_heldJacobi.mono _ _ _ _ _)
   | (with_reducible exact laws_markJacobi.mono _ _ _ _ _)
   | (with_reducible exact laws_toJacobi.mono _ _ _ _)
   | (with_reducible exact spec_RadauJacobi.mono _ _ _ _ _)
   | (with_reducible exact LeO.refl _)
   | (with_reducible exact LeO.none _)
   | (with_reducible refine LeO.ite ?_ ?_)
   | (with_reducible refine LeO.bind ?_ (fun _ => ?_))
   | exact ih0 _ _ _ _ _ _ _ _ _ _ _ _ _ _ _ _
   | exact ih1 _ _ _ _ _ _ _ _ _ _ _ _
   | exact ih2 _ _ _ _ _
   | exact impl_RadauJacobi.mono _ _ _ _ _
   | exact laws_eqJacobi.mono _ _ _ _ _ _ _
   | exact laws_heldJacobi.mono _ _ _ _ _
   | exact laws_markJacobi.mono _ _ _ _ _
   | exact laws_toJacobi.mono _ _ _ _
   | exact spec_RadauJacobi.mono _ _ _ _ _
   | exact LeO.none _
   | refine LeO.ite ?_ ?_
   | refine LeO.bind ?_ (fun _ => ?_)
set_option maxHeartbeats 8000000 in
set_option maxRecDepth 100000 in
theorem laws_FnExactRadauJacobi.calls (k : Nat) (a0_0 : Int) (A0_1 : Option Addr) (c0_1 : Nat) (l0_1 : List Int) (A0_2 : Option Addr) (c0_2 : Nat) (l0_2 : List Int) (a1 : Int) (r : Bool) (hr_ : r = true) (w : World) (hr0_1 : Kd.C (Kd.int .i64) w A0_1 l0_1.length l0_1) (hc0_1 : l0_1.length ≤ c0_1) (hr0_2 : Kd.C (Kd.int .i64) w A0_2 l0_2.length l0_2) (hc0_2 : l0_2.length ≤ c0_2) (h : laws_FnExactRadauJacobi.f k a0_0 l0_1 l0_2 a1 = some r) :
  Calls Try.prog 7 #[.agg #[.int .i64 a0_0, .slice A0_1 l0_1.length c0_1, .slice A0_2 l0_2.length c0_2], .int .i64 a1] w fun e w' => e = .returned (.bool r) ∧ Below w.heap.size w w' := by
 have hu43 := Try.underlying43
 have hu46 := Try.underlying46
 have HRT := zA hr_
 clear hr_
 have HR0_1 := zA hr0_1
 have HC0_1 := zA hc0_1
 clear hr0_1 hc0_1
 have HR0_2 := zA hr0_2
 have HC0_2 := zA hc0_2
 clear hr0_2 hc0_2
 have HB := zA (Below.refl w.heap.size w)
 have H : ((laws_szJacobi.f a0_0 l0_1 l0_2 1048576).bind fun t817 => (if t817 < 0 then (some true) else ((laws_toJacobi.f k a0_0 l0_1 l0_2).bind fun bt818 => ((spec_RadauJacobi.f k bt818.1 bt818.2.1 bt818.2.2 a1).bind fun bt825 => ((laws_toJacobi.f k a0_0 l0_1 l0_2).bind fun bt834 => ((impl_RadauJacobi.f k bt834.1 bt834.2.1 bt834.2.2 a1).bind fun bt842 => ((laws_eqJacobi.f k bt842.1 bt842.2.1 bt842.2.2.1 bt825.1 bt825.2.1 bt825.2.2.1).bind fun t851 => (if t851 = true then (laws_FnExactRadauJacobi.j0 k a1 bt825.2.2.2 bt842.2.2.2 (bt842.2.2.2 != bt825.2.2.2) a0_0 l0_1 l0_2 bt825.1 bt825.2.1 bt825.2.2.1 bt834.1 bt834.2.1 bt834.2.2 bt842.1 bt842.2.1 bt842.2.2.1) else (laws_FnExactRadauJacobi.j0 k a1 bt825.2.2.2 bt842.2.2.2 true a0_0 l0_1 l0_2 bt825.1 bt825.2.1 bt825.2.2.1 bt834.1 bt834.2.1 bt834.2.2 bt842.1 bt842.2.1 bt842.2.2.1))))))))) = some r := h
 clear h
 replace H := Option.bind_eq_some_iff.mp H
 obtain ⟨t817, A30, H⟩ := H
 replace H : (if t817 < 0 then (some true) else ((laws_toJacobi.f k a0_0 l0_1 l0_2).bind fun bt818 => ((spec_RadauJacobi.f k bt818.1 bt818.2.1 bt818.2.2 a1).bind fun bt825 => ((laws_toJacobi.f k a0_0 l0_1 l0_2).bind fun bt834 => ((impl_RadauJacobi.f k bt834.1 bt834.2.1 bt834.2.2 a1).bind fun bt842 => ((laws_eqJacobi.f k bt842.1 bt842.2.1 bt842.2.2.1 bt825.1 bt825.2.1 bt825.2.2.1).bind fun t851 => (if t851 = true then (laws_FnExactRadauJacobi.j0 k a1 bt825.2.2.2 bt842.2.2.2 (bt842.2.2.2 != bt825.2.2.2) a0_0 l0_1 l0_2 bt825.1 bt825.2.1 bt825.2.2.1 bt834.1 bt834.2.1 bt834.2.2 bt842.1 bt842.2.1 bt842.2.2.1) else (laws_FnExactRadauJacobi.j0 k a1 bt825.2.2.2 bt842.2.2.2 true a0_0 l0_1 l0_2 bt825.1 bt825.2.1 bt825.2.2.1 bt834.1 bt834.2.1 bt834.2.2 bt842.1 bt842.2.1 bt842.2.2.1)))))))) = some r := H
 have A3 := zA A30
 clear A30
 by_cases c4 : t817 < 0
 rotate_left
 ·rw [if_neg c4] at H
  have c4b0 : decide (t817 < 0) = false := decide_eq_false c4
  clear c4
  replace H := Option.bind_eq_some_iff.mp H
  obtain ⟨⟨t818, t819, t822⟩, A80, H⟩ := H
  replace H : ((spec_RadauJacobi.f k t818 t819 t822 a1).bind fun bt825 => ((laws_toJacobi.f k a0_0 l0_1 l0_2).bind fun bt834 => ((impl_RadauJacobi.f k bt834.1 bt834.2.1 bt834.2.2 a1).bind fun bt842 => ((laws_eqJacobi.f k bt842.1 bt842.2.1 bt842.2.2.1 bt825.1 bt825.2.1 bt825.2.2.1).bind fun t851 => (if t851 = true then (laws_FnExactRadauJacobi.j0 k a1 bt825.2.2.2 bt842.2.2.2 (bt842.2.2.2 != bt825.2.2.2) a0_0 l0_1 l0_2 bt825.1 bt825.2.1 bt825.2.2.1 bt834.1 bt834.2.1 bt834.2.2 bt842.1 bt842.2.1 bt842.2.2.1) else (laws_FnExactRadauJacobi.j0 k a1 bt825.2.2.2 bt842.2.2.2 true a0_0 l0_1 l0_2 bt825.1 bt825.2.1 bt825.2.2.1 bt834.1 bt834.2.1 bt834.2.2 bt842.1 bt842.2.1 bt842.2.2.1)))))) = some r := H
  have A8 := zA A80
  clear A80
  replace H := Option.bind_eq_some_iff.mp H
  obtain ⟨⟨t825, t826, t829, t832⟩, A90, H⟩ := H
  replace H : ((laws_toJacobi.f k a0_0 l0_1 l0_2).bind fun bt834 => ((impl_RadauJacobi.f k bt834.1 bt834.2.1 bt834.2.2 a1).bind fun bt842 => ((laws_eqJacobi.f k bt842.1 bt842.2.1 bt842.2.2.1 t825 t826 t829).bind fun t851 => (if t851 = true then (laws_FnExactRadauJacobi.j0 k a1 t832 bt842.2.2.2 (bt842.2.2.2 != t832) a0_0 l0_1 l0_2 t825 t826 t829 bt834.1 bt834.2.1 bt834.2.2 bt842.1 bt842.2.1 bt842.2.2.1) else (laws_FnExactRadauJacobi.j0 k a1 t832 bt842.2.2.2 true a0_0 l0_1 l0_2 t825 t826 t829 bt834.1 bt834.2.1 bt834.2.2 bt842.1 bt842.2.1 bt842.2.2.1))))) = some r := H
  have A9 := zA A90
  clear A90
  replace H := Option.bind_eq_some_iff.mp H
  obtain ⟨⟨t834, t835, t838⟩, A100, H⟩ := H
  replace H : ((impl_RadauJacobi.f k t834 t835 t838 a1).bind fun bt842 => ((laws_eqJacobi.f k bt842.1 bt842.2.1 bt842.2.2.1 t825 t826 t829).bind fun t851 => (if t851 = true then (laws_FnExactRadauJacobi.j0 k a1 t832 bt842.2.2.2 (bt842.2.2.2 != t832) a0_0 l0_1 l0_2 t825 t826 t829 t834 t835 t838 bt842.1 bt842.2.1 bt842.2.2.1) else (laws_FnExactRadauJacobi.j0 k a1 t832 bt842.2.2.2 true a0_0 l0_1 l0_2 t825 t826 t829 t834 t835 t838 bt842.1 bt842.2.1 bt842.2.2.1)))) = some r := H
  have A10 := zA A100
  clear A100
  replace H := Option.bind_eq_some_iff.mp H
  obtain ⟨⟨t842, t843, t846, t849⟩, A110, H⟩ := H
  replace H : ((laws_eqJacobi.f k t842 t843 t846 t825 t826 t829).bind fun t851 => (if t851 = true then (laws_FnExactRadauJacobi.j0 k a1 t832 t849 (t849 != t832) a0_0 l0_1 l0_2 t825 t826 t829 t834 t835 t838 t842 t843 t846) else (laws_FnExactRadauJacobi.j0 k a1 t832 t849 true a0_0 l0_1 l0_2 t825 t826 t829 t834 t835 t838 t842 t843 t846))) = some r := H
  have A11 := zA A110
  clear A110
  have HC12 := zA H
  clear H
  go_enter Try.func7, Try.ntmps7
  go_upto_region 8 with (first | ((with_reducible refine gate_dst (N := 2) rfl ?_); refine bx 2 #[.int .i64 a0_0, .slice A0_1 l0_1.length c0_1, .slice A0_2 l0_2.length c0_2] 43 ?_; intro gb816 hg w13 hbox hb; have BK816 := zA (hbox); have GW816 := gq HB hg; have GE816 := gq HB hg; replace HB := xH HB hb; have := geI GE816; clear hb hbox hg; have hcz14_0 := bc BK816 0; have hcz14_1 := bc BK816 1; have hcz14_2 := bc BK816 2; have hfz14_0 := bf BK816 0; have hfz14_1 := bf BK816 1; have hfz14_2 := bf BK816 2) | ((with_reducible refine gate_callee (f := 27) rfl ?_); refine gL (some 18) Try.func27 #[.agg #[.int .i64 a0_0, .slice A0_1 l0_1.length c0_1, .slice A0_2 l0_2.length c0_2], .int .i64 1048576] ?_; (with_reducible refine (laws_szJacobi.calls a0_0 _ _ l0_1 _ _ l0_2 1048576 t817 _ ?side1 ?side2 ?side3 ?side4 A3.out).mono ?_); (case side1 => exact uC ((Kd.C_below HR0_1.out HB.out))); (case side2 => exact HC0_1.out); (case side3 => exact uC ((Kd.C_below HR0_2.out HB.out))); (case side4 => exact HC0_2.out); rintro e w15 ⟨rfl, hb⟩; refine ⟨_, rfl, ?_⟩; replace BK816 := xB BK816 hb; replace HB := xH HB hb; (try clear hb); (try clear hb2); (try clear hk); (try clear hi); have hcz16_0 := bc BK816 0; have hcz16_1 := bc BK816 1; have hcz16_2 := bc BK816 2; have hfz16_0 := bf BK816 0; have hfz16_1 := bf BK816 1; have hfz16_2 := bf BK816 2) | ((with_reducible refine gate_callee (f := 29) rfl ?_); refine gL (some 23) Try.func29 #[.agg #[.int .i64 a0_0, .slice A0_1 l0_1.length c0_1, .slice A0_2 l0_2.length c0_2]] ?_; (with_reducible refine (laws_toJacobi.calls k a0_0 _ _ l0_1 _ _ l0_2 t818 t819 t822 _ ?side1 ?side2 ?side3 ?side4 A8.out).mono ?_); (case side1 => exact uC ((Kd.C_below HR0_1.out HB.out))); (case side2 => exact HC0_1.out); (case side3 => exact uC ((Kd.C_below HR0_2.out HB.out))); (case side4 => exact HC0_2.out); rintro e w17 ⟨v820, v823, rfl, ho0, ho1, hb⟩; refine ⟨_, rfl, ?_⟩; have HO821 := zA (Kd.R_lower ho0 (below_size (uH HB.out))); have HO824 := zA (Kd.R_lower ho1 (below_size (uH HB.out))); replace BK816 := xB BK816 hb; replace HB := xH HB hb; (try clear hb); (try clear hb2); (try clear hk); (try clear hi); (try clear ho0); (try clear ho1); obtain ⟨Ao18, co18, eo18⟩ := Kd.R_slice HO821.out; subst eo18; obtain ⟨Ao19, co19, eo19⟩ := Kd.R_slice HO824.out; subst eo19) | ((with_reducible refine gate_callee (f := 34) rfl ?_); refine gL (some 25) Try.func34 #[.agg #[.int .i64 t818, .slice Ao18 t819.length co18, .slice Ao19 t822.length co19], .int .i64 a1] ?_; (with_reducible refine (spec_RadauJacobi.calls k t818 _ _ t819 _ _ t822 a1 t825 t826 t829 t832 _ ?side1 ?side2 ?side3 ?side4 A9.out).mono ?_); (case side1 => exact uC ((Kd.R_reads' HO821.out).2.2)); (case side2 => exact (Kd.R_reads' HO821.out).2.1); (case side3 => exact uC ((Kd.R_reads' HO824.out).2.2)); (case side4 => exact (Kd.R_reads' HO824.out).2.1); rintro e w20 ⟨v827, v830, rfl, ho0, ho1, hb⟩; refine ⟨_, rfl, ?_⟩; have HO828 := zA (Kd.R_lower (Kd.R_new' (Kd.R_new' ho0 (Kd.R_lt (uR HO821.out))) (Kd.R_lt (uR HO824.out))) (below_size (uH HB.out))); have HO831 := zA (Kd.R_lower (Kd.R_new' (Kd.R_new' ho1 (Kd.R_lt (uR HO821.out))) (Kd.R_lt (uR HO824.out))) (below_size (uH HB.out))); replace HO821 := zA (Kd.R_mono (Kd.R_told (Kd.R_told (Kd.R_old (uR HO821.out) hb) (Kd.R_base ho0)) (Kd.R_base ho1)) (fun _ h_ => h_.1)); replace HO824 := zA (Kd.R_mono (Kd.R_told (Kd.R_told (Kd.R_old (uR HO824.out) hb) (Kd.R_base ho0)) (Kd.R_base ho1)) (fun _ h_ => h_.1)); replace BK816 := xB BK816 hb; replace HB := xH HB hb; (try clear hb); (try clear hb2); (try clear hk); (try clear hi); (try clear ho0); (try clear ho1)) | ((with_reducible refine gate_dst (N := 6) rfl ?_); refine bx 6 #[.int .i64 0, .slice none 0 0, .slice none 0 0] 46 ?_; intro gb833 hg w21 hbox hb; replace HO821 := xR HO821 hb; replace HO824 := xR HO824 hb; replace HO828 := xR HO828 hb; replace HO831 := xR HO831 hb; have BK833 := zA (hbox); have GW833 := gq HB hg; have GE833 := gq HB hg; replace HB := xH HB hb; have NB816_833 := zA ((by rw [hg]; exact neL BK816 : gb816 ≠ gb833)); have NB833_816 := zA ((by rw [hg]; exact neG BK816 : gb833 ≠ gb816)); replace BK816 := xB BK816 hb; have := geI GE833; clear hb hbox hg; have hnb22 := NB833_816.out; have hnc22 := NB816_833.out; have hcz23_0 := bc BK833 0; have hcz23_1 := bc BK833 1; have hcz23_2 := bc BK833 2; have hfz23_0 := bf BK833 0; have hfz23_1 := bf BK833 1; have hfz23_2 := bf BK833 2; obtain ⟨Ao24, co24, eo24⟩ := Kd.R_slice HO828.out; subst eo24; obtain ⟨Ao25, co25, eo25⟩ := Kd.R_slice HO831.out; subst eo25; have hcz26_0 := bc BK816 0; have hcz26_1 := bc BK816 1; have hcz26_2 := bc BK816 2; have hfz26_0 := bf BK816 0; have hfz26_1 := bf BK816 1; have hfz26_2 := bf BK816 2) | ((with_reducible refine gate_callee (f := 29) rfl ?_); refine gL (some 29) Try.func29 #[.agg #[.int .i64 a0_0, .slice A0_1 l0_1.length c0_1, .slice A0_2 l0_2.length c0_2]] ?_; (with_reducible refine (laws_toJacobi.calls k a0_0 _ _ l0_1 _ _ l0_2 t834 t835 t838 _ ?side1 ?side2 ?side3 ?side4 A10.out).mono ?_); (case side1 => exact Kd.C_below HR0_1.out (uH HB.out)); (case side2 => exact HC0_1.out); (case side3 => exact Kd.C_below HR0_2.out (uH HB.out)); (case side4 => exact HC0_2.out); rintro e w27 ⟨v836, v839, rfl, ho0, ho1, hb⟩; refine ⟨_, rfl, ?_⟩; have HO837 := zA (Kd.R_lower (Kd.R_new' (Kd.R_new' (Kd.R_new' (Kd.R_new' ho0 (Kd.R_lt (uR ((rf3 HO821 BK833 (by decide) (.int .i64 t825) (.slice Ao24 t826.length co24) (.slice Ao25 t829.length co25)))))) (Kd.R_lt (uR ((rf3 HO824 BK833 (by decide) (.int .i64 t825) (.slice Ao24 t826.length co24) (.slice Ao25 t829.length co25)))))) (Kd.R_lt (uR ((rf3 HO828 BK833 (by decide) (.int .i64 t825) (.slice Ao24 t826.length co24) (.slice Ao25 t829.length co25)))))) (Kd.R_lt (uR ((rf3 HO831 BK833 (by decide) (.int .i64 t825) (.slice Ao24 t826.length co24) (.slice Ao25 t829.length co25)))))) (below_size (uH HB.out))); have HO840 := zA (Kd.R_lower (Kd.R_new' (Kd.R_new' (Kd.R_new' (Kd.R_new' ho1 (Kd.R_lt (uR ((rf3 HO821 BK833 (by decide) (.int .i64 t825) (.slice Ao24 t826.length co24) (.slice Ao25 t829.length co25)))))) (Kd.R_lt (uR ((rf3 HO824 BK833 (by decide) (.int .i64 t825) (.slice Ao24 t826.length co24) (.slice Ao25 t829.length co25)))))) (Kd.R_lt (uR ((rf3 HO828 BK833 (by decide) (.int .i64 t825) (.slice Ao24 t826.length co24) (.slice Ao25 t829.length co25)))))) (Kd.R_lt (uR ((rf3 HO831 BK833 (by decide) (.int .i64 t825) (.slice Ao24 t826.length co24) (.slice Ao25 t829.length co25)))))) (below_size (uH HB.out))); replace HO821 := zA (Kd.R_mono (Kd.R_told (Kd.R_told (Kd.R_old (uR ((rf3 HO821 BK833 (by decide) (.int .i64 t825) (.slice Ao24 t826.length co24) (.slice Ao25 t829.length co25)))) hb) (Kd.R_base ho0)) (Kd.R_base ho1)) (fun _ h_ => h_.1)); replace HO824 := zA (Kd.R_mono (Kd.R_told (Kd.R_told (Kd.R_old (uR ((rf3 HO824 BK833 (by decide) (.int .i64 t825) (.slice Ao24 t826.length co24) (.slice Ao25 t829.length co25)))) hb) (Kd.R_base ho0)) (Kd.R_base ho1)) (fun _ h_ => h_.1)); replace HO828 := zA (Kd.R_mono (Kd.R_told (Kd.R_told (Kd.R_old (uR ((rf3 HO828 BK833 (by decide) (.int .i64 t825) (.slice Ao24 t826.length co24) (.slice Ao25 t829.length co25)))) hb) (Kd.R_base ho0)) (Kd.R_base ho1)) (fun _ h_ => h_.1)); replace HO831 := zA (Kd.R_mono (Kd.R_told (Kd.R_told (Kd.R_old (uR ((rf3 HO831 BK833 (by decide) (.int .i64 t825) (.slice Ao24 t826.length co24) (.slice Ao25 t829.length co25)))) hb) (Kd.R_base ho0)) (Kd.R_base ho1)) (fun _ h_ => h_.1)); replace BK816 := zA (blk_below (g := gb816) (o := .cells #[.int .i64 a0_0, .slice A0_1 l0_1.length c0_1, .slice A0_2 l0_2.length c0_2] 43 (0, 0)) (by (repeat refine up1 ?_); refine blk_far ?_ NB816_833.out _; (repeat refine up1 ?_); refine blk_far ?_ NB816_833.out _; (repeat refine up1 ?_); refine blk_far ?_ NB816_833.out _; (repeat refine up1 ?_); exact BK816.out) hb); replace BK833 := zA (blk_below (g := gb833) (o := .cells #[.int .i64 t825, .slice Ao24 t826.length co24, .slice Ao25 t829.length co25] 46 (0, 0)) (by (repeat refine up1 ?_); refine blk_put (cs := #[.int .i64 t825, .slice Ao24 t826.length co24, .slice none 0 0]) ?_ 2 _ rfl; (repeat refine up1 ?_); refine blk_put (cs := #[.int .i64 t825, .slice none 0 0, .slice none 0 0]) ?_ 1 _ rfl; (repeat refine up1 ?_); refine blk_put (cs := #[.int .i64 0, .slice none 0 0, .slice none 0 0]) ?_ 0 _ rfl; (repeat refine up1 ?_); exact BK833.out) hb); replace HB := xH HB hb; (try clear hb); (try clear hb2); (try clear hk); (try clear hi); (try clear ho0); (try clear ho1)) | ((with_reducible refine gate_dst (N := 8) rfl ?_); refine bx 8 #[.int .i64 0, .slice none 0 0, .slice none 0 0] 46 ?_; intro gb841 hg w28 hbox hb; replace HO821 := xR HO821 hb; replace HO824 := xR HO824 hb; replace HO828 := xR HO828 hb; replace HO831 := xR HO831 hb; replace HO837 := xR HO837 hb; replace HO840 := xR HO840 hb; have BK841 := zA (hbox); have GW841 := gq HB hg; have GE841 := gq HB hg; replace HB := xH HB hb; have NB816_841 := zA ((by rw [hg]; exact neL BK816 : gb816 ≠ gb841)); have NB841_816 := zA ((by rw [hg]; exact neG BK816 : gb841 ≠ gb816)); replace BK816 := xB BK816 hb; have NB833_841 := zA ((by rw [hg]; exact neL BK833 : gb833 ≠ gb841)); have NB841_833 := zA ((by rw [hg]; exact neG BK833 : gb841 ≠ gb833)); replace BK833 := xB BK833 hb; have := geI GE841; clear hb hbox hg; have hnb29 := NB841_816.out; have hnc29 := NB816_841.out; have hnb30 := NB841_833.out; have hnc30 := NB833_841.out; have hcz31_0 := bc BK841 0; have hcz31_1 := bc BK841 1; have hcz31_2 := bc BK841 2; have hfz31_0 := bf BK841 0; have hfz31_1 := bf BK841 1; have hfz31_2 := bf BK841 2; obtain ⟨Ao32, co32, eo32⟩ := Kd.R_slice HO837.out; subst eo32; obtain ⟨Ao33, co33, eo33⟩ := Kd.R_slice HO840.out; subst eo33) | ((with_reducible refine gate_callee (f := 35) rfl ?_); refine gL (some 33) Try.func35 #[.agg #[.int .i64 t834, .slice Ao32 t835.length co32, .slice Ao33 t838.length co33], .int .i64 a1] ?_; (with_reducible refine (impl_RadauJacobi.calls k t834 _ _ t835 _ _ t838 a1 t842 t843 t846 t849 _ ?side1 ?side2 ?side3 ?side4 A11.out).mono ?_); (case side1 => refine (Kd.R_reads' (e := 2) (base := w.heap.size) (ok := fun k_ => ((((ax k_ (.slice Ao33 t838.length co33) ∧ ax k_ (.slice Ao18 t819.length co18)) ∧ ax k_ (.slice Ao19 t822.length co19)) ∧ ax k_ (.slice Ao24 t826.length co24)) ∧ ax k_ (.slice Ao25 t829.length co25))) (n := t835.length) (c := co32) ?_).2.2; exact (uR ((rf3 HO837 BK841 (by decide) (.int .i64 t834) (.slice Ao32 t835.length co32) (.slice Ao33 t838.length co33))))); (case side2 => exact (Kd.R_reads' HO837.out).2.1); (case side3 => refine (Kd.R_reads' (e := 2) (base := w.heap.size) (ok := fun k_ => ((((ax k_ (.slice Ao32 t835.length co32) ∧ ax k_ (.slice Ao18 t819.length co18)) ∧ ax k_ (.slice Ao19 t822.length co19)) ∧ ax k_ (.slice Ao24 t826.length co24)) ∧ ax k_ (.slice Ao25 t829.length co25))) (n := t838.length) (c := co33) ?_).2.2; exact (uR ((rf3 HO840 BK841 (by decide) (.int .i64 t834) (.slice Ao32 t835.length co32) (.slice Ao33 t838.length co33))))); (case side4 => exact (Kd.R_reads' HO840.out).2.1); rintro e w34 ⟨v844, v847, rfl, ho0, ho1, hb⟩; refine ⟨_, rfl, ?_⟩; have HO845 := zA (Kd.R_lower (Kd.R_new' (Kd.R_new' (Kd.R_new' (Kd.R_new' (Kd.R_new' (Kd.R_new' ho0 (Kd.R_lt (uR ((rf3 HO821 BK841 (by decide) (.int .i64 t834) (.slice Ao32 t835.length co32) (.slice Ao33 t838.length co33)))))) (Kd.R_lt (uR ((rf3 HO824 BK841 (by decide) (.int .i64 t834) (.slice Ao32 t835.length co32) (.slice Ao33 t838.length co33)))))) (Kd.R_lt (uR ((rf3 HO828 BK841 (by decide) (.int .i64 t834) (.slice Ao32 t835.length co32) (.slice Ao33 t838.length co33)))))) (Kd.R_lt (uR ((rf3 HO831 BK841 (by decide) (.int .i64 t834) (.slice Ao32 t835.length co32) (.slice Ao33 t838.length co33)))))) (Kd.R_lt (uR ((rf3 HO837 BK841 (by decide) (.int .i64 t834) (.slice Ao32 t835.length co32) (.slice Ao33 t838.length co33)))))) (Kd.R_lt (uR ((rf3 HO840 BK841 (by decide) (.int .i64 t834) (.slice Ao32 t835.length co32) (.slice Ao33 t838.length co33)))))) (below_size (uH HB.out))); have HO848 := zA (Kd.R_lower (Kd.R_new' (Kd.R_new' (Kd.R_new' (Kd.R_new' (Kd.R_new' (Kd.R_new' ho1 (Kd.R_lt (uR ((rf3 HO821 BK841 (by decide) (.int .i64 t834) (.slice Ao32 t835.length co32) (.slice Ao33 t838.length co33)))))) (Kd.R_lt (uR ((rf3 HO824 BK841 (by decide) (.int .i64 t834) (.slice Ao32 t835.length co32) (.slice Ao33 t838.length co33)))))) (Kd.R_lt (uR ((rf3 HO828 BK841 (by decide) (.int .i64 t834) (.slice Ao32 t835.length co32) (.slice Ao33 t838.length co33)))))) (Kd.R_lt (uR ((rf3 HO831 BK841 (by decide) (.int .i64 t834) (.slice Ao32 t835.length co32) (.slice Ao33 t838.length co33)))))) (Kd.R_lt (uR ((rf3 HO837 BK841 (by decide) (.int .i64 t834) (.slice Ao32 t835.length co32) (.slice Ao33 t838.length co33)))))) (Kd.R_lt (uR ((rf3 HO840 BK841 (by decide) (.int .i64 t834) (.slice Ao32 t835.length co32) (.slice Ao33 t838.length co33)))))) (below_size (uH HB.out))); replace HO821 := zA (Kd.R_mono (Kd.R_told (Kd.R_told (Kd.R_old (uR ((rf3 HO821 BK841 (by decide) (.int .i64 t834) (.slice Ao32 t835.length co32) (.slice Ao33 t838.length co33)))) hb) (Kd.R_base ho0)) (Kd.R_base ho1)) (fun _ h_ => h_.1)); replace HO824 := zA (Kd.R_mono (Kd.R_told (Kd.R_told (Kd.R_old (uR ((rf3 HO824 BK841 (by decide) (.int .i64 t834) (.slice Ao32 t835.length co32) (.slice Ao33 t838.length co33)))) hb) (Kd.R_base ho0)) (Kd.R_base ho1)) (fun _ h_ => h_.1)); replace HO828 := zA (Kd.R_mono (Kd.R_told (Kd.R_told (Kd.R_old (uR ((rf3 HO828 BK841 (by decide) (.int .i64 t834) (.slice Ao32 t835.length co32) (.slice Ao33 t838.length co33)))) hb) (Kd.R_base ho0)) (Kd.R_base ho1)) (fun _ h_ => h_.1)); replace HO831 := zA (Kd.R_mono (Kd.R_told (Kd.R_told (Kd.R_old (uR ((rf3 HO831 BK841 (by decide) (.int .i64 t834) (.slice Ao32 t835.length co32) (.slice Ao33 t838.length co33)))) hb) (Kd.R_base ho0)) (Kd.R_base ho1)) (fun _ h_ => h_.1)); replace HO837 := zA (Kd.R_mono (Kd.R_told (Kd.R_told (Kd.R_old (uR ((rf3 HO837 BK841 (by decide) (.int .i64 t834) (.slice Ao32 t835.length co32) (.slice Ao33 t838.length co33)))) hb) (Kd.R_base ho0)) (Kd.R_base ho1)) (fun _ h_ => h_.1)); replace HO840 := zA (Kd.R_mono (Kd.R_told (Kd.R_told (Kd.R_old (uR ((rf3 HO840 BK841 (by decide) (.int .i64 t834) (.slice Ao32 t835.length co32) (.slice Ao33 t838.length co33)))) hb) (Kd.R_base ho0)) (Kd.R_base ho1)) (fun _ h_ => h_.1)); replace BK816 := zA (blk_below (g := gb816) (o := .cells #[.int .i64 a0_0, .slice A0_1 l0_1.length c0_1, .slice A0_2 l0_2.length c0_2] 43 (0, 0)) (by (repeat refine up1 ?_); refine blk_far ?_ NB816_841.out _; (repeat refine up1 ?_); refine blk_far ?_ NB816_841.out _; (repeat refine up1 ?_); refine blk_far ?_ NB816_841.out _; (repeat refine up1 ?_); exact BK816.out) hb); replace BK833 := zA (blk_below (g := gb833) (o := .cells #[.int .i64 t825, .slice Ao24 t826.length co24, .slice Ao25 t829.length co25] 46 (0, 0)) (by (repeat refine up1 ?_); refine blk_far ?_ NB833_841.out _; (repeat refine up1 ?_); refine blk_far ?_ NB833_841.out _; (repeat refine up1 ?_); refine blk_far ?_ NB833_841.out _; (repeat refine up1 ?_); exact BK833.out) hb); replace BK841 := zA (blk_below (g := gb841) (o := .cells #[.int .i64 t834, .slice Ao32 t835.length co32, .slice Ao33 t838.length co33] 46 (0, 0)) (by (repeat refine up1 ?_); refine blk_put (cs := #[.int .i64 t834, .slice Ao32 t835.length co32, .slice none 0 0]) ?_ 2 _ rfl; (repeat refine up1 ?_); refine blk_put (cs := #[.int .i64 t834, .slice none 0 0, .slice none 0 0]) ?_ 1 _ rfl; (repeat refine up1 ?_); refine blk_put (cs := #[.int .i64 0, .slice none 0 0, .slice none 0 0]) ?_ 0 _ rfl; (repeat refine up1 ?_); exact BK841.out) hb); replace HB := xH HB hb; (try clear hb); (try clear hb2); (try clear hk); (try clear hi); (try clear ho0); (try clear ho1)) | ((with_reducible refine gate_dst (N := 9) rfl ?_); refine bx 9 #[.int .i64 0, .slice none 0 0, .slice none 0 0] 46 ?_; intro gb850 hg w35 hbox hb; replace HO821 := xR HO821 hb; replace HO824 := xR HO824 hb; replace HO828 := xR HO828 hb; replace HO831 := xR HO831 hb; replace HO837 := xR HO837 hb; replace HO840 := xR HO840 hb; replace HO845 := xR HO845 hb; replace HO848 := xR HO848 hb; have BK850 := zA (hbox); have GW850 := gq HB hg; have GE850 := gq HB hg; replace HB := xH HB hb; have NB816_850 := zA ((by rw [hg]; exact neL BK816 : gb816 ≠ gb850)); have NB850_816 := zA ((by rw [hg]; exact neG BK816 : gb850 ≠ gb816)); replace BK816 := xB BK816 hb; have NB833_850 := zA ((by rw [hg]; exact neL BK833 : gb833 ≠ gb850)); have NB850_833 := zA ((by rw [hg]; exact neG BK833 : gb850 ≠ gb833)); replace BK833 := xB BK833 hb; have NB841_850 := zA ((by rw [hg]; exact neL BK841 : gb841 ≠ gb850)); have NB850_841 := zA ((by rw [hg]; exact neG BK841 : gb850 ≠ gb841)); replace BK841 := xB BK841 hb; have := geI GE850; clear hb hbox hg; have hnb36 := NB850_816.out; have hnc36 := NB816_850.out; have hnb37 := NB850_833.out; have hnc37 := NB833_850.out; have hnb38 := NB850_841.out; have hnc38 := NB841_850.out; have hcz39_0 := bc BK850 0; have hcz39_1 := bc BK850 1; have hcz39_2 := bc BK850 2; have hfz39_0 := bf BK850 0; have hfz39_1 := bf BK850 1; have hfz39_2 := bf BK850 2; obtain ⟨Ao40, co40, eo40⟩ := Kd.R_slice HO845.out; subst eo40; obtain ⟨Ao41, co41, eo41⟩ := Kd.R_slice HO848.out; subst eo41))
  (try simp only [Act.put, ls, lz, ln])
  go_cut [44] (fun v44 wc => ∃ (kq : Nat) (x44_11 : Bool), v44 = .bool x44_11 ∧ Aside0 (laws_FnExactRadauJacobi.j0 kq a1 t832 t849 x44_11 a0_0 l0_1 l0_2 t825 t826 t829 t834 t835 t838 t842 t843 t846 = some r) ∧ Aside0 (kq ≤ k) ∧ Aside0 (Kd.R (Kd.int .i64) 2 wc w.heap.size (fun k_ => ax k_ (.slice Ao25 t829.length co25) ∧ ax k_ (.slice Ao32 t835.length co32) ∧ ax k_ (.slice Ao33 t838.length co33) ∧ ax k_ (.slice Ao40 t843.length co40) ∧ ax k_ (.slice Ao41 t846.length co41)) (.slice Ao24 t826.length co24) t826) ∧ Aside0 (Kd.R (Kd.int .i64) 2 wc w.heap.size (fun k_ => ax k_ (.slice Ao24 t826.length co24) ∧ ax k_ (.slice Ao32 t835.length co32) ∧ ax k_ (.slice Ao33 t838.length co33) ∧ ax k_ (.slice Ao40 t843.length co40) ∧ ax k_ (.slice Ao41 t846.length co41)) (.slice Ao25 t829.length co25) t829) ∧ Aside0 (Kd.R (Kd.int .i64) 2 wc w.heap.size (fun k_ => ax k_ (.slice Ao24 t826.length co24) ∧ ax k_ (.slice Ao25 t829.length co25) ∧ ax k_ (.slice Ao33 t838.length co33) ∧ ax k_ (.slice Ao40 t843.length co40) ∧ ax k_ (.slice Ao41 t846.length co41)) (.slice Ao32 t835.length co32) t835) ∧ Aside0 (Kd.R (Kd.int .i64) 2 wc w.heap.size (fun k_ => ax k_ (.slice Ao24 t826.length co24) ∧ ax k_ (.slice Ao25 t829.length co25) ∧ ax k_ (.slice Ao32 t835.length co32) ∧ ax k_ (.slice Ao40 t843.length co40) ∧ ax k_ (.slice Ao41 t846.length co41)) (.slice Ao33 t838.length co33) t838) ∧ Aside0 (Kd.R (Kd.int .i64) 2 wc w.heap.size (fun k_ => ax k_ (.slice Ao24 t826.length co24) ∧ ax k_ (.slice Ao25 t829.length co25) ∧ ax k_ (.slice Ao32 t835.length co32) ∧ ax k_ (.slice Ao33 t838.length co33) ∧ ax k_ (.slice Ao41 t846.length co41)) (.slice Ao40 t843.length co40) t843) ∧ Aside0 (Kd.R (Kd.int .i64) 2 wc w.heap.size (fun k_ => ax k_ (.slice Ao24 t826.length co24) ∧ ax k_ (.slice Ao25 t829.length co25) ∧ ax k_ (.slice Ao32 t835.length co32) ∧ ax k_ (.slice Ao33 t838.length co33) ∧ ax k_ (.slice Ao40 t843.length co40)) (.slice Ao41 t846.length co41) t846) ∧ Aside0 (wc.heap[gb816]? = some (.cells #[.int .i64 a0_0, (.slice A0_1 l0_1.length c0_1), (.slice A0_2 l0_2.length c0_2)] 43 (0, 0))) ∧ Aside0 (wc.heap[gb833]? = some (.cells #[.int .i64 t825, (.slice Ao24 t826.length co24), (.slice Ao25 t829.length co25)] 46 (0, 0))) ∧ Aside0 (wc.heap[gb841]? = some (.cells #[.int .i64 t834, (.slice Ao32 t835.length co32), (.slice Ao33 t838.length co33)] 46 (0, 0))) ∧ Aside0 (wc.heap[gb850]? = some (.cells #[.int .i64 t842, (.slice Ao40 t843.length co40), (.slice Ao41 t846.length co41)] 46 (0, 0))) ∧ Aside0 (Below w.heap.size w wc))
  case first =>
   have H := HC12.out
   clear HC12
   replace H := Option.bind_eq_some_iff.mp H
   obtain ⟨t851, A420, H⟩ := H
   replace H : (if t851 = true then (laws_FnExactRadauJacobi.j0 k a1 t832 t849 (t849 != t832) a0_0 l0_1 l0_2 t825 t826 t829 t834 t835 t838 t842 t843 t846) else (laws_FnExactRadauJacobi.j0 k a1 t832 t849 true a0_0 l0_1 l0_2 t825 t826 t829 t834 t835 t838 t842 t843 t846)) = some r := H
   have A42 := zA A420
   clear A420
   by_cases c43 : t851 = true
   ·subst c43
    have H1 : (laws_FnExactRadauJacobi.j0 k a1 t832 t849 (t849 != t832) a0_0 l0_1 l0_2 t825 t826 t829 t834 t835 t838 t842 t843 t846) = some r := by rw [if_pos rfl] at H; exact H
    clear H
    have H := H1
    clear H1
    have H' := zA H
    clear H
    have hnb44 := NB850_816.out; have hnc44 := NB816_850.out; have hnb45 := NB850_833.out; have hnc45 := NB833_850.out; have hnb46 := NB850_841.out; have hnc46 := NB841_850.out
    have hcz47_0 := bc BK850 0
    have hcz47_1 := bc BK850 1
    have hcz47_2 := bc BK850 2
    have hfz47_0 := bf BK850 0
    have hfz47_1 := bf BK850 1
    have hfz47_2 := bf BK850 2
    have hnb48 := NB833_816.out; have hnc48 := NB816_833.out; have hnb49 := NB833_841.out; have hnc49 := NB841_833.out
    have hcz50_0 := bc BK833 0
    have hcz50_1 := bc BK833 1
    have hcz50_2 := bc BK833 2
    have hfz50_0 := bf BK833 0
    have hfz50_1 := bf BK833 1
    have hfz50_2 := bf BK833 2
    go_wp2_with (first | ((with_reducible refine gate_callee (f := 31) rfl ?_); refine gL (some 38) Try.func31 #[.agg #[.int .i64 t842, .slice Ao40 t843.length co40, .slice Ao41 t846.length co41], .agg #[.int .i64 t825, .slice Ao24 t826.length co24, .slice Ao25 t829.length co25]] ?_; (with_reducible refine (laws_eqJacobi.calls k t842 _ _ t843 _ _ t846 t825 _ _ t826 _ _ t829 true _ ?side1 ?side2 ?side3 ?side4 ?side5 ?side6 ?side7 ?side8 A42.out).mono ?_); (case side1 => refine (Kd.R_reads' (e := 2) (base := w.heap.size) (ok := fun k_ => ((((((ax k_ (.slice Ao41 t846.length co41) ∧ ax k_ (.slice Ao18 t819.length co18)) ∧ ax k_ (.slice Ao19 t822.length co19)) ∧ ax k_ (.slice Ao24 t826.length co24)) ∧ ax k_ (.slice Ao25 t829.length co25)) ∧ ax k_ (.slice Ao32 t835.length co32)) ∧ ax k_ (.slice Ao33 t838.length co33))) (n := t843.length) (c := co40) ?_).2.2; exact (uR ((rf3 HO845 BK850 (by decide) (.int .i64 t842) (.slice Ao40 t843.length co40) (.slice Ao41 t846.length co41))))); (case side2 => exact (Kd.R_reads' HO845.out).2.1); (case side3 => refine (Kd.R_reads' (e := 2) (base := w.heap.size) (ok := fun k_ => ((((((ax k_ (.slice Ao40 t843.length co40) ∧ ax k_ (.slice Ao18 t819.length co18)) ∧ ax k_ (.slice Ao19 t822.length co19)) ∧ ax k_ (.slice Ao24 t826.length co24)) ∧ ax k_ (.slice Ao25 t829.length co25)) ∧ ax k_ (.slice Ao32 t835.length co32)) ∧ ax k_ (.slice Ao33 t838.length co33))) (n := t846.length) (c := co41) ?_).2.2; exact (uR ((rf3 HO848 BK850 (by decide) (.int .i64 t842) (.slice Ao40 t843.length co40) (.slice Ao41 t846.length co41))))); (case side4 => exact (Kd.R_reads' HO848.out).2.1); (case side5 => refine (Kd.R_reads' (e := 2) (base := w.heap.size) (ok := fun k_ => ((((((ax k_ (.slice Ao25 t829.length co25) ∧ ax k_ (.slice Ao18 t819.length co18)) ∧ ax k_ (.slice Ao19 t822.length co19)) ∧ ax k_ (.slice Ao32 t835.length co32)) ∧ ax k_ (.slice Ao33 t838.length co33)) ∧ ax k_ (.slice Ao40 t843.length co40)) ∧ ax k_ (.slice Ao41 t846.length co41))) (n := t826.length) (c := co24) ?_).2.2; exact (uR ((rf3 HO828 BK850 (by decide) (.int .i64 t842) (.slice Ao40 t843.length co40) (.slice Ao41 t846.length co41))))); (case side6 => exact (Kd.R_reads' HO828.out).2.1); (case side7 => refine (Kd.R_reads' (e := 2) (base := w.heap.size) (ok := fun k_ => ((((((ax k_ (.slice Ao24 t826.length co24) ∧ ax k_ (.slice Ao18 t819.length co18)) ∧ ax k_ (.slice Ao19 t822.length co19)) ∧ ax k_ (.slice Ao32 t835.length co32)) ∧ ax k_ (.slice Ao33 t838.length co33)) ∧ ax k_ (.slice Ao40 t843.length co40)) ∧ ax k_ (.slice Ao41 t846.length co41))) (n := t829.length) (c := co25) ?_).2.2; exact (uR ((rf3 HO831 BK850 (by decide) (.int .i64 t842) (.slice Ao40 t843.length co40) (.slice Ao41 t846.length co41))))); (case side8 => exact (Kd.R_reads' HO831.out).2.1); rintro e w51 ⟨rfl, hb⟩; refine ⟨_, rfl, ?_⟩; replace HO821 := zA (Kd.R_below (uR ((rf3 HO821 BK850 (by decide) (.int .i64 t842) (.slice Ao40 t843.length co40) (.slice Ao41 t846.length co41)))) hb); replace HO824 := zA (Kd.R_below (uR ((rf3 HO824 BK850 (by decide) (.int .i64 t842) (.slice Ao40 t843.length co40) (.slice Ao41 t846.length co41)))) hb); replace HO828 := zA (Kd.R_below (uR ((rf3 HO828 BK850 (by decide) (.int .i64 t842) (.slice Ao40 t843.length co40) (.slice Ao41 t846.length co41)))) hb); replace HO831 := zA (Kd.R_below (uR ((rf3 HO831 BK850 (by decide) (.int .i64 t842) (.slice Ao40 t843.length co40) (.slice Ao41 t846.length co41)))) hb); replace HO837 := zA (Kd.R_below (uR ((rf3 HO837 BK850 (by decide) (.int .i64 t842) (.slice Ao40 t843.length co40) (.slice Ao41 t846.length co41)))) hb); replace HO840 := zA (Kd.R_below (uR ((rf3 HO840 BK850 (by decide) (.int .i64 t842) (.slice Ao40 t843.length co40) (.slice Ao41 t846.length co41)))) hb); replace HO845 := zA (Kd.R_below (uR ((rf3 HO845 BK850 (by decide) (.int .i64 t842) (.slice Ao40 t843.length co40) (.slice Ao41 t846.length co41)))) hb); replace HO848 := zA (Kd.R_below (uR ((rf3 HO848 BK850 (by decide) (.int .i64 t842) (.slice Ao40 t843.length co40) (.slice Ao41 t846.length co41)))) hb); replace BK816 := zA (blk_below (g := gb816) (o := .cells #[.int .i64 a0_0, .slice A0_1 l0_1.length c0_1, .slice A0_2 l0_2.length c0_2] 43 (0, 0)) (by (repeat refine up1 ?_); refine blk_far ?_ NB816_850.out _; (repeat refine up1 ?_); refine blk_far ?_ NB816_850.out _; (repeat refine up1 ?_); refine blk_far ?_ NB816_850.out _; (repeat refine up1 ?_); exact BK816.out) hb); replace BK833 := zA (blk_below (g := gb833) (o := .cells #[.int .i64 t825, .slice Ao24 t826.length co24, .slice Ao25 t829.length co25] 46 (0, 0)) (by (repeat refine up1 ?_); refine blk_far ?_ NB833_850.out _; (repeat refine up1 ?_); refine blk_far ?_ NB833_850.out _; (repeat refine up1 ?_); refine blk_far ?_ NB833_850.out _; (repeat refine up1 ?_); exact BK833.out) hb); replace BK841 := zA (blk_below (g := gb841) (o := .cells #[.int .i64 t834, .slice Ao32 t835.length co32, .slice Ao33 t838.length co33] 46 (0, 0)) (by (repeat refine up1 ?_); refine blk_far ?_ NB841_850.out _; (repeat refine up1 ?_); refine blk_far ?_ NB841_850.out _; (repeat refine up1 ?_); refine blk_far ?_ NB841_850.out _; (repeat refine up1 ?_); exact BK841.out) hb); replace BK850 := zA (blk_below (g := gb850) (o := .cells #[.int .i64 t842, .slice Ao40 t843.length co40, .slice Ao41 t846.length co41] 46 (0, 0)) (by (repeat refine up1 ?_); refine blk_put (cs := #[.int .i64 t842, .slice Ao40 t843.length co40, .slice none 0 0]) ?_ 2 _ rfl; (repeat refine up1 ?_); refine blk_put (cs := #[.int .i64 t842, .slice none 0 0, .slice none 0 0]) ?_ 1 _ rfl; (repeat refine up1 ?_); refine blk_put (cs := #[.int .i64 0, .slice none 0 0, .slice none 0 0]) ?_ 0 _ rfl; (repeat refine up1 ?_); exact BK850.out) hb); replace HB := xH HB hb; (try clear hb); (try clear hb2); (try clear hk); (try clear hi)))
    go_meet
    case rel => exact ⟨_, ((t849 != t832)), (by first | rfl | (simp; done) | (simp [*]; done)), H', ⟨by first | omega | exact Nat.le_refl _⟩, ⟨uR (Kd.R_mono HO828.out (fun _ hk => ⟨hk.1.1.1.1.1.1, ⟨hk.1.1.1.2, ⟨hk.1.1.2, ⟨hk.1.2, hk.2⟩⟩⟩⟩))⟩, ⟨uR (Kd.R_mono HO831.out (fun _ hk => ⟨hk.1.1.1.1.1.1, ⟨hk.1.1.1.2, ⟨hk.1.1.2, ⟨hk.1.2, hk.2⟩⟩⟩⟩))⟩, ⟨uR (Kd.R_mono HO837.out (fun _ hk => ⟨hk.1.1.1.2, ⟨hk.1.1.2, ⟨hk.1.1.1.1.1.1, ⟨hk.1.2, hk.2⟩⟩⟩⟩))⟩, ⟨uR (Kd.R_mono HO840.out (fun _ hk => ⟨hk.1.1.1.2, ⟨hk.1.1.2, ⟨hk.1.1.1.1.1.1, ⟨hk.1.2, hk.2⟩⟩⟩⟩))⟩, ⟨uR (Kd.R_mono HO845.out (fun _ hk => ⟨hk.1.1.1.2, ⟨hk.1.1.2, ⟨hk.1.2, ⟨hk.2, hk.1.1.1.1.1.1⟩⟩⟩⟩))⟩, ⟨uR (Kd.R_mono HO848.out (fun _ hk => ⟨hk.1.1.1.2, ⟨hk.1.1.2, ⟨hk.1.2, ⟨hk.2, hk.1.1.1.1.1.1⟩⟩⟩⟩))⟩, ⟨uB BK816.out⟩, ⟨uB BK833.out⟩, ⟨uB BK841.out⟩, ⟨uB BK850.out⟩, ⟨uH HB.out⟩⟩
   ·replace c43 := Bool.eq_false_iff.mpr c43
    subst c43
    have H1 : (laws_FnExactRadauJacobi.j0 k a1 t832 t849 true a0_0 l0_1 l0_2 t825 t826 t829 t834 t835 t838 t842 t843 t846) = some r := by rw [if_neg (show ¬ (false = true) by decide)] at H; exact H
    clear H
    have H := H1
    clear H1
    have H' := zA H
    clear H
    have hnb52 := NB850_816.out; have hnc52 := NB816_850.out; have hnb53 := NB850_833.out; have hnc53 := NB833_850.out; have hnb54 := NB850_841.out; have hnc54 := NB841_850.out
    have hcz55_0 := bc BK850 0
    have hcz55_1 := bc BK850 1
    have hcz55_2 := bc BK850 2
    have hfz55_0 := bf BK850 0
    have hfz55_1 := bf BK850 1
    have hfz55_2 := bf BK850 2
    have hnb56 := NB833_816.out; have hnc56 := NB816_833.out; have hnb57 := NB833_841.out; have hnc57 := NB841_833.out
    have hcz58_0 := bc BK833 0
    have hcz58_1 := bc BK833 1
    have hcz58_2 := bc BK833 2
    have hfz58_0 := bf BK833 0
    have hfz58_1 := bf BK833 1
    have hfz58_2 := bf BK833 2
    go_wp2_with (first | ((with_reducible refine gate_callee (f := 31) rfl ?_); refine gL (some 38) Try.func31 #[.agg #[.int .i64 t842, .slice Ao40 t843.length co40, .slice Ao41 t846.length co41], .agg #[.int .i64 t825, .slice Ao24 t826.length co24, .slice Ao25 t829.length co25]] ?_; (with_reducible refine (laws_eqJacobi.calls k t842 _ _ t843 _ _ t846 t825 _ _ t826 _ _ t829 false _ ?side1 ?side2 ?side3 ?side4 ?side5 ?side6 ?side7 ?side8 A42.out).mono ?_); (case side1 => refine (Kd.R_reads' (e := 2) (base := w.heap.size) (ok := fun k_ => ((((((ax k_ (.slice Ao41 t846.length co41) ∧ ax k_ (.slice Ao18 t819.length co18)) ∧ ax k_ (.slice Ao19 t822.length co19)) ∧ ax k_ (.slice Ao24 t826.length co24)) ∧ ax k_ (.slice Ao25 t829.length co25)) ∧ ax k_ (.slice Ao32 t835.length co32)) ∧ ax k_ (.slice Ao33 t838.length co33))) (n := t843.length) (c := co40) ?_).2.2; exact (uR ((rf3 HO845 BK850 (by decide) (.int .i64 t842) (.slice Ao40 t843.length co40) (.slice Ao41 t846.length co41))))); (case side2 => exact (Kd.R_reads' HO845.out).2.1); (case side3 => refine (Kd.R_reads' (e := 2) (base := w.heap.size) (ok := fun k_ => ((((((ax k_ (.slice Ao40 t843.length co40) ∧ ax k_ (.slice Ao18 t819.length co18)) ∧ ax k_ (.slice Ao19 t822.length co19)) ∧ ax k_ (.slice Ao24 t826.length co24)) ∧ ax k_ (.slice Ao25 t829.length co25)) ∧ ax k_ (.slice Ao32 t835.length co32)) ∧ ax k_ (.slice Ao33 t838.length co33))) (n := t846.length) (c := co41) ?_).2.2; exact (uR ((rf3 HO848 BK850 (by decide) (.int .i64 t842) (.slice Ao40 t843.length co40) (.slice Ao41 t846.length co41))))); (case side4 => exact (Kd.R_reads' HO848.out).2.1); (case side5 => refine (Kd.R_reads' (e := 2) (base := w.heap.size) (ok := fun k_ => ((((((ax k_ (.slice Ao25 t829.length co25) ∧ ax k_ (.slice Ao18 t819.length co18)) ∧ ax k_ (.slice Ao19 t822.length co19)) ∧ ax k_ (.slice Ao32 t835.length co32)) ∧ ax k_ (.slice Ao33 t838.length co33)) ∧ ax k_ (.slice Ao40 t843.length co40)) ∧ ax k_ (.slice Ao41 t846.length co41))) (n := t826.length) (c := co24) ?_).2.2; exact (uR ((rf3 HO828 BK850 (by decide) (.int .i64 t842) (.slice Ao40 t843.length co40) (.slice Ao41 t846.length co41))))); (case side6 => exact (Kd.R_reads' HO828.out).2.1); (case side7 => refine (Kd.R_reads' (e := 2) (base := w.heap.size) (ok := fun k_ => ((((((ax k_ (.slice Ao24 t826.length co24) ∧ ax k_ (.slice Ao18 t819.length co18)) ∧ ax k_ (.slice Ao19 t822.length co19)) ∧ ax k_ (.slice Ao32 t835.length co32)) ∧ ax k_ (.slice Ao33 t838.length co33)) ∧ ax k_ (.slice Ao40 t843.length co40)) ∧ ax k_ (.slice Ao41 t846.length co41))) (n := t829.length) (c := co25) ?_).2.2; exact (uR ((rf3 HO831 BK850 (by decide) (.int .i64 t842) (.slice Ao40 t843.length co40) (.slice Ao41 t846.length co41))))); (case side8 => exact (Kd.R_reads' HO831.out).2.1); rintro e w59 ⟨rfl, hb⟩; refine ⟨_, rfl, ?_⟩; replace HO821 := zA (Kd.R_below (uR ((rf3 HO821 BK850 (by decide) (.int .i64 t842) (.slice Ao40 t843.length co40) (.slice Ao41 t846.length co41)))) hb); replace HO824 := zA (Kd.R_below (uR ((rf3 HO824 BK850 (by decide) (.int .i64 t842) (.slice Ao40 t843.length co40) (.slice Ao41 t846.length co41)))) hb); replace HO828 := zA (Kd.R_below (uR ((rf3 HO828 BK850 (by decide) (.int .i64 t842) (.slice Ao40 t843.length co40) (.slice Ao41 t846.length co41)))) hb); replace HO831 := zA (Kd.R_below (uR ((rf3 HO831 BK850 (by decide) (.int .i64 t842) (.slice Ao40 t843.length co40) (.slice Ao41 t846.length co41)))) hb); replace HO837 := zA (Kd.R_below (uR ((rf3 HO837 BK850 (by decide) (.int .i64 t842) (.slice Ao40 t843.length co40) (.slice Ao41 t846.length co41)))) hb); replace HO840 := zA (Kd.R_below (uR ((rf3 HO840 BK850 (by decide) (.int .i64 t842) (.slice Ao40 t843.length co40) (.slice Ao41 t846.length co41)))) hb); replace HO845 := zA (Kd.R_below (uR ((rf3 HO845 BK850 (by decide) (.int .i64 t842) (.slice Ao40 t843.length co40) (.slice Ao41 t846.length co41)))) hb); replace HO848 := zA (Kd.R_below (uR ((rf3 HO848 BK850 (by decide) (.int .i64 t842) (.slice Ao40 t843.length co40) (.slice Ao41 t846.length co41)))) hb); replace BK816 := zA (blk_below (g := gb816) (o := .cells #[.int .i64 a0_0, .slice A0_1 l0_1.length c0_1, .slice A0_2 l0_2.length c0_2] 43 (0, 0)) (by (repeat refine up1 ?_); refine blk_far ?_ NB816_850.out _; (repeat refine up1 ?_); refine blk_far ?_ NB816_850.out _; (repeat refine up1 ?_); refine blk_far ?_ NB816_850.out _; (repeat refine up1 ?_); exact BK816.out) hb); replace BK833 := zA (blk_below (g := gb833) (o := .cells #[.int .i64 t825, .slice Ao24 t826.length co24, .slice Ao25 t829.length co25] 46 (0, 0)) (by (repeat refine up1 ?_); refine blk_far ?_ NB833_850.out _; (repeat refine up1 ?_); refine blk_far ?_ NB833_850.out _; (repeat refine up1 ?_); refine blk_far ?_ NB833_850.out _; (repeat refine up1 ?_); exact BK833.out) hb); replace BK841 := zA (blk_below (g := gb841) (o := .cells #[.int .i64 t834, .slice Ao32 t835.length co32, .slice Ao33 t838.length co33] 46 (0, 0)) (by (repeat refine up1 ?_); refine blk_far ?_ NB841_850.out _; (repeat refine up1 ?_); refine blk_far ?_ NB841_850.out _; (repeat refine up1 ?_); refine blk_far ?_ NB841_850.out _; (repeat refine up1 ?_); exact BK841.out) hb); replace BK850 := zA (blk_below (g := gb850) (o := .cells #[.int .i64 t842, .slice Ao40 t843.length co40, .slice Ao41 t846.length co41] 46 (0, 0)) (by (repeat refine up1 ?_); refine blk_put (cs := #[.int .i64 t842, .slice Ao40 t843.length co40, .slice none 0 0]) ?_ 2 _ rfl; (repeat refine up1 ?_); refine blk_put (cs := #[.int .i64 t842, .slice none 0 0, .slice none 0 0]) ?_ 1 _ rfl; (repeat refine up1 ?_); refine blk_put (cs := #[.int .i64 0, .slice none 0 0, .slice none 0 0]) ?_ 0 _ rfl; (repeat refine up1 ?_); exact BK850.out) hb); replace HB := xH HB hb; (try clear hb); (try clear hb2); (try clear hk); (try clear hi)))
    go_meet
    case rel => exact ⟨_, (true), (by first | rfl | (simp; done) | (simp [*]; done)), H', ⟨by first | omega | exact Nat.le_refl _⟩, ⟨uR (Kd.R_mono HO828.out (fun _ hk => ⟨hk.1.1.1.1.1.1, ⟨hk.1.1.1.2, ⟨hk.1.1.2, ⟨hk.1.2, hk.2⟩⟩⟩⟩))⟩, ⟨uR (Kd.R_mono HO831.out (fun _ hk => ⟨hk.1.1.1.1.1.1, ⟨hk.1.1.1.2, ⟨hk.1.1.2, ⟨hk.1.2, hk.2⟩⟩⟩⟩))⟩, ⟨uR (Kd.R_mono HO837.out (fun _ hk => ⟨hk.1.1.1.2, ⟨hk.1.1.2, ⟨hk.1.1.1.1.1.1, ⟨hk.1.2, hk.2⟩⟩⟩⟩))⟩, ⟨uR (Kd.R_mono HO840.out (fun _ hk => ⟨hk.1.1.1.2, ⟨hk.1.1.2, ⟨hk.1.1.1.1.1.1, ⟨hk.1.2, hk.2⟩⟩⟩⟩))⟩, ⟨uR (Kd.R_mono HO845.out (fun _ hk => ⟨hk.1.1.1.2, ⟨hk.1.1.2, ⟨hk.1.2, ⟨hk.2, hk.1.1.1.1.1.1⟩⟩⟩⟩))⟩, ⟨uR (Kd.R_mono HO848.out (fun _ hk => ⟨hk.1.1.1.2, ⟨hk.1.1.2, ⟨hk.1.2, ⟨hk.2, hk.1.1.1.1.1.1⟩⟩⟩⟩))⟩, ⟨uB BK816.out⟩, ⟨uB BK833.out⟩, ⟨uB BK841.out⟩, ⟨uB BK850.out⟩, ⟨uH HB.out⟩⟩
  case rest =>
   clear HC12
   (try clear c2);(try clear p2);(try clear c3);(try clear c4);(try clear c4b0);(try clear c5);(try clear c7);(try clear c22);(try clear c27);(try clear c29);(try clear c30);(try clear c31);(try clear c34);(try clear c35);(try clear c36);(try clear c37);(try clear c38);(try clear c43);(try clear c44);(try clear c45);(try clear c46);(try clear c48);(try clear c49);(try clear c52);(try clear c53);(try clear c54)
   (try clear c56);(try clear c57);(try clear hcz14_0);(try clear hcz14_1);(try clear hcz14_2);(try clear hcz16_0);(try clear hcz16_1);(try clear hcz16_2);(try clear hcz23_0);(try clear hcz23_1);(try clear hcz23_2);(try clear hcz26_0);(try clear hcz26_1);(try clear hcz26_2);(try clear hcz31_0);(try clear hcz31_1);(try clear hcz31_2);(try clear hcz39_0);(try clear hcz39_1);(try clear hcz39_2);(try clear hcz47_0)
   (try clear hcz47_1);(try clear hcz47_2);(try clear hcz50_0);(try clear hcz50_1);(try clear hcz50_2);(try clear hcz55_0);(try clear hcz55_1);(try clear hcz55_2);(try clear hcz58_0);(try clear hcz58_1);(try clear hcz58_2);(try clear hcz6_0);(try clear hcz6_1);(try clear hcz6_2);(try clear hfz14_0);(try clear hfz14_1);(try clear hfz14_2);(try clear hfz16_0);(try clear hfz16_1);(try clear hfz16_2);(try clear hfz23_0)
   (try clear hfz23_1);(try clear hfz23_2);(try clear hfz26_0);(try clear hfz26_1);(try clear hfz26_2);(try clear hfz31_0);(try clear hfz31_1);(try clear hfz31_2);(try clear hfz39_0);(try clear hfz39_1);(try clear hfz39_2);(try clear hfz47_0);(try clear hfz47_1);(try clear hfz47_2);(try clear hfz50_0);(try clear hfz50_1);(try clear hfz50_2);(try clear hfz55_0);(try clear hfz55_1);(try clear hfz55_2)
   (try clear hfz58_0);(try clear hfz58_1);(try clear hfz58_2);(try clear hfz6_0);(try clear hfz6_1);(try clear hfz6_2)
   obtain ⟨kq, x44_11, rfl, HA, HJ11, HO_834001, HO_834002, HO_842001, HO_842002, HO_851001, HO_851002, BK816, BK833, BK841, BK850, HB⟩ := hcut
   cases kq with
   | zero => exact absurd HA.out (by simp [laws_FnExactRadauJacobi.j0])
   | succ kj11 =>
    have H := HA.out
    clear HA
    simp only [laws_FnExactRadauJacobi.j0] at H
    by_cases c60 : x44_11 = true
    ·subst c60
     have H1 : (some false) = some r := by rw [if_pos rfl] at H; exact H
     clear H
     have H := H1
     clear H1
     rw [HRT.out] at H
     exact absurd H (by simp)
    ·replace c60 := Bool.eq_false_iff.mpr c60
     subst c60
     have H1 : ((laws_toJacobi.f kj11 a0_0 l0_1 l0_2).bind fun bt852 => ((laws_eqJacobi.f kj11 t834 t835 t838 bt852.1 bt852.2.1 bt852.2.2).bind fun t859 => (if t859 = true then ((laws_markJacobi.f kj11 t834 t835 t838 1).bind fun bt860 => (if bt860.1 < 0 then (laws_FnExactRadauJacobi.j1 kj11 a1 t832 true a0_0 l0_1 l0_2 t825 t826 t829 t842 t843 t846) else ((laws_eqJacobi.f kj11 t842 t843 t846 t825 t826 t829).bind fun t863 => (if t863 = true then (laws_FnExactRadauJacobi.j1 kj11 a1 t832 (t849 != t832) a0_0 l0_1 l0_2 t825 t826 t829 t842 t843 t846) else (laws_FnExactRadauJacobi.j1 kj11 a1 t832 true a0_0 l0_1 l0_2 t825 t826 t829 t842 t843 t846))))) else (some false)))) = some r := by rw [if_neg (show ¬ (false = true) by decide)] at H; exact H
     clear H
     have H := H1
     clear H1
     replace H := Option.bind_eq_some_iff.mp H
     obtain ⟨⟨t852, t853, t856⟩, A610, H⟩ := H
     replace H : ((laws_eqJacobi.f kj11 t834 t835 t838 t852 t853 t856).bind fun t859 => (if t859 = true then ((laws_markJacobi.f kj11 t834 t835 t838 1).bind fun bt860 => (if bt860.1 < 0 then (laws_FnExactRadauJacobi.j1 kj11 a1 t832 true a0_0 l0_1 l0_2 t825 t826 t829 t842 t843 t846) else ((laws_eqJacobi.f kj11 t842 t843 t846 t825 t826 t829).bind fun t863 => (if t863 = true then (laws_FnExactRadauJacobi.j1 kj11 a1 t832 (t849 != t832) a0_0 l0_1 l0_2 t825 t826 t829 t842 t843 t846) else (laws_FnExactRadauJacobi.j1 kj11 a1 t832 true a0_0 l0_1 l0_2 t825 t826 t829 t842 t843 t846))))) else (some false))) = some r := H
     have A61 := zA A610
     clear A610
     replace H := Option.bind_eq_some_iff.mp H
     obtain ⟨t859, A620, H⟩ := H
     replace H : (if t859 = true then ((laws_markJacobi.f kj11 t834 t835 t838 1).bind fun bt860 => (if bt860.1 < 0 then (laws_FnExactRadauJacobi.j1 kj11 a1 t832 true a0_0 l0_1 l0_2 t825 t826 t829 t842 t843 t846) else ((laws_eqJacobi.f kj11 t842 t843 t846 t825 t826 t829).bind fun t863 => (if t863 = true then (laws_FnExactRadauJacobi.j1 kj11 a1 t832 (t849 != t832) a0_0 l0_1 l0_2 t825 t826 t829 t842 t843 t846) else (laws_FnExactRadauJacobi.j1 kj11 a1 t832 true a0_0 l0_1 l0_2 t825 t826 t829 t842 t843 t846))))) else (some false)) = some r := H
     have A62 := zA A620
     clear A620
     by_cases c63 : t859 = true
     ·subst c63
      have H1 : ((laws_markJacobi.f kj11 t834 t835 t838 1).bind fun bt860 => (if bt860.1 < 0 then (laws_FnExactRadauJacobi.j1 kj11 a1 t832 true a0_0 l0_1 l0_2 t825 t826 t829 t842 t843 t846) else ((laws_eqJacobi.f kj11 t842 t843 t846 t825 t826 t829).bind fun t863 => (if t863 = true then (laws_FnExactRadauJacobi.j1 kj11 a1 t832 (t849 != t832) a0_0 l0_1 l0_2 t825 t826 t829 t842 t843 t846) else (laws_FnExactRadauJacobi.j1 kj11 a1 t832 true a0_0 l0_1 l0_2 t825 t826 t829 t842 t843 t846))))) = some r := by rw [if_pos rfl] at H; exact H
      clear H
      have H := H1
      clear H1
      replace H := Option.bind_eq_some_iff.mp H
      obtain ⟨⟨t860, t861, t862⟩, A640, H⟩ := H
      replace H : (if t860 < 0 then (laws_FnExactRadauJacobi.j1 kj11 a1 t832 true a0_0 l0_1 l0_2 t825 t826 t829 t842 t843 t846) else ((laws_eqJacobi.f kj11 t842 t843 t846 t825 t826 t829).bind fun t863 => (if t863 = true then (laws_FnExactRadauJacobi.j1 kj11 a1 t832 (t849 != t832) a0_0 l0_1 l0_2 t825 t826 t829 t842 t843 t846) else (laws_FnExactRadauJacobi.j1 kj11 a1 t832 true a0_0 l0_1 l0_2 t825 t826 t829 t842 t843 t846)))) = some r := H
      have A64 := zA A640
      clear A640
      have HC65 := zA H
      clear H
      try go_wp2
      replace HO_834001 := zA (Kd.R_drew HO_834001.out)
      replace HO_834002 := zA (Kd.R_drew HO_834002.out)
      replace HO_842001 := zA (Kd.R_drew HO_842001.out)
      replace HO_842002 := zA (Kd.R_drew HO_842002.out)
      replace HO_851001 := zA (Kd.R_drew HO_851001.out)
      replace HO_851002 := zA (Kd.R_drew HO_851002.out)
      replace BK816 := zA (blk_drew BK816.out)
      replace BK833 := zA (blk_drew BK833.out)
      replace BK841 := zA (blk_drew BK841.out)
      replace BK850 := zA (blk_drew BK850.out)
      replace HB := zA (below_drew1 HB.out)
      refine start_ (n := 5) (S := fun w' => w'.cell? ⟨gb841, 0, none⟩ = some (.int .i64 t834) ∧ w'.cell? ⟨gb841, 1, none⟩ = some (.slice Ao32 t835.length co32) ∧ w'.cell? ⟨gb841, 2, none⟩ = some (.slice Ao33 t838.length co33) ∧ w'.cell? ⟨gb816, 0, none⟩ = some (.int .i64 a0_0) ∧ w'.cell? ⟨gb816, 1, none⟩ = some (.slice A0_1 l0_1.length c0_1) ∧ w'.cell? ⟨gb816, 2, none⟩ = some (.slice A0_2 l0_2.length c0_2)) (ds := []) #[false, false, false, false, false] (by kernel_rfl) rfl rfl ⟨bcu BK841 0, bcu BK841 1, bcu BK841 2, bcu BK816 0, bcu BK816 1, bcu BK816 2⟩ (fun hHeld => ?_)
      generalize wc.drew = w66 at HO_834001 HO_834002 HO_842001 HO_842002 HO_851001 HO_851002 BK816 BK833 BK841 BK850 HB hHeld ⊢
      refine take_ (i := 0) (N := some 45) (v := ?_) (a' := ?_) (bl 5 1) rfl rfl (by kernel_rfl) (fun _ _ _ h => h) (Or.inl ⟨by rfl, ?_⟩) hHeld ?_ ?_
      rotate_left
      ·rintro w' ⟨s0, s1, s2, s3, s4, s5⟩
       go_simp
       with_reducible rfl
      rotate_left
      ·simp only [Act.put, ls, lz, ln, i64_w, i32_w]
       rfl
      refine take_ (i := 1) (N := some 46) (v := ?_) (a' := ?_) (bl 5 3) rfl rfl (by kernel_rfl) (fun _ _ _ h => h) (Or.inl ⟨by rfl, ?_⟩) hHeld ?_ ?_
      rotate_left
      ·rintro w' ⟨s0, s1, s2, s3, s4, s5⟩
       go_simp
       with_reducible rfl
      rotate_left
      ·simp only [Act.put, ls, lz, ln, i64_w, i32_w]
       rfl
      refine one_ (i := 2) (N := some 47) (bl 5 7) rfl rfl (by kernel_rfl) (by decide) (fun K hK => ?_)
      refine gS Try.func29 #[.agg #[.int .i64 a0_0, .slice A0_1 l0_1.length c0_1, .slice A0_2 l0_2.length c0_2]] ?_
      with_reducible refine (laws_toJacobi.calls kj11 a0_0 _ _ l0_1 _ _ l0_2 t852 t853 t856 _ ?side1 ?side2 ?side3 ?side4 A61.out).mono ?_
      (case side1 => exact uC ((Kd.C_below HR0_1.out HB.out)))
      (case side2 => exact HC0_1.out)
      (case side3 => exact uC ((Kd.C_below HR0_2.out HB.out)))
      (case side4 => exact HC0_2.out)
      rintro e w67 ⟨v854, v857, rfl, ho0, ho1, hb⟩
      refine ⟨_, rfl, ?_⟩
      have HO855 := zA (Kd.R_lower (Kd.R_new' (Kd.R_new' (Kd.R_new' (Kd.R_new' (Kd.R_new' (Kd.R_new' ho0 (Kd.R_lt (uR HO_834001.out))) (Kd.R_lt (uR HO_834002.out))) (Kd.R_lt (uR HO_842001.out))) (Kd.R_lt (uR HO_842002.out))) (Kd.R_lt (uR HO_851001.out))) (Kd.R_lt (uR HO_851002.out))) (below_size (uH HB.out)))
      have HO858 := zA (Kd.R_lower (Kd.R_new' (Kd.R_new' (Kd.R_new' (Kd.R_new' (Kd.R_new' (Kd.R_new' ho1 (Kd.R_lt (uR HO_834001.out))) (Kd.R_lt (uR HO_834002.out))) (Kd.R_lt (uR HO_842001.out))) (Kd.R_lt (uR HO_842002.out))) (Kd.R_lt (uR HO_851001.out))) (Kd.R_lt (uR HO_851002.out))) (below_size (uH HB.out)))
      replace HO_834001 := zA (Kd.R_mono (Kd.R_told (Kd.R_told (Kd.R_old (uR HO_834001.out) hb) (Kd.R_base ho0)) (Kd.R_base ho1)) (fun _ h_ => h_.1))
      replace HO_834002 := zA (Kd.R_mono (Kd.R_told (Kd.R_told (Kd.R_old (uR HO_834002.out) hb) (Kd.R_base ho0)) (Kd.R_base ho1)) (fun _ h_ => h_.1))
      replace HO_842001 := zA (Kd.R_mono (Kd.R_told (Kd.R_told (Kd.R_old (uR HO_842001.out) hb) (Kd.R_base ho0)) (Kd.R_base ho1)) (fun _ h_ => h_.1))
      replace HO_842002 := zA (Kd.R_mono (Kd.R_told (Kd.R_told (Kd.R_old (uR HO_842002.out) hb) (Kd.R_base ho0)) (Kd.R_base ho1)) (fun _ h_ => h_.1))
      replace HO_851001 := zA (Kd.R_mono (Kd.R_told (Kd.R_told (Kd.R_old (uR HO_851001.out) hb) (Kd.R_base ho0)) (Kd.R_base ho1)) (fun _ h_ => h_.1))
      replace HO_851002 := zA (Kd.R_mono (Kd.R_told (Kd.R_told (Kd.R_old (uR HO_851002.out) hb) (Kd.R_base ho0)) (Kd.R_base ho1)) (fun _ h_ => h_.1))
      replace BK816 := xB BK816 hb
      replace BK833 := xB BK833 hb
      replace BK841 := xB BK841 hb
      replace BK850 := xB BK850 hb
      replace HB := xH HB hb
      (try clear hb); (try clear hb2); (try clear hk); (try clear hi); (try clear ho0); (try clear ho1)
      obtain ⟨Ao68, co68, eo68⟩ := Kd.R_slice HO855.out
      (first | subst eo68 | (injection eo68 with f1_ f2_ f3_; have f4_ := f1_.symm; have f5_ := f3_.symm; clear f1_ f2_ f3_; subst f4_; subst f5_))
      obtain ⟨Ao69, co69, eo69⟩ := Kd.R_slice HO858.out
      (first | subst eo69 | (injection eo69 with f1_ f2_ f3_; have f4_ := f1_.symm; have f5_ := f3_.symm; clear f1_ f2_ f3_; subst f4_; subst f5_))
      refine hK.out _ _ ⟨bcu BK841 0, bcu BK841 1, bcu BK841 2, bcu BK816 0, bcu BK816 1, bcu BK816 2⟩ (fun hHeld => ?_)
      clear hK K
      refine no_ 47 ?_
      refine one_ (i := 3) (N := some 48) (bl 5 15) rfl rfl (by kernel_rfl) (by decide) (fun K hK => ?_)
      refine gS Try.func31 #[.agg #[.int .i64 t834, .slice Ao32 t835.length co32, .slice Ao33 t838.length co33], .agg #[.int .i64 t852, .slice Ao68 t853.length co68, .slice Ao69 t856.length co69]] ?_
      with_reducible refine (laws_eqJacobi.calls kj11 t834 _ _ t835 _ _ t838 t852 _ _ t853 _ _ t856 true _ ?side1 ?side2 ?side3 ?side4 ?side5 ?side6 ?side7 ?side8 A62.out).mono ?_
      (case side1 => exact uC ((Kd.R_reads' HO_842001.out).2.2))
      (case side2 => exact (Kd.R_reads' HO_842001.out).2.1)
      (case side3 => exact uC ((Kd.R_reads' HO_842002.out).2.2))
      (case side4 => exact (Kd.R_reads' HO_842002.out).2.1)
      (case side5 => exact uC ((Kd.R_reads' HO855.out).2.2))
      (case side6 => exact (Kd.R_reads' HO855.out).2.1)
      (case side7 => exact uC ((Kd.R_reads' HO858.out).2.2))
      (case side8 => exact (Kd.R_reads' HO858.out).2.1)
      rintro e w70 ⟨rfl, hb⟩
      refine ⟨_, rfl, ?_⟩
      replace HO_834001 := xR HO_834001 hb
      replace HO_834002 := xR HO_834002 hb
      replace HO_842001 := xR HO_842001 hb
      replace HO_842002 := xR HO_842002 hb
      replace HO_851001 := xR HO_851001 hb
      replace HO_851002 := xR HO_851002 hb
      replace HO855 := xR HO855 hb
      replace HO858 := xR HO858 hb
      replace BK816 := xB BK816 hb
      replace BK833 := xB BK833 hb
      replace BK841 := xB BK841 hb
      replace BK850 := xB BK850 hb
      replace HB := xH HB hb
      (try clear hb); (try clear hb2); (try clear hk); (try clear hi)
      refine hK.out _ _ ⟨bcu BK841 0, bcu BK841 1, bcu BK841 2, bcu BK816 0, bcu BK816 1, bcu BK816 2⟩ (fun hHeld => ?_)
      clear hK K
      refine no_ 48 ?_
      refine pure_ (i := 4) (N := some 49) (v := ?_) (a' := ?_) (bl 5 31) rfl rfl (by kernel_rfl) (fun _ _ _ h => h) (Or.inl ⟨by rfl, ?_⟩) ?_ ?_
      rotate_left
      ·intro w'
       go_simp
       with_reducible rfl
      rotate_left
      ·simp only [Act.put, ls, lz, ln, i64_w, i32_w]
       rfl
      refine done_ (by kernel_rfl) ?_
      have hnb71 := NB841_816.out; have hnc71 := NB816_841.out; have hnb72 := NB841_833.out; have hnc72 := NB833_841.out; have hnb73 := NB841_850.out; have hnc73 := NB850_841.out
      have hcz74_0 := bc BK841 0
      have hcz74_1 := bc BK841 1
      have hcz74_2 := bc BK841 2
      have hfz74_0 := bf BK841 0
      have hfz74_1 := bf BK841 1
      have hfz74_2 := bf BK841 2
      go_upto_region 14 with (first | ((with_reducible refine gate_callee (f := 36) rfl ?_); refine gL (some 52) Try.func36 #[.agg #[.int .i64 t834, .slice Ao32 t835.length co32, .slice Ao33 t838.length co33], .int .i64 1] ?_; (with_reducible refine (laws_markJacobi.calls kj11 t834 (fun k_ => some k_ = (.slice Ao32 t835.length co32 : Value).ownBlock) (.slice Ao32 t835.length co32) t835 (fun k_ => some k_ = (.slice Ao33 t838.length co33 : Value).ownBlock) (.slice Ao33 t838.length co33) t838 1 t860 t861 t862 w _ ?side1 ?side2 ?side3 ?side4 ?side5 A64.out).mono ?_); (case side1 => repeat (first | (with_reducible first | exact HB.out | apply below_alloc | apply pw_below_drewN | apply below_drew1 | refine below_set ?_ GE816.out | refine below_set ?_ GE833.out | refine below_set ?_ GE841.out | refine below_set ?_ GE850.out) | exact HB.out)); (case side2 => exact Kd.R_tight rfl HO_842001.out); (case side3 => exact fun k_ e_ => (HO_842001.out.1 k_ e_.symm).1.1.2.2.1); (case side4 => exact Kd.R_tight rfl HO_842002.out); (case side5 => exact fun k_ e_ => (HO_842002.out.1 k_ e_.symm).1.1.2.2.1); rintro e w75 ⟨rfl, hy0, hy1, hb, hkp⟩; refine ⟨_, rfl, ?_⟩; replace HO_834001 := zA (Kd.R_mono (ok' := fun k_ => ax k_ (.slice Ao25 t829.length co25) ∧ ax k_ (.slice Ao32 t835.length co32) ∧ ax k_ (.slice Ao33 t838.length co33) ∧ ax k_ (.slice Ao40 t843.length co40) ∧ ax k_ (.slice Ao41 t846.length co41) ∧ ax k_ (.slice Ao68 t853.length co68) ∧ ax k_ (.slice Ao69 t856.length co69)) (Kd.R_keptB (HO_834001.out) hkp (fun k_ hk_ hs_ => Or.elim hs_ (fun e_ => (hk_.1.1.2.1) e_) (fun e_ => (hk_.1.1.2.2.1) e_))) (fun k_ hk_ => ⟨hk_.1.1.1.1, hk_.1.1.1.2.1, hk_.1.1.1.2.2.1, hk_.1.1.1.2.2.2.1, hk_.1.1.1.2.2.2.2, hk_.1.1.2, hk_.1.2⟩)); replace HO_834002 := zA (Kd.R_mono (ok' := fun k_ => ax k_ (.slice Ao24 t826.length co24) ∧ ax k_ (.slice Ao32 t835.length co32) ∧ ax k_ (.slice Ao33 t838.length co33) ∧ ax k_ (.slice Ao40 t843.length co40) ∧ ax k_ (.slice Ao41 t846.length co41) ∧ ax k_ (.slice Ao68 t853.length co68) ∧ ax k_ (.slice Ao69 t856.length co69)) (Kd.R_keptB (HO_834002.out) hkp (fun k_ hk_ hs_ => Or.elim hs_ (fun e_ => (hk_.1.1.2.1) e_) (fun e_ => (hk_.1.1.2.2.1) e_))) (fun k_ hk_ => ⟨hk_.1.1.1.1, hk_.1.1.1.2.1, hk_.1.1.1.2.2.1, hk_.1.1.1.2.2.2.1, hk_.1.1.1.2.2.2.2, hk_.1.1.2, hk_.1.2⟩)); replace HO_851001 := zA (Kd.R_mono (ok' := fun k_ => ax k_ (.slice Ao24 t826.length co24) ∧ ax k_ (.slice Ao25 t829.length co25) ∧ ax k_ (.slice Ao32 t835.length co32) ∧ ax k_ (.slice Ao33 t838.length co33) ∧ ax k_ (.slice Ao41 t846.length co41) ∧ ax k_ (.slice Ao68 t853.length co68) ∧ ax k_ (.slice Ao69 t856.length co69)) (Kd.R_keptB (HO_851001.out) hkp (fun k_ hk_ hs_ => Or.elim hs_ (fun e_ => (hk_.1.1.2.2.1) e_) (fun e_ => (hk_.1.1.2.2.2.1) e_))) (fun k_ hk_ => ⟨hk_.1.1.1.1, hk_.1.1.1.2.1, hk_.1.1.1.2.2.1, hk_.1.1.1.2.2.2.1, hk_.1.1.1.2.2.2.2, hk_.1.1.2, hk_.1.2⟩)); replace HO_851002 := zA (Kd.R_mono (ok' := fun k_ => ax k_ (.slice Ao24 t826.length co24) ∧ ax k_ (.slice Ao25 t829.length co25) ∧ ax k_ (.slice Ao32 t835.length co32) ∧ ax k_ (.slice Ao33 t838.length co33) ∧ ax k_ (.slice Ao40 t843.length co40) ∧ ax k_ (.slice Ao68 t853.length co68) ∧ ax k_ (.slice Ao69 t856.length co69)) (Kd.R_keptB (HO_851002.out) hkp (fun k_ hk_ hs_ => Or.elim hs_ (fun e_ => (hk_.1.1.2.2.1) e_) (fun e_ => (hk_.1.1.2.2.2.1) e_))) (fun k_ hk_ => ⟨hk_.1.1.1.1, hk_.1.1.1.2.1, hk_.1.1.1.2.2.1, hk_.1.1.1.2.2.2.1, hk_.1.1.1.2.2.2.2, hk_.1.1.2, hk_.1.2⟩)); replace BK816 := zA (blk_kept (uB BK816.out) hkp (fun hs_ => Or.elim hs_ (fun e_ => (fun e_ => (Kd.R_ne HO_842001.out BK816.out (by decide)) e_) e_) (fun e_ => (fun e_ => (Kd.R_ne HO_842002.out BK816.out (by decide)) e_) e_))); replace BK833 := zA (blk_kept (uB BK833.out) hkp (fun hs_ => Or.elim hs_ (fun e_ => (fun e_ => (Kd.R_ne HO_842001.out BK833.out (by decide)) e_) e_) (fun e_ => (fun e_ => (Kd.R_ne HO_842002.out BK833.out (by decide)) e_) e_))); replace BK841 := zA (blk_kept (uB BK841.out) hkp (fun hs_ => Or.elim hs_ (fun e_ => (fun e_ => (Kd.R_ne HO_842001.out BK841.out (by decide)) e_) e_) (fun e_ => (fun e_ => (Kd.R_ne HO_842002.out BK841.out (by decide)) e_) e_))); replace BK850 := zA (blk_kept (uB BK850.out) hkp (fun hs_ => Or.elim hs_ (fun e_ => (fun e_ => (Kd.R_ne HO_842001.out BK850.out (by decide)) e_) e_) (fun e_ => (fun e_ => (Kd.R_ne HO_842002.out BK850.out (by decide)) e_) e_))); replace HO_842001 := zA (Kd.R_reok rfl hy0 (fun k_ e_ => HO_842001.out.1 k_ e_)); replace HO_842002 := zA (Kd.R_reok rfl hy1 (fun k_ e_ => HO_842002.out.1 k_ e_)); replace HO855 := zA (Kd.R_mono (ok' := fun k_ => ax k_ (.slice Ao24 t826.length co24) ∧ ax k_ (.slice Ao25 t829.length co25) ∧ ax k_ (.slice Ao32 t835.length co32) ∧ ax k_ (.slice Ao33 t838.length co33) ∧ ax k_ (.slice Ao40 t843.length co40) ∧ ax k_ (.slice Ao41 t846.length co41) ∧ ax k_ (.slice Ao69 t856.length co69)) (Kd.R_keptB (HO855.out) hkp (fun k_ hk_ hs_ => Or.elim hs_ (fun e_ => (hk_.1.1.1.2) e_) (fun e_ => (hk_.1.1.2) e_))) (fun k_ hk_ => ⟨hk_.1.1.1.1.1.1.2, hk_.1.1.1.1.1.2, hk_.1.1.1.1.2, hk_.1.1.1.2, hk_.1.1.2, hk_.1.2, hk_.1.1.1.1.1.1.1⟩)); replace HO858 := zA (Kd.R_mono (ok' := fun k_ => ax k_ (.slice Ao24 t826.length co24) ∧ ax k_ (.slice Ao25 t829.length co25) ∧ ax k_ (.slice Ao32 t835.length co32) ∧ ax k_ (.slice Ao33 t838.length co33) ∧ ax k_ (.slice Ao40 t843.length co40) ∧ ax k_ (.slice Ao41 t846.length co41) ∧ ax k_ (.slice Ao68 t853.length co68)) (Kd.R_keptB (HO858.out) hkp (fun k_ hk_ hs_ => Or.elim hs_ (fun e_ => (hk_.1.1.1.2) e_) (fun e_ => (hk_.1.1.2) e_))) (fun k_ hk_ => ⟨hk_.1.1.1.1.1.1.2, hk_.1.1.1.1.1.2, hk_.1.1.1.1.2, hk_.1.1.1.2, hk_.1.1.2, hk_.1.2, hk_.1.1.1.1.1.1.1⟩)); replace HB := zA (hb); (try clear hb); (try clear hkp); (try clear hy0); (try clear hy1)))
      (try simp only [Act.put, ls, lz, ln])
      go_cut [65] (fun v65 wc => ∃ (kq : Nat) (x65_64 : Bool), v65 = .bool x65_64 ∧ Aside0 (laws_FnExactRadauJacobi.j1 kq a1 t832 x65_64 a0_0 l0_1 l0_2 t825 t826 t829 t842 t843 t846 = some r) ∧ Aside0 (kq ≤ kj11) ∧ Aside0 (Kd.R (Kd.int .i64) 2 wc w.heap.size (fun k_ => ax k_ (.slice Ao25 t829.length co25) ∧ ax k_ (.slice Ao32 t835.length co32) ∧ ax k_ (.slice Ao33 t838.length co33) ∧ ax k_ (.slice Ao40 t843.length co40) ∧ ax k_ (.slice Ao41 t846.length co41)) (.slice Ao24 t826.length co24) t826) ∧ Aside0 (Kd.R (Kd.int .i64) 2 wc w.heap.size (fun k_ => ax k_ (.slice Ao24 t826.length co24) ∧ ax k_ (.slice Ao32 t835.length co32) ∧ ax k_ (.slice Ao33 t838.length co33) ∧ ax k_ (.slice Ao40 t843.length co40) ∧ ax k_ (.slice Ao41 t846.length co41)) (.slice Ao25 t829.length co25) t829) ∧ Aside0 (Kd.R (Kd.int .i64) 2 wc w.heap.size (fun k_ => ax k_ (.slice Ao24 t826.length co24) ∧ ax k_ (.slice Ao25 t829.length co25) ∧ ax k_ (.slice Ao33 t838.length co33) ∧ ax k_ (.slice Ao40 t843.length co40) ∧ ax k_ (.slice Ao41 t846.length co41)) (.slice Ao32 t835.length co32) t861) ∧ Aside0 (Kd.R (Kd.int .i64) 2 wc w.heap.size (fun k_ => ax k_ (.slice Ao24 t826.length co24) ∧ ax k_ (.slice Ao25 t829.length co25) ∧ ax k_ (.slice Ao32 t835.length co32) ∧ ax k_ (.slice Ao40 t843.length co40) ∧ ax k_ (.slice Ao41 t846.length co41)) (.slice Ao33 t838.length co33) t862) ∧ Aside0 (Kd.R (Kd.int .i64) 2 wc w.heap.size (fun k_ => ax k_ (.slice Ao24 t826.length co24) ∧ ax k_ (.slice Ao25 t829.length co25) ∧ ax k_ (.slice Ao32 t835.length co32) ∧ ax k_ (.slice Ao33 t838.length co33) ∧ ax k_ (.slice Ao41 t846.length co41)) (.slice Ao40 t843.length co40) t843) ∧ Aside0 (Kd.R (Kd.int .i64) 2 wc w.heap.size (fun k_ => ax k_ (.slice Ao24 t826.length co24) ∧ ax k_ (.slice Ao25 t829.length co25) ∧ ax k_ (.slice Ao32 t835.length co32) ∧ ax k_ (.slice Ao33 t838.length co33) ∧ ax k_ (.slice Ao40 t843.length co40)) (.slice Ao41 t846.length co41) t846) ∧ Aside0 (wc.heap[gb816]? = some (.cells #[.int .i64 a0_0, (.slice A0_1 l0_1.length c0_1), (.slice A0_2 l0_2.length c0_2)] 43 (0, 0))) ∧ Aside0 (wc.heap[gb833]? = some (.cells #[.int .i64 t825, (.slice Ao24 t826.length co24), (.slice Ao25 t829.length co25)] 46 (0, 0))) ∧ Aside0 (wc.heap[gb841]? = some (.cells #[.int .i64 t834, (.slice Ao32 t835.length co32), (.slice Ao33 t838.length co33)] 46 (0, 0))) ∧ Aside0 (wc.heap[gb850]? = some (.cells #[.int .i64 t842, (.slice Ao40 t843.length co40), (.slice Ao41 t846.length co41)] 46 (0, 0))) ∧ Aside0 (Below w.heap.size w wc))
      case first =>
       have H := HC65.out
       clear HC65
       by_cases c76 : t860 < 0
       rotate_left
       ·rw [if_neg c76] at H
        have c76b0 : decide (t860 < 0) = false := decide_eq_false c76
        clear c76
        (first | rw [c76b0] | (simp only [i64_w, i32_w]; rw [c76b0]) | skip)
        replace H := Option.bind_eq_some_iff.mp H
        obtain ⟨t863, A770, H⟩ := H
        replace H : (if t863 = true then (laws_FnExactRadauJacobi.j1 kj11 a1 t832 (t849 != t832) a0_0 l0_1 l0_2 t825 t826 t829 t842 t843 t846) else (laws_FnExactRadauJacobi.j1 kj11 a1 t832 true a0_0 l0_1 l0_2 t825 t826 t829 t842 t843 t846)) = some r := H
        have A77 := zA A770
        clear A770
        by_cases c78 : t863 = true
        ·subst c78
         have H1 : (laws_FnExactRadauJacobi.j1 kj11 a1 t832 (t849 != t832) a0_0 l0_1 l0_2 t825 t826 t829 t842 t843 t846) = some r := by rw [if_pos rfl] at H; exact H
         clear H
         have H := H1
         clear H1
         have H' := zA H
         clear H
         have hnb79 := NB850_816.out; have hnc79 := NB816_850.out; have hnb80 := NB850_833.out; have hnc80 := NB833_850.out; have hnb81 := NB850_841.out; have hnc81 := NB841_850.out
         have hcz82_0 := bc BK850 0
         have hcz82_1 := bc BK850 1
         have hcz82_2 := bc BK850 2
         have hfz82_0 := bf BK850 0
         have hfz82_1 := bf BK850 1
         have hfz82_2 := bf BK850 2
         have hnb83 := NB833_816.out; have hnc83 := NB816_833.out; have hnb84 := NB833_841.out; have hnc84 := NB841_833.out
         have hcz85_0 := bc BK833 0
         have hcz85_1 := bc BK833 1
         have hcz85_2 := bc BK833 2
         have hfz85_0 := bf BK833 0
         have hfz85_1 := bf BK833 1
         have hfz85_2 := bf BK833 2
         go_wp2_with (first | (go_at_call 31; (with_reducible refine (laws_eqJacobi.calls kj11 t842 _ _ t843 _ _ t846 t825 _ _ t826 _ _ t829 true _ ?side1 ?side2 ?side3 ?side4 ?side5 ?side6 ?side7 ?side8 A77.out).mono ?_); (case side1 => exact uC ((Kd.R_reads' HO_851001.out).2.2)); (case side2 => exact (Kd.R_reads' HO_851001.out).2.1); (case side3 => exact uC ((Kd.R_reads' HO_851002.out).2.2)); (case side4 => exact (Kd.R_reads' HO_851002.out).2.1); (case side5 => exact uC ((Kd.R_reads' HO_834001.out).2.2)); (case side6 => exact (Kd.R_reads' HO_834001.out).2.1); (case side7 => exact uC ((Kd.R_reads' HO_834002.out).2.2)); (case side8 => exact (Kd.R_reads' HO_834002.out).2.1); rintro e w86 ⟨rfl, hb⟩; replace HO_834001 := xR HO_834001 hb; replace HO_834002 := xR HO_834002 hb; replace HO_842001 := xR HO_842001 hb; replace HO_842002 := xR HO_842002 hb; replace HO_851001 := xR HO_851001 hb; replace HO_851002 := xR HO_851002 hb; replace HO855 := xR HO855 hb; replace HO858 := xR HO858 hb; replace BK816 := xB BK816 hb; replace BK833 := xB BK833 hb; replace BK841 := xB BK841 hb; replace BK850 := xB BK850 hb; replace HB := xH HB hb; (try clear hb); (try clear hb2); (try clear hk); (try clear hi)))
         go_meet
         case rel => exact ⟨_, ((t849 != t832)), (by first | rfl | (simp; done) | (simp [*]; done)), H', ⟨by have := HJ11.out; first | omega | exact Nat.le_refl _⟩, ⟨uR (Kd.R_mono HO_834001.out (fun _ hk => ⟨hk.1, ⟨hk.2.1, ⟨hk.2.2.1, ⟨hk.2.2.2.1, hk.2.2.2.2.1⟩⟩⟩⟩))⟩, ⟨uR (Kd.R_mono HO_834002.out (fun _ hk => ⟨hk.1, ⟨hk.2.1, ⟨hk.2.2.1, ⟨hk.2.2.2.1, hk.2.2.2.2.1⟩⟩⟩⟩))⟩, ⟨uR (Kd.R_mono HO_842001.out (fun _ hk => ⟨hk.1.1.1, ⟨hk.1.1.2.1, ⟨hk.1.1.2.2.1, ⟨hk.1.1.2.2.2.1, hk.1.1.2.2.2.2⟩⟩⟩⟩))⟩, ⟨uR (Kd.R_mono HO_842002.out (fun _ hk => ⟨hk.1.1.1, ⟨hk.1.1.2.1, ⟨hk.1.1.2.2.1, ⟨hk.1.1.2.2.2.1, hk.1.1.2.2.2.2⟩⟩⟩⟩))⟩, ⟨uR (Kd.R_mono HO_851001.out (fun _ hk => ⟨hk.1, ⟨hk.2.1, ⟨hk.2.2.1, ⟨hk.2.2.2.1, hk.2.2.2.2.1⟩⟩⟩⟩))⟩, ⟨uR (Kd.R_mono HO_851002.out (fun _ hk => ⟨hk.1, ⟨hk.2.1, ⟨hk.2.2.1, ⟨hk.2.2.2.1, hk.2.2.2.2.1⟩⟩⟩⟩))⟩, ⟨uB BK816.out⟩, ⟨uB BK833.out⟩, ⟨uB BK841.out⟩, ⟨uB BK850.out⟩, ⟨uH HB.out⟩⟩
        ·replace c78 := Bool.eq_false_iff.mpr c78
         subst c78
         have H1 : (laws_FnExactRadauJacobi.j1 kj11 a1 t832 true a0_0 l0_1 l0_2 t825 t826 t829 t842 t843 t846) = some r := by rw [if_neg (show ¬ (false = true) by decide)] at H; exact H
         clear H
         have H := H1
         clear H1
         have H' := zA H
         clear H
         have hnb87 := NB850_816.out; have hnc87 := NB816_850.out; have hnb88 := NB850_833.out; have hnc88 := NB833_850.out; have hnb89 := NB850_841.out; have hnc89 := NB841_850.out
         have hcz90_0 := bc BK850 0
         have hcz90_1 := bc BK850 1
         have hcz90_2 := bc BK850 2
         have hfz90_0 := bf BK850 0
         have hfz90_1 := bf BK850 1
         have hfz90_2 := bf BK850 2
         have hnb91 := NB833_816.out; have hnc91 := NB816_833.out; have hnb92 := NB833_841.out; have hnc92 := NB841_833.out
         have hcz93_0 := bc BK833 0
         have hcz93_1 := bc BK833 1
         have hcz93_2 := bc BK833 2
         have hfz93_0 := bf BK833 0
         have hfz93_1 := bf BK833 1
         have hfz93_2 := bf BK833 2
         go_wp2_with (first | (go_at_call 31; (with_reducible refine (laws_eqJacobi.calls kj11 t842 _ _ t843 _ _ t846 t825 _ _ t826 _ _ t829 false _ ?side1 ?side2 ?side3 ?side4 ?side5 ?side6 ?side7 ?side8 A77.out).mono ?_); (case side1 => exact uC ((Kd.R_reads' HO_851001.out).2.2)); (case side2 => exact (Kd.R_reads' HO_851001.out).2.1); (case side3 => exact uC ((Kd.R_reads' HO_851002.out).2.2)); (case side4 => exact (Kd.R_reads' HO_851002.out).2.1); (case side5 => exact uC ((Kd.R_reads' HO_834001.out).2.2)); (case side6 => exact (Kd.R_reads' HO_834001.out).2.1); (case side7 => exact uC ((Kd.R_reads' HO_834002.out).2.2)); (case side8 => exact (Kd.R_reads' HO_834002.out).2.1); rintro e w94 ⟨rfl, hb⟩; replace HO_834001 := xR HO_834001 hb; replace HO_834002 := xR HO_834002 hb; replace HO_842001 := xR HO_842001 hb; replace HO_842002 := xR HO_842002 hb; replace HO_851001 := xR HO_851001 hb; replace HO_851002 := xR HO_851002 hb; replace HO855 := xR HO855 hb; replace HO858 := xR HO858 hb; replace BK816 := xB BK816 hb; replace BK833 := xB BK833 hb; replace BK841 := xB BK841 hb; replace BK850 := xB BK850 hb; replace HB := xH HB hb; (try clear hb); (try clear hb2); (try clear hk); (try clear hi)))
         go_meet
         case rel => exact ⟨_, (true), (by first | rfl | (simp; done) | (simp [*]; done)), H', ⟨by have := HJ11.out; first | omega | exact Nat.le_refl _⟩, ⟨uR (Kd.R_mono HO_834001.out (fun _ hk => ⟨hk.1, ⟨hk.2.1, ⟨hk.2.2.1, ⟨hk.2.2.2.1, hk.2.2.2.2.1⟩⟩⟩⟩))⟩, ⟨uR (Kd.R_mono HO_834002.out (fun _ hk => ⟨hk.1, ⟨hk.2.1, ⟨hk.2.2.1, ⟨hk.2.2.2.1, hk.2.2.2.2.1⟩⟩⟩⟩))⟩, ⟨uR (Kd.R_mono HO_842001.out (fun _ hk => ⟨hk.1.1.1, ⟨hk.1.1.2.1, ⟨hk.1.1.2.2.1, ⟨hk.1.1.2.2.2.1, hk.1.1.2.2.2.2⟩⟩⟩⟩))⟩, ⟨uR (Kd.R_mono HO_842002.out (fun _ hk => ⟨hk.1.1.1, ⟨hk.1.1.2.1, ⟨hk.1.1.2.2.1, ⟨hk.1.1.2.2.2.1, hk.1.1.2.2.2.2⟩⟩⟩⟩))⟩, ⟨uR (Kd.R_mono HO_851001.out (fun _ hk => ⟨hk.1, ⟨hk.2.1, ⟨hk.2.2.1, ⟨hk.2.2.2.1, hk.2.2.2.2.1⟩⟩⟩⟩))⟩, ⟨uR (Kd.R_mono HO_851002.out (fun _ hk => ⟨hk.1, ⟨hk.2.1, ⟨hk.2.2.1, ⟨hk.2.2.2.1, hk.2.2.2.2.1⟩⟩⟩⟩))⟩, ⟨uB BK816.out⟩, ⟨uB BK833.out⟩, ⟨uB BK841.out⟩, ⟨uB BK850.out⟩, ⟨uH HB.out⟩⟩
       rw [if_pos c76] at H
       have c76b0 : decide (t860 < 0) = true := decide_eq_true c76
       clear c76
       (first | rw [c76b0] | (simp only [i64_w, i32_w]; rw [c76b0]) | skip)
       have H' := zA H
       clear H
       go_wp2
       go_meet
       case rel => exact ⟨_, (true), (by first | rfl | (simp; done) | (simp [*]; done)), H', ⟨by have := HJ11.out; first | omega | exact Nat.le_refl _⟩, ⟨uR (Kd.R_mono HO_834001.out (fun _ hk => ⟨hk.1, ⟨hk.2.1, ⟨hk.2.2.1, ⟨hk.2.2.2.1, hk.2.2.2.2.1⟩⟩⟩⟩))⟩, ⟨uR (Kd.R_mono HO_834002.out (fun _ hk => ⟨hk.1, ⟨hk.2.1, ⟨hk.2.2.1, ⟨hk.2.2.2.1, hk.2.2.2.2.1⟩⟩⟩⟩))⟩, ⟨uR (Kd.R_mono HO_842001.out (fun _ hk => ⟨hk.1.1.1, ⟨hk.1.1.2.1, ⟨hk.1.1.2.2.1, ⟨hk.1.1.2.2.2.1, hk.1.1.2.2.2.2⟩⟩⟩⟩))⟩, ⟨uR (Kd.R_mono HO_842002.out (fun _ hk => ⟨hk.1.1.1, ⟨hk.1.1.2.1, ⟨hk.1.1.2.2.1, ⟨hk.1.1.2.2.2.1, hk.1.1.2.2.2.2⟩⟩⟩⟩))⟩, ⟨uR (Kd.R_mono HO_851001.out (fun _ hk => ⟨hk.1, ⟨hk.2.1, ⟨hk.2.2.1, ⟨hk.2.2.2.1, hk.2.2.2.2.1⟩⟩⟩⟩))⟩, ⟨uR (Kd.R_mono HO_851002.out (fun _ hk => ⟨hk.1, ⟨hk.2.1, ⟨hk.2.2.1, ⟨hk.2.2.2.1, hk.2.2.2.2.1⟩⟩⟩⟩))⟩, ⟨uB BK816.out⟩, ⟨uB BK833.out⟩, ⟨uB BK841.out⟩, ⟨uB BK850.out⟩, ⟨uH HB.out⟩⟩
      case rest =>
       clear HC65
       (try clear c2);(try clear p2);(try clear c3);(try clear c4);(try clear c4b0);(try clear c5);(try clear c6);(try clear c7);(try clear c8);(try clear c9);(try clear c22);(try clear c27);(try clear c29);(try clear c30);(try clear c31);(try clear c34);(try clear c35);(try clear c36);(try clear c37);(try clear c38);(try clear c43);(try clear c44);(try clear c45);(try clear c46);(try clear c48);(try clear c49)
       (try clear c52);(try clear c53);(try clear c54);(try clear c56);(try clear c57);(try clear c60);(try clear c63);(try clear c71);(try clear c72);(try clear c73);(try clear c76);(try clear c76b0);(try clear c78);(try clear c79);(try clear c80);(try clear c81);(try clear c83);(try clear c84);(try clear c87);(try clear c88);(try clear c89);(try clear c91);(try clear c92);(try clear hcz14_0);(try clear hcz14_1)
       (try clear hcz14_2);(try clear hcz16_0);(try clear hcz16_1);(try clear hcz16_2);(try clear hcz23_0);(try clear hcz23_1);(try clear hcz23_2);(try clear hcz26_0);(try clear hcz26_1);(try clear hcz26_2);(try clear hcz31_0);(try clear hcz31_1);(try clear hcz31_2);(try clear hcz39_0);(try clear hcz39_1);(try clear hcz39_2);(try clear hcz47_0);(try clear hcz47_1);(try clear hcz47_2);(try clear hcz50_0)
       (try clear hcz50_1);(try clear hcz50_2);(try clear hcz55_0);(try clear hcz55_1);(try clear hcz55_2);(try clear hcz58_0);(try clear hcz58_1);(try clear hcz58_2);(try clear hcz6_0);(try clear hcz6_1);(try clear hcz6_2);(try clear hcz74_0);(try clear hcz74_1);(try clear hcz74_2);(try clear hcz82_0);(try clear hcz82_1);(try clear hcz82_2);(try clear hcz85_0);(try clear hcz85_1);(try clear hcz85_2)
       (try clear hcz90_0);(try clear hcz90_1);(try clear hcz90_2);(try clear hcz93_0);(try clear hcz93_1);(try clear hcz93_2);(try clear hfz14_0);(try clear hfz14_1);(try clear hfz14_2);(try clear hfz16_0);(try clear hfz16_1);(try clear hfz16_2);(try clear hfz23_0);(try clear hfz23_1);(try clear hfz23_2);(try clear hfz26_0);(try clear hfz26_1);(try clear hfz26_2);(try clear hfz31_0);(try clear hfz31_1)
       (try clear hfz31_2);(try clear hfz39_0);(try clear hfz39_1);(try clear hfz39_2);(try clear hfz47_0);(try clear hfz47_1);(try clear hfz47_2);(try clear hfz50_0);(try clear hfz50_1);(try clear hfz50_2);(try clear hfz55_0);(try clear hfz55_1);(try clear hfz55_2);(try clear hfz58_0);(try clear hfz58_1);(try clear hfz58_2);(try clear hfz6_0);(try clear hfz6_1);(try clear hfz6_2);(try clear hfz74_0)
       (try clear hfz74_1);(try clear hfz74_2);(try clear hfz82_0);(try clear hfz82_1);(try clear hfz82_2);(try clear hfz85_0);(try clear hfz85_1);(try clear hfz85_2);(try clear hfz90_0);(try clear hfz90_1);(try clear hfz90_2);(try clear hfz93_0);(try clear hfz93_1);(try clear hfz93_2);(try clear p2)
       obtain ⟨kq, x65_64, rfl, HA, HJ64, HO_834001, HO_834002, HO_842001, HO_842002, HO_851001, HO_851002, BK816, BK833, BK841, BK850, HB⟩ := hcut
       have hl842001_64 := (Kd.R_reads' HO_842001.out).1
       rw [hl842001_64] at HO_842001
       (try simp only [hl842001_64])
       (try simp only [hl842001_64] at BK816)
       (try simp only [hl842001_64] at BK833)
       (try simp only [hl842001_64] at BK841)
       (try simp only [hl842001_64] at BK850)
       (try simp only [hl842001_64] at HO_834001)
       (try simp only [hl842001_64] at HO_834002)
       (try simp only [hl842001_64] at HO_842002)
       (try simp only [hl842001_64] at HO_851001)
       (try simp only [hl842001_64] at HO_851002)
       have hl842002_64 := (Kd.R_reads' HO_842002.out).1
       rw [hl842002_64] at HO_842002
       (try simp only [hl842002_64])
       (try simp only [hl842002_64] at BK816)
       (try simp only [hl842002_64] at BK833)
       (try simp only [hl842002_64] at BK841)
       (try simp only [hl842002_64] at BK850)
       (try simp only [hl842002_64] at HO_834001)
       (try simp only [hl842002_64] at HO_834002)
       (try simp only [hl842002_64] at HO_842001)
       (try simp only [hl842002_64] at HO_851001)
       (try simp only [hl842002_64] at HO_851002)
       cases kq with
       | zero => exact absurd HA.out (by simp [laws_FnExactRadauJacobi.j1])
       | succ kj64 =>
        have H := HA.out
        clear HA
        simp only [laws_FnExactRadauJacobi.j1] at H
        by_cases c95 : x65_64 = true
        ·subst c95
         have H1 : (some false) = some r := by rw [if_pos rfl] at H; exact H
         clear H
         have H := H1
         clear H1
         rw [HRT.out] at H
         exact absurd H (by simp)
        ·replace c95 := Bool.eq_false_iff.mpr c95
         subst c95
         have H1 : ((laws_markJacobi.f kj64 t842 t843 t846 1).bind fun bt864 => ((laws_heldJacobi.f kj64 t842 bt864.2.1 bt864.2.2 1).bind fun t867 => (if t867 < 0 then (some false) else (if t867 = bt864.1 then ((laws_toJacobi.f kj64 a0_0 l0_1 l0_2).bind fun bt868 => ((impl_RadauJacobi.f kj64 bt868.1 bt868.2.1 bt868.2.2 a1).bind fun bt875 => ((laws_eqJacobi.f kj64 bt875.1 bt875.2.1 bt875.2.2.1 t825 t826 t829).bind fun t884 => (if t884 = true then (laws_FnExactRadauJacobi.j2 kj64 bt864.1 (bt875.2.2.2 != t832) t842 bt864.2.1 bt864.2.2) else (laws_FnExactRadauJacobi.j2 kj64 bt864.1 true t842 bt864.2.1 bt864.2.2))))) else (some false))))) = some r := by rw [if_neg (show ¬ (false = true) by decide)] at H; exact H
         clear H
         have H := H1
         clear H1
         replace H := Option.bind_eq_some_iff.mp H
         obtain ⟨⟨t864, t865, t866⟩, A960, H⟩ := H
         replace H : ((laws_heldJacobi.f kj64 t842 t865 t866 1).bind fun t867 => (if t867 < 0 then (some false) else (if t867 = t864 then ((laws_toJacobi.f kj64 a0_0 l0_1 l0_2).bind fun bt868 => ((impl_RadauJacobi.f kj64 bt868.1 bt868.2.1 bt868.2.2 a1).bind fun bt875 => ((laws_eqJacobi.f kj64 bt875.1 bt875.2.1 bt875.2.2.1 t825 t826 t829).bind fun t884 => (if t884 = true then (laws_FnExactRadauJacobi.j2 kj64 t864 (bt875.2.2.2 != t832) t842 t865 t866) else (laws_FnExactRadauJacobi.j2 kj64 t864 true t842 t865 t866))))) else (some false)))) = some r := H
         have A96 := zA A960
         clear A960
         replace H := Option.bind_eq_some_iff.mp H
         obtain ⟨t867, A970, H⟩ := H
         replace H : (if t867 < 0 then (some false) else (if t867 = t864 then ((laws_toJacobi.f kj64 a0_0 l0_1 l0_2).bind fun bt868 => ((impl_RadauJacobi.f kj64 bt868.1 bt868.2.1 bt868.2.2 a1).bind fun bt875 => ((laws_eqJacobi.f kj64 bt875.1 bt875.2.1 bt875.2.2.1 t825 t826 t829).bind fun t884 => (if t884 = true then (laws_FnExactRadauJacobi.j2 kj64 t864 (bt875.2.2.2 != t832) t842 t865 t866) else (laws_FnExactRadauJacobi.j2 kj64 t864 true t842 t865 t866))))) else (some false))) = some r := H
         have A97 := zA A970
         clear A970
         by_cases c98 : t867 < 0
         rotate_left
         ·rw [if_neg c98] at H
          have c98b0 : decide (t867 < 0) = false := decide_eq_false c98
          clear c98
          by_cases c99 : t867 = t864
          rotate_left
          ·rw [if_neg c99] at H
           have c99b0 : (t867 == t864) = false := beq_eq_false_iff_ne.mpr c99
           have c99b1 : (t867 != t864) = true := bne_iff_ne.mpr c99
           rw [HRT.out] at H
           exact absurd H (by simp)
          rw [if_pos c99] at H
          have c99b0 : (t867 == t864) = true := beq_iff_eq.mpr c99
          have c99b1 : (t867 != t864) = false := bne_eq_false_iff_eq.mpr c99
          clear c99
          replace H := Option.bind_eq_some_iff.mp H
          obtain ⟨⟨t868, t869, t872⟩, A1000, H⟩ := H
          replace H : ((impl_RadauJacobi.f kj64 t868 t869 t872 a1).bind fun bt875 => ((laws_eqJacobi.f kj64 bt875.1 bt875.2.1 bt875.2.2.1 t825 t826 t829).bind fun t884 => (if t884 = true then (laws_FnExactRadauJacobi.j2 kj64 t864 (bt875.2.2.2 != t832) t842 t865 t866) else (laws_FnExactRadauJacobi.j2 kj64 t864 true t842 t865 t866)))) = some r := H
          have A100 := zA A1000
          clear A1000
          replace H := Option.bind_eq_some_iff.mp H
          obtain ⟨⟨t875, t876, t879, t882⟩, A1010, H⟩ := H
          replace H : ((laws_eqJacobi.f kj64 t875 t876 t879 t825 t826 t829).bind fun t884 => (if t884 = true then (laws_FnExactRadauJacobi.j2 kj64 t864 (t882 != t832) t842 t865 t866) else (laws_FnExactRadauJacobi.j2 kj64 t864 true t842 t865 t866))) = some r := H
          have A101 := zA A1010
          clear A1010
          have HC102 := zA H
          clear H
          have hnb103 := NB850_816.out; have hnc103 := NB816_850.out; have hnb104 := NB850_833.out; have hnc104 := NB833_850.out; have hnb105 := NB850_841.out; have hnc105 := NB841_850.out
          have hcz106_0 := bc BK850 0
          have hcz106_1 := bc BK850 1
          have hcz106_2 := bc BK850 2
          have hfz106_0 := bf BK850 0
          have hfz106_1 := bf BK850 1
          have hfz106_2 := bf BK850 2
          go_upto_region 25 with (first | ((with_reducible refine gate_callee (f := 36) rfl ?_); refine gL (some 68) Try.func36 #[.agg #[.int .i64 t842, .slice Ao40 t843.length co40, .slice Ao41 t846.length co41], .int .i64 1] ?_; (with_reducible refine (laws_markJacobi.calls kj64 t842 (fun k_ => some k_ = (.slice Ao40 t843.length co40 : Value).ownBlock) (.slice Ao40 t843.length co40) t843 (fun k_ => some k_ = (.slice Ao41 t846.length co41 : Value).ownBlock) (.slice Ao41 t846.length co41) t846 1 t864 t865 t866 w _ ?side1 ?side2 ?side3 ?side4 ?side5 A96.out).mono ?_); (case side1 => repeat (first | (with_reducible first | exact HB.out | apply below_alloc | apply pw_below_drewN | apply below_drew1 | refine below_set ?_ GE816.out | refine below_set ?_ GE833.out | refine below_set ?_ GE841.out | refine below_set ?_ GE850.out) | exact HB.out)); (case side2 => exact Kd.R_tight rfl HO_851001.out); (case side3 => exact fun k_ e_ => (HO_851001.out.1 k_ e_.symm).2.2.2.2); (case side4 => exact Kd.R_tight rfl HO_851002.out); (case side5 => exact fun k_ e_ => (HO_851002.out.1 k_ e_.symm).2.2.2.2); rintro e w107 ⟨rfl, hy0, hy1, hb, hkp⟩; refine ⟨_, rfl, ?_⟩; replace HO_834001 := zA (Kd.R_mono (ok' := fun k_ => ax k_ (.slice Ao25 t829.length co25) ∧ ax k_ (.slice Ao32 t861.length co32) ∧ ax k_ (.slice Ao33 t862.length co33) ∧ ax k_ (.slice Ao40 t843.length co40) ∧ ax k_ (.slice Ao41 t846.length co41)) (Kd.R_keptB (HO_834001.out) hkp (fun k_ hk_ hs_ => Or.elim hs_ (fun e_ => (hk_.2.2.2.1) e_) (fun e_ => (hk_.2.2.2.2) e_))) (fun k_ hk_ => ⟨hk_.1.1, hk_.1.2.1, hk_.1.2.2.1, hk_.1.2.2.2.1, hk_.1.2.2.2.2⟩)); replace HO_834002 := zA (Kd.R_mono (ok' := fun k_ => ax k_ (.slice Ao24 t826.length co24) ∧ ax k_ (.slice Ao32 t861.length co32) ∧ ax k_ (.slice Ao33 t862.length co33) ∧ ax k_ (.slice Ao40 t843.length co40) ∧ ax k_ (.slice Ao41 t846.length co41)) (Kd.R_keptB (HO_834002.out) hkp (fun k_ hk_ hs_ => Or.elim hs_ (fun e_ => (hk_.2.2.2.1) e_) (fun e_ => (hk_.2.2.2.2) e_))) (fun k_ hk_ => ⟨hk_.1.1, hk_.1.2.1, hk_.1.2.2.1, hk_.1.2.2.2.1, hk_.1.2.2.2.2⟩)); replace HO_842001 := zA (Kd.R_mono (ok' := fun k_ => ax k_ (.slice Ao24 t826.length co24) ∧ ax k_ (.slice Ao25 t829.length co25) ∧ ax k_ (.slice Ao33 t862.length co33) ∧ ax k_ (.slice Ao40 t843.length co40) ∧ ax k_ (.slice Ao41 t846.length co41)) (Kd.R_keptB (HO_842001.out) hkp (fun k_ hk_ hs_ => Or.elim hs_ (fun e_ => (hk_.2.2.2.1) e_) (fun e_ => (hk_.2.2.2.2) e_))) (fun k_ hk_ => ⟨hk_.1.1, hk_.1.2.1, hk_.1.2.2.1, hk_.1.2.2.2.1, hk_.1.2.2.2.2⟩)); replace HO_842002 := zA (Kd.R_mono (ok' := fun k_ => ax k_ (.slice Ao24 t826.length co24) ∧ ax k_ (.slice Ao25 t829.length co25) ∧ ax k_ (.slice Ao32 t861.length co32) ∧ ax k_ (.slice Ao40 t843.length co40) ∧ ax k_ (.slice Ao41 t846.length co41)) (Kd.R_keptB (HO_842002.out) hkp (fun k_ hk_ hs_ => Or.elim hs_ (fun e_ => (hk_.2.2.2.1) e_) (fun e_ => (hk_.2.2.2.2) e_))) (fun k_ hk_ => ⟨hk_.1.1, hk_.1.2.1, hk_.1.2.2.1, hk_.1.2.2.2.1, hk_.1.2.2.2.2⟩)); replace BK816 := zA (blk_kept (uB BK816.out) hkp (fun hs_ => Or.elim hs_ (fun e_ => (fun e_ => (Kd.R_ne HO_851001.out BK816.out (by decide)) e_) e_) (fun e_ => (fun e_ => (Kd.R_ne HO_851002.out BK816.out (by decide)) e_) e_))); replace BK833 := zA (blk_kept (uB BK833.out) hkp (fun hs_ => Or.elim hs_ (fun e_ => (fun e_ => (Kd.R_ne HO_851001.out BK833.out (by decide)) e_) e_) (fun e_ => (fun e_ => (Kd.R_ne HO_851002.out BK833.out (by decide)) e_) e_))); replace BK841 := zA (blk_kept (uB BK841.out) hkp (fun hs_ => Or.elim hs_ (fun e_ => (fun e_ => (Kd.R_ne HO_851001.out BK841.out (by decide)) e_) e_) (fun e_ => (fun e_ => (Kd.R_ne HO_851002.out BK841.out (by decide)) e_) e_))); replace BK850 := zA (blk_kept (uB BK850.out) hkp (fun hs_ => Or.elim hs_ (fun e_ => (fun e_ => (Kd.R_ne HO_851001.out BK850.out (by decide)) e_) e_) (fun e_ => (fun e_ => (Kd.R_ne HO_851002.out BK850.out (by decide)) e_) e_))); replace HO_851001 := zA (Kd.R_reok rfl hy0 (fun k_ e_ => HO_851001.out.1 k_ e_)); replace HO_851002 := zA (Kd.R_reok rfl hy1 (fun k_ e_ => HO_851002.out.1 k_ e_)); replace HB := zA (hb); (try clear hb); (try clear hkp); (try clear hy0); (try clear hy1); have hcz108_0 := bc BK850 0; have hcz108_1 := bc BK850 1; have hcz108_2 := bc BK850 2; have hfz108_0 := bf BK850 0; have hfz108_1 := bf BK850 1; have hfz108_2 := bf BK850 2) | ((with_reducible refine gate_callee (f := 37) rfl ?_); refine goesL_ (some 71) rfl rfl Try.func37 (by kernel_rfl) rfl #[.agg #[.int .i64 t842, .slice Ao40 t865.length co40, .slice Ao41 t866.length co41], .int .i64 1] rfl (by (try simp only [la, lb, lc]); first | done | (rw [show t865.length = t843.length from (Kd.R_reads' HO_851001.out).1.symm, show t866.length = t846.length from (Kd.R_reads' HO_851002.out).1.symm] <;> rfl) | rfl | (simp only [ld, le]; rfl)) ?_; (with_reducible refine (laws_heldJacobi.calls kj64 t842 _ _ t865 _ _ t866 1 t867 _ ?side1 ?side2 ?side3 ?side4 A97.out).mono ?_); (case side1 => exact uC ((Kd.R_reads' HO_851001.out).2.2)); (case side2 => rw [show t865.length = t843.length from (Kd.R_reads' HO_851001.out).1.symm]; exact (Kd.R_reads' HO_851001.out).2.1); (case side3 => exact uC ((Kd.R_reads' HO_851002.out).2.2)); (case side4 => rw [show t866.length = t846.length from (Kd.R_reads' HO_851002.out).1.symm]; exact (Kd.R_reads' HO_851002.out).2.1); rintro e w109 ⟨rfl, hb⟩; refine ⟨_, rfl, ?_⟩; replace HO_834001 := xR HO_834001 hb; replace HO_834002 := xR HO_834002 hb; replace HO_842001 := xR HO_842001 hb; replace HO_842002 := xR HO_842002 hb; replace HO_851001 := xR HO_851001 hb; replace HO_851002 := xR HO_851002 hb; replace BK816 := xB BK816 hb; replace BK833 := xB BK833 hb; replace BK841 := xB BK841 hb; replace BK850 := xB BK850 hb; replace HB := xH HB hb; (try clear hb); (try clear hb2); (try clear hk); (try clear hi); have hnb110 := NB816_833.out; have hnc110 := NB833_816.out; have hnb111 := NB816_841.out; have hnc111 := NB841_816.out; have hcz112_0 := bc BK816 0; have hcz112_1 := bc BK816 1; have hcz112_2 := bc BK816 2; have hfz112_0 := bf BK816 0; have hfz112_1 := bf BK816 1; have hfz112_2 := bf BK816 2) | ((with_reducible refine gate_callee (f := 29) rfl ?_); refine gL (some 79) Try.func29 #[.agg #[.int .i64 a0_0, .slice A0_1 l0_1.length c0_1, .slice A0_2 l0_2.length c0_2]] ?_; (with_reducible refine (laws_toJacobi.calls kj64 a0_0 _ _ l0_1 _ _ l0_2 t868 t869 t872 _ ?side1 ?side2 ?side3 ?side4 A100.out).mono ?_); (case side1 => exact uC ((Kd.C_below HR0_1.out HB.out))); (case side2 => exact HC0_1.out); (case side3 => exact uC ((Kd.C_below HR0_2.out HB.out))); (case side4 => exact HC0_2.out); rintro e w113 ⟨v870, v873, rfl, ho0, ho1, hb⟩; refine ⟨_, rfl, ?_⟩; have HO871 := zA (Kd.R_lower (Kd.R_new' (Kd.R_new' (Kd.R_new' (Kd.R_new' (Kd.R_new' (Kd.R_new' ho0 (Kd.R_lt (uR HO_834001.out))) (Kd.R_lt (uR HO_834002.out))) (Kd.R_lt (uR HO_842001.out))) (Kd.R_lt (uR HO_842002.out))) (Kd.R_lt (uR HO_851001.out))) (Kd.R_lt (uR HO_851002.out))) (below_size (uH HB.out))); have HO874 := zA (Kd.R_lower (Kd.R_new' (Kd.R_new' (Kd.R_new' (Kd.R_new' (Kd.R_new' (Kd.R_new' ho1 (Kd.R_lt (uR HO_834001.out))) (Kd.R_lt (uR HO_834002.out))) (Kd.R_lt (uR HO_842001.out))) (Kd.R_lt (uR HO_842002.out))) (Kd.R_lt (uR HO_851001.out))) (Kd.R_lt (uR HO_851002.out))) (below_size (uH HB.out))); replace HO_834001 := zA (Kd.R_mono (Kd.R_told (Kd.R_told (Kd.R_old (uR HO_834001.out) hb) (Kd.R_base ho0)) (Kd.R_base ho1)) (fun _ h_ => h_.1)); replace HO_834002 := zA (Kd.R_mono (Kd.R_told (Kd.R_told (Kd.R_old (uR HO_834002.out) hb) (Kd.R_base ho0)) (Kd.R_base ho1)) (fun _ h_ => h_.1)); replace HO_842001 := zA (Kd.R_mono (Kd.R_told (Kd.R_told (Kd.R_old (uR HO_842001.out) hb) (Kd.R_base ho0)) (Kd.R_base ho1)) (fun _ h_ => h_.1)); replace HO_842002 := zA (Kd.R_mono (Kd.R_told (Kd.R_told (Kd.R_old (uR HO_842002.out) hb) (Kd.R_base ho0)) (Kd.R_base ho1)) (fun _ h_ => h_.1)); replace HO_851001 := zA (Kd.R_mono (Kd.R_told (Kd.R_told (Kd.R_old (uR HO_851001.out) hb) (Kd.R_base ho0)) (Kd.R_base ho1)) (fun _ h_ => h_.1)); replace HO_851002 := zA (Kd.R_mono (Kd.R_told (Kd.R_told (Kd.R_old (uR HO_851002.out) hb) (Kd.R_base ho0)) (Kd.R_base ho1)) (fun _ h_ => h_.1)); replace BK816 := xB BK816 hb; replace BK833 := xB BK833 hb; replace BK841 := xB BK841 hb; replace BK850 := xB BK850 hb; replace HB := xH HB hb; (try clear hb); (try clear hb2); (try clear hk); (try clear hi); (try clear ho0); (try clear ho1); obtain ⟨Ao114, co114, eo114⟩ := Kd.R_slice HO871.out; subst eo114; obtain ⟨Ao115, co115, eo115⟩ := Kd.R_slice HO874.out; subst eo115) | ((with_reducible refine gate_callee (f := 35) rfl ?_); refine gL (some 81) Try.func35 #[.agg #[.int .i64 t868, .slice Ao114 t869.length co114, .slice Ao115 t872.length co115], .int .i64 a1] ?_; (with_reducible refine (impl_RadauJacobi.calls kj64 t868 _ _ t869 _ _ t872 a1 t875 t876 t879 t882 _ ?side1 ?side2 ?side3 ?side4 A101.out).mono ?_); (case side1 => exact uC ((Kd.R_reads' HO871.out).2.2)); (case side2 => exact (Kd.R_reads' HO871.out).2.1); (case side3 => exact uC ((Kd.R_reads' HO874.out).2.2)); (case side4 => exact (Kd.R_reads' HO874.out).2.1); rintro e w116 ⟨v877, v880, rfl, ho0, ho1, hb⟩; refine ⟨_, rfl, ?_⟩; have HO878 := zA (Kd.R_lower (Kd.R_new' (Kd.R_new' (Kd.R_new' (Kd.R_new' (Kd.R_new' (Kd.R_new' (Kd.R_new' (Kd.R_new' ho0 (Kd.R_lt (uR HO_834001.out))) (Kd.R_lt (uR HO_834002.out))) (Kd.R_lt (uR HO_842001.out))) (Kd.R_lt (uR HO_842002.out))) (Kd.R_lt (uR HO_851001.out))) (Kd.R_lt (uR HO_851002.out))) (Kd.R_lt (uR HO871.out))) (Kd.R_lt (uR HO874.out))) (below_size (uH HB.out))); have HO881 := zA (Kd.R_lower (Kd.R_new' (Kd.R_new' (Kd.R_new' (Kd.R_new' (Kd.R_new' (Kd.R_new' (Kd.R_new' (Kd.R_new' ho1 (Kd.R_lt (uR HO_834001.out))) (Kd.R_lt (uR HO_834002.out))) (Kd.R_lt (uR HO_842001.out))) (Kd.R_lt (uR HO_842002.out))) (Kd.R_lt (uR HO_851001.out))) (Kd.R_lt (uR HO_851002.out))) (Kd.R_lt (uR HO871.out))) (Kd.R_lt (uR HO874.out))) (below_size (uH HB.out))); replace HO_834001 := zA (Kd.R_mono (Kd.R_told (Kd.R_told (Kd.R_old (uR HO_834001.out) hb) (Kd.R_base ho0)) (Kd.R_base ho1)) (fun _ h_ => h_.1)); replace HO_834002 := zA (Kd.R_mono (Kd.R_told (Kd.R_told (Kd.R_old (uR HO_834002.out) hb) (Kd.R_base ho0)) (Kd.R_base ho1)) (fun _ h_ => h_.1)); replace HO_842001 := zA (Kd.R_mono (Kd.R_told (Kd.R_told (Kd.R_old (uR HO_842001.out) hb) (Kd.R_base ho0)) (Kd.R_base ho1)) (fun _ h_ => h_.1)); replace HO_842002 := zA (Kd.R_mono (Kd.R_told (Kd.R_told (Kd.R_old (uR HO_842002.out) hb) (Kd.R_base ho0)) (Kd.R_base ho1)) (fun _ h_ => h_.1)); replace HO_851001 := zA (Kd.R_mono (Kd.R_told (Kd.R_told (Kd.R_old (uR HO_851001.out) hb) (Kd.R_base ho0)) (Kd.R_base ho1)) (fun _ h_ => h_.1)); replace HO_851002 := zA (Kd.R_mono (Kd.R_told (Kd.R_told (Kd.R_old (uR HO_851002.out) hb) (Kd.R_base ho0)) (Kd.R_base ho1)) (fun _ h_ => h_.1)); replace HO871 := zA (Kd.R_mono (Kd.R_told (Kd.R_told (Kd.R_old (uR HO871.out) hb) (Kd.R_base ho0)) (Kd.R_base ho1)) (fun _ h_ => h_.1)); replace HO874 := zA (Kd.R_mono (Kd.R_told (Kd.R_told (Kd.R_old (uR HO874.out) hb) (Kd.R_base ho0)) (Kd.R_base ho1)) (fun _ h_ => h_.1)); replace BK816 := xB BK816 hb; replace BK833 := xB BK833 hb; replace BK841 := xB BK841 hb; replace BK850 := xB BK850 hb; replace HB := xH HB hb; (try clear hb); (try clear hb2); (try clear hk); (try clear hi); (try clear ho0); (try clear ho1)) | ((with_reducible refine gate_dst (N := 14) rfl ?_); refine bx 14 #[.int .i64 0, .slice none 0 0, .slice none 0 0] 46 ?_; intro gb883 hg w117 hbox hb; replace HO_834001 := xR HO_834001 hb; replace HO_834002 := xR HO_834002 hb; replace HO_842001 := xR HO_842001 hb; replace HO_842002 := xR HO_842002 hb; replace HO_851001 := xR HO_851001 hb; replace HO_851002 := xR HO_851002 hb; replace HO871 := xR HO871 hb; replace HO874 := xR HO874 hb; replace HO878 := xR HO878 hb; replace HO881 := xR HO881 hb; have BK883 := zA (hbox); have GW883 := gq HB hg; have GE883 := gq HB hg; replace HB := xH HB hb; have NB816_883 := zA ((by rw [hg]; exact neL BK816 : gb816 ≠ gb883)); have NB883_816 := zA ((by rw [hg]; exact neG BK816 : gb883 ≠ gb816)); replace BK816 := xB BK816 hb; have NB833_883 := zA ((by rw [hg]; exact neL BK833 : gb833 ≠ gb883)); have NB883_833 := zA ((by rw [hg]; exact neG BK833 : gb883 ≠ gb833)); replace BK833 := xB BK833 hb; have NB841_883 := zA ((by rw [hg]; exact neL BK841 : gb841 ≠ gb883)); have NB883_841 := zA ((by rw [hg]; exact neG BK841 : gb883 ≠ gb841)); replace BK841 := xB BK841 hb; have NB850_883 := zA ((by rw [hg]; exact neL BK850 : gb850 ≠ gb883)); have NB883_850 := zA ((by rw [hg]; exact neG BK850 : gb883 ≠ gb850)); replace BK850 := xB BK850 hb; have := geI GE883; clear hb hbox hg; have hnb118 := NB883_816.out; have hnc118 := NB816_883.out; have hnb119 := NB883_833.out; have hnc119 := NB833_883.out; have hnb120 := NB883_841.out; have hnc120 := NB841_883.out; have hnb121 := NB883_850.out; have hnc121 := NB850_883.out; have hcz122_0 := bc BK883 0; have hcz122_1 := bc BK883 1; have hcz122_2 := bc BK883 2; have hfz122_0 := bf BK883 0; have hfz122_1 := bf BK883 1; have hfz122_2 := bf BK883 2; obtain ⟨Ao123, co123, eo123⟩ := Kd.R_slice HO878.out; subst eo123; obtain ⟨Ao124, co124, eo124⟩ := Kd.R_slice HO881.out; subst eo124))
          (try simp only [Act.put, ls, lz, ln])
          go_cut [92] (fun v92 wc => ∃ (kq : Nat) (x92_101 : Bool), v92 = .bool x92_101 ∧ Aside0 (laws_FnExactRadauJacobi.j2 kq t864 x92_101 t842 t865 t866 = some r) ∧ Aside0 (kq ≤ kj64) ∧ Aside0 (Kd.R (Kd.int .i64) 2 wc w.heap.size (fun k_ => ax k_ (.slice Ao25 t829.length co25) ∧ ax k_ (.slice Ao32 t861.length co32) ∧ ax k_ (.slice Ao33 t862.length co33) ∧ ax k_ (.slice Ao40 t843.length co40) ∧ ax k_ (.slice Ao41 t846.length co41) ∧ ax k_ (.slice Ao123 t876.length co123) ∧ ax k_ (.slice Ao124 t879.length co124)) (.slice Ao24 t826.length co24) t826) ∧ Aside0 (Kd.R (Kd.int .i64) 2 wc w.heap.size (fun k_ => ax k_ (.slice Ao24 t826.length co24) ∧ ax k_ (.slice Ao32 t861.length co32) ∧ ax k_ (.slice Ao33 t862.length co33) ∧ ax k_ (.slice Ao40 t843.length co40) ∧ ax k_ (.slice Ao41 t846.length co41) ∧ ax k_ (.slice Ao123 t876.length co123) ∧ ax k_ (.slice Ao124 t879.length co124)) (.slice Ao25 t829.length co25) t829) ∧ Aside0 (Kd.R (Kd.int .i64) 2 wc w.heap.size (fun k_ => ax k_ (.slice Ao24 t826.length co24) ∧ ax k_ (.slice Ao25 t829.length co25) ∧ ax k_ (.slice Ao33 t862.length co33) ∧ ax k_ (.slice Ao40 t843.length co40) ∧ ax k_ (.slice Ao41 t846.length co41) ∧ ax k_ (.slice Ao123 t876.length co123) ∧ ax k_ (.slice Ao124 t879.length co124)) (.slice Ao32 t861.length co32) t861) ∧ Aside0 (Kd.R (Kd.int .i64) 2 wc w.heap.size (fun k_ => ax k_ (.slice Ao24 t826.length co24) ∧ ax k_ (.slice Ao25 t829.length co25) ∧ ax k_ (.slice Ao32 t861.length co32) ∧ ax k_ (.slice Ao40 t843.length co40) ∧ ax k_ (.slice Ao41 t846.length co41) ∧ ax k_ (.slice Ao123 t876.length co123) ∧ ax k_ (.slice Ao124 t879.length co124)) (.slice Ao33 t862.length co33) t862) ∧ Aside0 (Kd.R (Kd.int .i64) 2 wc w.heap.size (fun k_ => ax k_ (.slice Ao24 t826.length co24) ∧ ax k_ (.slice Ao25 t829.length co25) ∧ ax k_ (.slice Ao32 t861.length co32) ∧ ax k_ (.slice Ao33 t862.length co33) ∧ ax k_ (.slice Ao41 t846.length co41) ∧ ax k_ (.slice Ao123 t876.length co123) ∧ ax k_ (.slice Ao124 t879.length co124)) (.slice Ao40 t843.length co40) t865) ∧ Aside0 (Kd.R (Kd.int .i64) 2 wc w.heap.size (fun k_ => ax k_ (.slice Ao24 t826.length co24) ∧ ax k_ (.slice Ao25 t829.length co25) ∧ ax k_ (.slice Ao32 t861.length co32) ∧ ax k_ (.slice Ao33 t862.length co33) ∧ ax k_ (.slice Ao40 t843.length co40) ∧ ax k_ (.slice Ao123 t876.length co123) ∧ ax k_ (.slice Ao124 t879.length co124)) (.slice Ao41 t846.length co41) t866) ∧ Aside0 (Kd.R (Kd.int .i64) 2 wc w.heap.size (fun k_ => ax k_ (.slice Ao24 t826.length co24) ∧ ax k_ (.slice Ao25 t829.length co25) ∧ ax k_ (.slice Ao32 t861.length co32) ∧ ax k_ (.slice Ao33 t862.length co33) ∧ ax k_ (.slice Ao40 t843.length co40) ∧ ax k_ (.slice Ao41 t846.length co41) ∧ ax k_ (.slice Ao124 t879.length co124)) (.slice Ao123 t876.length co123) t876) ∧ Aside0 (Kd.R (Kd.int .i64) 2 wc w.heap.size (fun k_ => ax k_ (.slice Ao24 t826.length co24) ∧ ax k_ (.slice Ao25 t829.length co25) ∧ ax k_ (.slice Ao32 t861.length co32) ∧ ax k_ (.slice Ao33 t862.length co33) ∧ ax k_ (.slice Ao40 t843.length co40) ∧ ax k_ (.slice Ao41 t846.length co41) ∧ ax k_ (.slice Ao123 t876.length co123)) (.slice Ao124 t879.length co124) t879) ∧ Aside0 (wc.heap[gb816]? = some (.cells #[.int .i64 a0_0, (.slice A0_1 l0_1.length c0_1), (.slice A0_2 l0_2.length c0_2)] 43 (0, 0))) ∧ Aside0 (wc.heap[gb833]? = some (.cells #[.int .i64 t825, (.slice Ao24 t826.length co24), (.slice Ao25 t829.length co25)] 46 (0, 0))) ∧ Aside0 (wc.heap[gb841]? = some (.cells #[.int .i64 t834, (.slice Ao32 t861.length co32), (.slice Ao33 t862.length co33)] 46 (0, 0))) ∧ Aside0 (wc.heap[gb850]? = some (.cells #[.int .i64 t842, (.slice Ao40 t843.length co40), (.slice Ao41 t846.length co41)] 46 (0, 0))) ∧ Aside0 (wc.heap[gb883]? = some (.cells #[.int .i64 t875, (.slice Ao123 t876.length co123), (.slice Ao124 t879.length co124)] 46 (0, 0))) ∧ Aside0 (Below w.heap.size w wc))
          case first =>
           have H := HC102.out
           clear HC102
           replace H := Option.bind_eq_some_iff.mp H
           obtain ⟨t884, A1250, H⟩ := H
           replace H : (if t884 = true then (laws_FnExactRadauJacobi.j2 kj64 t864 (t882 != t832) t842 t865 t866) else (laws_FnExactRadauJacobi.j2 kj64 t864 true t842 t865 t866)) = some r := H
           have A125 := zA A1250
           clear A1250
           by_cases c126 : t884 = true
           ·subst c126
            have H1 : (laws_FnExactRadauJacobi.j2 kj64 t864 (t882 != t832) t842 t865 t866) = some r := by rw [if_pos rfl] at H; exact H
            clear H
            have H := H1
            clear H1
            have H' := zA H
            clear H
            have hnb127 := NB883_816.out; have hnc127 := NB816_883.out; have hnb128 := NB883_833.out; have hnc128 := NB833_883.out; have hnb129 := NB883_841.out; have hnc129 := NB841_883.out; have hnb130 := NB883_850.out; have hnc130 := NB850_883.out
            have hcz131_0 := bc BK883 0
            have hcz131_1 := bc BK883 1
            have hcz131_2 := bc BK883 2
            have hfz131_0 := bf BK883 0
            have hfz131_1 := bf BK883 1
            have hfz131_2 := bf BK883 2
            have hnb132 := NB833_816.out; have hnc132 := NB816_833.out; have hnb133 := NB833_841.out; have hnc133 := NB841_833.out; have hnb134 := NB833_850.out; have hnc134 := NB850_833.out
            have hcz135_0 := bc BK833 0
            have hcz135_1 := bc BK833 1
            have hcz135_2 := bc BK833 2
            have hfz135_0 := bf BK833 0
            have hfz135_1 := bf BK833 1
            have hfz135_2 := bf BK833 2
            go_wp2_with (first | ((with_reducible refine gate_callee (f := 31) rfl ?_); refine gL (some 86) Try.func31 #[.agg #[.int .i64 t875, .slice Ao123 t876.length co123, .slice Ao124 t879.length co124], .agg #[.int .i64 t825, .slice Ao24 t826.length co24, .slice Ao25 t829.length co25]] ?_; (with_reducible refine (laws_eqJacobi.calls kj64 t875 _ _ t876 _ _ t879 t825 _ _ t826 _ _ t829 true _ ?side1 ?side2 ?side3 ?side4 ?side5 ?side6 ?side7 ?side8 A125.out).mono ?_); (case side1 => refine (Kd.R_reads' (e := 2) (base := w.heap.size) (ok := fun k_ => ((((((((ax k_ (.slice Ao124 t879.length co124) ∧ ax k_ (.slice Ao24 t826.length co24)) ∧ ax k_ (.slice Ao25 t829.length co25)) ∧ ax k_ (.slice Ao32 t861.length co32)) ∧ ax k_ (.slice Ao33 t862.length co33)) ∧ ax k_ (.slice Ao40 t843.length co40)) ∧ ax k_ (.slice Ao41 t846.length co41)) ∧ ax k_ (.slice Ao114 t869.length co114)) ∧ ax k_ (.slice Ao115 t872.length co115))) (n := t876.length) (c := co123) ?_).2.2; exact (uR ((rf3 HO878 BK883 (by decide) (.int .i64 t875) (.slice Ao123 t876.length co123) (.slice Ao124 t879.length co124))))); (case side2 => exact (Kd.R_reads' HO878.out).2.1); (case side3 => refine (Kd.R_reads' (e := 2) (base := w.heap.size) (ok := fun k_ => ((((((((ax k_ (.slice Ao123 t876.length co123) ∧ ax k_ (.slice Ao24 t826.length co24)) ∧ ax k_ (.slice Ao25 t829.length co25)) ∧ ax k_ (.slice Ao32 t861.length co32)) ∧ ax k_ (.slice Ao33 t862.length co33)) ∧ ax k_ (.slice Ao40 t843.length co40)) ∧ ax k_ (.slice Ao41 t846.length co41)) ∧ ax k_ (.slice Ao114 t869.length co114)) ∧ ax k_ (.slice Ao115 t872.length co115))) (n := t879.length) (c := co124) ?_).2.2; exact (uR ((rf3 HO881 BK883 (by decide) (.int .i64 t875) (.slice Ao123 t876.length co123) (.slice Ao124 t879.length co124))))); (case side4 => exact (Kd.R_reads' HO881.out).2.1); (case side5 => refine (Kd.R_reads' (e := 2) (base := w.heap.size) (ok := fun k_ => (((((ax k_ (.slice Ao25 t829.length co25) ∧ (ax k_ (.slice Ao32 t861.length co32) ∧ (ax k_ (.slice Ao33 t862.length co33) ∧ (ax k_ (.slice Ao40 t843.length co40) ∧ ax k_ (.slice Ao41 t846.length co41))))) ∧ ax k_ (.slice Ao114 t869.length co114)) ∧ ax k_ (.slice Ao115 t872.length co115)) ∧ ax k_ (.slice Ao123 t876.length co123)) ∧ ax k_ (.slice Ao124 t879.length co124))) (n := t826.length) (c := co24) ?_).2.2; exact (uR ((rf3 HO_834001 BK883 (by decide) (.int .i64 t875) (.slice Ao123 t876.length co123) (.slice Ao124 t879.length co124))))); (case side6 => exact (Kd.R_reads' HO_834001.out).2.1); (case side7 => refine (Kd.R_reads' (e := 2) (base := w.heap.size) (ok := fun k_ => (((((ax k_ (.slice Ao24 t826.length co24) ∧ (ax k_ (.slice Ao32 t861.length co32) ∧ (ax k_ (.slice Ao33 t862.length co33) ∧ (ax k_ (.slice Ao40 t843.length co40) ∧ ax k_ (.slice Ao41 t846.length co41))))) ∧ ax k_ (.slice Ao114 t869.length co114)) ∧ ax k_ (.slice Ao115 t872.length co115)) ∧ ax k_ (.slice Ao123 t876.length co123)) ∧ ax k_ (.slice Ao124 t879.length co124))) (n := t829.length) (c := co25) ?_).2.2; exact (uR ((rf3 HO_834002 BK883 (by decide) (.int .i64 t875) (.slice Ao123 t876.length co123) (.slice Ao124 t879.length co124))))); (case side8 => exact (Kd.R_reads' HO_834002.out).2.1); rintro e w136 ⟨rfl, hb⟩; refine ⟨_, rfl, ?_⟩; replace HO_834001 := zA (Kd.R_below (uR ((rf3 HO_834001 BK883 (by decide) (.int .i64 t875) (.slice Ao123 t876.length co123) (.slice Ao124 t879.length co124)))) hb); replace HO_834002 := zA (Kd.R_below (uR ((rf3 HO_834002 BK883 (by decide) (.int .i64 t875) (.slice Ao123 t876.length co123) (.slice Ao124 t879.length co124)))) hb); replace HO_842001 := zA (Kd.R_below (uR ((rf3 HO_842001 BK883 (by decide) (.int .i64 t875) (.slice Ao123 t876.length co123) (.slice Ao124 t879.length co124)))) hb); replace HO_842002 := zA (Kd.R_below (uR ((rf3 HO_842002 BK883 (by decide) (.int .i64 t875) (.slice Ao123 t876.length co123) (.slice Ao124 t879.length co124)))) hb); replace HO_851001 := zA (Kd.R_below (uR ((rf3 HO_851001 BK883 (by decide) (.int .i64 t875) (.slice Ao123 t876.length co123) (.slice Ao124 t879.length co124)))) hb); replace HO_851002 := zA (Kd.R_below (uR ((rf3 HO_851002 BK883 (by decide) (.int .i64 t875) (.slice Ao123 t876.length co123) (.slice Ao124 t879.length co124)))) hb); replace HO871 := zA (Kd.R_below (uR ((rf3 HO871 BK883 (by decide) (.int .i64 t875) (.slice Ao123 t876.length co123) (.slice Ao124 t879.length co124)))) hb); replace HO874 := zA (Kd.R_below (uR ((rf3 HO874 BK883 (by decide) (.int .i64 t875) (.slice Ao123 t876.length co123) (.slice Ao124 t879.length co124)))) hb); replace HO878 := zA (Kd.R_below (uR ((rf3 HO878 BK883 (by decide) (.int .i64 t875) (.slice Ao123 t876.length co123) (.slice Ao124 t879.length co124)))) hb); replace HO881 := zA (Kd.R_below (uR ((rf3 HO881 BK883 (by decide) (.int .i64 t875) (.slice Ao123 t876.length co123) (.slice Ao124 t879.length co124)))) hb); replace BK816 := zA (blk_below (g := gb816) (o := .cells #[.int .i64 a0_0, .slice A0_1 l0_1.length c0_1, .slice A0_2 l0_2.length c0_2] 43 (0, 0)) (by (repeat refine up1 ?_); refine blk_far ?_ NB816_883.out _; (repeat refine up1 ?_); refine blk_far ?_ NB816_883.out _; (repeat refine up1 ?_); refine blk_far ?_ NB816_883.out _; (repeat refine up1 ?_); exact BK816.out) hb); replace BK833 := zA (blk_below (g := gb833) (o := .cells #[.int .i64 t825, .slice Ao24 t826.length co24, .slice Ao25 t829.length co25] 46 (0, 0)) (by (repeat refine up1 ?_); refine blk_far ?_ NB833_883.out _; (repeat refine up1 ?_); refine blk_far ?_ NB833_883.out _; (repeat refine up1 ?_); refine blk_far ?_ NB833_883.out _; (repeat refine up1 ?_); exact BK833.out) hb); replace BK841 := zA (blk_below (g := gb841) (o := .cells #[.int .i64 t834, .slice Ao32 t861.length co32, .slice Ao33 t862.length co33] 46 (0, 0)) (by (repeat refine up1 ?_); refine blk_far ?_ NB841_883.out _; (repeat refine up1 ?_); refine blk_far ?_ NB841_883.out _; (repeat refine up1 ?_); refine blk_far ?_ NB841_883.out _; (repeat refine up1 ?_); exact BK841.out) hb); replace BK850 := zA (blk_below (g := gb850) (o := .cells #[.int .i64 t842, .slice Ao40 t843.length co40, .slice Ao41 t846.length co41] 46 (0, 0)) (by (repeat refine up1 ?_); refine blk_far ?_ NB850_883.out _; (repeat refine up1 ?_); refine blk_far ?_ NB850_883.out _; (repeat refine up1 ?_); refine blk_far ?_ NB850_883.out _; (repeat refine up1 ?_); exact BK850.out) hb); replace BK883 := zA (blk_below (g := gb883) (o := .cells #[.int .i64 t875, .slice Ao123 t876.length co123, .slice Ao124 t879.length co124] 46 (0, 0)) (by (repeat refine up1 ?_); refine blk_put (cs := #[.int .i64 t875, .slice Ao123 t876.length co123, .slice none 0 0]) ?_ 2 _ rfl; (repeat refine up1 ?_); refine blk_put (cs := #[.int .i64 t875, .slice none 0 0, .slice none 0 0]) ?_ 1 _ rfl; (repeat refine up1 ?_); refine blk_put (cs := #[.int .i64 0, .slice none 0 0, .slice none 0 0]) ?_ 0 _ rfl; (repeat refine up1 ?_); exact BK883.out) hb); replace HB := xH HB hb; (try clear hb); (try clear hb2); (try clear hk); (try clear hi)))
            go_meet
            case rel => exact ⟨_, ((t882 != t832)), (by first | rfl | (simp; done) | (simp [*]; done)), H', ⟨by have := HJ11.out; have := HJ64.out; first | omega | exact Nat.le_refl _⟩, ⟨by (try simp only [hl842001_64]); (try simp only [hl842002_64]); (with_reducible repeat (first | apply Kd.R_alloc | apply Kd.R_drewN | apply Kd.R_drew)); exact Kd.R_mono HO_834001.out (fun _ hk => ⟨hk.1.1.1.1.1, ⟨hk.1.1.1.1.2.1, ⟨hk.1.1.1.1.2.2.1, ⟨hk.1.1.1.1.2.2.2.1, ⟨hk.1.1.1.1.2.2.2.2, ⟨hk.1.2, hk.2⟩⟩⟩⟩⟩⟩)⟩, ⟨by (try simp only [hl842001_64]); (try simp only [hl842002_64]); (with_reducible repeat (first | apply Kd.R_alloc | apply Kd.R_drewN | apply Kd.R_drew)); exact Kd.R_mono HO_834002.out (fun _ hk => ⟨hk.1.1.1.1.1, ⟨hk.1.1.1.1.2.1, ⟨hk.1.1.1.1.2.2.1, ⟨hk.1.1.1.1.2.2.2.1, ⟨hk.1.1.1.1.2.2.2.2, ⟨hk.1.2, hk.2⟩⟩⟩⟩⟩⟩)⟩, ⟨by (try simp only [hl842001_64]); (try simp only [hl842002_64]); (with_reducible repeat (first | apply Kd.R_alloc | apply Kd.R_drewN | apply Kd.R_drew)); exact Kd.R_mono HO_842001.out (fun _ hk => ⟨hk.1.1.1.1.1, ⟨hk.1.1.1.1.2.1, ⟨hk.1.1.1.1.2.2.1, ⟨hk.1.1.1.1.2.2.2.1, ⟨hk.1.1.1.1.2.2.2.2, ⟨hk.1.2, hk.2⟩⟩⟩⟩⟩⟩)⟩, ⟨by (try simp only [hl842001_64]); (try simp only [hl842002_64]); (with_reducible repeat (first | apply Kd.R_alloc | apply Kd.R_drewN | apply Kd.R_drew)); exact Kd.R_mono HO_842002.out (fun _ hk => ⟨hk.1.1.1.1.1, ⟨hk.1.1.1.1.2.1, ⟨hk.1.1.1.1.2.2.1, ⟨hk.1.1.1.1.2.2.2.1, ⟨hk.1.1.1.1.2.2.2.2, ⟨hk.1.2, hk.2⟩⟩⟩⟩⟩⟩)⟩, ⟨by (try simp only [hl842001_64]); (try simp only [hl842002_64]); (with_reducible repeat (first | apply Kd.R_alloc | apply Kd.R_drewN | apply Kd.R_drew)); exact Kd.R_mono HO_851001.out (fun _ hk => ⟨hk.1.1.1.1.1, ⟨hk.1.1.1.1.2.1, ⟨hk.1.1.1.1.2.2.1, ⟨hk.1.1.1.1.2.2.2.1, ⟨hk.1.1.1.1.2.2.2.2, ⟨hk.1.2, hk.2⟩⟩⟩⟩⟩⟩)⟩, ⟨by (try simp only [hl842001_64]); (try simp only [hl842002_64]); (with_reducible repeat (first | apply Kd.R_alloc | apply Kd.R_drewN | apply Kd.R_drew)); exact Kd.R_mono HO_851002.out (fun _ hk => ⟨hk.1.1.1.1.1, ⟨hk.1.1.1.1.2.1, ⟨hk.1.1.1.1.2.2.1, ⟨hk.1.1.1.1.2.2.2.1, ⟨hk.1.1.1.1.2.2.2.2, ⟨hk.1.2, hk.2⟩⟩⟩⟩⟩⟩)⟩, ⟨by (try simp only [hl842001_64]); (try simp only [hl842002_64]); (with_reducible repeat (first | apply Kd.R_alloc | apply Kd.R_drewN | apply Kd.R_drew)); exact Kd.R_mono HO878.out (fun _ hk => ⟨hk.1.1.1.1.1.1.1.2, ⟨hk.1.1.1.1.1.1.2, ⟨hk.1.1.1.1.1.2, ⟨hk.1.1.1.1.2, ⟨hk.1.1.1.2, ⟨hk.1.1.2, hk.1.1.1.1.1.1.1.1⟩⟩⟩⟩⟩⟩)⟩, ⟨by (try simp only [hl842001_64]); (try simp only [hl842002_64]); (with_reducible repeat (first | apply Kd.R_alloc | apply Kd.R_drewN | apply Kd.R_drew)); exact Kd.R_mono HO881.out (fun _ hk => ⟨hk.1.1.1.1.1.1.1.2, ⟨hk.1.1.1.1.1.1.2, ⟨hk.1.1.1.1.1.2, ⟨hk.1.1.1.1.2, ⟨hk.1.1.1.2, ⟨hk.1.1.2, hk.1.1.1.1.1.1.1.1⟩⟩⟩⟩⟩⟩)⟩, ⟨by (try simp only [hl842001_64]); (try simp only [hl842002_64]); (repeat refine up1 ?_); exact BK816.out⟩, ⟨by (try simp only [hl842001_64]); (try simp only [hl842002_64]); (repeat refine up1 ?_); exact BK833.out⟩, ⟨by (try simp only [hl842001_64]); (try simp only [hl842002_64]); (repeat refine up1 ?_); exact BK841.out⟩, ⟨by (try simp only [hl842001_64]); (try simp only [hl842002_64]); (repeat refine up1 ?_); exact BK850.out⟩, ⟨by (try simp only [hl842001_64]); (try simp only [hl842002_64]); (repeat refine up1 ?_); exact BK883.out⟩, ⟨uH HB.out⟩⟩
           ·replace c126 := Bool.eq_false_iff.mpr c126
            subst c126
            have H1 : (laws_FnExactRadauJacobi.j2 kj64 t864 true t842 t865 t866) = some r := by rw [if_neg (show ¬ (false = true) by decide)] at H; exact H
            clear H
            have H := H1
            clear H1
            have H' := zA H
            clear H
            have hnb137 := NB883_816.out; have hnc137 := NB816_883.out; have hnb138 := NB883_833.out; have hnc138 := NB833_883.out; have hnb139 := NB883_841.out; have hnc139 := NB841_883.out; have hnb140 := NB883_850.out; have hnc140 := NB850_883.out
            have hcz141_0 := bc BK883 0
            have hcz141_1 := bc BK883 1
            have hcz141_2 := bc BK883 2
            have hfz141_0 := bf BK883 0
            have hfz141_1 := bf BK883 1
            have hfz141_2 := bf BK883 2
            have hnb142 := NB833_816.out; have hnc142 := NB816_833.out; have hnb143 := NB833_841.out; have hnc143 := NB841_833.out; have hnb144 := NB833_850.out; have hnc144 := NB850_833.out
            have hcz145_0 := bc BK833 0
            have hcz145_1 := bc BK833 1
            have hcz145_2 := bc BK833 2
            have hfz145_0 := bf BK833 0
            have hfz145_1 := bf BK833 1
            have hfz145_2 := bf BK833 2
            go_wp2_with (first | ((with_reducible refine gate_callee (f := 31) rfl ?_); refine gL (some 86) Try.func31 #[.agg #[.int .i64 t875, .slice Ao123 t876.length co123, .slice Ao124 t879.length co124], .agg #[.int .i64 t825, .slice Ao24 t826.length co24, .slice Ao25 t829.length co25]] ?_; (with_reducible refine (laws_eqJacobi.calls kj64 t875 _ _ t876 _ _ t879 t825 _ _ t826 _ _ t829 false _ ?side1 ?side2 ?side3 ?side4 ?side5 ?side6 ?side7 ?side8 A125.out).mono ?_); (case side1 => refine (Kd.R_reads' (e := 2) (base := w.heap.size) (ok := fun k_ => ((((((((ax k_ (.slice Ao124 t879.length co124) ∧ ax k_ (.slice Ao24 t826.length co24)) ∧ ax k_ (.slice Ao25 t829.length co25)) ∧ ax k_ (.slice Ao32 t861.length co32)) ∧ ax k_ (.slice Ao33 t862.length co33)) ∧ ax k_ (.slice Ao40 t843.length co40)) ∧ ax k_ (.slice Ao41 t846.length co41)) ∧ ax k_ (.slice Ao114 t869.length co114)) ∧ ax k_ (.slice Ao115 t872.length co115))) (n := t876.length) (c := co123) ?_).2.2; exact (uR ((rf3 HO878 BK883 (by decide) (.int .i64 t875) (.slice Ao123 t876.length co123) (.slice Ao124 t879.length co124))))); (case side2 => exact (Kd.R_reads' HO878.out).2.1); (case side3 => refine (Kd.R_reads' (e := 2) (base := w.heap.size) (ok := fun k_ => ((((((((ax k_ (.slice Ao123 t876.length co123) ∧ ax k_ (.slice Ao24 t826.length co24)) ∧ ax k_ (.slice Ao25 t829.length co25)) ∧ ax k_ (.slice Ao32 t861.length co32)) ∧ ax k_ (.slice Ao33 t862.length co33)) ∧ ax k_ (.slice Ao40 t843.length co40)) ∧ ax k_ (.slice Ao41 t846.length co41)) ∧ ax k_ (.slice Ao114 t869.length co114)) ∧ ax k_ (.slice Ao115 t872.length co115))) (n := t879.length) (c := co124) ?_).2.2; exact (uR ((rf3 HO881 BK883 (by decide) (.int .i64 t875) (.slice Ao123 t876.length co123) (.slice Ao124 t879.length co124))))); (case side4 => exact (Kd.R_reads' HO881.out).2.1); (case side5 => refine (Kd.R_reads' (e := 2) (base := w.heap.size) (ok := fun k_ => (((((ax k_ (.slice Ao25 t829.length co25) ∧ (ax k_ (.slice Ao32 t861.length co32) ∧ (ax k_ (.slice Ao33 t862.length co33) ∧ (ax k_ (.slice Ao40 t843.length co40) ∧ ax k_ (.slice Ao41 t846.length co41))))) ∧ ax k_ (.slice Ao114 t869.length co114)) ∧ ax k_ (.slice Ao115 t872.length co115)) ∧ ax k_ (.slice Ao123 t876.length co123)) ∧ ax k_ (.slice Ao124 t879.length co124))) (n := t826.length) (c := co24) ?_).2.2; exact (uR ((rf3 HO_834001 BK883 (by decide) (.int .i64 t875) (.slice Ao123 t876.length co123) (.slice Ao124 t879.length co124))))); (case side6 => exact (Kd.R_reads' HO_834001.out).2.1); (case side7 => refine (Kd.R_reads' (e := 2) (base := w.heap.size) (ok := fun k_ => (((((ax k_ (.slice Ao24 t826.length co24) ∧ (ax k_ (.slice Ao32 t861.length co32) ∧ (ax k_ (.slice Ao33 t862.length co33) ∧ (ax k_ (.slice Ao40 t843.length co40) ∧ ax k_ (.slice Ao41 t846.length co41))))) ∧ ax k_ (.slice Ao114 t869.length co114)) ∧ ax k_ (.slice Ao115 t872.length co115)) ∧ ax k_ (.slice Ao123 t876.length co123)) ∧ ax k_ (.slice Ao124 t879.length co124))) (n := t829.length) (c := co25) ?_).2.2; exact (uR ((rf3 HO_834002 BK883 (by decide) (.int .i64 t875) (.slice Ao123 t876.length co123) (.slice Ao124 t879.length co124))))); (case side8 => exact (Kd.R_reads' HO_834002.out).2.1); rintro e w146 ⟨rfl, hb⟩; refine ⟨_, rfl, ?_⟩; replace HO_834001 := zA (Kd.R_below (uR ((rf3 HO_834001 BK883 (by decide) (.int .i64 t875) (.slice Ao123 t876.length co123) (.slice Ao124 t879.length co124)))) hb); replace HO_834002 := zA (Kd.R_below (uR ((rf3 HO_834002 BK883 (by decide) (.int .i64 t875) (.slice Ao123 t876.length co123) (.slice Ao124 t879.length co124)))) hb); replace HO_842001 := zA (Kd.R_below (uR ((rf3 HO_842001 BK883 (by decide) (.int .i64 t875) (.slice Ao123 t876.length co123) (.slice Ao124 t879.length co124)))) hb); replace HO_842002 := zA (Kd.R_below (uR ((rf3 HO_842002 BK883 (by decide) (.int .i64 t875) (.slice Ao123 t876.length co123) (.slice Ao124 t879.length co124)))) hb); replace HO_851001 := zA (Kd.R_below (uR ((rf3 HO_851001 BK883 (by decide) (.int .i64 t875) (.slice Ao123 t876.length co123) (.slice Ao124 t879.length co124)))) hb); replace HO_851002 := zA (Kd.R_below (uR ((rf3 HO_851002 BK883 (by decide) (.int .i64 t875) (.slice Ao123 t876.length co123) (.slice Ao124 t879.length co124)))) hb); replace HO871 := zA (Kd.R_below (uR ((rf3 HO871 BK883 (by decide) (.int .i64 t875) (.slice Ao123 t876.length co123) (.slice Ao124 t879.length co124)))) hb); replace HO874 := zA (Kd.R_below (uR ((rf3 HO874 BK883 (by decide) (.int .i64 t875) (.slice Ao123 t876.length co123) (.slice Ao124 t879.length co124)))) hb); replace HO878 := zA (Kd.R_below (uR ((rf3 HO878 BK883 (by decide) (.int .i64 t875) (.slice Ao123 t876.length co123) (.slice Ao124 t879.length co124)))) hb); replace HO881 := zA (Kd.R_below (uR ((rf3 HO881 BK883 (by decide) (.int .i64 t875) (.slice Ao123 t876.length co123) (.slice Ao124 t879.length co124)))) hb); replace BK816 := zA (blk_below (g := gb816) (o := .cells #[.int .i64 a0_0, .slice A0_1 l0_1.length c0_1, .slice A0_2 l0_2.length c0_2] 43 (0, 0)) (by (repeat refine up1 ?_); refine blk_far ?_ NB816_883.out _; (repeat refine up1 ?_); refine blk_far ?_ NB816_883.out _; (repeat refine up1 ?_); refine blk_far ?_ NB816_883.out _; (repeat refine up1 ?_); exact BK816.out) hb); replace BK833 := zA (blk_below (g := gb833) (o := .cells #[.int .i64 t825, .slice Ao24 t826.length co24, .slice Ao25 t829.length co25] 46 (0, 0)) (by (repeat refine up1 ?_); refine blk_far ?_ NB833_883.out _; (repeat refine up1 ?_); refine blk_far ?_ NB833_883.out _; (repeat refine up1 ?_); refine blk_far ?_ NB833_883.out _; (repeat refine up1 ?_); exact BK833.out) hb); replace BK841 := zA (blk_below (g := gb841) (o := .cells #[.int .i64 t834, .slice Ao32 t861.length co32, .slice Ao33 t862.length co33] 46 (0, 0)) (by (repeat refine up1 ?_); refine blk_far ?_ NB841_883.out _; (repeat refine up1 ?_); refine blk_far ?_ NB841_883.out _; (repeat refine up1 ?_); refine blk_far ?_ NB841_883.out _; (repeat refine up1 ?_); exact BK841.out) hb); replace BK850 := zA (blk_below (g := gb850) (o := .cells #[.int .i64 t842, .slice Ao40 t843.length co40, .slice Ao41 t846.length co41] 46 (0, 0)) (by (repeat refine up1 ?_); refine blk_far ?_ NB850_883.out _; (repeat refine up1 ?_); refine blk_far ?_ NB850_883.out _; (repeat refine up1 ?_); refine blk_far ?_ NB850_883.out _; (repeat refine up1 ?_); exact BK850.out) hb); replace BK883 := zA (blk_below (g := gb883) (o := .cells #[.int .i64 t875, .slice Ao123 t876.length co123, .slice Ao124 t879.length co124] 46 (0, 0)) (by (repeat refine up1 ?_); refine blk_put (cs := #[.int .i64 t875, .slice Ao123 t876.length co123, .slice none 0 0]) ?_ 2 _ rfl; (repeat refine up1 ?_); refine blk_put (cs := #[.int .i64 t875, .slice none 0 0, .slice none 0 0]) ?_ 1 _ rfl; (repeat refine up1 ?_); refine blk_put (cs := #[.int .i64 0, .slice none 0 0, .slice none 0 0]) ?_ 0 _ rfl; (repeat refine up1 ?_); exact BK883.out) hb); replace HB := xH HB hb; (try clear hb); (try clear hb2); (try clear hk); (try clear hi)))
            go_meet
            case rel => exact ⟨_, (true), (by first | rfl | (simp; done) | (simp [*]; done)), H', ⟨by have := HJ11.out; have := HJ64.out; first | omega | exact Nat.le_refl _⟩, ⟨by (try simp only [hl842001_64]); (try simp only [hl842002_64]); (with_reducible repeat (first | apply Kd.R_alloc | apply Kd.R_drewN | apply Kd.R_drew)); exact Kd.R_mono HO_834001.out (fun _ hk => ⟨hk.1.1.1.1.1, ⟨hk.1.1.1.1.2.1, ⟨hk.1.1.1.1.2.2.1, ⟨hk.1.1.1.1.2.2.2.1, ⟨hk.1.1.1.1.2.2.2.2, ⟨hk.1.2, hk.2⟩⟩⟩⟩⟩⟩)⟩, ⟨by (try simp only [hl842001_64]); (try simp only [hl842002_64]); (with_reducible repeat (first | apply Kd.R_alloc | apply Kd.R_drewN | apply Kd.R_drew)); exact Kd.R_mono HO_834002.out (fun _ hk => ⟨hk.1.1.1.1.1, ⟨hk.1.1.1.1.2.1, ⟨hk.1.1.1.1.2.2.1, ⟨hk.1.1.1.1.2.2.2.1, ⟨hk.1.1.1.1.2.2.2.2, ⟨hk.1.2, hk.2⟩⟩⟩⟩⟩⟩)⟩, ⟨by (try simp only [hl842001_64]); (try simp only [hl842002_64]); (with_reducible repeat (first | apply Kd.R_alloc | apply Kd.R_drewN | apply Kd.R_drew)); exact Kd.R_mono HO_842001.out (fun _ hk => ⟨hk.1.1.1.1.1, ⟨hk.1.1.1.1.2.1, ⟨hk.1.1.1.1.2.2.1, ⟨hk.1.1.1.1.2.2.2.1, ⟨hk.1.1.1.1.2.2.2.2, ⟨hk.1.2, hk.2⟩⟩⟩⟩⟩⟩)⟩, ⟨by (try simp only [hl842001_64]); (try simp only [hl842002_64]); (with_reducible repeat (first | apply Kd.R_alloc | apply Kd.R_drewN | apply Kd.R_drew)); exact Kd.R_mono HO_842002.out (fun _ hk => ⟨hk.1.1.1.1.1, ⟨hk.1.1.1.1.2.1, ⟨hk.1.1.1.1.2.2.1, ⟨hk.1.1.1.1.2.2.2.1, ⟨hk.1.1.1.1.2.2.2.2, ⟨hk.1.2, hk.2⟩⟩⟩⟩⟩⟩)⟩, ⟨by (try simp only [hl842001_64]); (try simp only [hl842002_64]); (with_reducible repeat (first | apply Kd.R_alloc | apply Kd.R_drewN | apply Kd.R_drew)); exact Kd.R_mono HO_851001.out (fun _ hk => ⟨hk.1.1.1.1.1, ⟨hk.1.1.1.1.2.1, ⟨hk.1.1.1.1.2.2.1, ⟨hk.1.1.1.1.2.2.2.1, ⟨hk.1.1.1.1.2.2.2.2, ⟨hk.1.2, hk.2⟩⟩⟩⟩⟩⟩)⟩, ⟨by (try simp only [hl842001_64]); (try simp only [hl842002_64]); (with_reducible repeat (first | apply Kd.R_alloc | apply Kd.R_drewN | apply Kd.R_drew)); exact Kd.R_mono HO_851002.out (fun _ hk => ⟨hk.1.1.1.1.1, ⟨hk.1.1.1.1.2.1, ⟨hk.1.1.1.1.2.2.1, ⟨hk.1.1.1.1.2.2.2.1, ⟨hk.1.1.1.1.2.2.2.2, ⟨hk.1.2, hk.2⟩⟩⟩⟩⟩⟩)⟩, ⟨by (try simp only [hl842001_64]); (try simp only [hl842002_64]); (with_reducible repeat (first | apply Kd.R_alloc | apply Kd.R_drewN | apply Kd.R_drew)); exact Kd.R_mono HO878.out (fun _ hk => ⟨hk.1.1.1.1.1.1.1.2, ⟨hk.1.1.1.1.1.1.2, ⟨hk.1.1.1.1.1.2, ⟨hk.1.1.1.1.2, ⟨hk.1.1.1.2, ⟨hk.1.1.2, hk.1.1.1.1.1.1.1.1⟩⟩⟩⟩⟩⟩)⟩, ⟨by (try simp only [hl842001_64]); (try simp only [hl842002_64]); (with_reducible repeat (first | apply Kd.R_alloc | apply Kd.R_drewN | apply Kd.R_drew)); exact Kd.R_mono HO881.out (fun _ hk => ⟨hk.1.1.1.1.1.1.1.2, ⟨hk.1.1.1.1.1.1.2, ⟨hk.1.1.1.1.1.2, ⟨hk.1.1.1.1.2, ⟨hk.1.1.1.2, ⟨hk.1.1.2, hk.1.1.1.1.1.1.1.1⟩⟩⟩⟩⟩⟩)⟩, ⟨by (try simp only [hl842001_64]); (try simp only [hl842002_64]); (repeat refine up1 ?_); exact BK816.out⟩, ⟨by (try simp only [hl842001_64]); (try simp only [hl842002_64]); (repeat refine up1 ?_); exact BK833.out⟩, ⟨by (try simp only [hl842001_64]); (try simp only [hl842002_64]); (repeat refine up1 ?_); exact BK841.out⟩, ⟨by (try simp only [hl842001_64]); (try simp only [hl842002_64]); (repeat refine up1 ?_); exact BK850.out⟩, ⟨by (try simp only [hl842001_64]); (try simp only [hl842002_64]); (repeat refine up1 ?_); exact BK883.out⟩, ⟨uH HB.out⟩⟩
          case rest =>
           clear HC102
           (try clear c1);(try clear c2);(try clear p2);(try clear c3);(try clear c4);(try clear c4b0);(try clear c5);(try clear c6);(try clear c7);(try clear c8);(try clear c9);(try clear c10);(try clear c11);(try clear c12);(try clear c13);(try clear c14);(try clear c22);(try clear c27);(try clear c29);(try clear c30);(try clear c31);(try clear c34);(try clear c35);(try clear c36);(try clear c37)
           (try clear c38);(try clear c43);(try clear c44);(try clear c45);(try clear c46);(try clear c48);(try clear c49);(try clear c52);(try clear c53);(try clear c54);(try clear c56);(try clear c57);(try clear c60);(try clear c63);(try clear c71);(try clear c72);(try clear c73);(try clear c76);(try clear c76b0);(try clear c78);(try clear c79);(try clear c80);(try clear c81);(try clear c83);(try clear c84)
           (try clear c87);(try clear c88);(try clear c89);(try clear c91);(try clear c92);(try clear c95);(try clear c98);(try clear c98b0);(try clear c99);(try clear c99b0);(try clear c99b1);(try clear c103);(try clear c104);(try clear c105);(try clear c110);(try clear c111);(try clear c118);(try clear c119);(try clear c120);(try clear c121);(try clear c126);(try clear c127);(try clear c128);(try clear c129)
           (try clear c130);(try clear c132);(try clear c133);(try clear c134);(try clear c137);(try clear c138);(try clear c139);(try clear c140);(try clear c142);(try clear c143);(try clear c144);(try clear hcz106_0);(try clear hcz106_1);(try clear hcz106_2);(try clear hcz108_0);(try clear hcz108_1);(try clear hcz108_2);(try clear hcz112_0);(try clear hcz112_1);(try clear hcz112_2);(try clear hcz122_0)
           (try clear hcz122_1);(try clear hcz122_2);(try clear hcz131_0);(try clear hcz131_1);(try clear hcz131_2);(try clear hcz135_0);(try clear hcz135_1);(try clear hcz135_2);(try clear hcz141_0);(try clear hcz141_1);(try clear hcz141_2);(try clear hcz145_0);(try clear hcz145_1);(try clear hcz145_2);(try clear hcz14_0);(try clear hcz14_1);(try clear hcz14_2);(try clear hcz16_0);(try clear hcz16_1)
           (try clear hcz16_2);(try clear hcz23_0);(try clear hcz23_1);(try clear hcz23_2);(try clear hcz26_0);(try clear hcz26_1);(try clear hcz26_2);(try clear hcz31_0);(try clear hcz31_1);(try clear hcz31_2);(try clear hcz39_0);(try clear hcz39_1);(try clear hcz39_2);(try clear hcz47_0);(try clear hcz47_1);(try clear hcz47_2);(try clear hcz50_0);(try clear hcz50_1);(try clear hcz50_2);(try clear hcz55_0)
           (try clear hcz55_1);(try clear hcz55_2);(try clear hcz58_0);(try clear hcz58_1);(try clear hcz58_2);(try clear hcz6_0);(try clear hcz6_1);(try clear hcz6_2);(try clear hcz74_0);(try clear hcz74_1);(try clear hcz74_2);(try clear hcz82_0);(try clear hcz82_1);(try clear hcz82_2);(try clear hcz85_0);(try clear hcz85_1);(try clear hcz85_2);(try clear hcz90_0);(try clear hcz90_1);(try clear hcz90_2)
           (try clear hcz93_0);(try clear hcz93_1);(try clear hcz93_2);(try clear hfz106_0);(try clear hfz106_1);(try clear hfz106_2);(try clear hfz108_0);(try clear hfz108_1);(try clear hfz108_2);(try clear hfz112_0);(try clear hfz112_1);(try clear hfz112_2);(try clear hfz122_0);(try clear hfz122_1);(try clear hfz122_2);(try clear hfz131_0);(try clear hfz131_1);(try clear hfz131_2);(try clear hfz135_0)
           (try clear hfz135_1);(try clear hfz135_2);(try clear hfz141_0);(try clear hfz141_1);(try clear hfz141_2);(try clear hfz145_0);(try clear hfz145_1);(try clear hfz145_2);(try clear hfz14_0);(try clear hfz14_1);(try clear hfz14_2);(try clear hfz16_0);(try clear hfz16_1);(try clear hfz16_2);(try clear hfz23_0);(try clear hfz23_1);(try clear hfz23_2);(try clear hfz26_0);(try clear hfz26_1);(try clear hfz26_2)
           (try clear hfz31_0);(try clear hfz31_1);(try clear hfz31_2);(try clear hfz39_0);(try clear hfz39_1);(try clear hfz39_2);(try clear hfz47_0);(try clear hfz47_1);(try clear hfz47_2);(try clear hfz50_0);(try clear hfz50_1);(try clear hfz50_2);(try clear hfz55_0);(try clear hfz55_1);(try clear hfz55_2);(try clear hfz58_0);(try clear hfz58_1);(try clear hfz58_2);(try clear hfz6_0);(try clear hfz6_1)
           (try clear hfz6_2);(try clear hfz74_0);(try clear hfz74_1);(try clear hfz74_2);(try clear hfz82_0);(try clear hfz82_1);(try clear hfz82_2);(try clear hfz85_0);(try clear hfz85_1);(try clear hfz85_2);(try clear hfz90_0);(try clear hfz90_1);(try clear hfz90_2);(try clear hfz93_0);(try clear hfz93_1);(try clear hfz93_2);(try clear p2)
           obtain ⟨kq, x92_101, rfl, HA, HJ101, HO_834001, HO_834002, HO_842001, HO_842002, HO_851001, HO_851002, HO_884001, HO_884002, BK816, BK833, BK841, BK850, BK883, HB⟩ := hcut
           have hl851001_101 := (Kd.R_reads' HO_851001.out).1
           rw [hl851001_101] at HO_851001
           (try simp only [hl851001_101])
           (try simp only [hl851001_101] at BK816)
           (try simp only [hl851001_101] at BK833)
           (try simp only [hl851001_101] at BK841)
           (try simp only [hl851001_101] at BK850)
           (try simp only [hl851001_101] at BK883)
           (try simp only [hl851001_101] at HO_834001)
           (try simp only [hl851001_101] at HO_834002)
           (try simp only [hl851001_101] at HO_842001)
           (try simp only [hl851001_101] at HO_842002)
           (try simp only [hl851001_101] at HO_851002)
           (try simp only [hl851001_101] at HO_884001)
           (try simp only [hl851001_101] at HO_884002)
           have hl851002_101 := (Kd.R_reads' HO_851002.out).1
           rw [hl851002_101] at HO_851002
           (try simp only [hl851002_101])
           (try simp only [hl851002_101] at BK816)
           (try simp only [hl851002_101] at BK833)
           (try simp only [hl851002_101] at BK841)
           (try simp only [hl851002_101] at BK850)
           (try simp only [hl851002_101] at BK883)
           (try simp only [hl851002_101] at HO_834001)
           (try simp only [hl851002_101] at HO_834002)
           (try simp only [hl851002_101] at HO_842001)
           (try simp only [hl851002_101] at HO_842002)
           (try simp only [hl851002_101] at HO_851001)
           (try simp only [hl851002_101] at HO_884001)
           (try simp only [hl851002_101] at HO_884002)
           cases kq with
           | zero => exact absurd HA.out (by simp [laws_FnExactRadauJacobi.j2])
           | succ kj101 =>
            have H := HA.out
            clear HA
            simp only [laws_FnExactRadauJacobi.j2] at H
            by_cases c147 : x92_101 = true
            ·subst c147
             have H1 : (some false) = some r := by rw [if_pos rfl] at H; exact H
             clear H
             have H := H1
             clear H1
             rw [HRT.out] at H
             exact absurd H (by simp)
            ·replace c147 := Bool.eq_false_iff.mpr c147
             subst c147
             have H1 : ((laws_heldJacobi.f kj101 t842 t865 t866 1).bind fun t885 => (if t885 < 0 then (some false) else (if t885 = t864 then (some true) else (some false)))) = some r := by rw [if_neg (show ¬ (false = true) by decide)] at H; exact H
             clear H
             have H := H1
             clear H1
             replace H := Option.bind_eq_some_iff.mp H
             obtain ⟨t885, A1480, H⟩ := H
             replace H : (if t885 < 0 then (some false) else (if t885 = t864 then (some true) else (some false))) = some r := H
             have A148 := zA A1480
             clear A1480
             by_cases c149 : t885 < 0
             rotate_left
             ·rw [if_neg c149] at H
              have c149b0 : decide (t885 < 0) = false := decide_eq_false c149
              clear c149
              by_cases c150 : t885 = t864
              rotate_left
              ·rw [if_neg c150] at H
               have c150b0 : (t885 == t864) = false := beq_eq_false_iff_ne.mpr c150
               have c150b1 : (t885 != t864) = true := bne_iff_ne.mpr c150
               rw [HRT.out] at H
               exact absurd H (by simp)
              rw [if_pos c150] at H
              have c150b0 : (t885 == t864) = true := beq_iff_eq.mpr c150
              have c150b1 : (t885 != t864) = false := bne_eq_false_iff_eq.mpr c150
              clear c150
              obtain rfl := Option.some.inj H
              have hnb151 := NB850_816.out; have hnc151 := NB816_850.out; have hnb152 := NB850_833.out; have hnc152 := NB833_850.out; have hnb153 := NB850_841.out; have hnc153 := NB841_850.out; have hnb154 := NB850_883.out; have hnc154 := NB883_850.out
              have hcz155_0 := bc BK850 0
              have hcz155_1 := bc BK850 1
              have hcz155_2 := bc BK850 2
              have hfz155_0 := bf BK850 0
              have hfz155_1 := bf BK850 1
              have hfz155_2 := bf BK850 2
              go_wp2_with (first | ((with_reducible refine gate_callee (f := 37) rfl ?_); refine gL (some 95) Try.func37 #[.agg #[.int .i64 t842, .slice Ao40 t865.length co40, .slice Ao41 t866.length co41], .int .i64 1] ?_; (with_reducible refine (laws_heldJacobi.calls kj101 t842 _ _ t865 _ _ t866 1 t885 _ ?side1 ?side2 ?side3 ?side4 A148.out).mono ?_); (case side1 => exact uC ((Kd.R_reads' HO_851001.out).2.2)); (case side2 => exact (Kd.R_reads' HO_851001.out).2.1); (case side3 => exact uC ((Kd.R_reads' HO_851002.out).2.2)); (case side4 => exact (Kd.R_reads' HO_851002.out).2.1); rintro e w156 ⟨rfl, hb⟩; refine ⟨_, rfl, ?_⟩; replace HO_834001 := xR HO_834001 hb; replace HO_834002 := xR HO_834002 hb; replace HO_842001 := xR HO_842001 hb; replace HO_842002 := xR HO_842002 hb; replace HO_851001 := xR HO_851001 hb; replace HO_851002 := xR HO_851002 hb; replace HO_884001 := xR HO_884001 hb; replace HO_884002 := xR HO_884002 hb; replace BK816 := xB BK816 hb; replace BK833 := xB BK833 hb; replace BK841 := xB BK841 hb; replace BK850 := xB BK850 hb; replace BK883 := xB BK883 hb; replace HB := xH HB hb; (try clear hb); (try clear hb2); (try clear hk); (try clear hi)))
              go_ret
              exact ⟨by first | rfl | (simp [errW_none, errW_some] <;> rfl) | (simp [*, errW_none, errW_some] <;> rfl), uH HB.out⟩
             rw [if_pos c149] at H
             have c149b0 : decide (t885 < 0) = true := decide_eq_true c149
             clear c149
             rw [HRT.out] at H
             exact absurd H (by simp)
         rw [if_pos c98] at H
         have c98b0 : decide (t867 < 0) = true := decide_eq_true c98
         clear c98
         rw [HRT.out] at H
         exact absurd H (by simp)
     ·replace c63 := Bool.eq_false_iff.mpr c63
      subst c63
      have H1 : (some false) = some r := by rw [if_neg (show ¬ (false = true) by decide)] at H; exact H
      clear H
      have H := H1
      clear H1
      rw [HRT.out] at H
      exact absurd H (by simp)

 rw [if_pos c4] at H
 have c4b0 : decide (t817 < 0) = true := decide_eq_true c4
 clear c4
 obtain rfl := Option.some.inj H
 go_enter Try.func7, Try.ntmps7
 go_wp2_with (first | ((with_reducible refine gate_dst (N := 2) rfl ?_); refine bx 2 #[.int .i64 a0_0, .slice A0_1 l0_1.length c0_1, .slice A0_2 l0_2.length c0_2] 43 ?_; intro gb816 hg w5 hbox hb; have BK816 := zA (hbox); have GW816 := gq HB hg; have GE816 := gq HB hg; replace HB := xH HB hb; have := geI GE816; clear hb hbox hg; have hcz6_0 := bc BK816 0; have hcz6_1 := bc BK816 1; have hcz6_2 := bc BK816 2; have hfz6_0 := bf BK816 0; have hfz6_1 := bf BK816 1; have hfz6_2 := bf BK816 2) | ((with_reducible refine gate_callee (f := 27) rfl ?_); refine gL (some 18) Try.func27 #[.agg #[.int .i64 a0_0, .slice A0_1 l0_1.length c0_1, .slice A0_2 l0_2.length c0_2], .int .i64 1048576] ?_; (with_reducible refine (laws_szJacobi.calls a0_0 _ _ l0_1 _ _ l0_2 1048576 t817 _ ?side1 ?side2 ?side3 ?side4 A3.out).mono ?_); (case side1 => exact uC ((Kd.C_below HR0_1.out HB.out))); (case side2 => exact HC0_1.out); (case side3 => exact uC ((Kd.C_below HR0_2.out HB.out))); (case side4 => exact HC0_2.out); rintro e w7 ⟨rfl, hb⟩; refine ⟨_, rfl, ?_⟩; replace BK816 := xB BK816 hb; replace HB := xH HB hb; (try clear hb); (try clear hb2); (try clear hk); (try clear hi)))
 go_ret
 exact ⟨by first | rfl | (simp [errW_none, errW_some] <;> rfl) | (simp [*, errW_none, errW_some] <;> rfl), uH HB.out⟩
/-- THE ONE PURE STATEMENT of laws_FnExactRadauJacobi: yours. -/
def laws_FnExactRadauJacobi.Pure : Prop := ∀ (a0_0 : Int) (l0_1 : List Int) (l0_2 : List Int) (a1 : Int), (Lit.int .i64 a0_0).wf = true → l0_1.length ≤ maxLen → (∀ x ∈ l0_1, (Lit.int .i64 x).wf = true) → l0_2.length ≤ maxLen → (∀ x ∈ l0_2, (Lit.int .i64 x).wf = true) → (Lit.int .i64 a1).wf = true → ∃ k, laws_FnExactRadauJacobi.f k a0_0 l0_1 l0_2 a1 = some true
theorem laws_FnExactRadauJacobi.walk (P : laws_FnExactRadauJacobi.Pure) (a0_0 : Int) (a0_1 : Option Addr) (len0_1 cap0_1 : Nat) (z0_1 : List Int) (a0_2 : Option Addr) (len0_2 cap0_2 : Nat) (z0_2 : List Int) (a1 : Int) (w : World) (w0_0 : (Lit.int .i64 a0_0).wf = true) (w0_1 : (a0_1 = none ∧ len0_1 = 0 ∧ cap0_1 = 0 ∧ z0_1 = []) ∨ ∃ x, a0_1 = some x ∧ len0_1 ≤ cap0_1 ∧ cap0_1 ≤ maxLen ∧ z0_1.length = cap0_1 ∧ (∀ i, i < z0_1.length → w.cell? (x.add i) = some (.int .i64 (z0_1.getD i 0))) ∧ ∀ n ∈ z0_1, (Lit.int .i64 n).wf = true) (w0_2 : (a0_2 = none ∧ len0_2 = 0 ∧ cap0_2 = 0 ∧ z0_2 = []) ∨ ∃ x, a0_2 = some x ∧ len0_2 ≤ cap0_2 ∧ cap0_2 ≤ maxLen ∧ z0_2.length = cap0_2 ∧ (∀ i, i < z0_2.length → w.cell? (x.add i) = some (.int .i64 (z0_2.getD i 0))) ∧ ∀ n ∈ z0_2, (Lit.int .i64 n).wf = true) (w1 : (Lit.int .i64 a1).wf = true) :
  Calls Try.prog 7 #[.agg #[.int .i64 a0_0, .slice a0_1 len0_1 cap0_1, .slice a0_2 len0_2 cap0_2], .int .i64 a1] w fun e w' => e = .returned (.bool true) ∧ Below w.heap.size w w' := by
 obtain ⟨l0_1, rfl, hr0_1, hm0_1, hw0_1, hc0_1⟩ := ReadsInt.ofRowC w0_1
 obtain ⟨l0_2, rfl, hr0_2, hm0_2, hw0_2, hc0_2⟩ := ReadsInt.ofRowC w0_2
 obtain ⟨k, h⟩ := P a0_0 l0_1 l0_2 a1 w0_0 hm0_1 hw0_1 hm0_2 hw0_2 w1
 refine (laws_FnExactRadauJacobi.calls k a0_0 _ _ l0_1 _ _ l0_2 a1 true rfl w (Kd.C_of_reads (d := (0 : Int)) (h1 := fun _ => rfl) hr0_1) hc0_1 (Kd.C_of_reads (d := (0 : Int)) (h1 := fun _ => rfl) hr0_2) hc0_2 h).mono ?_
 rintro e w' ⟨rfl, hd⟩
 exact ⟨rfl, hd⟩

end Go.Proofs.Ytokkabgkjhpecaa.Pr
