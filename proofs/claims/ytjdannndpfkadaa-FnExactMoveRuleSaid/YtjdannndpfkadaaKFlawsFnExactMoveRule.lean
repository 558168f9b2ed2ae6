/- Printed by a program of this session out of the translation: what these functions of the program compute, under the conditions that each theorem names. -/
import Derived.Test.YtjdannndpfkadaaKMoveRule1
import Derived.Test.YtjdannndpfkadaaKMoveRule3
import Derived.Test.YtjdannndpfkadaaKMoveRule2
import Derived.Test.YtjdannndpfkadaaKFspecMoveRule
import Derived.Test.YtjdannndpfkadaaKMoveRule6
namespace Go.Proofs.Ytjdannndpfkadaa.Pr
open Go.RowKit Go.Proofs.YtjdannndpfkadaaW.PrintWords Go.Proofs.YtjdannndpfkadaaW.PrintLast Go.Proofs.YtjdannndpfkadaaW.PrintMore
attribute [local go_sem] max2_int min2_int max_two min_two max_three min_three max_four min_four   -- for this text's walks alone
set_option linter.unusedVariables false
set_option linter.unusedSimpArgs false

/-! ### laws_FnExactMoveRule: function 6 -/
mutual
def laws_FnExactMoveRule.j0 : Nat → Int → Int → Int → Int → Bool → Int → List Int → List Int → Int → List Int → List Int → Int → List Int → List Int → Int → List Int → List Int → Option (Bool)
 | 0, _, _, _, _, _, _, _, _, _, _, _, _, _, _, _, _, _ => none
 | k + 1, x1, x2, x9, x12, x48, x389000, x389001, x389002, x406000, x406001, x406002, x414000, x414001, x414002, x423000, x423001, x423002 => if x48 = true then (some false) else ((laws_toRule.f k x389000 x389001 x389002).bind fun bt424 => ((laws_eqRule.f k x414000 x414001 x414002 bt424.1 bt424.2.1 bt424.2.2).bind fun t431 => (if t431 = true then ((laws_markRule.f k x414000 x414001 x414002 1).bind fun bt432 => (if bt432.1 < 0 then (laws_FnExactMoveRule.j1 k x1 x2 x9 true x389000 x389001 x389002 x406000 x406001 x406002 x423000 x423001 x423002) else ((laws_eqRule.f k x423000 x423001 x423002 x406000 x406001 x406002).bind fun t435 => (if t435 = true then (laws_FnExactMoveRule.j1 k x1 x2 x9 (x12 != x9) x389000 x389001 x389002 x406000 x406001 x406002 x423000 x423001 x423002) else (laws_FnExactMoveRule.j1 k x1 x2 x9 true x389000 x389001 x389002 x406000 x406001 x406002 x423000 x423001 x423002))))) else (some false))))
def laws_FnExactMoveRule.j1 : Nat → Int → Int → Int → Bool → Int → List Int → List Int → Int → List Int → List Int → Int → List Int → List Int → Option (Bool)
 | 0, _, _, _, _, _, _, _, _, _, _, _, _, _ => none
 | k + 1, x1, x2, x9, x69, x389000, x389001, x389002, x406000, x406001, x406002, x423000, x423001, x423002 => if x69 = true then (some false) else ((laws_markRule.f k x423000 x423001 x423002 1).bind fun bt436 => ((laws_heldRule.f k x423000 bt436.2.1 bt436.2.2 1).bind fun t439 => (if t439 < 0 then (some false) else (if t439 = bt436.1 then ((laws_toRule.f k x389000 x389001 x389002).bind fun bt440 => ((impl_MoveRule.f k bt440.1 bt440.2.1 bt440.2.2 x1 x2).bind fun bt447 => ((laws_eqRule.f k bt447.1 bt447.2.1 bt447.2.2.1 x406000 x406001 x406002).bind fun t456 => (if t456 = true then (laws_FnExactMoveRule.j2 k bt436.1 (bt447.2.2.2 != x9) x423000 bt436.2.1 bt436.2.2) else (laws_FnExactMoveRule.j2 k bt436.1 true x423000 bt436.2.1 bt436.2.2))))) else (some false)))))
def laws_FnExactMoveRule.j2 : Nat → Int → Bool → Int → List Int → List Int → Option (Bool)
 | 0, _, _, _, _, _ => none
 | k + 1, x14, x97, x423000, x423001, x423002 => if x97 = true then (some false) else ((laws_heldRule.f k x423000 x423001 x423002 1).bind fun t457 => (if t457 < 0 then (some false) else (if t457 = x14 then (some true) else (some false))))
end
def laws_FnExactMoveRule.f (k : Nat) (a0_0 : Int) (l0_1 : List Int) (l0_2 : List Int) (a1 : Int) (a2 : Int) : Option (Bool) := (laws_szRule.f a0_0 l0_1 l0_2 1048576).bind fun t389 => (if t389 < 0 then (some true) else ((laws_toRule.f k a0_0 l0_1 l0_2).bind fun bt390 => ((spec_MoveRule.f k bt390.1 bt390.2.1 bt390.2.2 a1 a2).bind fun bt397 => ((laws_toRule.f k a0_0 l0_1 l0_2).bind fun bt406 => ((impl_MoveRule.f k bt406.1 bt406.2.1 bt406.2.2 a1 a2).bind fun bt414 => ((laws_eqRule.f k bt414.1 bt414.2.1 bt414.2.2.1 bt397.1 bt397.2.1 bt397.2.2.1).bind fun t423 => (if t423 = true then (laws_FnExactMoveRule.j0 k a1 a2 bt397.2.2.2 bt414.2.2.2 (bt414.2.2.2 != bt397.2.2.2) a0_0 l0_1 l0_2 bt397.1 bt397.2.1 bt397.2.2.1 bt406.1 bt406.2.1 bt406.2.2 bt414.1 bt414.2.1 bt414.2.2.1) else (laws_FnExactMoveRule.j0 k a1 a2 bt397.2.2.2 bt414.2.2.2 true a0_0 l0_1 l0_2 bt397.1 bt397.2.1 bt397.2.2.1 bt406.1 bt406.2.1 bt406.2.2 bt414.1 bt414.2.1 bt414.2.2.1))))))))
theorem laws_FnExactMoveRule.mono_l : ∀ k, (∀ y0 y1 y2 y3 y4 y5 y6 y7 y8 y9 y10 y11 y12 y13 y14 y15 y16, LeO (laws_FnExactMoveRule.j0 k y0 y1 y2 y3 y4 y5 y6 y7 y8 y9 y10 y11 y12 y13 y14 y15 y16) (laws_FnExactMoveRule.j0 (k + 1) y0 y1 y2 y3 y4 y5 y6 y7 y8 y9 y10 y11 y12 y13 y14 y15 y16)) ∧ (∀ y0 y1 y2 y3 y4 y5 y6 y7 y8 y9 y10 y11 y12, LeO (laws_FnExactMoveRule.j1 k y0 y1 y2 y3 y4 y5 y6 y7 y8 y9 y10 y11 y12) (laws_FnExactMoveRule.j1 (k + 1) y0 y1 y2 y3 y4 y5 y6 y7 y8 y9 y10 y11 y12)) ∧ (∀ y0 y1 y2 y3 y4, LeO (laws_FnExactMoveRule.j2 k y0 y1 y2 y3 y4) (laws_FnExactMoveRule.j2 (k + 1) y0 y1 y2 y3 y4))
 | 0 => ⟨fun _ _ _ _ _ _ _ _ _ _ _ _ _ _ _ _ _ r h => by simp [laws_FnExactMoveRule.j0] at h, fun _ _ _ _ _ _ _ _ _ _ _ _ _ r h => by simp [laws_FnExactMoveRule.j1] at h, fun _ _ _ _ _ r h => by simp [laws_FnExactMoveRule.j2] at h⟩
 | k + 1 => by
  obtain ⟨ih0, ih1, ih2⟩ := laws_FnExactMoveRule.mono_l k
  refine ⟨?_, ?_, ?_⟩
  ·intro y0 y1 y2 y3 y4 y5 y6 y7 y8 y9 y10 y11 y12 y13 y14 y15 y16
   unfold laws_FnExactMoveRule.j0
   repeat' first
   | (with_reducible exact ih0 _ _ _ _ _ _ _ _ _ _ _ _ _ _ _ _ _)
   | (with_reducible exact ih1 _ _ _ _ _ _ _ _ _ _ _ _ _)
   | (with_reducible exact ih2 _ _ _ _ _)
   | (with_reducible exact impl_MoveRule.mono _ _ _ _ _ _)
   | (with_reducible exact laws_eqRule.mono _ _ _ _ _ _ _)
   | (with_reducible exact laws_heldRule.mono _ _ _ _ _)
   | (with_reducible exact laws_markRule.mono _ _ _ _ _)
   | (with_reducible exact laws_toRule.mono _ _ _ _)
   | (with_reducible exact spec_MoveRule.mono _ _ _ _ _ _)
   | (with_reducible exact LeO.refl _)
   | (with_reducible exact LeO.none _)
   | (with_reducible refine LeO.ite ?_ ?_)
   | (with_reducible refine LeO.bind ?_ (fun _ => ?_))
   | exact ih0 _ _ _ _ _ _ _ _ _ _ _ _ _ _ _ _ _
   | exact ih1 _ _ _ _ _ _ _ _ _ _ _ _ _
   | exact ih2 _ _ _ _ _
   | exact impl_MoveRule.mono _ _ _ _ _ _
   | exact laws_eqRule.mono _ _ _ _ _ _ _
   | exact laws_heldRule.mono _ _ _ _ _
   | exact laws_markRule.mono _ _ _ _ _
   | exact laws_toRule.mono _ _ _ _
   | exact spec_MoveRule.mono _ _ _ _ _ _
   | exact LeO.none _
   | refine LeO.ite ?_ ?_
   | refine LeO.bind ?_ (fun _ => ?_)
  ·intro y0 y1 y2 y3 y4 y5 y6 y7 y8 y9 y10 y11 y12
   unfold laws_FnExactMoveRule.j1
   repeat' first
   | (with_reducible exact ih0 _ _ _ _ _ _ _ _ _ _ _ _ _ _ _ _ _)
   | (with_reducible exact ih1 _ _ _ _ _ _ _ _ _ _ _ _ _)
   | (with_reducible exact ih2 _ _ _ _ _)
   | (with_reducible exact impl_MoveRule.mono _ _ _ _ _ _)
   | (with_reducible exact laws_eqRule.mono _ _ _ _ _ _ _)
   | (with_reducible exact laws_heldRule.mono _ _ _ _ _)
   | (with_reducible exact laws_markRule.mono _ _ _ _ _)
   | (with_reducible exact laws_toRule.mono _ _ _ _)
   | (with_reducible exact spec_MoveRule.mono _ _ _ _ _ _)
   | (with_reducible exact LeO.refl _)
   | (with_reducible exact LeO.none _)
   | (with_reducible refine LeO.ite ?_ ?_)
   | (with_reducible refine LeO.bind ?_ (fun _ => ?_))
   | exact ih0 _ _ _ _ _ _ _ _ _ _ _ _ _ _ _ _ _
   | exact ih1 _ _ _ _ _ _ _ _ _ _ _ _ _
   | exact ih2 _ _ _ _ _
   | exact impl_MoveRule.mono _ _ _ _ _ _
   | exact laws_eqRule.mono _ _ _ _ _ _ _
   | exact laws_heldRule.mono _ _ _ _ _
   | exact laws_markRule.mono _ _ _ _ _
   | exact laws_toRule.mono _ _ _ _
   | exact spec_MoveRule.mono _ _ _ _ _ _
   | exact LeO.none _
   | refine LeO.ite ?_ ?_
   | refine LeO.bind ?_ (fun _ => ?_)
  ·intro y0 y1 y2 y3 y4
   unfold laws_FnExactMoveRule.j2
   repeat' first
   | (with_reducible exact ih0 _ _ _ _ _ _ _ _ _ _ _ _ _ _ _ _ _)
   | (with_reducible exact ih1 _ _ _ _ _ _ _ _ _ _ _ _ _)
   | (with_reducible exact ih2 _ _ _ _ _)
   | (with_reducible exact impl_MoveRule.mono _ _ _ _ _ _)
   | (with_reducible exact laws_eqRule.mono _ _ _ _ _ _ _)
   | (with_reducible exact laws_heldRule.mono _ _ _ _ _)
   | (with_reducible exact laws_markRule.mono _ _ _ _ _)
   | (with_reducible exact laws_toRule.mono _ _ _ _)
   | (with_reducible exact spec_MoveRule.mono _ _ _ _ _ _)
   | (with_reducible exact LeO.refl _)
   | (with_reducible exact LeO.none _)
   | (with_reducible refine LeO.ite ?_ ?_)
   | (with_reducible refine LeO.bind ?_ (fun _ => ?_))
   | exact ih0 _ _ _ _ _ _ _ _ _ _ _ _ _ _ _ _ _
   | exact ih1 _ _ _ _ _ _ _ _ _ _ _ _ _
   | exact ih2 _ _ _ _ _
   | exact impl_MoveRule.mono _ _ _ _ _ _
   | exact laws_eqRule.mono _ _ _ _ _ _ _
   | exact laws_heldRule.mono _ _ _ _ _
   | exact laws_markRule.mono _ _ _ _ _
   | exact laws_toRule.mono _ _ _ _
   | exact spec_MoveRule.mono _ _ _ _ _ _
   | exact LeO.none _
   | refine LeO.ite ?_ ?_
   | refine LeO.bind ?_ (fun _ => ?_)
theorem laws_FnExactMoveRule.mono : ∀ a0 a1 a2 a3 a4 k, LeO (laws_FnExactMoveRule.f k a0 a1 a2 a3 a4) (laws_FnExactMoveRule.f (k + 1) a0 a1 a2 a3 a4) := by
 intro a0 a1 a2 a3 a4 k
 obtain ⟨ih0, ih1, ih2⟩ := laws_FnExactMoveRule.mono_l k
 unfold laws_FnExactMoveRule.f
 repeat' first
   | (with_reducible exact ih0 _ _ _ _ _ _ _ _ _ _ _ _ _ _ _ _ _)
   | (with_reducible exact ih1 _ _ _ _ _ _ _ _ _ _ _ _ _)
   | (with_reducible exact ih2 _ _ _ _ _)
   | (with_reducible exact impl_MoveRule.mono _ _ _ _ _ _)
   | (with_reducible exact laws_eqRule.mono _ _ _ _ _ _ _)
   | (with_reducible exact laws_heldRule.mono _ _ _ _ _)
   | (with_reducible exact laws_markRule.mono _ _ _ _ _)
   | (with_reducible exact laws_toRule.mono _ _ _ _)
   | (with_reducible exact spec_MoveRule.mono _ _ _ _ _ _)
   | (with_reducible exact LeO.refl _)
   | (with_reducible exact LeO.none _)
   | (with_reducible refine LeO.ite ?_ ?_)
   | (with_reducible refine LeO.bind ?_ (fun _ => ?_))
   | exact ih0 _ _ _ _ _ _ _ _ _ _ _ _ _ _ _ _ _
   | exact ih1 _ _ _ _ _ _ _ _ _ _ _ _ _
   | exact ih2 _ _ _ _ _
   | exact impl_MoveRule.mono _ _ _ _ _ _
   | exact laws_eqRule.mono _ _ _ _ _ _ _
   | exact laws_heldRule.mono _ _ _ _ _
   | exact laws_markRule.mono _ _ _ _ _
   | exact laws_toRule.mono _ _ _ _
   | exact spec_MoveRule.mono _ _ _ _ _ _
   | exact LeO.none _
   | refine LeO.ite ?_ ?_
   | refine LeO.bind ?_ (fun _ => ?_)
set_option maxHeartbeats 8000000 in
set_option maxRecDepth 100000 in
theorem laws_FnExactMoveRule.calls (k : Nat) (a0_0 : Int) (A0_1 : Option Addr) (c0_1 : Nat) (l0_1 : List Int) (A0_2 : Option Addr) (c0_2 : Nat) (l0_2 : List Int) (a1 : Int) (a2 : Int) (r : Bool) (hr_ : r = true) (w : World) (hr0_1 : Kd.C (Kd.int .i64) w A0_1 l0_1.length l0_1) (hc0_1 : l0_1.length ≤ c0_1) (hr0_2 : Kd.C (Kd.int .i64) w A0_2 l0_2.length l0_2) (hc0_2 : l0_2.length ≤ c0_2) (h : laws_FnExactMoveRule.f k a0_0 l0_1 l0_2 a1 a2 = some r) :
  Calls Try.prog 6 #[.agg #[.int .i64 a0_0, .slice A0_1 l0_1.length c0_1, .slice A0_2 l0_2.length c0_2], .int .i64 a1, .int .i64 a2] w fun e w' => e = .returned (.bool r) ∧ Below w.heap.size w w' := by
 have hu49 := Try.underlying49
 have hu51 := Try.underlying51
 have HRT := zA hr_
 clear hr_
 have HR0_1 := zA hr0_1
 have HC0_1 := zA hc0_1
 clear hr0_1 hc0_1
 have HR0_2 := zA hr0_2
 have HC0_2 := zA hc0_2
 clear hr0_2 hc0_2
 have HB := zA (Below.refl w.heap.size w)
 have H : ((laws_szRule.f a0_0 l0_1 l0_2 1048576).bind fun t389 => (if t389 < 0 then (some true) else ((laws_toRule.f k a0_0 l0_1 l0_2).bind fun bt390 => ((spec_MoveRule.f k bt390.1 bt390.2.1 bt390.2.2 a1 a2).bind fun bt397 => ((laws_toRule.f k a0_0 l0_1 l0_2).bind fun bt406 => ((impl_MoveRule.f k bt406.1 bt406.2.1 bt406.2.2 a1 a2).bind fun bt414 => ((laws_eqRule.f k bt414.1 bt414.2.1 bt414.2.2.1 bt397.1 bt397.2.1 bt397.2.2.1).bind fun t423 => (if t423 = true then (laws_FnExactMoveRule.j0 k a1 a2 bt397.2.2.2 bt414.2.2.2 (bt414.2.2.2 != bt397.2.2.2) a0_0 l0_1 l0_2 bt397.1 bt397.2.1 bt397.2.2.1 bt406.1 bt406.2.1 bt406.2.2 bt414.1 bt414.2.1 bt414.2.2.1) else (laws_FnExactMoveRule.j0 k a1 a2 bt397.2.2.2 bt414.2.2.2 true a0_0 l0_1 l0_2 bt397.1 bt397.2.1 bt397.2.2.1 bt406.1 bt406.2.1 bt406.2.2 bt414.1 bt414.2.1 bt414.2.2.1))))))))) = some r := h
 clear h
 replace H := Option.bind_eq_some_iff.mp H
 obtain ⟨t389, A40, H⟩ := H
 replace H : (if t389 < 0 then (some true) else ((laws_toRule.f k a0_0 l0_1 l0_2).bind fun bt390 => ((spec_MoveRule.f k bt390.1 bt390.2.1 bt390.2.2 a1 a2).bind fun bt397 => ((laws_toRule.f k a0_0 l0_1 l0_2).bind fun bt406 => ((impl_MoveRule.f k bt406.1 bt406.2.1 bt406.2.2 a1 a2).bind fun bt414 => ((laws_eqRule.f k bt414.1 bt414.2.1 bt414.2.2.1 bt397.1 bt397.2.1 bt397.2.2.1).bind fun t423 => (if t423 = true then (laws_FnExactMoveRule.j0 k a1 a2 bt397.2.2.2 bt414.2.2.2 (bt414.2.2.2 != bt397.2.2.2) a0_0 l0_1 l0_2 bt397.1 bt397.2.1 bt397.2.2.1 bt406.1 bt406.2.1 bt406.2.2 bt414.1 bt414.2.1 bt414.2.2.1) else (laws_FnExactMoveRule.j0 k a1 a2 bt397.2.2.2 bt414.2.2.2 true a0_0 l0_1 l0_2 bt397.1 bt397.2.1 bt397.2.2.1 bt406.1 bt406.2.1 bt406.2.2 bt414.1 bt414.2.1 bt414.2.2.1)))))))) = some r := H
 have A4 := zA A40
 clear A40
 by_cases c5 : t389 < 0
 rotate_left
 ·rw [if_neg c5] at H
  have c5b0 : decide (t389 < 0) = false := decide_eq_false c5
  clear c5
  replace H := Option.bind_eq_some_iff.mp H
  obtain ⟨⟨t390, t391, t394⟩, A90, H⟩ := H
  replace H : ((spec_MoveRule.f k t390 t391 t394 a1 a2).bind fun bt397 => ((laws_toRule.f k a0_0 l0_1 l0_2).bind fun bt406 => ((impl_MoveRule.f k bt406.1 bt406.2.1 bt406.2.2 a1 a2).bind fun bt414 => ((laws_eqRule.f k bt414.1 bt414.2.1 bt414.2.2.1 bt397.1 bt397.2.1 bt397.2.2.1).bind fun t423 => (if t423 = true then (laws_FnExactMoveRule.j0 k a1 a2 bt397.2.2.2 bt414.2.2.2 (bt414.2.2.2 != bt397.2.2.2) a0_0 l0_1 l0_2 bt397.1 bt397.2.1 bt397.2.2.1 bt406.1 bt406.2.1 bt406.2.2 bt414.1 bt414.2.1 bt414.2.2.1) else (laws_FnExactMoveRule.j0 k a1 a2 bt397.2.2.2 bt414.2.2.2 true a0_0 l0_1 l0_2 bt397.1 bt397.2.1 bt397.2.2.1 bt406.1 bt406.2.1 bt406.2.2 bt414.1 bt414.2.1 bt414.2.2.1)))))) = some r := H
  have A9 := zA A90
  clear A90
  replace H := Option.bind_eq_some_iff.mp H
  obtain ⟨⟨t397, t398, t401, t404⟩, A100, H⟩ := H
  replace H : ((laws_toRule.f k a0_0 l0_1 l0_2).bind fun bt406 => ((impl_MoveRule.f k bt406.1 bt406.2.1 bt406.2.2 a1 a2).bind fun bt414 => ((laws_eqRule.f k bt414.1 bt414.2.1 bt414.2.2.1 t397 t398 t401).bind fun t423 => (if t423 = true then (laws_FnExactMoveRule.j0 k a1 a2 t404 bt414.2.2.2 (bt414.2.2.2 != t404) a0_0 l0_1 l0_2 t397 t398 t401 bt406.1 bt406.2.1 bt406.2.2 bt414.1 bt414.2.1 bt414.2.2.1) else (laws_FnExactMoveRule.j0 k a1 a2 t404 bt414.2.2.2 true a0_0 l0_1 l0_2 t397 t398 t401 bt406.1 bt406.2.1 bt406.2.2 bt414.1 bt414.2.1 bt414.2.2.1))))) = some r := H
  have A10 := zA A100
  clear A100
  replace H := Option.bind_eq_some_iff.mp H
  obtain ⟨⟨t406, t407, t410⟩, A110, H⟩ := H
  replace H : ((impl_MoveRule.f k t406 t407 t410 a1 a2).bind fun bt414 => ((laws_eqRule.f k bt414.1 bt414.2.1 bt414.2.2.1 t397 t398 t401).bind fun t423 => (if t423 = true then (laws_FnExactMoveRule.j0 k a1 a2 t404 bt414.2.2.2 (bt414.2.2.2 != t404) a0_0 l0_1 l0_2 t397 t398 t401 t406 t407 t410 bt414.1 bt414.2.1 bt414.2.2.1) else (laws_FnExactMoveRule.j0 k a1 a2 t404 bt414.2.2.2 true a0_0 l0_1 l0_2 t397 t398 t401 t406 t407 t410 bt414.1 bt414.2.1 bt414.2.2.1)))) = some r := H
  have A11 := zA A110
  clear A110
  replace H := Option.bind_eq_some_iff.mp H
  obtain ⟨⟨t414, t415, t418, t421⟩, A120, H⟩ := H
  replace H : ((laws_eqRule.f k t414 t415 t418 t397 t398 t401).bind fun t423 => (if t423 = true then (laws_FnExactMoveRule.j0 k a1 a2 t404 t421 (t421 != t404) a0_0 l0_1 l0_2 t397 t398 t401 t406 t407 t410 t414 t415 t418) else (laws_FnExactMoveRule.j0 k a1 a2 t404 t421 true a0_0 l0_1 l0_2 t397 t398 t401 t406 t407 t410 t414 t415 t418))) = some r := H
  have A12 := zA A120
  clear A120
  have HC13 := zA H
  clear H
  go_enter Try.func6, Try.ntmps6
  go_upto_region 8 with (first | ((with_reducible refine gate_dst (N := 3) rfl ?_); refine bx 3 #[.int .i64 a0_0, .slice A0_1 l0_1.length c0_1, .slice A0_2 l0_2.length c0_2] 49 ?_; intro gb388 hg w14 hbox hb; have BK388 := zA (hbox); have GW388 := gq HB hg; have GE388 := gq HB hg; replace HB := xH HB hb; have := geI GE388; clear hb hbox hg; have hcz15_0 := bc BK388 0; have hcz15_1 := bc BK388 1; have hcz15_2 := bc BK388 2; have hfz15_0 := bf BK388 0; have hfz15_1 := bf BK388 1; have hfz15_2 := bf BK388 2) | ((with_reducible refine gate_callee (f := 25) rfl ?_); refine gL (some 20) Try.func25 #[.agg #[.int .i64 a0_0, .slice A0_1 l0_1.length c0_1, .slice A0_2 l0_2.length c0_2], .int .i64 1048576] ?_; (with_reducible refine (laws_szRule.calls a0_0 _ _ l0_1 _ _ l0_2 1048576 t389 _ ?side1 ?side2 ?side3 ?side4 A4.out).mono ?_); (case side1 => exact uC ((Kd.C_below HR0_1.out HB.out))); (case side2 => exact HC0_1.out); (case side3 => exact uC ((Kd.C_below HR0_2.out HB.out))); (case side4 => exact HC0_2.out); rintro e w16 ⟨rfl, hb⟩; refine ⟨_, rfl, ?_⟩; replace BK388 := xB BK388 hb; replace HB := xH HB hb; (try clear hb); (try clear hb2); (try clear hk); (try clear hi); have hcz17_0 := bc BK388 0; have hcz17_1 := bc BK388 1; have hcz17_2 := bc BK388 2; have hfz17_0 := bf BK388 0; have hfz17_1 := bf BK388 1; have hfz17_2 := bf BK388 2) | ((with_reducible refine gate_callee (f := 27) rfl ?_); refine gL (some 25) Try.func27 #[.agg #[.int .i64 a0_0, .slice A0_1 l0_1.length c0_1, .slice A0_2 l0_2.length c0_2]] ?_; (with_reducible refine (laws_toRule.calls k a0_0 _ _ l0_1 _ _ l0_2 t390 t391 t394 _ ?side1 ?side2 ?side3 ?side4 A9.out).mono ?_); (case side1 => exact uC ((Kd.C_below HR0_1.out HB.out))); (case side2 => exact HC0_1.out); (case side3 => exact uC ((Kd.C_below HR0_2.out HB.out))); (case side4 => exact HC0_2.out); rintro e w18 ⟨v392, v395, rfl, ho0, ho1, hb⟩; refine ⟨_, rfl, ?_⟩; have HO393 := zA (Kd.R_lower ho0 (below_size (uH HB.out))); have HO396 := zA (Kd.R_lower ho1 (below_size (uH HB.out))); replace BK388 := xB BK388 hb; replace HB := xH HB hb; (try clear hb); (try clear hb2); (try clear hk); (try clear hi); (try clear ho0); (try clear ho1); obtain ⟨Ao19, co19, eo19⟩ := Kd.R_slice HO393.out; subst eo19; obtain ⟨Ao20, co20, eo20⟩ := Kd.R_slice HO396.out; subst eo20) | ((with_reducible refine gate_callee (f := 32) rfl ?_); refine gL (some 28) Try.func32 #[.agg #[.int .i64 t390, .slice Ao19 t391.length co19, .slice Ao20 t394.length co20], .int .i64 a1, .int .i64 a2] ?_; (with_reducible refine (spec_MoveRule.calls k t390 _ _ t391 _ _ t394 a1 a2 t397 t398 t401 t404 _ ?side1 ?side2 ?side3 ?side4 A10.out).mono ?_); (case side1 => exact uC ((Kd.R_reads' HO393.out).2.2)); (case side2 => exact (Kd.R_reads' HO393.out).2.1); (case side3 => exact uC ((Kd.R_reads' HO396.out).2.2)); (case side4 => exact (Kd.R_reads' HO396.out).2.1); rintro e w21 ⟨v399, v402, rfl, ho0, ho1, hb⟩; refine ⟨_, rfl, ?_⟩; have HO400 := zA (Kd.R_lower (Kd.R_new' (Kd.R_new' ho0 (Kd.R_lt (uR HO393.out))) (Kd.R_lt (uR HO396.out))) (below_size (uH HB.out))); have HO403 := zA (Kd.R_lower (Kd.R_new' (Kd.R_new' ho1 (Kd.R_lt (uR HO393.out))) (Kd.R_lt (uR HO396.out))) (below_size (uH HB.out))); replace HO393 := zA (Kd.R_mono (Kd.R_told (Kd.R_told (Kd.R_old (uR HO393.out) hb) (Kd.R_base ho0)) (Kd.R_base ho1)) (fun _ h_ => h_.1)); replace HO396 := zA (Kd.R_mono (Kd.R_told (Kd.R_told (Kd.R_old (uR HO396.out) hb) (Kd.R_base ho0)) (Kd.R_base ho1)) (fun _ h_ => h_.1)); replace BK388 := xB BK388 hb; replace HB := xH HB hb; (try clear hb); (try clear hb2); (try clear hk); (try clear hi); (try clear ho0); (try clear ho1)) | ((with_reducible refine gate_dst (N := 8) rfl ?_); refine bx 8 #[.int .i64 0, .slice none 0 0, .slice none 0 0] 51 ?_; intro gb405 hg w22 hbox hb; replace HO393 := xR HO393 hb; replace HO396 := xR HO396 hb; replace HO400 := xR HO400 hb; replace HO403 := xR HO403 hb; have BK405 := zA (hbox); have GW405 := gq HB hg; have GE405 := gq HB hg; replace HB := xH HB hb; have NB388_405 := zA ((by rw [hg]; exact neL BK388 : gb388 ≠ gb405)); have NB405_388 := zA ((by rw [hg]; exact neG BK388 : gb405 ≠ gb388)); replace BK388 := xB BK388 hb; have := geI GE405; clear hb hbox hg; have hnb23 := NB405_388.out; have hnc23 := NB388_405.out; have hcz24_0 := bc BK405 0; have hcz24_1 := bc BK405 1; have hcz24_2 := bc BK405 2; have hfz24_0 := bf BK405 0; have hfz24_1 := bf BK405 1; have hfz24_2 := bf BK405 2; obtain ⟨Ao25, co25, eo25⟩ := Kd.R_slice HO400.out; subst eo25; obtain ⟨Ao26, co26, eo26⟩ := Kd.R_slice HO403.out; subst eo26; have hcz27_0 := bc BK388 0; have hcz27_1 := bc BK388 1; have hcz27_2 := bc BK388 2; have hfz27_0 := bf BK388 0; have hfz27_1 := bf BK388 1; have hfz27_2 := bf BK388 2) | ((with_reducible refine gate_callee (f := 27) rfl ?_); refine gL (some 32) Try.func27 #[.agg #[.int .i64 a0_0, .slice A0_1 l0_1.length c0_1, .slice A0_2 l0_2.length c0_2]] ?_; (with_reducible refine (laws_toRule.calls k a0_0 _ _ l0_1 _ _ l0_2 t406 t407 t410 _ ?side1 ?side2 ?side3 ?side4 A11.out).mono ?_); (case side1 => exact Kd.C_below HR0_1.out (uH HB.out)); (case side2 => exact HC0_1.out); (case side3 => exact Kd.C_below HR0_2.out (uH HB.out)); (case side4 => exact HC0_2.out); rintro e w28 ⟨v408, v411, rfl, ho0, ho1, hb⟩; refine ⟨_, rfl, ?_⟩; have HO409 := zA (Kd.R_lower (Kd.R_new' (Kd.R_new' (Kd.R_new' (Kd.R_new' ho0 (Kd.R_lt (uR ((rf3 HO393 BK405 (by decide) (.int .i64 t397) (.slice Ao25 t398.length co25) (.slice Ao26 t401.length co26)))))) (Kd.R_lt (uR ((rf3 HO396 BK405 (by decide) (.int .i64 t397) (.slice Ao25 t398.length co25) (.slice Ao26 t401.length co26)))))) (Kd.R_lt (uR ((rf3 HO400 BK405 (by decide) (.int .i64 t397) (.slice Ao25 t398.length co25) (.slice Ao26 t401.length co26)))))) (Kd.R_lt (uR ((rf3 HO403 BK405 (by decide) (.int .i64 t397) (.slice Ao25 t398.length co25) (.slice Ao26 t401.length co26)))))) (below_size (uH HB.out))); have HO412 := zA (Kd.R_lower (Kd.R_new' (Kd.R_new' (Kd.R_new' (Kd.R_new' ho1 (Kd.R_lt (uR ((rf3 HO393 BK405 (by decide) (.int .i64 t397) (.slice Ao25 t398.length co25) (.slice Ao26 t401.length co26)))))) (Kd.R_lt (uR ((rf3 HO396 BK405 (by decide) (.int .i64 t397) (.slice Ao25 t398.length co25) (.slice Ao26 t401.length co26)))))) (Kd.R_lt (uR ((rf3 HO400 BK405 (by decide) (.int .i64 t397) (.slice Ao25 t398.length co25) (.slice Ao26 t401.length co26)))))) (Kd.R_lt (uR ((rf3 HO403 BK405 (by decide) (.int .i64 t397) (.slice Ao25 t398.length co25) (.slice Ao26 t401.length co26)))))) (below_size (uH HB.out))); replace HO393 := zA (Kd.R_mono (Kd.R_told (Kd.R_told (Kd.R_old (uR ((rf3 HO393 BK405 (by decide) (.int .i64 t397) (.slice Ao25 t398.length co25) (.slice Ao26 t401.length co26)))) hb) (Kd.R_base ho0)) (Kd.R_base ho1)) (fun _ h_ => h_.1)); replace HO396 := zA (Kd.R_mono (Kd.R_told (Kd.R_told (Kd.R_old (uR ((rf3 HO396 BK405 (by decide) (.int .i64 t397) (.slice Ao25 t398.length co25) (.slice Ao26 t401.length co26)))) hb) (Kd.R_base ho0)) (Kd.R_base ho1)) (fun _ h_ => h_.1)); replace HO400 := zA (Kd.R_mono (Kd.R_told (Kd.R_told (Kd.R_old (uR ((rf3 HO400 BK405 (by decide) (.int .i64 t397) (.slice Ao25 t398.length co25) (.slice Ao26 t401.length co26)))) hb) (Kd.R_base ho0)) (Kd.R_base ho1)) (fun _ h_ => h_.1)); replace HO403 := zA (Kd.R_mono (Kd.R_told (Kd.R_told (Kd.R_old (uR ((rf3 HO403 BK405 (by decide) (.int .i64 t397) (.slice Ao25 t398.length co25) (.slice Ao26 t401.length co26)))) hb) (Kd.R_base ho0)) (Kd.R_base ho1)) (fun _ h_ => h_.1)); replace BK388 := zA (blk_below (g := gb388) (o := .cells #[.int .i64 a0_0, .slice A0_1 l0_1.length c0_1, .slice A0_2 l0_2.length c0_2] 49 (0, 0)) (by (repeat refine up1 ?_); refine blk_far ?_ NB388_405.out _; (repeat refine up1 ?_); refine blk_far ?_ NB388_405.out _; (repeat refine up1 ?_); refine blk_far ?_ NB388_405.out _; (repeat refine up1 ?_); exact BK388.out) hb); replace BK405 := zA (blk_below (g := gb405) (o := .cells #[.int .i64 t397, .slice Ao25 t398.length co25, .slice Ao26 t401.length co26] 51 (0, 0)) (by (repeat refine up1 ?_); refine blk_put (cs := #[.int .i64 t397, .slice Ao25 t398.length co25, .slice none 0 0]) ?_ 2 _ rfl; (repeat refine up1 ?_); refine blk_put (cs := #[.int .i64 t397, .slice none 0 0, .slice none 0 0]) ?_ 1 _ rfl; (repeat refine up1 ?_); refine blk_put (cs := #[.int .i64 0, .slice none 0 0, .slice none 0 0]) ?_ 0 _ rfl; (repeat refine up1 ?_); exact BK405.out) hb); replace HB := xH HB hb; (try clear hb); (try clear hb2); (try clear hk); (try clear hi); (try clear ho0); (try clear ho1)) | ((with_reducible refine gate_dst (N := 10) rfl ?_); refine bx 10 #[.int .i64 0, .slice none 0 0, .slice none 0 0] 51 ?_; intro gb413 hg w29 hbox hb; replace HO393 := xR HO393 hb; replace HO396 := xR HO396 hb; replace HO400 := xR HO400 hb; replace HO403 := xR HO403 hb; replace HO409 := xR HO409 hb; replace HO412 := xR HO412 hb; have BK413 := zA (hbox); have GW413 := gq HB hg; have GE413 := gq HB hg; replace HB := xH HB hb; have NB388_413 := zA ((by rw [hg]; exact neL BK388 : gb388 ≠ gb413)); have NB413_388 := zA ((by rw [hg]; exact neG BK388 : gb413 ≠ gb388)); replace BK388 := xB BK388 hb; have NB405_413 := zA ((by rw [hg]; exact neL BK405 : gb405 ≠ gb413)); have NB413_405 := zA ((by rw [hg]; exact neG BK405 : gb413 ≠ gb405)); replace BK405 := xB BK405 hb; have := geI GE413; clear hb hbox hg; have hnb30 := NB413_388.out; have hnc30 := NB388_413.out; have hnb31 := NB413_405.out; have hnc31 := NB405_413.out; have hcz32_0 := bc BK413 0; have hcz32_1 := bc BK413 1; have hcz32_2 := bc BK413 2; have hfz32_0 := bf BK413 0; have hfz32_1 := bf BK413 1; have hfz32_2 := bf BK413 2; obtain ⟨Ao33, co33, eo33⟩ := Kd.R_slice HO409.out; subst eo33; obtain ⟨Ao34, co34, eo34⟩ := Kd.R_slice HO412.out; subst eo34) | ((with_reducible refine gate_callee (f := 33) rfl ?_); refine gL (some 37) Try.func33 #[.agg #[.int .i64 t406, .slice Ao33 t407.length co33, .slice Ao34 t410.length co34], .int .i64 a1, .int .i64 a2] ?_; (with_reducible refine (impl_MoveRule.calls k t406 _ _ t407 _ _ t410 a1 a2 t414 t415 t418 t421 _ ?side1 ?side2 ?side3 ?side4 A12.out).mono ?_); (case side1 => refine (Kd.R_reads' (e := 2) (base := w.heap.size) (ok := fun k_ => ((((ax k_ (.slice Ao34 t410.length co34) ∧ ax k_ (.slice Ao19 t391.length co19)) ∧ ax k_ (.slice Ao20 t394.length co20)) ∧ ax k_ (.slice Ao25 t398.length co25)) ∧ ax k_ (.slice Ao26 t401.length co26))) (n := t407.length) (c := co33) ?_).2.2; exact (uR ((rf3 HO409 BK413 (by decide) (.int .i64 t406) (.slice Ao33 t407.length co33) (.slice Ao34 t410.length co34))))); (case side2 => exact (Kd.R_reads' HO409.out).2.1); (case side3 => refine (Kd.R_reads' (e := 2) (base := w.heap.size) (ok := fun k_ => ((((ax k_ (.slice Ao33 t407.length co33) ∧ ax k_ (.slice Ao19 t391.length co19)) ∧ ax k_ (.slice Ao20 t394.length co20)) ∧ ax k_ (.slice Ao25 t398.length co25)) ∧ ax k_ (.slice Ao26 t401.length co26))) (n := t410.length) (c := co34) ?_).2.2; exact (uR ((rf3 HO412 BK413 (by decide) (.int .i64 t406) (.slice Ao33 t407.length co33) (.slice Ao34 t410.length co34))))); (case side4 => exact (Kd.R_reads' HO412.out).2.1); rintro e w35 ⟨v416, v419, rfl, ho0, ho1, hb⟩; refine ⟨_, rfl, ?_⟩; have HO417 := zA (Kd.R_lower (Kd.R_new' (Kd.R_new' (Kd.R_new' (Kd.R_new' (Kd.R_new' (Kd.R_new' ho0 (Kd.R_lt (uR ((rf3 HO393 BK413 (by decide) (.int .i64 t406) (.slice Ao33 t407.length co33) (.slice Ao34 t410.length co34)))))) (Kd.R_lt (uR ((rf3 HO396 BK413 (by decide) (.int .i64 t406) (.slice Ao33 t407.length co33) (.slice Ao34 t410.length co34)))))) (Kd.R_lt (uR ((rf3 HO400 BK413 (by decide) (.int .i64 t406) (.slice Ao33 t407.length co33) (.slice Ao34 t410.length co34)))))) (Kd.R_lt (uR ((rf3 HO403 BK413 (by decide) (.int .i64 t406) (.slice Ao33 t407.length co33) (.slice Ao34 t410.length co34)))))) (Kd.R_lt (uR ((rf3 HO409 BK413 (by decide) (.int .i64 t406) (.slice Ao33 t407.length co33) (.slice Ao34 t410.length co34)))))) (Kd.R_lt (uR ((rf3 HO412 BK413 (by decide) (.int .i64 t406) (.slice Ao33 t407.length co33) (.slice Ao34 t410.length co34)))))) (below_size (uH HB.out))); have HO420 := zA (Kd.R_lower (Kd.R_new' (Kd.R_new' (Kd.R_new' (Kd.R_new' (Kd.R_new' (Kd.R_new' ho1 (Kd.R_lt (uR ((rf3 HO393 BK413 (by decide) (.int .i64 t406) (.slice Ao33 t407.length co33) (.slice Ao34 t410.length co34)))))) (Kd.R_lt (uR ((rf3 HO396 BK413 (by decide) (.int .i64 t406) (.slice Ao33 t407.length co33) (.slice Ao34 t410.length co34)))))) (Kd.R_lt (uR ((rf3 HO400 BK413 (by decide) (.int .i64 t406) (.slice Ao33 t407.length co33) (.slice Ao34 t410.length co34)))))) (Kd.R_lt (uR ((rf3 HO403 BK413 (by decide) (.int .i64 t406) (.slice Ao33 t407.length co33) (.slice Ao34 t410.length co34)))))) (Kd.R_lt (uR ((rf3 HO409 BK413 (by decide) (.int .i64 t406) (.slice Ao33 t407.length co33) (.slice Ao34 t410.length co34)))))) (Kd.R_lt (uR ((rf3 HO412 BK413 (by decide) (.int .i64 t406) (.slice Ao33 t407.length co33) (.slice Ao34 t410.length co34)))))) (below_size (uH HB.out))); replace HO393 := zA (Kd.R_mono (Kd.R_told (Kd.R_told (Kd.R_old (uR ((rf3 HO393 BK413 (by decide) (.int .i64 t406) (.slice Ao33 t407.length co33) (.slice Ao34 t410.length co34)))) hb) (Kd.R_base ho0)) (Kd.R_base ho1)) (fun _ h_ => h_.1)); replace HO396 := zA (Kd.R_mono (Kd.R_told (Kd.R_told (Kd.R_old (uR ((rf3 HO396 BK413 (by decide) (.int .i64 t406) (.slice Ao33 t407.length co33) (.slice Ao34 t410.length co34)))) hb) (Kd.R_base ho0)) (Kd.R_base ho1)) (fun _ h_ => h_.1)); replace HO400 := zA (Kd.R_mono (Kd.R_told (Kd.R_told (Kd.R_old (uR ((rf3 HO400 BK413 (by decide) (.int .i64 t406) (.slice Ao33 t407.length co33) (.slice Ao34 t410.length co34)))) hb) (Kd.R_base ho0)) (Kd.R_base ho1)) (fun _ h_ => h_.1)); replace HO403 := zA (Kd.R_mono (Kd.R_told (Kd.R_told (Kd.R_old (uR ((rf3 HO403 BK413 (by decide) (.int .i64 t406) (.slice Ao33 t407.length co33) (.slice Ao34 t410.length co34)))) hb) (Kd.R_base ho0)) (Kd.R_base ho1)) (fun _ h_ => h_.1)); replace HO409 := zA (Kd.R_mono (Kd.R_told (Kd.R_told (Kd.R_old (uR ((rf3 HO409 BK413 (by decide) (.int .i64 t406) (.slice Ao33 t407.length co33) (.slice Ao34 t410.length co34)))) hb) (Kd.R_base ho0)) (Kd.R_base ho1)) (fun _ h_ => h_.1)); replace HO412 := zA (Kd.R_mono (Kd.R_told (Kd.R_told (Kd.R_old (uR ((rf3 HO412 BK413 (by decide) (.int .i64 t406) (.slice Ao33 t407.length co33) (.slice Ao34 t410.length co34)))) hb) (Kd.R_base ho0)) (Kd.R_base ho1)) (fun _ h_ => h_.1)); replace BK388 := zA (blk_below (g := gb388) (o := .cells #[.int .i64 a0_0, .slice A0_1 l0_1.length c0_1, .slice A0_2 l0_2.length c0_2] 49 (0, 0)) (by (repeat refine up1 ?_); refine blk_far ?_ NB388_413.out _; (repeat refine up1 ?_); refine blk_far ?_ NB388_413.out _; (repeat refine up1 ?_); refine blk_far ?_ NB388_413.out _; (repeat refine up1 ?_); exact BK388.out) hb); replace BK405 := zA (blk_below (g := gb405) (o := .cells #[.int .i64 t397, .slice Ao25 t398.length co25, .slice Ao26 t401.length co26] 51 (0, 0)) (by (repeat refine up1 ?_); refine blk_far ?_ NB405_413.out _; (repeat refine up1 ?_); refine blk_far ?_ NB405_413.out _; (repeat refine up1 ?_); refine blk_far ?_ NB405_413.out _; (repeat refine up1 ?_); exact BK405.out) hb); replace BK413 := zA (blk_below (g := gb413) (o := .cells #[.int .i64 t406, .slice Ao33 t407.length co33, .slice Ao34 t410.length co34] 51 (0, 0)) (by (repeat refine up1 ?_); refine blk_put (cs := #[.int .i64 t406, .slice Ao33 t407.length co33, .slice none 0 0]) ?_ 2 _ rfl; (repeat refine up1 ?_); refine blk_put (cs := #[.int .i64 t406, .slice none 0 0, .slice none 0 0]) ?_ 1 _ rfl; (repeat refine up1 ?_); refine blk_put (cs := #[.int .i64 0, .slice none 0 0, .slice none 0 0]) ?_ 0 _ rfl; (repeat refine up1 ?_); exact BK413.out) hb); replace HB := xH HB hb; (try clear hb); (try clear hb2); (try clear hk); (try clear hi); (try clear ho0); (try clear ho1)) | ((with_reducible refine gate_dst (N := 11) rfl ?_); refine bx 11 #[.int .i64 0, .slice none 0 0, .slice none 0 0] 51 ?_; intro gb422 hg w36 hbox hb; replace HO393 := xR HO393 hb; replace HO396 := xR HO396 hb; replace HO400 := xR HO400 hb; replace HO403 := xR HO403 hb; replace HO409 := xR HO409 hb; replace HO412 := xR HO412 hb; replace HO417 := xR HO417 hb; replace HO420 := xR HO420 hb; have BK422 := zA (hbox); have GW422 := gq HB hg; have GE422 := gq HB hg; replace HB := xH HB hb; have NB388_422 := zA ((by rw [hg]; exact neL BK388 : gb388 ≠ gb422)); have NB422_388 := zA ((by rw [hg]; exact neG BK388 : gb422 ≠ gb388)); replace BK388 := xB BK388 hb; have NB405_422 := zA ((by rw [hg]; exact neL BK405 : gb405 ≠ gb422)); have NB422_405 := zA ((by rw [hg]; exact neG BK405 : gb422 ≠ gb405)); replace BK405 := xB BK405 hb; have NB413_422 := zA ((by rw [hg]; exact neL BK413 : gb413 ≠ gb422)); have NB422_413 := zA ((by rw [hg]; exact neG BK413 : gb422 ≠ gb413)); replace BK413 := xB BK413 hb; have := geI GE422; clear hb hbox hg; have hnb37 := NB422_388.out; have hnc37 := NB388_422.out; have hnb38 := NB422_405.out; have hnc38 := NB405_422.out; have hnb39 := NB422_413.out; have hnc39 := NB413_422.out; have hcz40_0 := bc BK422 0; have hcz40_1 := bc BK422 1; have hcz40_2 := bc BK422 2; have hfz40_0 := bf BK422 0; have hfz40_1 := bf BK422 1; have hfz40_2 := bf BK422 2; obtain ⟨Ao41, co41, eo41⟩ := Kd.R_slice HO417.out; subst eo41; obtain ⟨Ao42, co42, eo42⟩ := Kd.R_slice HO420.out; subst eo42))
  (try simp only [Act.put, ls, lz, ln])
  go_cut [48] (fun v48 wc => ∃ (kq : Nat) (x48_12 : Bool), v48 = .bool x48_12 ∧ Aside0 (laws_FnExactMoveRule.j0 kq a1 a2 t404 t421 x48_12 a0_0 l0_1 l0_2 t397 t398 t401 t406 t407 t410 t414 t415 t418 = some r) ∧ Aside0 (kq ≤ k) ∧ Aside0 (Kd.R (Kd.int .i64) 2 wc w.heap.size (fun k_ => ax k_ (.slice Ao26 t401.length co26) ∧ ax k_ (.slice Ao33 t407.length co33) ∧ ax k_ (.slice Ao34 t410.length co34) ∧ ax k_ (.slice Ao41 t415.length co41) ∧ ax k_ (.slice Ao42 t418.length co42)) (.slice Ao25 t398.length co25) t398) ∧ Aside0 (Kd.R (Kd.int .i64) 2 wc w.heap.size (fun k_ => ax k_ (.slice Ao25 t398.length co25) ∧ ax k_ (.slice Ao33 t407.length co33) ∧ ax k_ (.slice Ao34 t410.length co34) ∧ ax k_ (.slice Ao41 t415.length co41) ∧ ax k_ (.slice Ao42 t418.length co42)) (.slice Ao26 t401.length co26) t401) ∧ Aside0 (Kd.R (Kd.int .i64) 2 wc w.heap.size (fun k_ => ax k_ (.slice Ao25 t398.length co25) ∧ ax k_ (.slice Ao26 t401.length co26) ∧ ax k_ (.slice Ao34 t410.length co34) ∧ ax k_ (.slice Ao41 t415.length co41) ∧ ax k_ (.slice Ao42 t418.length co42)) (.slice Ao33 t407.length co33) t407) ∧ Aside0 (Kd.R (Kd.int .i64) 2 wc w.heap.size (fun k_ => ax k_ (.slice Ao25 t398.length co25) ∧ ax k_ (.slice Ao26 t401.length co26) ∧ ax k_ (.slice Ao33 t407.length co33) ∧ ax k_ (.slice Ao41 t415.length co41) ∧ ax k_ (.slice Ao42 t418.length co42)) (.slice Ao34 t410.length co34) t410) ∧ Aside0 (Kd.R (Kd.int .i64) 2 wc w.heap.size (fun k_ => ax k_ (.slice Ao25 t398.length co25) ∧ ax k_ (.slice Ao26 t401.length co26) ∧ ax k_ (.slice Ao33 t407.length co33) ∧ ax k_ (.slice Ao34 t410.length co34) ∧ ax k_ (.slice Ao42 t418.length co42)) (.slice Ao41 t415.length co41) t415) ∧ Aside0 (Kd.R (Kd.int .i64) 2 wc w.heap.size (fun k_ => ax k_ (.slice Ao25 t398.length co25) ∧ ax k_ (.slice Ao26 t401.length co26) ∧ ax k_ (.slice Ao33 t407.length co33) ∧ ax k_ (.slice Ao34 t410.length co34) ∧ ax k_ (.slice Ao41 t415.length co41)) (.slice Ao42 t418.length co42) t418) ∧ Aside0 (wc.heap[gb388]? = some (.cells #[.int .i64 a0_0, (.slice A0_1 l0_1.length c0_1), (.slice A0_2 l0_2.length c0_2)] 49 (0, 0))) ∧ Aside0 (wc.heap[gb405]? = some (.cells #[.int .i64 t397, (.slice Ao25 t398.length co25), (.slice Ao26 t401.length co26)] 51 (0, 0))) ∧ Aside0 (wc.heap[gb413]? = some (.cells #[.int .i64 t406, (.slice Ao33 t407.length co33), (.slice Ao34 t410.length co34)] 51 (0, 0))) ∧ Aside0 (wc.heap[gb422]? = some (.cells #[.int .i64 t414, (.slice Ao41 t415.length co41), (.slice Ao42 t418.length co42)] 51 (0, 0))) ∧ Aside0 (Below w.heap.size w wc))
  case first =>
   have H := HC13.out
   clear HC13
   replace H := Option.bind_eq_some_iff.mp H
   obtain ⟨t423, A430, H⟩ := H
   replace H : (if t423 = true then (laws_FnExactMoveRule.j0 k a1 a2 t404 t421 (t421 != t404) a0_0 l0_1 l0_2 t397 t398 t401 t406 t407 t410 t414 t415 t418) else (laws_FnExactMoveRule.j0 k a1 a2 t404 t421 true a0_0 l0_1 l0_2 t397 t398 t401 t406 t407 t410 t414 t415 t418)) = some r := H
   have A43 := zA A430
   clear A430
   by_cases c44 : t423 = true
   ·subst c44
    have H1 : (laws_FnExactMoveRule.j0 k a1 a2 t404 t421 (t421 != t404) a0_0 l0_1 l0_2 t397 t398 t401 t406 t407 t410 t414 t415 t418) = some r := by rw [if_pos rfl] at H; exact H
    clear H
    have H := H1
    clear H1
    have H' := zA H
    clear H
    have hnb45 := NB422_388.out; have hnc45 := NB388_422.out; have hnb46 := NB422_405.out; have hnc46 := NB405_422.out; have hnb47 := NB422_413.out; have hnc47 := NB413_422.out
    have hcz48_0 := bc BK422 0
    have hcz48_1 := bc BK422 1
    have hcz48_2 := bc BK422 2
    have hfz48_0 := bf BK422 0
    have hfz48_1 := bf BK422 1
    have hfz48_2 := bf BK422 2
    have hnb49 := NB405_388.out; have hnc49 := NB388_405.out; have hnb50 := NB405_413.out; have hnc50 := NB413_405.out
    have hcz51_0 := bc BK405 0
    have hcz51_1 := bc BK405 1
    have hcz51_2 := bc BK405 2
    have hfz51_0 := bf BK405 0
    have hfz51_1 := bf BK405 1
    have hfz51_2 := bf BK405 2
    go_wp2_with (first | ((with_reducible refine gate_callee (f := 29) rfl ?_); refine gL (some 42) Try.func29 #[.agg #[.int .i64 t414, .slice Ao41 t415.length co41, .slice Ao42 t418.length co42], .agg #[.int .i64 t397, .slice Ao25 t398.length co25, .slice Ao26 t401.length co26]] ?_; (with_reducible refine (laws_eqRule.calls k t414 _ _ t415 _ _ t418 t397 _ _ t398 _ _ t401 true _ ?side1 ?side2 ?side3 ?side4 ?side5 ?side6 ?side7 ?side8 A43.out).mono ?_); (case side1 => refine (Kd.R_reads' (e := 2) (base := w.heap.size) (ok := fun k_ => ((((((ax k_ (.slice Ao42 t418.length co42) ∧ ax k_ (.slice Ao19 t391.length co19)) ∧ ax k_ (.slice Ao20 t394.length co20)) ∧ ax k_ (.slice Ao25 t398.length co25)) ∧ ax k_ (.slice Ao26 t401.length co26)) ∧ ax k_ (.slice Ao33 t407.length co33)) ∧ ax k_ (.slice Ao34 t410.length co34))) (n := t415.length) (c := co41) ?_).2.2; exact (uR ((rf3 HO417 BK422 (by decide) (.int .i64 t414) (.slice Ao41 t415.length co41) (.slice Ao42 t418.length co42))))); (case side2 => exact (Kd.R_reads' HO417.out).2.1); (case side3 => refine (Kd.R_reads' (e := 2) (base := w.heap.size) (ok := fun k_ => ((((((ax k_ (.slice Ao41 t415.length co41) ∧ ax k_ (.slice Ao19 t391.length co19)) ∧ ax k_ (.slice Ao20 t394.length co20)) ∧ ax k_ (.slice Ao25 t398.length co25)) ∧ ax k_ (.slice Ao26 t401.length co26)) ∧ ax k_ (.slice Ao33 t407.length co33)) ∧ ax k_ (.slice Ao34 t410.length co34))) (n := t418.length) (c := co42) ?_).2.2; exact (uR ((rf3 HO420 BK422 (by decide) (.int .i64 t414) (.slice Ao41 t415.length co41) (.slice Ao42 t418.length co42))))); (case side4 => exact (Kd.R_reads' HO420.out).2.1); (case side5 => refine (Kd.R_reads' (e := 2) (base := w.heap.size) (ok := fun k_ => ((((((ax k_ (.slice Ao26 t401.length co26) ∧ ax k_ (.slice Ao19 t391.length co19)) ∧ ax k_ (.slice Ao20 t394.length co20)) ∧ ax k_ (.slice Ao33 t407.length co33)) ∧ ax k_ (.slice Ao34 t410.length co34)) ∧ ax k_ (.slice Ao41 t415.length co41)) ∧ ax k_ (.slice Ao42 t418.length co42))) (n := t398.length) (c := co25) ?_).2.2; exact (uR ((rf3 HO400 BK422 (by decide) (.int .i64 t414) (.slice Ao41 t415.length co41) (.slice Ao42 t418.length co42))))); (case side6 => exact (Kd.R_reads' HO400.out).2.1); (case side7 => refine (Kd.R_reads' (e := 2) (base := w.heap.size) (ok := fun k_ => ((((((ax k_ (.slice Ao25 t398.length co25) ∧ ax k_ (.slice Ao19 t391.length co19)) ∧ ax k_ (.slice Ao20 t394.length co20)) ∧ ax k_ (.slice Ao33 t407.length co33)) ∧ ax k_ (.slice Ao34 t410.length co34)) ∧ ax k_ (.slice Ao41 t415.length co41)) ∧ ax k_ (.slice Ao42 t418.length co42))) (n := t401.length) (c := co26) ?_).2.2; exact (uR ((rf3 HO403 BK422 (by decide) (.int .i64 t414) (.slice Ao41 t415.length co41) (.slice Ao42 t418.length co42))))); (case side8 => exact (Kd.R_reads' HO403.out).2.1); rintro e w52 ⟨rfl, hb⟩; refine ⟨_, rfl, ?_⟩; replace HO393 := zA (Kd.R_below (uR ((rf3 HO393 BK422 (by decide) (.int .i64 t414) (.slice Ao41 t415.length co41) (.slice Ao42 t418.length co42)))) hb); replace HO396 := zA (Kd.R_below (uR ((rf3 HO396 BK422 (by decide) (.int .i64 t414) (.slice Ao41 t415.length co41) (.slice Ao42 t418.length co42)))) hb); replace HO400 := zA (Kd.R_below (uR ((rf3 HO400 BK422 (by decide) (.int .i64 t414) (.slice Ao41 t415.length co41) (.slice Ao42 t418.length co42)))) hb); replace HO403 := zA (Kd.R_below (uR ((rf3 HO403 BK422 (by decide) (.int .i64 t414) (.slice Ao41 t415.length co41) (.slice Ao42 t418.length co42)))) hb); replace HO409 := zA (Kd.R_below (uR ((rf3 HO409 BK422 (by decide) (.int .i64 t414) (.slice Ao41 t415.length co41) (.slice Ao42 t418.length co42)))) hb); replace HO412 := zA (Kd.R_below (uR ((rf3 HO412 BK422 (by decide) (.int .i64 t414) (.slice Ao41 t415.length co41) (.slice Ao42 t418.length co42)))) hb); replace HO417 := zA (Kd.R_below (uR ((rf3 HO417 BK422 (by decide) (.int .i64 t414) (.slice Ao41 t415.length co41) (.slice Ao42 t418.length co42)))) hb); replace HO420 := zA (Kd.R_below (uR ((rf3 HO420 BK422 (by decide) (.int .i64 t414) (.slice Ao41 t415.length co41) (.slice Ao42 t418.length co42)))) hb); replace BK388 := zA (blk_below (g := gb388) (o := .cells #[.int .i64 a0_0, .slice A0_1 l0_1.length c0_1, .slice A0_2 l0_2.length c0_2] 49 (0, 0)) (by (repeat refine up1 ?_); refine blk_far ?_ NB388_422.out _; (repeat refine up1 ?_); refine blk_far ?_ NB388_422.out _; (repeat refine up1 ?_); refine blk_far ?_ NB388_422.out _; (repeat refine up1 ?_); exact BK388.out) hb); replace BK405 := zA (blk_below (g := gb405) (o := .cells #[.int .i64 t397, .slice Ao25 t398.length co25, .slice Ao26 t401.length co26] 51 (0, 0)) (by (repeat refine up1 ?_); refine blk_far ?_ NB405_422.out _; (repeat refine up1 ?_); refine blk_far ?_ NB405_422.out _; (repeat refine up1 ?_); refine blk_far ?_ NB405_422.out _; (repeat refine up1 ?_); exact BK405.out) hb); replace BK413 := zA (blk_below (g := gb413) (o := .cells #[.int .i64 t406, .slice Ao33 t407.length co33, .slice Ao34 t410.length co34] 51 (0, 0)) (by (repeat refine up1 ?_); refine blk_far ?_ NB413_422.out _; (repeat refine up1 ?_); refine blk_far ?_ NB413_422.out _; (repeat refine up1 ?_); refine blk_far ?_ NB413_422.out _; (repeat refine up1 ?_); exact BK413.out) hb); replace BK422 := zA (blk_below (g := gb422) (o := .cells #[.int .i64 t414, .slice Ao41 t415.length co41, .slice Ao42 t418.length co42] 51 (0, 0)) (by (repeat refine up1 ?_); refine blk_put (cs := #[.int .i64 t414, .slice Ao41 t415.length co41, .slice none 0 0]) ?_ 2 _ rfl; (repeat refine up1 ?_); refine blk_put (cs := #[.int .i64 t414, .slice none 0 0, .slice none 0 0]) ?_ 1 _ rfl; (repeat refine up1 ?_); refine blk_put (cs := #[.int .i64 0, .slice none 0 0, .slice none 0 0]) ?_ 0 _ rfl; (repeat refine up1 ?_); exact BK422.out) hb); replace HB := xH HB hb; (try clear hb); (try clear hb2); (try clear hk); (try clear hi)))
    go_meet
    case rel => exact ⟨_, ((t421 != t404)), (by first | rfl | (simp; done) | (simp [*]; done)), H', ⟨by first | omega | exact Nat.le_refl _⟩, ⟨uR (Kd.R_mono HO400.out (fun _ hk => ⟨hk.1.1.1.1.1.1, ⟨hk.1.1.1.2, ⟨hk.1.1.2, ⟨hk.1.2, hk.2⟩⟩⟩⟩))⟩, ⟨uR (Kd.R_mono HO403.out (fun _ hk => ⟨hk.1.1.1.1.1.1, ⟨hk.1.1.1.2, ⟨hk.1.1.2, ⟨hk.1.2, hk.2⟩⟩⟩⟩))⟩, ⟨uR (Kd.R_mono HO409.out (fun _ hk => ⟨hk.1.1.1.2, ⟨hk.1.1.2, ⟨hk.1.1.1.1.1.1, ⟨hk.1.2, hk.2⟩⟩⟩⟩))⟩, ⟨uR (Kd.R_mono HO412.out (fun _ hk => ⟨hk.1.1.1.2, ⟨hk.1.1.2, ⟨hk.1.1.1.1.1.1, ⟨hk.1.2, hk.2⟩⟩⟩⟩))⟩, ⟨uR (Kd.R_mono HO417.out (fun _ hk => ⟨hk.1.1.1.2, ⟨hk.1.1.2, ⟨hk.1.2, ⟨hk.2, hk.1.1.1.1.1.1⟩⟩⟩⟩))⟩, ⟨uR (Kd.R_mono HO420.out (fun _ hk => ⟨hk.1.1.1.2, ⟨hk.1.1.2, ⟨hk.1.2, ⟨hk.2, hk.1.1.1.1.1.1⟩⟩⟩⟩))⟩, ⟨uB BK388.out⟩, ⟨uB BK405.out⟩, ⟨uB BK413.out⟩, ⟨uB BK422.out⟩, ⟨uH HB.out⟩⟩
   ·replace c44 := Bool.eq_false_iff.mpr c44
    subst c44
    have H1 : (laws_FnExactMoveRule.j0 k a1 a2 t404 t421 true a0_0 l0_1 l0_2 t397 t398 t401 t406 t407 t410 t414 t415 t418) = some r := by rw [if_neg (show ¬ (false = true) by decide)] at H; exact H
    clear H
    have H := H1
    clear H1
    have H' := zA H
    clear H
    have hnb53 := NB422_388.out; have hnc53 := NB388_422.out; have hnb54 := NB422_405.out; have hnc54 := NB405_422.out; have hnb55 := NB422_413.out; have hnc55 := NB413_422.out
    have hcz56_0 := bc BK422 0
    have hcz56_1 := bc BK422 1
    have hcz56_2 := bc BK422 2
    have hfz56_0 := bf BK422 0
    have hfz56_1 := bf BK422 1
    have hfz56_2 := bf BK422 2
    have hnb57 := NB405_388.out; have hnc57 := NB388_405.out; have hnb58 := NB405_413.out; have hnc58 := NB413_405.out
    have hcz59_0 := bc BK405 0
    have hcz59_1 := bc BK405 1
    have hcz59_2 := bc BK405 2
    have hfz59_0 := bf BK405 0
    have hfz59_1 := bf BK405 1
    have hfz59_2 := bf BK405 2
    go_wp2_with (first | ((with_reducible refine gate_callee (f := 29) rfl ?_); refine gL (some 42) Try.func29 #[.agg #[.int .i64 t414, .slice Ao41 t415.length co41, .slice Ao42 t418.length co42], .agg #[.int .i64 t397, .slice Ao25 t398.length co25, .slice Ao26 t401.length co26]] ?_; (with_reducible refine (laws_eqRule.calls k t414 _ _ t415 _ _ t418 t397 _ _ t398 _ _ t401 false _ ?side1 ?side2 ?side3 ?side4 ?side5 ?side6 ?side7 ?side8 A43.out).mono ?_); (case side1 => refine (Kd.R_reads' (e := 2) (base := w.heap.size) (ok := fun k_ => ((((((ax k_ (.slice Ao42 t418.length co42) ∧ ax k_ (.slice Ao19 t391.length co19)) ∧ ax k_ (.slice Ao20 t394.length co20)) ∧ ax k_ (.slice Ao25 t398.length co25)) ∧ ax k_ (.slice Ao26 t401.length co26)) ∧ ax k_ (.slice Ao33 t407.length co33)) ∧ ax k_ (.slice Ao34 t410.length co34))) (n := t415.length) (c := co41) ?_).2.2; exact (uR ((rf3 HO417 BK422 (by decide) (.int .i64 t414) (.slice Ao41 t415.length co41) (.slice Ao42 t418.length co42))))); (case side2 => exact (Kd.R_reads' HO417.out).2.1); (case side3 => refine (Kd.R_reads' (e := 2) (base := w.heap.size) (ok := fun k_ => ((((((ax k_ (.slice Ao41 t415.length co41) ∧ ax k_ (.slice Ao19 t391.length co19)) ∧ ax k_ (.slice Ao20 t394.length co20)) ∧ ax k_ (.slice Ao25 t398.length co25)) ∧ ax k_ (.slice Ao26 t401.length co26)) ∧ ax k_ (.slice Ao33 t407.length co33)) ∧ ax k_ (.slice Ao34 t410.length co34))) (n := t418.length) (c := co42) ?_).2.2; exact (uR ((rf3 HO420 BK422 (by decide) (.int .i64 t414) (.slice Ao41 t415.length co41) (.slice Ao42 t418.length co42))))); (case side4 => exact (Kd.R_reads' HO420.out).2.1); (case side5 => refine (Kd.R_reads' (e := 2) (base := w.heap.size) (ok := fun k_ => ((((((ax k_ (.slice Ao26 t401.length co26) ∧ ax k_ (.slice Ao19 t391.length co19)) ∧ ax k_ (.slice Ao20 t394.length co20)) ∧ ax k_ (.slice Ao33 t407.length co33)) ∧ ax k_ (.slice Ao34 t410.length co34)) ∧ ax k_ (.slice Ao41 t415.length co41)) ∧ ax k_ (.slice Ao42 t418.length co42))) (n := t398.length) (c := co25) ?_).2.2; exact (uR ((rf3 HO400 BK422 (by decide) (.int .i64 t414) (.slice Ao41 t415.length co41) (.slice Ao42 t418.length co42))))); (case side6 => exact (Kd.R_reads' HO400.out).2.1); (case side7 => refine (Kd.R_reads' (e := 2) (base := w.heap.size) (ok := fun k_ => ((((((ax k_ (.slice Ao25 t398.length co25) ∧ ax k_ (.slice Ao19 t391.length co19)) ∧ ax k_ (.slice Ao20 t394.length co20)) ∧ ax k_ (.slice Ao33 t407.length co33)) ∧ ax k_ (.slice Ao34 t410.length co34)) ∧ ax k_ (.slice Ao41 t415.length co41)) ∧ ax k_ (.slice Ao42 t418.length co42))) (n := t401.length) (c := co26) ?_).2.2; exact (uR ((rf3 HO403 BK422 (by decide) (.int .i64 t414) (.slice Ao41 t415.length co41) (.slice Ao42 t418.length co42))))); (case side8 => exact (Kd.R_reads' HO403.out).2.1); rintro e w60 ⟨rfl, hb⟩; refine ⟨_, rfl, ?_⟩; replace HO393 := zA (Kd.R_below (uR ((rf3 HO393 BK422 (by decide) (.int .i64 t414) (.slice Ao41 t415.length co41) (.slice Ao42 t418.length co42)))) hb); replace HO396 := zA (Kd.R_below (uR ((rf3 HO396 BK422 (by decide) (.int .i64 t414) (.slice Ao41 t415.length co41) (.slice Ao42 t418.length co42)))) hb); replace HO400 := zA (Kd.R_below (uR ((rf3 HO400 BK422 (by decide) (.int .i64 t414) (.slice Ao41 t415.length co41) (.slice Ao42 t418.length co42)))) hb); replace HO403 := zA (Kd.R_below (uR ((rf3 HO403 BK422 (by decide) (.int .i64 t414) (.slice Ao41 t415.length co41) (.slice Ao42 t418.length co42)))) hb); replace HO409 := zA (Kd.R_below (uR ((rf3 HO409 BK422 (by decide) (.int .i64 t414) (.slice Ao41 t415.length co41) (.slice Ao42 t418.length co42)))) hb); replace HO412 := zA (Kd.R_below (uR ((rf3 HO412 BK422 (by decide) (.int .i64 t414) (.slice Ao41 t415.length co41) (.slice Ao42 t418.length co42)))) hb); replace HO417 := zA (Kd.R_below (uR ((rf3 HO417 BK422 (by decide) (.int .i64 t414) (.slice Ao41 t415.length co41) (.slice Ao42 t418.length co42)))) hb); replace HO420 := zA (Kd.R_below (uR ((rf3 HO420 BK422 (by decide) (.int .i64 t414) (.slice Ao41 t415.length co41) (.slice Ao42 t418.length co42)))) hb); replace BK388 := zA (blk_below (g := gb388) (o := .cells #[.int .i64 a0_0, .slice A0_1 l0_1.length c0_1, .slice A0_2 l0_2.length c0_2] 49 (0, 0)) (by (repeat refine up1 ?_); refine blk_far ?_ NB388_422.out _; (repeat refine up1 ?_); refine blk_far ?_ NB388_422.out _; (repeat refine up1 ?_); refine blk_far ?_ NB388_422.out _; (repeat refine up1 ?_); exact BK388.out) hb); replace BK405 := zA (blk_below (g := gb405) (o := .cells #[.int .i64 t397, .slice Ao25 t398.length co25, .slice Ao26 t401.length co26] 51 (0, 0)) (by (repeat refine up1 ?_); refine blk_far ?_ NB405_422.out _; (repeat refine up1 ?_); refine blk_far ?_ NB405_422.out _; (repeat refine up1 ?_); refine blk_far ?_ NB405_422.out _; (repeat refine up1 ?_); exact BK405.out) hb); replace BK413 := zA (blk_below (g := gb413) (o := .cells #[.int .i64 t406, .slice Ao33 t407.length co33, .slice Ao34 t410.length co34] 51 (0, 0)) (by (repeat refine up1 ?_); refine blk_far ?_ NB413_422.out _; (repeat refine up1 ?_); refine blk_far ?_ NB413_422.out _; (repeat refine up1 ?_); refine blk_far ?_ NB413_422.out _; (repeat refine up1 ?_); exact BK413.out) hb); replace BK422 := zA (blk_below (g := gb422) (o := .cells #[.int .i64 t414, .slice Ao41 t415.length co41, .slice Ao42 t418.length co42] 51 (0, 0)) (by (repeat refine up1 ?_); refine blk_put (cs := #[.int .i64 t414, .slice Ao41 t415.length co41, .slice none 0 0]) ?_ 2 _ rfl; (repeat refine up1 ?_); refine blk_put (cs := #[.int .i64 t414, .slice none 0 0, .slice none 0 0]) ?_ 1 _ rfl; (repeat refine up1 ?_); refine blk_put (cs := #[.int .i64 0, .slice none 0 0, .slice none 0 0]) ?_ 0 _ rfl; (repeat refine up1 ?_); exact BK422.out) hb); replace HB := xH HB hb; (try clear hb); (try clear hb2); (try clear hk); (try clear hi)))
    go_meet
    case rel => exact ⟨_, (true), (by first | rfl | (simp; done) | (simp [*]; done)), H', ⟨by first | omega | exact Nat.le_refl _⟩, ⟨uR (Kd.R_mono HO400.out (fun _ hk => ⟨hk.1.1.1.1.1.1, ⟨hk.1.1.1.2, ⟨hk.1.1.2, ⟨hk.1.2, hk.2⟩⟩⟩⟩))⟩, ⟨uR (Kd.R_mono HO403.out (fun _ hk => ⟨hk.1.1.1.1.1.1, ⟨hk.1.1.1.2, ⟨hk.1.1.2, ⟨hk.1.2, hk.2⟩⟩⟩⟩))⟩, ⟨uR (Kd.R_mono HO409.out (fun _ hk => ⟨hk.1.1.1.2, ⟨hk.1.1.2, ⟨hk.1.1.1.1.1.1, ⟨hk.1.2, hk.2⟩⟩⟩⟩))⟩, ⟨uR (Kd.R_mono HO412.out (fun _ hk => ⟨hk.1.1.1.2, ⟨hk.1.1.2, ⟨hk.1.1.1.1.1.1, ⟨hk.1.2, hk.2⟩⟩⟩⟩))⟩, ⟨uR (Kd.R_mono HO417.out (fun _ hk => ⟨hk.1.1.1.2, ⟨hk.1.1.2, ⟨hk.1.2, ⟨hk.2, hk.1.1.1.1.1.1⟩⟩⟩⟩))⟩, ⟨uR (Kd.R_mono HO420.out (fun _ hk => ⟨hk.1.1.1.2, ⟨hk.1.1.2, ⟨hk.1.2, ⟨hk.2, hk.1.1.1.1.1.1⟩⟩⟩⟩))⟩, ⟨uB BK388.out⟩, ⟨uB BK405.out⟩, ⟨uB BK413.out⟩, ⟨uB BK422.out⟩, ⟨uH HB.out⟩⟩
  case rest =>
   clear HC13
   (try clear c2);(try clear p2);(try clear c3);(try clear c4);(try clear c5);(try clear c5b0);(try clear c6);(try clear c23);(try clear c25);(try clear c27);(try clear c29);(try clear c30);(try clear c31);(try clear c32);(try clear c33);(try clear c37);(try clear c38);(try clear c39);(try clear c44);(try clear c45);(try clear c46);(try clear c47);(try clear c49);(try clear c50);(try clear c53);(try clear c54)
   (try clear c55);(try clear c57);(try clear c58);(try clear hcz15_0);(try clear hcz15_1);(try clear hcz15_2);(try clear hcz17_0);(try clear hcz17_1);(try clear hcz17_2);(try clear hcz24_0);(try clear hcz24_1);(try clear hcz24_2);(try clear hcz27_0);(try clear hcz27_1);(try clear hcz27_2);(try clear hcz32_0);(try clear hcz32_1);(try clear hcz32_2);(try clear hcz40_0);(try clear hcz40_1);(try clear hcz40_2)
   (try clear hcz48_0);(try clear hcz48_1);(try clear hcz48_2);(try clear hcz51_0);(try clear hcz51_1);(try clear hcz51_2);(try clear hcz56_0);(try clear hcz56_1);(try clear hcz56_2);(try clear hcz59_0);(try clear hcz59_1);(try clear hcz59_2);(try clear hcz7_0);(try clear hcz7_1);(try clear hcz7_2);(try clear hfz15_0);(try clear hfz15_1);(try clear hfz15_2);(try clear hfz17_0);(try clear hfz17_1);(try clear hfz17_2)
   (try clear hfz24_0);(try clear hfz24_1);(try clear hfz24_2);(try clear hfz27_0);(try clear hfz27_1);(try clear hfz27_2);(try clear hfz32_0);(try clear hfz32_1);(try clear hfz32_2);(try clear hfz40_0);(try clear hfz40_1);(try clear hfz40_2);(try clear hfz48_0);(try clear hfz48_1);(try clear hfz48_2);(try clear hfz51_0);(try clear hfz51_1);(try clear hfz51_2);(try clear hfz56_0);(try clear hfz56_1)
   (try clear hfz56_2);(try clear hfz59_0);(try clear hfz59_1);(try clear hfz59_2);(try clear hfz7_0);(try clear hfz7_1);(try clear hfz7_2)
   obtain ⟨kq, x48_12, rfl, HA, HJ12, HO_406001, HO_406002, HO_414001, HO_414002, HO_423001, HO_423002, BK388, BK405, BK413, BK422, HB⟩ := hcut
   cases kq with
   | zero => exact absurd HA.out (by simp [laws_FnExactMoveRule.j0])
   | succ kj12 =>
    have H := HA.out
    clear HA
    simp only [laws_FnExactMoveRule.j0] at H
    by_cases c61 : x48_12 = true
    ·subst c61
     have H1 : (some false) = some r := by rw [if_pos rfl] at H; exact H
     clear H
     have H := H1
     clear H1
     rw [HRT.out] at H
     exact absurd H (by simp)
    ·replace c61 := Bool.eq_false_iff.mpr c61
     subst c61
     have H1 : ((laws_toRule.f kj12 a0_0 l0_1 l0_2).bind fun bt424 => ((laws_eqRule.f kj12 t406 t407 t410 bt424.1 bt424.2.1 bt424.2.2).bind fun t431 => (if t431 = true then ((laws_markRule.f kj12 t406 t407 t410 1).bind fun bt432 => (if bt432.1 < 0 then (laws_FnExactMoveRule.j1 kj12 a1 a2 t404 true a0_0 l0_1 l0_2 t397 t398 t401 t414 t415 t418) else ((laws_eqRule.f kj12 t414 t415 t418 t397 t398 t401).bind fun t435 => (if t435 = true then (laws_FnExactMoveRule.j1 kj12 a1 a2 t404 (t421 != t404) a0_0 l0_1 l0_2 t397 t398 t401 t414 t415 t418) else (laws_FnExactMoveRule.j1 kj12 a1 a2 t404 true a0_0 l0_1 l0_2 t397 t398 t401 t414 t415 t418))))) else (some false)))) = some r := by rw [if_neg (show ¬ (false = true) by decide)] at H; exact H
     clear H
     have H := H1
     clear H1
     replace H := Option.bind_eq_some_iff.mp H
     obtain ⟨⟨t424, t425, t428⟩, A620, H⟩ := H
     replace H : ((laws_eqRule.f kj12 t406 t407 t410 t424 t425 t428).bind fun t431 => (if t431 = true then ((laws_markRule.f kj12 t406 t407 t410 1).bind fun bt432 => (if bt432.1 < 0 then (laws_FnExactMoveRule.j1 kj12 a1 a2 t404 true a0_0 l0_1 l0_2 t397 t398 t401 t414 t415 t418) else ((laws_eqRule.f kj12 t414 t415 t418 t397 t398 t401).bind fun t435 => (if t435 = true then (laws_FnExactMoveRule.j1 kj12 a1 a2 t404 (t421 != t404) a0_0 l0_1 l0_2 t397 t398 t401 t414 t415 t418) else (laws_FnExactMoveRule.j1 kj12 a1 a2 t404 true a0_0 l0_1 l0_2 t397 t398 t401 t414 t415 t418))))) else (some false))) = some r := H
     have A62 := zA A620
     clear A620
     replace H := Option.bind_eq_some_iff.mp H
     obtain ⟨t431, A630, H⟩ := H
     replace H : (if t431 = true then ((laws_markRule.f kj12 t406 t407 t410 1).bind fun bt432 => (if bt432.1 < 0 then (laws_FnExactMoveRule.j1 kj12 a1 a2 t404 true a0_0 l0_1 l0_2 t397 t398 t401 t414 t415 t418) else ((laws_eqRule.f kj12 t414 t415 t418 t397 t398 t401).bind fun t435 => (if t435 = true then (laws_FnExactMoveRule.j1 kj12 a1 a2 t404 (t421 != t404) a0_0 l0_1 l0_2 t397 t398 t401 t414 t415 t418) else (laws_FnExactMoveRule.j1 kj12 a1 a2 t404 true a0_0 l0_1 l0_2 t397 t398 t401 t414 t415 t418))))) else (some false)) = some r := H
     have A63 := zA A630
     clear A630
     by_cases c64 : t431 = true
     ·subst c64
      have H1 : ((laws_markRule.f kj12 t406 t407 t410 1).bind fun bt432 => (if bt432.1 < 0 then (laws_FnExactMoveRule.j1 kj12 a1 a2 t404 true a0_0 l0_1 l0_2 t397 t398 t401 t414 t415 t418) else ((laws_eqRule.f kj12 t414 t415 t418 t397 t398 t401).bind fun t435 => (if t435 = true then (laws_FnExactMoveRule.j1 kj12 a1 a2 t404 (t421 != t404) a0_0 l0_1 l0_2 t397 t398 t401 t414 t415 t418) else (laws_FnExactMoveRule.j1 kj12 a1 a2 t404 true a0_0 l0_1 l0_2 t397 t398 t401 t414 t415 t418))))) = some r := by rw [if_pos rfl] at H; exact H
      clear H
      have H := H1
      clear H1
      replace H := Option.bind_eq_some_iff.mp H
      obtain ⟨⟨t432, t433, t434⟩, A650, H⟩ := H
      replace H : (if t432 < 0 then (laws_FnExactMoveRule.j1 kj12 a1 a2 t404 true a0_0 l0_1 l0_2 t397 t398 t401 t414 t415 t418) else ((laws_eqRule.f kj12 t414 t415 t418 t397 t398 t401).bind fun t435 => (if t435 = true then (laws_FnExactMoveRule.j1 kj12 a1 a2 t404 (t421 != t404) a0_0 l0_1 l0_2 t397 t398 t401 t414 t415 t418) else (laws_FnExactMoveRule.j1 kj12 a1 a2 t404 true a0_0 l0_1 l0_2 t397 t398 t401 t414 t415 t418)))) = some r := H
      have A65 := zA A650
      clear A650
      have HC66 := zA H
      clear H
      try go_wp2
      replace HO_406001 := zA (Kd.R_drew HO_406001.out)
      replace HO_406002 := zA (Kd.R_drew HO_406002.out)
      replace HO_414001 := zA (Kd.R_drew HO_414001.out)
      replace HO_414002 := zA (Kd.R_drew HO_414002.out)
      replace HO_423001 := zA (Kd.R_drew HO_423001.out)
      replace HO_423002 := zA (Kd.R_drew HO_423002.out)
      replace BK388 := zA (blk_drew BK388.out)
      replace BK405 := zA (blk_drew BK405.out)
      replace BK413 := zA (blk_drew BK413.out)
      replace BK422 := zA (blk_drew BK422.out)
      replace HB := zA (below_drew1 HB.out)
      refine start_ (n := 5) (S := fun w' => w'.cell? ⟨gb413, 0, none⟩ = some (.int .i64 t406) ∧ w'.cell? ⟨gb413, 1, none⟩ = some (.slice Ao33 t407.length co33) ∧ w'.cell? ⟨gb413, 2, none⟩ = some (.slice Ao34 t410.length co34) ∧ w'.cell? ⟨gb388, 0, none⟩ = some (.int .i64 a0_0) ∧ w'.cell? ⟨gb388, 1, none⟩ = some (.slice A0_1 l0_1.length c0_1) ∧ w'.cell? ⟨gb388, 2, none⟩ = some (.slice A0_2 l0_2.length c0_2)) (ds := []) #[false, false, false, false, false] (by kernel_rfl) rfl rfl ⟨bcu BK413 0, bcu BK413 1, bcu BK413 2, bcu BK388 0, bcu BK388 1, bcu BK388 2⟩ (fun hHeld => ?_)
      generalize wc.drew = w67 at HO_406001 HO_406002 HO_414001 HO_414002 HO_423001 HO_423002 BK388 BK405 BK413 BK422 HB hHeld ⊢
      refine take_ (i := 0) (N := some 49) (v := ?_) (a' := ?_) (bl 5 1) rfl rfl (by kernel_rfl) (fun _ _ _ h => h) (Or.inl ⟨by rfl, ?_⟩) hHeld ?_ ?_
      rotate_left
      ·rintro w' ⟨s0, s1, s2, s3, s4, s5⟩
       go_simp
       with_reducible rfl
      rotate_left
      ·simp only [Act.put, ls, lz, ln, i64_w, i32_w]
       rfl
      refine take_ (i := 1) (N := some 50) (v := ?_) (a' := ?_) (bl 5 3) rfl rfl (by kernel_rfl) (fun _ _ _ h => h) (Or.inl ⟨by rfl, ?_⟩) hHeld ?_ ?_
      rotate_left
      ·rintro w' ⟨s0, s1, s2, s3, s4, s5⟩
       go_simp
       with_reducible rfl
      rotate_left
      ·simp only [Act.put, ls, lz, ln, i64_w, i32_w]
       rfl
      refine one_ (i := 2) (N := some 51) (bl 5 7) rfl rfl (by kernel_rfl) (by decide) (fun K hK => ?_)
      refine gS Try.func27 #[.agg #[.int .i64 a0_0, .slice A0_1 l0_1.length c0_1, .slice A0_2 l0_2.length c0_2]] ?_
      with_reducible refine (laws_toRule.calls kj12 a0_0 _ _ l0_1 _ _ l0_2 t424 t425 t428 _ ?side1 ?side2 ?side3 ?side4 A62.out).mono ?_
      (case side1 => exact uC ((Kd.C_below HR0_1.out HB.out)))
      (case side2 => exact HC0_1.out)
      (case side3 => exact uC ((Kd.C_below HR0_2.out HB.out)))
      (case side4 => exact HC0_2.out)
      rintro e w68 ⟨v426, v429, rfl, ho0, ho1, hb⟩
      refine ⟨_, rfl, ?_⟩
      have HO427 := zA (Kd.R_lower (Kd.R_new' (Kd.R_new' (Kd.R_new' (Kd.R_new' (Kd.R_new' (Kd.R_new' ho0 (Kd.R_lt (uR HO_406001.out))) (Kd.R_lt (uR HO_406002.out))) (Kd.R_lt (uR HO_414001.out))) (Kd.R_lt (uR HO_414002.out))) (Kd.R_lt (uR HO_423001.out))) (Kd.R_lt (uR HO_423002.out))) (below_size (uH HB.out)))
      have HO430 := zA (Kd.R_lower (Kd.R_new' (Kd.R_new' (Kd.R_new' (Kd.R_new' (Kd.R_new' (Kd.R_new' ho1 (Kd.R_lt (uR HO_406001.out))) (Kd.R_lt (uR HO_406002.out))) (Kd.R_lt (uR HO_414001.out))) (Kd.R_lt (uR HO_414002.out))) (Kd.R_lt (uR HO_423001.out))) (Kd.R_lt (uR HO_423002.out))) (below_size (uH HB.out)))
      replace HO_406001 := zA (Kd.R_mono (Kd.R_told (Kd.R_told (Kd.R_old (uR HO_406001.out) hb) (Kd.R_base ho0)) (Kd.R_base ho1)) (fun _ h_ => h_.1))
      replace HO_406002 := zA (Kd.R_mono (Kd.R_told (Kd.R_told (Kd.R_old (uR HO_406002.out) hb) (Kd.R_base ho0)) (Kd.R_base ho1)) (fun _ h_ => h_.1))
      replace HO_414001 := zA (Kd.R_mono (Kd.R_told (Kd.R_told (Kd.R_old (uR HO_414001.out) hb) (Kd.R_base ho0)) (Kd.R_base ho1)) (fun _ h_ => h_.1))
      replace HO_414002 := zA (Kd.R_mono (Kd.R_told (Kd.R_told (Kd.R_old (uR HO_414002.out) hb) (Kd.R_base ho0)) (Kd.R_base ho1)) (fun _ h_ => h_.1))
      replace HO_423001 := zA (Kd.R_mono (Kd.R_told (Kd.R_told (Kd.R_old (uR HO_423001.out) hb) (Kd.R_base ho0)) (Kd.R_base ho1)) (fun _ h_ => h_.1))
      replace HO_423002 := zA (Kd.R_mono (Kd.R_told (Kd.R_told (Kd.R_old (uR HO_423002.out) hb) (Kd.R_base ho0)) (Kd.R_base ho1)) (fun _ h_ => h_.1))
      replace BK388 := xB BK388 hb
      replace BK405 := xB BK405 hb
      replace BK413 := xB BK413 hb
      replace BK422 := xB BK422 hb
      replace HB := xH HB hb
      (try clear hb); (try clear hb2); (try clear hk); (try clear hi); (try clear ho0); (try clear ho1)
      obtain ⟨Ao69, co69, eo69⟩ := Kd.R_slice HO427.out
      (first | subst eo69 | (injection eo69 with f1_ f2_ f3_; have f4_ := f1_.symm; have f5_ := f3_.symm; clear f1_ f2_ f3_; subst f4_; subst f5_))
      obtain ⟨Ao70, co70, eo70⟩ := Kd.R_slice HO430.out
      (first | subst eo70 | (injection eo70 with f1_ f2_ f3_; have f4_ := f1_.symm; have f5_ := f3_.symm; clear f1_ f2_ f3_; subst f4_; subst f5_))
      refine hK.out _ _ ⟨bcu BK413 0, bcu BK413 1, bcu BK413 2, bcu BK388 0, bcu BK388 1, bcu BK388 2⟩ (fun hHeld => ?_)
      clear hK K
      refine no_ 51 ?_
      refine one_ (i := 3) (N := some 52) (bl 5 15) rfl rfl (by kernel_rfl) (by decide) (fun K hK => ?_)
      refine gS Try.func29 #[.agg #[.int .i64 t406, .slice Ao33 t407.length co33, .slice Ao34 t410.length co34], .agg #[.int .i64 t424, .slice Ao69 t425.length co69, .slice Ao70 t428.length co70]] ?_
      with_reducible refine (laws_eqRule.calls kj12 t406 _ _ t407 _ _ t410 t424 _ _ t425 _ _ t428 true _ ?side1 ?side2 ?side3 ?side4 ?side5 ?side6 ?side7 ?side8 A63.out).mono ?_
      (case side1 => exact uC ((Kd.R_reads' HO_414001.out).2.2))
      (case side2 => exact (Kd.R_reads' HO_414001.out).2.1)
      (case side3 => exact uC ((Kd.R_reads' HO_414002.out).2.2))
      (case side4 => exact (Kd.R_reads' HO_414002.out).2.1)
      (case side5 => exact uC ((Kd.R_reads' HO427.out).2.2))
      (case side6 => exact (Kd.R_reads' HO427.out).2.1)
      (case side7 => exact uC ((Kd.R_reads' HO430.out).2.2))
      (case side8 => exact (Kd.R_reads' HO430.out).2.1)
      rintro e w71 ⟨rfl, hb⟩
      refine ⟨_, rfl, ?_⟩
      replace HO_406001 := xR HO_406001 hb
      replace HO_406002 := xR HO_406002 hb
      replace HO_414001 := xR HO_414001 hb
      replace HO_414002 := xR HO_414002 hb
      replace HO_423001 := xR HO_423001 hb
      replace HO_423002 := xR HO_423002 hb
      replace HO427 := xR HO427 hb
      replace HO430 := xR HO430 hb
      replace BK388 := xB BK388 hb
      replace BK405 := xB BK405 hb
      replace BK413 := xB BK413 hb
      replace BK422 := xB BK422 hb
      replace HB := xH HB hb
      (try clear hb); (try clear hb2); (try clear hk); (try clear hi)
      refine hK.out _ _ ⟨bcu BK413 0, bcu BK413 1, bcu BK413 2, bcu BK388 0, bcu BK388 1, bcu BK388 2⟩ (fun hHeld => ?_)
      clear hK K
      refine no_ 52 ?_
      refine pure_ (i := 4) (N := some 53) (v := ?_) (a' := ?_) (bl 5 31) rfl rfl (by kernel_rfl) (fun _ _ _ h => h) (Or.inl ⟨by rfl, ?_⟩) ?_ ?_
      rotate_left
      ·intro w'
       go_simp
       with_reducible rfl
      rotate_left
      ·simp only [Act.put, ls, lz, ln, i64_w, i32_w]
       rfl
      refine done_ (by kernel_rfl) ?_
      have hnb72 := NB413_388.out; have hnc72 := NB388_413.out; have hnb73 := NB413_405.out; have hnc73 := NB405_413.out; have hnb74 := NB413_422.out; have hnc74 := NB422_413.out
      have hcz75_0 := bc BK413 0
      have hcz75_1 := bc BK413 1
      have hcz75_2 := bc BK413 2
      have hfz75_0 := bf BK413 0
      have hfz75_1 := bf BK413 1
      have hfz75_2 := bf BK413 2
      go_upto_region 14 with (first | ((with_reducible refine gate_callee (f := 30) rfl ?_); refine gL (some 56) Try.func30 #[.agg #[.int .i64 t406, .slice Ao33 t407.length co33, .slice Ao34 t410.length co34], .int .i64 1] ?_; (with_reducible refine (laws_markRule.calls kj12 t406 (fun k_ => some k_ = (.slice Ao33 t407.length co33 : Value).ownBlock) (.slice Ao33 t407.length co33) t407 (fun k_ => some k_ = (.slice Ao34 t410.length co34 : Value).ownBlock) (.slice Ao34 t410.length co34) t410 1 t432 t433 t434 w _ ?side1 ?side2 ?side3 ?side4 ?side5 A65.out).mono ?_); (case side1 => repeat (first | (with_reducible first | exact HB.out | apply below_alloc | apply pw_below_drewN | apply below_drew1 | refine below_set ?_ GE388.out | refine below_set ?_ GE405.out | refine below_set ?_ GE413.out | refine below_set ?_ GE422.out) | exact HB.out)); (case side2 => exact Kd.R_tight rfl HO_414001.out); (case side3 => exact fun k_ e_ => (HO_414001.out.1 k_ e_.symm).1.1.2.2.1); (case side4 => exact Kd.R_tight rfl HO_414002.out); (case side5 => exact fun k_ e_ => (HO_414002.out.1 k_ e_.symm).1.1.2.2.1); rintro e w76 ⟨rfl, hy0, hy1, hb, hkp⟩; refine ⟨_, rfl, ?_⟩; replace HO_406001 := zA (Kd.R_mono (ok' := fun k_ => ax k_ (.slice Ao26 t401.length co26) ∧ ax k_ (.slice Ao33 t407.length co33) ∧ ax k_ (.slice Ao34 t410.length co34) ∧ ax k_ (.slice Ao41 t415.length co41) ∧ ax k_ (.slice Ao42 t418.length co42) ∧ ax k_ (.slice Ao69 t425.length co69) ∧ ax k_ (.slice Ao70 t428.length co70)) (Kd.R_keptB (HO_406001.out) hkp (fun k_ hk_ hs_ => Or.elim hs_ (fun e_ => (hk_.1.1.2.1) e_) (fun e_ => (hk_.1.1.2.2.1) e_))) (fun k_ hk_ => ⟨hk_.1.1.1.1, hk_.1.1.1.2.1, hk_.1.1.1.2.2.1, hk_.1.1.1.2.2.2.1, hk_.1.1.1.2.2.2.2, hk_.1.1.2, hk_.1.2⟩)); replace HO_406002 := zA (Kd.R_mono (ok' := fun k_ => ax k_ (.slice Ao25 t398.length co25) ∧ ax k_ (.slice Ao33 t407.length co33) ∧ ax k_ (.slice Ao34 t410.length co34) ∧ ax k_ (.slice Ao41 t415.length co41) ∧ ax k_ (.slice Ao42 t418.length co42) ∧ ax k_ (.slice Ao69 t425.length co69) ∧ ax k_ (.slice Ao70 t428.length co70)) (Kd.R_keptB (HO_406002.out) hkp (fun k_ hk_ hs_ => Or.elim hs_ (fun e_ => (hk_.1.1.2.1) e_) (fun e_ => (hk_.1.1.2.2.1) e_))) (fun k_ hk_ => ⟨hk_.1.1.1.1, hk_.1.1.1.2.1, hk_.1.1.1.2.2.1, hk_.1.1.1.2.2.2.1, hk_.1.1.1.2.2.2.2, hk_.1.1.2, hk_.1.2⟩)); replace HO_423001 := zA (Kd.R_mono (ok' := fun k_ => ax k_ (.slice Ao25 t398.length co25) ∧ ax k_ (.slice Ao26 t401.length co26) ∧ ax k_ (.slice Ao33 t407.length co33) ∧ ax k_ (.slice Ao34 t410.length co34) ∧ ax k_ (.slice Ao42 t418.length co42) ∧ ax k_ (.slice Ao69 t425.length co69) ∧ ax k_ (.slice Ao70 t428.length co70)) (Kd.R_keptB (HO_423001.out) hkp (fun k_ hk_ hs_ => Or.elim hs_ (fun e_ => (hk_.1.1.2.2.1) e_) (fun e_ => (hk_.1.1.2.2.2.1) e_))) (fun k_ hk_ => ⟨hk_.1.1.1.1, hk_.1.1.1.2.1, hk_.1.1.1.2.2.1, hk_.1.1.1.2.2.2.1, hk_.1.1.1.2.2.2.2, hk_.1.1.2, hk_.1.2⟩)); replace HO_423002 := zA (Kd.R_mono (ok' := fun k_ => ax k_ (.slice Ao25 t398.length co25) ∧ ax k_ (.slice Ao26 t401.length co26) ∧ ax k_ (.slice Ao33 t407.length co33) ∧ ax k_ (.slice Ao34 t410.length co34) ∧ ax k_ (.slice Ao41 t415.length co41) ∧ ax k_ (.slice Ao69 t425.length co69) ∧ ax k_ (.slice Ao70 t428.length co70)) (Kd.R_keptB (HO_423002.out) hkp (fun k_ hk_ hs_ => Or.elim hs_ (fun e_ => (hk_.1.1.2.2.1) e_) (fun e_ => (hk_.1.1.2.2.2.1) e_))) (fun k_ hk_ => ⟨hk_.1.1.1.1, hk_.1.1.1.2.1, hk_.1.1.1.2.2.1, hk_.1.1.1.2.2.2.1, hk_.1.1.1.2.2.2.2, hk_.1.1.2, hk_.1.2⟩)); replace BK388 := zA (blk_kept (uB BK388.out) hkp (fun hs_ => Or.elim hs_ (fun e_ => (fun e_ => (Kd.R_ne HO_414001.out BK388.out (by decide)) e_) e_) (fun e_ => (fun e_ => (Kd.R_ne HO_414002.out BK388.out (by decide)) e_) e_))); replace BK405 := zA (blk_kept (uB BK405.out) hkp (fun hs_ => Or.elim hs_ (fun e_ => (fun e_ => (Kd.R_ne HO_414001.out BK405.out (by decide)) e_) e_) (fun e_ => (fun e_ => (Kd.R_ne HO_414002.out BK405.out (by decide)) e_) e_))); replace BK413 := zA (blk_kept (uB BK413.out) hkp (fun hs_ => Or.elim hs_ (fun e_ => (fun e_ => (Kd.R_ne HO_414001.out BK413.out (by decide)) e_) e_) (fun e_ => (fun e_ => (Kd.R_ne HO_414002.out BK413.out (by decide)) e_) e_))); replace BK422 := zA (blk_kept (uB BK422.out) hkp (fun hs_ => Or.elim hs_ (fun e_ => (fun e_ => (Kd.R_ne HO_414001.out BK422.out (by decide)) e_) e_) (fun e_ => (fun e_ => (Kd.R_ne HO_414002.out BK422.out (by decide)) e_) e_))); replace HO_414001 := zA (Kd.R_reok rfl hy0 (fun k_ e_ => HO_414001.out.1 k_ e_)); replace HO_414002 := zA (Kd.R_reok rfl hy1 (fun k_ e_ => HO_414002.out.1 k_ e_)); replace HO427 := zA (Kd.R_mono (ok' := fun k_ => ax k_ (.slice Ao25 t398.length co25) ∧ ax k_ (.slice Ao26 t401.length co26) ∧ ax k_ (.slice Ao33 t407.length co33) ∧ ax k_ (.slice Ao34 t410.length co34) ∧ ax k_ (.slice Ao41 t415.length co41) ∧ ax k_ (.slice Ao42 t418.length co42) ∧ ax k_ (.slice Ao70 t428.length co70)) (Kd.R_keptB (HO427.out) hkp (fun k_ hk_ hs_ => Or.elim hs_ (fun e_ => (hk_.1.1.1.2) e_) (fun e_ => (hk_.1.1.2) e_))) (fun k_ hk_ => ⟨hk_.1.1.1.1.1.1.2, hk_.1.1.1.1.1.2, hk_.1.1.1.1.2, hk_.1.1.1.2, hk_.1.1.2, hk_.1.2, hk_.1.1.1.1.1.1.1⟩)); replace HO430 := zA (Kd.R_mono (ok' := fun k_ => ax k_ (.slice Ao25 t398.length co25) ∧ ax k_ (.slice Ao26 t401.length co26) ∧ ax k_ (.slice Ao33 t407.length co33) ∧ ax k_ (.slice Ao34 t410.length co34) ∧ ax k_ (.slice Ao41 t415.length co41) ∧ ax k_ (.slice Ao42 t418.length co42) ∧ ax k_ (.slice Ao69 t425.length co69)) (Kd.R_keptB (HO430.out) hkp (fun k_ hk_ hs_ => Or.elim hs_ (fun e_ => (hk_.1.1.1.2) e_) (fun e_ => (hk_.1.1.2) e_))) (fun k_ hk_ => ⟨hk_.1.1.1.1.1.1.2, hk_.1.1.1.1.1.2, hk_.1.1.1.1.2, hk_.1.1.1.2, hk_.1.1.2, hk_.1.2, hk_.1.1.1.1.1.1.1⟩)); replace HB := zA (hb); (try clear hb); (try clear hkp); (try clear hy0); (try clear hy1)))
      (try simp only [Act.put, ls, lz, ln])
      go_cut [69] (fun v69 wc => ∃ (kq : Nat) (x69_65 : Bool), v69 = .bool x69_65 ∧ Aside0 (laws_FnExactMoveRule.j1 kq a1 a2 t404 x69_65 a0_0 l0_1 l0_2 t397 t398 t401 t414 t415 t418 = some r) ∧ Aside0 (kq ≤ kj12) ∧ Aside0 (Kd.R (Kd.int .i64) 2 wc w.heap.size (fun k_ => ax k_ (.slice Ao26 t401.length co26) ∧ ax k_ (.slice Ao33 t407.length co33) ∧ ax k_ (.slice Ao34 t410.length co34) ∧ ax k_ (.slice Ao41 t415.length co41) ∧ ax k_ (.slice Ao42 t418.length co42)) (.slice Ao25 t398.length co25) t398) ∧ Aside0 (Kd.R (Kd.int .i64) 2 wc w.heap.size (fun k_ => ax k_ (.slice Ao25 t398.length co25) ∧ ax k_ (.slice Ao33 t407.length co33) ∧ ax k_ (.slice Ao34 t410.length co34) ∧ ax k_ (.slice Ao41 t415.length co41) ∧ ax k_ (.slice Ao42 t418.length co42)) (.slice Ao26 t401.length co26) t401) ∧ Aside0 (Kd.R (Kd.int .i64) 2 wc w.heap.size (fun k_ => ax k_ (.slice Ao25 t398.length co25) ∧ ax k_ (.slice Ao26 t401.length co26) ∧ ax k_ (.slice Ao34 t410.length co34) ∧ ax k_ (.slice Ao41 t415.length co41) ∧ ax k_ (.slice Ao42 t418.length co42)) (.slice Ao33 t407.length co33) t433) ∧ Aside0 (Kd.R (Kd.int .i64) 2 wc w.heap.size (fun k_ => ax k_ (.slice Ao25 t398.length co25) ∧ ax k_ (.slice Ao26 t401.length co26) ∧ ax k_ (.slice Ao33 t407.length co33) ∧ ax k_ (.slice Ao41 t415.length co41) ∧ ax k_ (.slice Ao42 t418.length co42)) (.slice Ao34 t410.length co34) t434) ∧ Aside0 (Kd.R (Kd.int .i64) 2 wc w.heap.size (fun k_ => ax k_ (.slice Ao25 t398.length co25) ∧ ax k_ (.slice Ao26 t401.length co26) ∧ ax k_ (.slice Ao33 t407.length co33) ∧ ax k_ (.slice Ao34 t410.length co34) ∧ ax k_ (.slice Ao42 t418.length co42)) (.slice Ao41 t415.length co41) t415) ∧ Aside0 (Kd.R (Kd.int .i64) 2 wc w.heap.size (fun k_ => ax k_ (.slice Ao25 t398.length co25) ∧ ax k_ (.slice Ao26 t401.length co26) ∧ ax k_ (.slice Ao33 t407.length co33) ∧ ax k_ (.slice Ao34 t410.length co34) ∧ ax k_ (.slice Ao41 t415.length co41)) (.slice Ao42 t418.length co42) t418) ∧ Aside0 (wc.heap[gb388]? = some (.cells #[.int .i64 a0_0, (.slice A0_1 l0_1.length c0_1), (.slice A0_2 l0_2.length c0_2)] 49 (0, 0))) ∧ Aside0 (wc.heap[gb405]? = some (.cells #[.int .i64 t397, (.slice Ao25 t398.length co25), (.slice Ao26 t401.length co26)] 51 (0, 0))) ∧ Aside0 (wc.heap[gb413]? = some (.cells #[.int .i64 t406, (.slice Ao33 t407.length co33), (.slice Ao34 t410.length co34)] 51 (0, 0))) ∧ Aside0 (wc.heap[gb422]? = some (.cells #[.int .i64 t414, (.slice Ao41 t415.length co41), (.slice Ao42 t418.length co42)] 51 (0, 0))) ∧ Aside0 (Below w.heap.size w wc))
      case first =>
       have H := HC66.out
       clear HC66
       by_cases c77 : t432 < 0
       rotate_left
       ·rw [if_neg c77] at H
        have c77b0 : decide (t432 < 0) = false := decide_eq_false c77
        clear c77
        (first | rw [c77b0] | (simp only [i64_w, i32_w]; rw [c77b0]) | skip)
        replace H := Option.bind_eq_some_iff.mp H
        obtain ⟨t435, A780, H⟩ := H
        replace H : (if t435 = true then (laws_FnExactMoveRule.j1 kj12 a1 a2 t404 (t421 != t404) a0_0 l0_1 l0_2 t397 t398 t401 t414 t415 t418) else (laws_FnExactMoveRule.j1 kj12 a1 a2 t404 true a0_0 l0_1 l0_2 t397 t398 t401 t414 t415 t418)) = some r := H
        have A78 := zA A780
        clear A780
        by_cases c79 : t435 = true
        ·subst c79
         have H1 : (laws_FnExactMoveRule.j1 kj12 a1 a2 t404 (t421 != t404) a0_0 l0_1 l0_2 t397 t398 t401 t414 t415 t418) = some r := by rw [if_pos rfl] at H; exact H
         clear H
         have H := H1
         clear H1
         have H' := zA H
         clear H
         have hnb80 := NB422_388.out; have hnc80 := NB388_422.out; have hnb81 := NB422_405.out; have hnc81 := NB405_422.out; have hnb82 := NB422_413.out; have hnc82 := NB413_422.out
         have hcz83_0 := bc BK422 0
         have hcz83_1 := bc BK422 1
         have hcz83_2 := bc BK422 2
         have hfz83_0 := bf BK422 0
         have hfz83_1 := bf BK422 1
         have hfz83_2 := bf BK422 2
         have hnb84 := NB405_388.out; have hnc84 := NB388_405.out; have hnb85 := NB405_413.out; have hnc85 := NB413_405.out
         have hcz86_0 := bc BK405 0
         have hcz86_1 := bc BK405 1
         have hcz86_2 := bc BK405 2
         have hfz86_0 := bf BK405 0
         have hfz86_1 := bf BK405 1
         have hfz86_2 := bf BK405 2
         go_wp2_with (first | (go_at_call 29; (with_reducible refine (laws_eqRule.calls kj12 t414 _ _ t415 _ _ t418 t397 _ _ t398 _ _ t401 true _ ?side1 ?side2 ?side3 ?side4 ?side5 ?side6 ?side7 ?side8 A78.out).mono ?_); (case side1 => exact uC ((Kd.R_reads' HO_423001.out).2.2)); (case side2 => exact (Kd.R_reads' HO_423001.out).2.1); (case side3 => exact uC ((Kd.R_reads' HO_423002.out).2.2)); (case side4 => exact (Kd.R_reads' HO_423002.out).2.1); (case side5 => exact uC ((Kd.R_reads' HO_406001.out).2.2)); (case side6 => exact (Kd.R_reads' HO_406001.out).2.1); (case side7 => exact uC ((Kd.R_reads' HO_406002.out).2.2)); (case side8 => exact (Kd.R_reads' HO_406002.out).2.1); rintro e w87 ⟨rfl, hb⟩; replace HO_406001 := xR HO_406001 hb; replace HO_406002 := xR HO_406002 hb; replace HO_414001 := xR HO_414001 hb; replace HO_414002 := xR HO_414002 hb; replace HO_423001 := xR HO_423001 hb; replace HO_423002 := xR HO_423002 hb; replace HO427 := xR HO427 hb; replace HO430 := xR HO430 hb; replace BK388 := xB BK388 hb; replace BK405 := xB BK405 hb; replace BK413 := xB BK413 hb; replace BK422 := xB BK422 hb; replace HB := xH HB hb; (try clear hb); (try clear hb2); (try clear hk); (try clear hi)))
         go_meet
         case rel => exact ⟨_, ((t421 != t404)), (by first | rfl | (simp; done) | (simp [*]; done)), H', ⟨by have := HJ12.out; first | omega | exact Nat.le_refl _⟩, ⟨uR (Kd.R_mono HO_406001.out (fun _ hk => ⟨hk.1, ⟨hk.2.1, ⟨hk.2.2.1, ⟨hk.2.2.2.1, hk.2.2.2.2.1⟩⟩⟩⟩))⟩, ⟨uR (Kd.R_mono HO_406002.out (fun _ hk => ⟨hk.1, ⟨hk.2.1, ⟨hk.2.2.1, ⟨hk.2.2.2.1, hk.2.2.2.2.1⟩⟩⟩⟩))⟩, ⟨uR (Kd.R_mono HO_414001.out (fun _ hk => ⟨hk.1.1.1, ⟨hk.1.1.2.1, ⟨hk.1.1.2.2.1, ⟨hk.1.1.2.2.2.1, hk.1.1.2.2.2.2⟩⟩⟩⟩))⟩, ⟨uR (Kd.R_mono HO_414002.out (fun _ hk => ⟨hk.1.1.1, ⟨hk.1.1.2.1, ⟨hk.1.1.2.2.1, ⟨hk.1.1.2.2.2.1, hk.1.1.2.2.2.2⟩⟩⟩⟩))⟩, ⟨uR (Kd.R_mono HO_423001.out (fun _ hk => ⟨hk.1, ⟨hk.2.1, ⟨hk.2.2.1, ⟨hk.2.2.2.1, hk.2.2.2.2.1⟩⟩⟩⟩))⟩, ⟨uR (Kd.R_mono HO_423002.out (fun _ hk => ⟨hk.1, ⟨hk.2.1, ⟨hk.2.2.1, ⟨hk.2.2.2.1, hk.2.2.2.2.1⟩⟩⟩⟩))⟩, ⟨uB BK388.out⟩, ⟨uB BK405.out⟩, ⟨uB BK413.out⟩, ⟨uB BK422.out⟩, ⟨uH HB.out⟩⟩
        ·replace c79 := Bool.eq_false_iff.mpr c79
         subst c79
         have H1 : (laws_FnExactMoveRule.j1 kj12 a1 a2 t404 true a0_0 l0_1 l0_2 t397 t398 t401 t414 t415 t418) = some r := by rw [if_neg (show ¬ (false = true) by decide)] at H; exact H
         clear H
         have H := H1
         clear H1
         have H' := zA H
         clear H
         have hnb88 := NB422_388.out; have hnc88 := NB388_422.out; have hnb89 := NB422_405.out; have hnc89 := NB405_422.out; have hnb90 := NB422_413.out; have hnc90 := NB413_422.out
         have hcz91_0 := bc BK422 0
         have hcz91_1 := bc BK422 1
         have hcz91_2 := bc BK422 2
         have hfz91_0 := bf BK422 0
         have hfz91_1 := bf BK422 1
         have hfz91_2 := bf BK422 2
         have hnb92 := NB405_388.out; have hnc92 := NB388_405.out; have hnb93 := NB405_413.out; have hnc93 := NB413_405.out
         have hcz94_0 := bc BK405 0
         have hcz94_1 := bc BK405 1
         have hcz94_2 := bc BK405 2
         have hfz94_0 := bf BK405 0
         have hfz94_1 := bf BK405 1
         have hfz94_2 := bf BK405 2
         go_wp2_with (first | (go_at_call 29; (with_reducible refine (laws_eqRule.calls kj12 t414 _ _ t415 _ _ t418 t397 _ _ t398 _ _ t401 false _ ?side1 ?side2 ?side3 ?side4 ?side5 ?side6 ?side7 ?side8 A78.out).mono ?_); (case side1 => exact uC ((Kd.R_reads' HO_423001.out).2.2)); (case side2 => exact (Kd.R_reads' HO_423001.out).2.1); (case side3 => exact uC ((Kd.R_reads' HO_423002.out).2.2)); (case side4 => exact (Kd.R_reads' HO_423002.out).2.1); (case side5 => exact uC ((Kd.R_reads' HO_406001.out).2.2)); (case side6 => exact (Kd.R_reads' HO_406001.out).2.1); (case side7 => exact uC ((Kd.R_reads' HO_406002.out).2.2)); (case side8 => exact (Kd.R_reads' HO_406002.out).2.1); rintro e w95 ⟨rfl, hb⟩; replace HO_406001 := xR HO_406001 hb; replace HO_406002 := xR HO_406002 hb; replace HO_414001 := xR HO_414001 hb; replace HO_414002 := xR HO_414002 hb; replace HO_423001 := xR HO_423001 hb; replace HO_423002 := xR HO_423002 hb; replace HO427 := xR HO427 hb; replace HO430 := xR HO430 hb; replace BK388 := xB BK388 hb; replace BK405 := xB BK405 hb; replace BK413 := xB BK413 hb; replace BK422 := xB BK422 hb; replace HB := xH HB hb; (try clear hb); (try clear hb2); (try clear hk); (try clear hi)))
         go_meet
         case rel => exact ⟨_, (true), (by first | rfl | (simp; done) | (simp [*]; done)), H', ⟨by have := HJ12.out; first | omega | exact Nat.le_refl _⟩, ⟨uR (Kd.R_mono HO_406001.out (fun _ hk => ⟨hk.1, ⟨hk.2.1, ⟨hk.2.2.1, ⟨hk.2.2.2.1, hk.2.2.2.2.1⟩⟩⟩⟩))⟩, ⟨uR (Kd.R_mono HO_406002.out (fun _ hk => ⟨hk.1, ⟨hk.2.1, ⟨hk.2.2.1, ⟨hk.2.2.2.1, hk.2.2.2.2.1⟩⟩⟩⟩))⟩, ⟨uR (Kd.R_mono HO_414001.out (fun _ hk => ⟨hk.1.1.1, ⟨hk.1.1.2.1, ⟨hk.1.1.2.2.1, ⟨hk.1.1.2.2.2.1, hk.1.1.2.2.2.2⟩⟩⟩⟩))⟩, ⟨uR (Kd.R_mono HO_414002.out (fun _ hk => ⟨hk.1.1.1, ⟨hk.1.1.2.1, ⟨hk.1.1.2.2.1, ⟨hk.1.1.2.2.2.1, hk.1.1.2.2.2.2⟩⟩⟩⟩))⟩, ⟨uR (Kd.R_mono HO_423001.out (fun _ hk => ⟨hk.1, ⟨hk.2.1, ⟨hk.2.2.1, ⟨hk.2.2.2.1, hk.2.2.2.2.1⟩⟩⟩⟩))⟩, ⟨uR (Kd.R_mono HO_423002.out (fun _ hk => ⟨hk.1, ⟨hk.2.1, ⟨hk.2.2.1, ⟨hk.2.2.2.1, hk.2.2.2.2.1⟩⟩⟩⟩))⟩, ⟨uB BK388.out⟩, ⟨uB BK405.out⟩, ⟨uB BK413.out⟩, ⟨uB BK422.out⟩, ⟨uH HB.out⟩⟩
       rw [if_pos c77] at H
       have c77b0 : decide (t432 < 0) = true := decide_eq_true c77
       clear c77
       (first | rw [c77b0] | (simp only [i64_w, i32_w]; rw [c77b0]) | skip)
       have H' := zA H
       clear H
       go_wp2
       go_meet
       case rel => exact ⟨_, (true), (by first | rfl | (simp; done) | (simp [*]; done)), H', ⟨by have := HJ12.out; first | omega | exact Nat.le_refl _⟩, ⟨uR (Kd.R_mono HO_406001.out (fun _ hk => ⟨hk.1, ⟨hk.2.1, ⟨hk.2.2.1, ⟨hk.2.2.2.1, hk.2.2.2.2.1⟩⟩⟩⟩))⟩, ⟨uR (Kd.R_mono HO_406002.out (fun _ hk => ⟨hk.1, ⟨hk.2.1, ⟨hk.2.2.1, ⟨hk.2.2.2.1, hk.2.2.2.2.1⟩⟩⟩⟩))⟩, ⟨uR (Kd.R_mono HO_414001.out (fun _ hk => ⟨hk.1.1.1, ⟨hk.1.1.2.1, ⟨hk.1.1.2.2.1, ⟨hk.1.1.2.2.2.1, hk.1.1.2.2.2.2⟩⟩⟩⟩))⟩, ⟨uR (Kd.R_mono HO_414002.out (fun _ hk => ⟨hk.1.1.1, ⟨hk.1.1.2.1, ⟨hk.1.1.2.2.1, ⟨hk.1.1.2.2.2.1, hk.1.1.2.2.2.2⟩⟩⟩⟩))⟩, ⟨uR (Kd.R_mono HO_423001.out (fun _ hk => ⟨hk.1, ⟨hk.2.1, ⟨hk.2.2.1, ⟨hk.2.2.2.1, hk.2.2.2.2.1⟩⟩⟩⟩))⟩, ⟨uR (Kd.R_mono HO_423002.out (fun _ hk => ⟨hk.1, ⟨hk.2.1, ⟨hk.2.2.1, ⟨hk.2.2.2.1, hk.2.2.2.2.1⟩⟩⟩⟩))⟩, ⟨uB BK388.out⟩, ⟨uB BK405.out⟩, ⟨uB BK413.out⟩, ⟨uB BK422.out⟩, ⟨uH HB.out⟩⟩
      case rest =>
       clear HC66
       (try clear c2);(try clear p2);(try clear c3);(try clear c4);(try clear c5);(try clear c5b0);(try clear c6);(try clear c7);(try clear c8);(try clear c9);(try clear c23);(try clear c25);(try clear c27);(try clear c29);(try clear c30);(try clear c31);(try clear c32);(try clear c33);(try clear c37);(try clear c38);(try clear c39);(try clear c44);(try clear c45);(try clear c46);(try clear c47);(try clear c49)
       (try clear c50);(try clear c53);(try clear c54);(try clear c55);(try clear c57);(try clear c58);(try clear c61);(try clear c64);(try clear c72);(try clear c73);(try clear c74);(try clear c77);(try clear c77b0);(try clear c79);(try clear c80);(try clear c81);(try clear c82);(try clear c84);(try clear c85);(try clear c88);(try clear c89);(try clear c90);(try clear c92);(try clear c93);(try clear hcz15_0)
       (try clear hcz15_1);(try clear hcz15_2);(try clear hcz17_0);(try clear hcz17_1);(try clear hcz17_2);(try clear hcz24_0);(try clear hcz24_1);(try clear hcz24_2);(try clear hcz27_0);(try clear hcz27_1);(try clear hcz27_2);(try clear hcz32_0);(try clear hcz32_1);(try clear hcz32_2);(try clear hcz40_0);(try clear hcz40_1);(try clear hcz40_2);(try clear hcz48_0);(try clear hcz48_1);(try clear hcz48_2)
       (try clear hcz51_0);(try clear hcz51_1);(try clear hcz51_2);(try clear hcz56_0);(try clear hcz56_1);(try clear hcz56_2);(try clear hcz59_0);(try clear hcz59_1);(try clear hcz59_2);(try clear hcz75_0);(try clear hcz75_1);(try clear hcz75_2);(try clear hcz7_0);(try clear hcz7_1);(try clear hcz7_2);(try clear hcz83_0);(try clear hcz83_1);(try clear hcz83_2);(try clear hcz86_0);(try clear hcz86_1)
       (try clear hcz86_2);(try clear hcz91_0);(try clear hcz91_1);(try clear hcz91_2);(try clear hcz94_0);(try clear hcz94_1);(try clear hcz94_2);(try clear hfz15_0);(try clear hfz15_1);(try clear hfz15_2);(try clear hfz17_0);(try clear hfz17_1);(try clear hfz17_2);(try clear hfz24_0);(try clear hfz24_1);(try clear hfz24_2);(try clear hfz27_0);(try clear hfz27_1);(try clear hfz27_2);(try clear hfz32_0)
       (try clear hfz32_1);(try clear hfz32_2);(try clear hfz40_0);(try clear hfz40_1);(try clear hfz40_2);(try clear hfz48_0);(try clear hfz48_1);(try clear hfz48_2);(try clear hfz51_0);(try clear hfz51_1);(try clear hfz51_2);(try clear hfz56_0);(try clear hfz56_1);(try clear hfz56_2);(try clear hfz59_0);(try clear hfz59_1);(try clear hfz59_2);(try clear hfz75_0);(try clear hfz75_1);(try clear hfz75_2)
       (try clear hfz7_0);(try clear hfz7_1);(try clear hfz7_2);(try clear hfz83_0);(try clear hfz83_1);(try clear hfz83_2);(try clear hfz86_0);(try clear hfz86_1);(try clear hfz86_2);(try clear hfz91_0);(try clear hfz91_1);(try clear hfz91_2);(try clear hfz94_0);(try clear hfz94_1);(try clear hfz94_2);(try clear p2)
       obtain ⟨kq, x69_65, rfl, HA, HJ65, HO_406001, HO_406002, HO_414001, HO_414002, HO_423001, HO_423002, BK388, BK405, BK413, BK422, HB⟩ := hcut
       have hl414001_65 := (Kd.R_reads' HO_414001.out).1
       rw [hl414001_65] at HO_414001
       (try simp only [hl414001_65])
       (try simp only [hl414001_65] at BK388)
       (try simp only [hl414001_65] at BK405)
       (try simp only [hl414001_65] at BK413)
       (try simp only [hl414001_65] at BK422)
       (try simp only [hl414001_65] at HO_406001)
       (try simp only [hl414001_65] at HO_406002)
       (try simp only [hl414001_65] at HO_414002)
       (try simp only [hl414001_65] at HO_423001)
       (try simp only [hl414001_65] at HO_423002)
       have hl414002_65 := (Kd.R_reads' HO_414002.out).1
       rw [hl414002_65] at HO_414002
       (try simp only [hl414002_65])
       (try simp only [hl414002_65] at BK388)
       (try simp only [hl414002_65] at BK405)
       (try simp only [hl414002_65] at BK413)
       (try simp only [hl414002_65] at BK422)
       (try simp only [hl414002_65] at HO_406001)
       (try simp only [hl414002_65] at HO_406002)
       (try simp only [hl414002_65] at HO_414001)
       (try simp only [hl414002_65] at HO_423001)
       (try simp only [hl414002_65] at HO_423002)
       cases kq with
       | zero => exact absurd HA.out (by simp [laws_FnExactMoveRule.j1])
       | succ kj65 =>
        have H := HA.out
        clear HA
        simp only [laws_FnExactMoveRule.j1] at H
        by_cases c96 : x69_65 = true
        ·subst c96
         have H1 : (some false) = some r := by rw [if_pos rfl] at H; exact H
         clear H
         have H := H1
         clear H1
         rw [HRT.out] at H
         exact absurd H (by simp)
        ·replace c96 := Bool.eq_false_iff.mpr c96
         subst c96
         have H1 : ((laws_markRule.f kj65 t414 t415 t418 1).bind fun bt436 => ((laws_heldRule.f kj65 t414 bt436.2.1 bt436.2.2 1).bind fun t439 => (if t439 < 0 then (some false) else (if t439 = bt436.1 then ((laws_toRule.f kj65 a0_0 l0_1 l0_2).bind fun bt440 => ((impl_MoveRule.f kj65 bt440.1 bt440.2.1 bt440.2.2 a1 a2).bind fun bt447 => ((laws_eqRule.f kj65 bt447.1 bt447.2.1 bt447.2.2.1 t397 t398 t401).bind fun t456 => (if t456 = true then (laws_FnExactMoveRule.j2 kj65 bt436.1 (bt447.2.2.2 != t404) t414 bt436.2.1 bt436.2.2) else (laws_FnExactMoveRule.j2 kj65 bt436.1 true t414 bt436.2.1 bt436.2.2))))) else (some false))))) = some r := by rw [if_neg (show ¬ (false = true) by decide)] at H; exact H
         clear H
         have H := H1
         clear H1
         replace H := Option.bind_eq_some_iff.mp H
         obtain ⟨⟨t436, t437, t438⟩, A970, H⟩ := H
         replace H : ((laws_heldRule.f kj65 t414 t437 t438 1).bind fun t439 => (if t439 < 0 then (some false) else (if t439 = t436 then ((laws_toRule.f kj65 a0_0 l0_1 l0_2).bind fun bt440 => ((impl_MoveRule.f kj65 bt440.1 bt440.2.1 bt440.2.2 a1 a2).bind fun bt447 => ((laws_eqRule.f kj65 bt447.1 bt447.2.1 bt447.2.2.1 t397 t398 t401).bind fun t456 => (if t456 = true then (laws_FnExactMoveRule.j2 kj65 t436 (bt447.2.2.2 != t404) t414 t437 t438) else (laws_FnExactMoveRule.j2 kj65 t436 true t414 t437 t438))))) else (some false)))) = some r := H
         have A97 := zA A970
         clear A970
         replace H := Option.bind_eq_some_iff.mp H
         obtain ⟨t439, A980, H⟩ := H
         replace H : (if t439 < 0 then (some false) else (if t439 = t436 then ((laws_toRule.f kj65 a0_0 l0_1 l0_2).bind fun bt440 => ((impl_MoveRule.f kj65 bt440.1 bt440.2.1 bt440.2.2 a1 a2).bind fun bt447 => ((laws_eqRule.f kj65 bt447.1 bt447.2.1 bt447.2.2.1 t397 t398 t401).bind fun t456 => (if t456 = true then (laws_FnExactMoveRule.j2 kj65 t436 (bt447.2.2.2 != t404) t414 t437 t438) else (laws_FnExactMoveRule.j2 kj65 t436 true t414 t437 t438))))) else (some false))) = some r := H
         have A98 := zA A980
         clear A980
         by_cases c99 : t439 < 0
         rotate_left
         ·rw [if_neg c99] at H
          have c99b0 : decide (t439 < 0) = false := decide_eq_false c99
          clear c99
          by_cases c100 : t439 = t436
          rotate_left
          ·rw [if_neg c100] at H
           have c100b0 : (t439 == t436) = false := beq_eq_false_iff_ne.mpr c100
           have c100b1 : (t439 != t436) = true := bne_iff_ne.mpr c100
           rw [HRT.out] at H
           exact absurd H (by simp)
          rw [if_pos c100] at H
          have c100b0 : (t439 == t436) = true := beq_iff_eq.mpr c100
          have c100b1 : (t439 != t436) = false := bne_eq_false_iff_eq.mpr c100
          clear c100
          replace H := Option.bind_eq_some_iff.mp H
          obtain ⟨⟨t440, t441, t444⟩, A1010, H⟩ := H
          replace H : ((impl_MoveRule.f kj65 t440 t441 t444 a1 a2).bind fun bt447 => ((laws_eqRule.f kj65 bt447.1 bt447.2.1 bt447.2.2.1 t397 t398 t401).bind fun t456 => (if t456 = true then (laws_FnExactMoveRule.j2 kj65 t436 (bt447.2.2.2 != t404) t414 t437 t438) else (laws_FnExactMoveRule.j2 kj65 t436 true t414 t437 t438)))) = some r := H
          have A101 := zA A1010
          clear A1010
          replace H := Option.bind_eq_some_iff.mp H
          obtain ⟨⟨t447, t448, t451, t454⟩, A1020, H⟩ := H
          replace H : ((laws_eqRule.f kj65 t447 t448 t451 t397 t398 t401).bind fun t456 => (if t456 = true then (laws_FnExactMoveRule.j2 kj65 t436 (t454 != t404) t414 t437 t438) else (laws_FnExactMoveRule.j2 kj65 t436 true t414 t437 t438))) = some r := H
          have A102 := zA A1020
          clear A1020
          have HC103 := zA H
          clear H
          have hnb104 := NB422_388.out; have hnc104 := NB388_422.out; have hnb105 := NB422_405.out; have hnc105 := NB405_422.out; have hnb106 := NB422_413.out; have hnc106 := NB413_422.out
          have hcz107_0 := bc BK422 0
          have hcz107_1 := bc BK422 1
          have hcz107_2 := bc BK422 2
          have hfz107_0 := bf BK422 0
          have hfz107_1 := bf BK422 1
          have hfz107_2 := bf BK422 2
          go_upto_region 25 with (first | ((with_reducible refine gate_callee (f := 30) rfl ?_); refine gL (some 72) Try.func30 #[.agg #[.int .i64 t414, .slice Ao41 t415.length co41, .slice Ao42 t418.length co42], .int .i64 1] ?_; (with_reducible refine (laws_markRule.calls kj65 t414 (fun k_ => some k_ = (.slice Ao41 t415.length co41 : Value).ownBlock) (.slice Ao41 t415.length co41) t415 (fun k_ => some k_ = (.slice Ao42 t418.length co42 : Value).ownBlock) (.slice Ao42 t418.length co42) t418 1 t436 t437 t438 w _ ?side1 ?side2 ?side3 ?side4 ?side5 A97.out).mono ?_); (case side1 => repeat (first | (with_reducible first | exact HB.out | apply below_alloc | apply pw_below_drewN | apply below_drew1 | refine below_set ?_ GE388.out | refine below_set ?_ GE405.out | refine below_set ?_ GE413.out | refine below_set ?_ GE422.out) | exact HB.out)); (case side2 => exact Kd.R_tight rfl HO_423001.out); (case side3 => exact fun k_ e_ => (HO_423001.out.1 k_ e_.symm).2.2.2.2); (case side4 => exact Kd.R_tight rfl HO_423002.out); (case side5 => exact fun k_ e_ => (HO_423002.out.1 k_ e_.symm).2.2.2.2); rintro e w108 ⟨rfl, hy0, hy1, hb, hkp⟩; refine ⟨_, rfl, ?_⟩; replace HO_406001 := zA (Kd.R_mono (ok' := fun k_ => ax k_ (.slice Ao26 t401.length co26) ∧ ax k_ (.slice Ao33 t433.length co33) ∧ ax k_ (.slice Ao34 t434.length co34) ∧ ax k_ (.slice Ao41 t415.length co41) ∧ ax k_ (.slice Ao42 t418.length co42)) (Kd.R_keptB (HO_406001.out) hkp (fun k_ hk_ hs_ => Or.elim hs_ (fun e_ => (hk_.2.2.2.1) e_) (fun e_ => (hk_.2.2.2.2) e_))) (fun k_ hk_ => ⟨hk_.1.1, hk_.1.2.1, hk_.1.2.2.1, hk_.1.2.2.2.1, hk_.1.2.2.2.2⟩)); replace HO_406002 := zA (Kd.R_mono (ok' := fun k_ => ax k_ (.slice Ao25 t398.length co25) ∧ ax k_ (.slice Ao33 t433.length co33) ∧ ax k_ (.slice Ao34 t434.length co34) ∧ ax k_ (.slice Ao41 t415.length co41) ∧ ax k_ (.slice Ao42 t418.length co42)) (Kd.R_keptB (HO_406002.out) hkp (fun k_ hk_ hs_ => Or.elim hs_ (fun e_ => (hk_.2.2.2.1) e_) (fun e_ => (hk_.2.2.2.2) e_))) (fun k_ hk_ => ⟨hk_.1.1, hk_.1.2.1, hk_.1.2.2.1, hk_.1.2.2.2.1, hk_.1.2.2.2.2⟩)); replace HO_414001 := zA (Kd.R_mono (ok' := fun k_ => ax k_ (.slice Ao25 t398.length co25) ∧ ax k_ (.slice Ao26 t401.length co26) ∧ ax k_ (.slice Ao34 t434.length co34) ∧ ax k_ (.slice Ao41 t415.length co41) ∧ ax k_ (.slice Ao42 t418.length co42)) (Kd.R_keptB (HO_414001.out) hkp (fun k_ hk_ hs_ => Or.elim hs_ (fun e_ => (hk_.2.2.2.1) e_) (fun e_ => (hk_.2.2.2.2) e_))) (fun k_ hk_ => ⟨hk_.1.1, hk_.1.2.1, hk_.1.2.2.1, hk_.1.2.2.2.1, hk_.1.2.2.2.2⟩)); replace HO_414002 := zA (Kd.R_mono (ok' := fun k_ => ax k_ (.slice Ao25 t398.length co25) ∧ ax k_ (.slice Ao26 t401.length co26) ∧ ax k_ (.slice Ao33 t433.length co33) ∧ ax k_ (.slice Ao41 t415.length co41) ∧ ax k_ (.slice Ao42 t418.length co42)) (Kd.R_keptB (HO_414002.out) hkp (fun k_ hk_ hs_ => Or.elim hs_ (fun e_ => (hk_.2.2.2.1) e_) (fun e_ => (hk_.2.2.2.2) e_))) (fun k_ hk_ => ⟨hk_.1.1, hk_.1.2.1, hk_.1.2.2.1, hk_.1.2.2.2.1, hk_.1.2.2.2.2⟩)); replace BK388 := zA (blk_kept (uB BK388.out) hkp (fun hs_ => Or.elim hs_ (fun e_ => (fun e_ => (Kd.R_ne HO_423001.out BK388.out (by decide)) e_) e_) (fun e_ => (fun e_ => (Kd.R_ne HO_423002.out BK388.out (by decide)) e_) e_))); replace BK405 := zA (blk_kept (uB BK405.out) hkp (fun hs_ => Or.elim hs_ (fun e_ => (fun e_ => (Kd.R_ne HO_423001.out BK405.out (by decide)) e_) e_) (fun e_ => (fun e_ => (Kd.R_ne HO_423002.out BK405.out (by decide)) e_) e_))); replace BK413 := zA (blk_kept (uB BK413.out) hkp (fun hs_ => Or.elim hs_ (fun e_ => (fun e_ => (Kd.R_ne HO_423001.out BK413.out (by decide)) e_) e_) (fun e_ => (fun e_ => (Kd.R_ne HO_423002.out BK413.out (by decide)) e_) e_))); replace BK422 := zA (blk_kept (uB BK422.out) hkp (fun hs_ => Or.elim hs_ (fun e_ => (fun e_ => (Kd.R_ne HO_423001.out BK422.out (by decide)) e_) e_) (fun e_ => (fun e_ => (Kd.R_ne HO_423002.out BK422.out (by decide)) e_) e_))); replace HO_423001 := zA (Kd.R_reok rfl hy0 (fun k_ e_ => HO_423001.out.1 k_ e_)); replace HO_423002 := zA (Kd.R_reok rfl hy1 (fun k_ e_ => HO_423002.out.1 k_ e_)); replace HB := zA (hb); (try clear hb); (try clear hkp); (try clear hy0); (try clear hy1); have hcz109_0 := bc BK422 0; have hcz109_1 := bc BK422 1; have hcz109_2 := bc BK422 2; have hfz109_0 := bf BK422 0; have hfz109_1 := bf BK422 1; have hfz109_2 := bf BK422 2) | ((with_reducible refine gate_callee (f := 31) rfl ?_); refine goesL_ (some 75) rfl rfl Try.func31 (by kernel_rfl) rfl #[.agg #[.int .i64 t414, .slice Ao41 t437.length co41, .slice Ao42 t438.length co42], .int .i64 1] rfl (by (try simp only [la, lb, lc]); first | done | (rw [show t437.length = t415.length from (Kd.R_reads' HO_423001.out).1.symm, show t438.length = t418.length from (Kd.R_reads' HO_423002.out).1.symm] <;> rfl) | rfl | (simp only [ld, le]; rfl)) ?_; (with_reducible refine (laws_heldRule.calls kj65 t414 _ _ t437 _ _ t438 1 t439 _ ?side1 ?side2 ?side3 ?side4 A98.out).mono ?_); (case side1 => exact uC ((Kd.R_reads' HO_423001.out).2.2)); (case side2 => rw [show t437.length = t415.length from (Kd.R_reads' HO_423001.out).1.symm]; exact (Kd.R_reads' HO_423001.out).2.1); (case side3 => exact uC ((Kd.R_reads' HO_423002.out).2.2)); (case side4 => rw [show t438.length = t418.length from (Kd.R_reads' HO_423002.out).1.symm]; exact (Kd.R_reads' HO_423002.out).2.1); rintro e w110 ⟨rfl, hb⟩; refine ⟨_, rfl, ?_⟩; replace HO_406001 := xR HO_406001 hb; replace HO_406002 := xR HO_406002 hb; replace HO_414001 := xR HO_414001 hb; replace HO_414002 := xR HO_414002 hb; replace HO_423001 := xR HO_423001 hb; replace HO_423002 := xR HO_423002 hb; replace BK388 := xB BK388 hb; replace BK405 := xB BK405 hb; replace BK413 := xB BK413 hb; replace BK422 := xB BK422 hb; replace HB := xH HB hb; (try clear hb); (try clear hb2); (try clear hk); (try clear hi); have hnb111 := NB388_405.out; have hnc111 := NB405_388.out; have hnb112 := NB388_413.out; have hnc112 := NB413_388.out; have hcz113_0 := bc BK388 0; have hcz113_1 := bc BK388 1; have hcz113_2 := bc BK388 2; have hfz113_0 := bf BK388 0; have hfz113_1 := bf BK388 1; have hfz113_2 := bf BK388 2) | ((with_reducible refine gate_callee (f := 27) rfl ?_); refine gL (some 83) Try.func27 #[.agg #[.int .i64 a0_0, .slice A0_1 l0_1.length c0_1, .slice A0_2 l0_2.length c0_2]] ?_; (with_reducible refine (laws_toRule.calls kj65 a0_0 _ _ l0_1 _ _ l0_2 t440 t441 t444 _ ?side1 ?side2 ?side3 ?side4 A101.out).mono ?_); (case side1 => exact uC ((Kd.C_below HR0_1.out HB.out))); (case side2 => exact HC0_1.out); (case side3 => exact uC ((Kd.C_below HR0_2.out HB.out))); (case side4 => exact HC0_2.out); rintro e w114 ⟨v442, v445, rfl, ho0, ho1, hb⟩; refine ⟨_, rfl, ?_⟩; have HO443 := zA (Kd.R_lower (Kd.R_new' (Kd.R_new' (Kd.R_new' (Kd.R_new' (Kd.R_new' (Kd.R_new' ho0 (Kd.R_lt (uR HO_406001.out))) (Kd.R_lt (uR HO_406002.out))) (Kd.R_lt (uR HO_414001.out))) (Kd.R_lt (uR HO_414002.out))) (Kd.R_lt (uR HO_423001.out))) (Kd.R_lt (uR HO_423002.out))) (below_size (uH HB.out))); have HO446 := zA (Kd.R_lower (Kd.R_new' (Kd.R_new' (Kd.R_new' (Kd.R_new' (Kd.R_new' (Kd.R_new' ho1 (Kd.R_lt (uR HO_406001.out))) (Kd.R_lt (uR HO_406002.out))) (Kd.R_lt (uR HO_414001.out))) (Kd.R_lt (uR HO_414002.out))) (Kd.R_lt (uR HO_423001.out))) (Kd.R_lt (uR HO_423002.out))) (below_size (uH HB.out))); replace HO_406001 := zA (Kd.R_mono (Kd.R_told (Kd.R_told (Kd.R_old (uR HO_406001.out) hb) (Kd.R_base ho0)) (Kd.R_base ho1)) (fun _ h_ => h_.1)); replace HO_406002 := zA (Kd.R_mono (Kd.R_told (Kd.R_told (Kd.R_old (uR HO_406002.out) hb) (Kd.R_base ho0)) (Kd.R_base ho1)) (fun _ h_ => h_.1)); replace HO_414001 := zA (Kd.R_mono (Kd.R_told (Kd.R_told (Kd.R_old (uR HO_414001.out) hb) (Kd.R_base ho0)) (Kd.R_base ho1)) (fun _ h_ => h_.1)); replace HO_414002 := zA (Kd.R_mono (Kd.R_told (Kd.R_told (Kd.R_old (uR HO_414002.out) hb) (Kd.R_base ho0)) (Kd.R_base ho1)) (fun _ h_ => h_.1)); replace HO_423001 := zA (Kd.R_mono (Kd.R_told (Kd.R_told (Kd.R_old (uR HO_423001.out) hb) (Kd.R_base ho0)) (Kd.R_base ho1)) (fun _ h_ => h_.1)); replace HO_423002 := zA (Kd.R_mono (Kd.R_told (Kd.R_told (Kd.R_old (uR HO_423002.out) hb) (Kd.R_base ho0)) (Kd.R_base ho1)) (fun _ h_ => h_.1)); replace BK388 := xB BK388 hb; replace BK405 := xB BK405 hb; replace BK413 := xB BK413 hb; replace BK422 := xB BK422 hb; replace HB := xH HB hb; (try clear hb); (try clear hb2); (try clear hk); (try clear hi); (try clear ho0); (try clear ho1); obtain ⟨Ao115, co115, eo115⟩ := Kd.R_slice HO443.out; subst eo115; obtain ⟨Ao116, co116, eo116⟩ := Kd.R_slice HO446.out; subst eo116) | ((with_reducible refine gate_callee (f := 33) rfl ?_); refine gL (some 86) Try.func33 #[.agg #[.int .i64 t440, .slice Ao115 t441.length co115, .slice Ao116 t444.length co116], .int .i64 a1, .int .i64 a2] ?_; (with_reducible refine (impl_MoveRule.calls kj65 t440 _ _ t441 _ _ t444 a1 a2 t447 t448 t451 t454 _ ?side1 ?side2 ?side3 ?side4 A102.out).mono ?_); (case side1 => exact uC ((Kd.R_reads' HO443.out).2.2)); (case side2 => exact (Kd.R_reads' HO443.out).2.1); (case side3 => exact uC ((Kd.R_reads' HO446.out).2.2)); (case side4 => exact (Kd.R_reads' HO446.out).2.1); rintro e w117 ⟨v449, v452, rfl, ho0, ho1, hb⟩; refine ⟨_, rfl, ?_⟩; have HO450 := zA (Kd.R_lower (Kd.R_new' (Kd.R_new' (Kd.R_new' (Kd.R_new' (Kd.R_new' (Kd.R_new' (Kd.R_new' (Kd.R_new' ho0 (Kd.R_lt (uR HO_406001.out))) (Kd.R_lt (uR HO_406002.out))) (Kd.R_lt (uR HO_414001.out))) (Kd.R_lt (uR HO_414002.out))) (Kd.R_lt (uR HO_423001.out))) (Kd.R_lt (uR HO_423002.out))) (Kd.R_lt (uR HO443.out))) (Kd.R_lt (uR HO446.out))) (below_size (uH HB.out))); have HO453 := zA (Kd.R_lower (Kd.R_new' (Kd.R_new' (Kd.R_new' (Kd.R_new' (Kd.R_new' (Kd.R_new' (Kd.R_new' (Kd.R_new' ho1 (Kd.R_lt (uR HO_406001.out))) (Kd.R_lt (uR HO_406002.out))) (Kd.R_lt (uR HO_414001.out))) (Kd.R_lt (uR HO_414002.out))) (Kd.R_lt (uR HO_423001.out))) (Kd.R_lt (uR HO_423002.out))) (Kd.R_lt (uR HO443.out))) (Kd.R_lt (uR HO446.out))) (below_size (uH HB.out))); replace HO_406001 := zA (Kd.R_mono (Kd.R_told (Kd.R_told (Kd.R_old (uR HO_406001.out) hb) (Kd.R_base ho0)) (Kd.R_base ho1)) (fun _ h_ => h_.1)); replace HO_406002 := zA (Kd.R_mono (Kd.R_told (Kd.R_told (Kd.R_old (uR HO_406002.out) hb) (Kd.R_base ho0)) (Kd.R_base ho1)) (fun _ h_ => h_.1)); replace HO_414001 := zA (Kd.R_mono (Kd.R_told (Kd.R_told (Kd.R_old (uR HO_414001.out) hb) (Kd.R_base ho0)) (Kd.R_base ho1)) (fun _ h_ => h_.1)); replace HO_414002 := zA (Kd.R_mono (Kd.R_told (Kd.R_told (Kd.R_old (uR HO_414002.out) hb) (Kd.R_base ho0)) (Kd.R_base ho1)) (fun _ h_ => h_.1)); replace HO_423001 := zA (Kd.R_mono (Kd.R_told (Kd.R_told (Kd.R_old (uR HO_423001.out) hb) (Kd.R_base ho0)) (Kd.R_base ho1)) (fun _ h_ => h_.1)); replace HO_423002 := zA (Kd.R_mono (Kd.R_told (Kd.R_told (Kd.R_old (uR HO_423002.out) hb) (Kd.R_base ho0)) (Kd.R_base ho1)) (fun _ h_ => h_.1)); replace HO443 := zA (Kd.R_mono (Kd.R_told (Kd.R_told (Kd.R_old (uR HO443.out) hb) (Kd.R_base ho0)) (Kd.R_base ho1)) (fun _ h_ => h_.1)); replace HO446 := zA (Kd.R_mono (Kd.R_told (Kd.R_told (Kd.R_old (uR HO446.out) hb) (Kd.R_base ho0)) (Kd.R_base ho1)) (fun _ h_ => h_.1)); replace BK388 := xB BK388 hb; replace BK405 := xB BK405 hb; replace BK413 := xB BK413 hb; replace BK422 := xB BK422 hb; replace HB := xH HB hb; (try clear hb); (try clear hb2); (try clear hk); (try clear hi); (try clear ho0); (try clear ho1)) | ((with_reducible refine gate_dst (N := 16) rfl ?_); refine bx 16 #[.int .i64 0, .slice none 0 0, .slice none 0 0] 51 ?_; intro gb455 hg w118 hbox hb; replace HO_406001 := xR HO_406001 hb; replace HO_406002 := xR HO_406002 hb; replace HO_414001 := xR HO_414001 hb; replace HO_414002 := xR HO_414002 hb; replace HO_423001 := xR HO_423001 hb; replace HO_423002 := xR HO_423002 hb; replace HO443 := xR HO443 hb; replace HO446 := xR HO446 hb; replace HO450 := xR HO450 hb; replace HO453 := xR HO453 hb; have BK455 := zA (hbox); have GW455 := gq HB hg; have GE455 := gq HB hg; replace HB := xH HB hb; have NB388_455 := zA ((by rw [hg]; exact neL BK388 : gb388 ≠ gb455)); have NB455_388 := zA ((by rw [hg]; exact neG BK388 : gb455 ≠ gb388)); replace BK388 := xB BK388 hb; have NB405_455 := zA ((by rw [hg]; exact neL BK405 : gb405 ≠ gb455)); have NB455_405 := zA ((by rw [hg]; exact neG BK405 : gb455 ≠ gb405)); replace BK405 := xB BK405 hb; have NB413_455 := zA ((by rw [hg]; exact neL BK413 : gb413 ≠ gb455)); have NB455_413 := zA ((by rw [hg]; exact neG BK413 : gb455 ≠ gb413)); replace BK413 := xB BK413 hb; have NB422_455 := zA ((by rw [hg]; exact neL BK422 : gb422 ≠ gb455)); have NB455_422 := zA ((by rw [hg]; exact neG BK422 : gb455 ≠ gb422)); replace BK422 := xB BK422 hb; have := geI GE455; clear hb hbox hg; have hnb119 := NB455_388.out; have hnc119 := NB388_455.out; have hnb120 := NB455_405.out; have hnc120 := NB405_455.out; have hnb121 := NB455_413.out; have hnc121 := NB413_455.out; have hnb122 := NB455_422.out; have hnc122 := NB422_455.out; have hcz123_0 := bc BK455 0; have hcz123_1 := bc BK455 1; have hcz123_2 := bc BK455 2; have hfz123_0 := bf BK455 0; have hfz123_1 := bf BK455 1; have hfz123_2 := bf BK455 2; obtain ⟨Ao124, co124, eo124⟩ := Kd.R_slice HO450.out; subst eo124; obtain ⟨Ao125, co125, eo125⟩ := Kd.R_slice HO453.out; subst eo125))
          (try simp only [Act.put, ls, lz, ln])
          go_cut [97] (fun v97 wc => ∃ (kq : Nat) (x97_102 : Bool), v97 = .bool x97_102 ∧ Aside0 (laws_FnExactMoveRule.j2 kq t436 x97_102 t414 t437 t438 = some r) ∧ Aside0 (kq ≤ kj65) ∧ Aside0 (Kd.R (Kd.int .i64) 2 wc w.heap.size (fun k_ => ax k_ (.slice Ao26 t401.length co26) ∧ ax k_ (.slice Ao33 t433.length co33) ∧ ax k_ (.slice Ao34 t434.length co34) ∧ ax k_ (.slice Ao41 t415.length co41) ∧ ax k_ (.slice Ao42 t418.length co42) ∧ ax k_ (.slice Ao124 t448.length co124) ∧ ax k_ (.slice Ao125 t451.length co125)) (.slice Ao25 t398.length co25) t398) ∧ Aside0 (Kd.R (Kd.int .i64) 2 wc w.heap.size (fun k_ => ax k_ (.slice Ao25 t398.length co25) ∧ ax k_ (.slice Ao33 t433.length co33) ∧ ax k_ (.slice Ao34 t434.length co34) ∧ ax k_ (.slice Ao41 t415.length co41) ∧ ax k_ (.slice Ao42 t418.length co42) ∧ ax k_ (.slice Ao124 t448.length co124) ∧ ax k_ (.slice Ao125 t451.length co125)) (.slice Ao26 t401.length co26) t401) ∧ Aside0 (Kd.R (Kd.int .i64) 2 wc w.heap.size (fun k_ => ax k_ (.slice Ao25 t398.length co25) ∧ ax k_ (.slice Ao26 t401.length co26) ∧ ax k_ (.slice Ao34 t434.length co34) ∧ ax k_ (.slice Ao41 t415.length co41) ∧ ax k_ (.slice Ao42 t418.length co42) ∧ ax k_ (.slice Ao124 t448.length co124) ∧ ax k_ (.slice Ao125 t451.length co125)) (.slice Ao33 t433.length co33) t433) ∧ Aside0 (Kd.R (Kd.int .i64) 2 wc w.heap.size (fun k_ => ax k_ (.slice Ao25 t398.length co25) ∧ ax k_ (.slice Ao26 t401.length co26) ∧ ax k_ (.slice Ao33 t433.length co33) ∧ ax k_ (.slice Ao41 t415.length co41) ∧ ax k_ (.slice Ao42 t418.length co42) ∧ ax k_ (.slice Ao124 t448.length co124) ∧ ax k_ (.slice Ao125 t451.length co125)) (.slice Ao34 t434.length co34) t434) ∧ Aside0 (Kd.R (Kd.int .i64) 2 wc w.heap.size (fun k_ => ax k_ (.slice Ao25 t398.length co25) ∧ ax k_ (.slice Ao26 t401.length co26) ∧ ax k_ (.slice Ao33 t433.length co33) ∧ ax k_ (.slice Ao34 t434.length co34) ∧ ax k_ (.slice Ao42 t418.length co42) ∧ ax k_ (.slice Ao124 t448.length co124) ∧ ax k_ (.slice Ao125 t451.length co125)) (.slice Ao41 t415.length co41) t437) ∧ Aside0 (Kd.R (Kd.int .i64) 2 wc w.heap.size (fun k_ => ax k_ (.slice Ao25 t398.length co25) ∧ ax k_ (.slice Ao26 t401.length co26) ∧ ax k_ (.slice Ao33 t433.length co33) ∧ ax k_ (.slice Ao34 t434.length co34) ∧ ax k_ (.slice Ao41 t415.length co41) ∧ ax k_ (.slice Ao124 t448.length co124) ∧ ax k_ (.slice Ao125 t451.length co125)) (.slice Ao42 t418.length co42) t438) ∧ Aside0 (Kd.R (Kd.int .i64) 2 wc w.heap.size (fun k_ => ax k_ (.slice Ao25 t398.length co25) ∧ ax k_ (.slice Ao26 t401.length co26) ∧ ax k_ (.slice Ao33 t433.length co33) ∧ ax k_ (.slice Ao34 t434.length co34) ∧ ax k_ (.slice Ao41 t415.length co41) ∧ ax k_ (.slice Ao42 t418.length co42) ∧ ax k_ (.slice Ao125 t451.length co125)) (.slice Ao124 t448.length co124) t448) ∧ Aside0 (Kd.R (Kd.int .i64) 2 wc w.heap.size (fun k_ => ax k_ (.slice Ao25 t398.length co25) ∧ ax k_ (.slice Ao26 t401.length co26) ∧ ax k_ (.slice Ao33 t433.length co33) ∧ ax k_ (.slice Ao34 t434.length co34) ∧ ax k_ (.slice Ao41 t415.length co41) ∧ ax k_ (.slice Ao42 t418.length co42) ∧ ax k_ (.slice Ao124 t448.length co124)) (.slice Ao125 t451.length co125) t451) ∧ Aside0 (wc.heap[gb388]? = some (.cells #[.int .i64 a0_0, (.slice A0_1 l0_1.length c0_1), (.slice A0_2 l0_2.length c0_2)] 49 (0, 0))) ∧ Aside0 (wc.heap[gb405]? = some (.cells #[.int .i64 t397, (.slice Ao25 t398.length co25), (.slice Ao26 t401.length co26)] 51 (0, 0))) ∧ Aside0 (wc.heap[gb413]? = some (.cells #[.int .i64 t406, (.slice Ao33 t433.length co33), (.slice Ao34 t434.length co34)] 51 (0, 0))) ∧ Aside0 (wc.heap[gb422]? = some (.cells #[.int .i64 t414, (.slice Ao41 t415.length co41), (.slice Ao42 t418.length co42)] 51 (0, 0))) ∧ Aside0 (wc.heap[gb455]? = some (.cells #[.int .i64 t447, (.slice Ao124 t448.length co124), (.slice Ao125 t451.length co125)] 51 (0, 0))) ∧ Aside0 (Below w.heap.size w wc))
          case first =>
           have H := HC103.out
           clear HC103
           replace H := Option.bind_eq_some_iff.mp H
           obtain ⟨t456, A1260, H⟩ := H
           replace H : (if t456 = true then (laws_FnExactMoveRule.j2 kj65 t436 (t454 != t404) t414 t437 t438) else (laws_FnExactMoveRule.j2 kj65 t436 true t414 t437 t438)) = some r := H
           have A126 := zA A1260
           clear A1260
           by_cases c127 : t456 = true
           ·subst c127
            have H1 : (laws_FnExactMoveRule.j2 kj65 t436 (t454 != t404) t414 t437 t438) = some r := by rw [if_pos rfl] at H; exact H
            clear H
            have H := H1
            clear H1
            have H' := zA H
            clear H
            have hnb128 := NB455_388.out; have hnc128 := NB388_455.out; have hnb129 := NB455_405.out; have hnc129 := NB405_455.out; have hnb130 := NB455_413.out; have hnc130 := NB413_455.out; have hnb131 := NB455_422.out; have hnc131 := NB422_455.out
            have hcz132_0 := bc BK455 0
            have hcz132_1 := bc BK455 1
            have hcz132_2 := bc BK455 2
            have hfz132_0 := bf BK455 0
            have hfz132_1 := bf BK455 1
            have hfz132_2 := bf BK455 2
            have hnb133 := NB405_388.out; have hnc133 := NB388_405.out; have hnb134 := NB405_413.out; have hnc134 := NB413_405.out; have hnb135 := NB405_422.out; have hnc135 := NB422_405.out
            have hcz136_0 := bc BK405 0
            have hcz136_1 := bc BK405 1
            have hcz136_2 := bc BK405 2
            have hfz136_0 := bf BK405 0
            have hfz136_1 := bf BK405 1
            have hfz136_2 := bf BK405 2
            go_wp2_with (first | ((with_reducible refine gate_callee (f := 29) rfl ?_); refine gL (some 91) Try.func29 #[.agg #[.int .i64 t447, .slice Ao124 t448.length co124, .slice Ao125 t451.length co125], .agg #[.int .i64 t397, .slice Ao25 t398.length co25, .slice Ao26 t401.length co26]] ?_; (with_reducible refine (laws_eqRule.calls kj65 t447 _ _ t448 _ _ t451 t397 _ _ t398 _ _ t401 true _ ?side1 ?side2 ?side3 ?side4 ?side5 ?side6 ?side7 ?side8 A126.out).mono ?_); (case side1 => refine (Kd.R_reads' (e := 2) (base := w.heap.size) (ok := fun k_ => ((((((((ax k_ (.slice Ao125 t451.length co125) ∧ ax k_ (.slice Ao25 t398.length co25)) ∧ ax k_ (.slice Ao26 t401.length co26)) ∧ ax k_ (.slice Ao33 t433.length co33)) ∧ ax k_ (.slice Ao34 t434.length co34)) ∧ ax k_ (.slice Ao41 t415.length co41)) ∧ ax k_ (.slice Ao42 t418.length co42)) ∧ ax k_ (.slice Ao115 t441.length co115)) ∧ ax k_ (.slice Ao116 t444.length co116))) (n := t448.length) (c := co124) ?_).2.2; exact (uR ((rf3 HO450 BK455 (by decide) (.int .i64 t447) (.slice Ao124 t448.length co124) (.slice Ao125 t451.length co125))))); (case side2 => exact (Kd.R_reads' HO450.out).2.1); (case side3 => refine (Kd.R_reads' (e := 2) (base := w.heap.size) (ok := fun k_ => ((((((((ax k_ (.slice Ao124 t448.length co124) ∧ ax k_ (.slice Ao25 t398.length co25)) ∧ ax k_ (.slice Ao26 t401.length co26)) ∧ ax k_ (.slice Ao33 t433.length co33)) ∧ ax k_ (.slice Ao34 t434.length co34)) ∧ ax k_ (.slice Ao41 t415.length co41)) ∧ ax k_ (.slice Ao42 t418.length co42)) ∧ ax k_ (.slice Ao115 t441.length co115)) ∧ ax k_ (.slice Ao116 t444.length co116))) (n := t451.length) (c := co125) ?_).2.2; exact (uR ((rf3 HO453 BK455 (by decide) (.int .i64 t447) (.slice Ao124 t448.length co124) (.slice Ao125 t451.length co125))))); (case side4 => exact (Kd.R_reads' HO453.out).2.1); (case side5 => refine (Kd.R_reads' (e := 2) (base := w.heap.size) (ok := fun k_ => (((((ax k_ (.slice Ao26 t401.length co26) ∧ (ax k_ (.slice Ao33 t433.length co33) ∧ (ax k_ (.slice Ao34 t434.length co34) ∧ (ax k_ (.slice Ao41 t415.length co41) ∧ ax k_ (.slice Ao42 t418.length co42))))) ∧ ax k_ (.slice Ao115 t441.length co115)) ∧ ax k_ (.slice Ao116 t444.length co116)) ∧ ax k_ (.slice Ao124 t448.length co124)) ∧ ax k_ (.slice Ao125 t451.length co125))) (n := t398.length) (c := co25) ?_).2.2; exact (uR ((rf3 HO_406001 BK455 (by decide) (.int .i64 t447) (.slice Ao124 t448.length co124) (.slice Ao125 t451.length co125))))); (case side6 => exact (Kd.R_reads' HO_406001.out).2.1); (case side7 => refine (Kd.R_reads' (e := 2) (base := w.heap.size) (ok := fun k_ => (((((ax k_ (.slice Ao25 t398.length co25) ∧ (ax k_ (.slice Ao33 t433.length co33) ∧ (ax k_ (.slice Ao34 t434.length co34) ∧ (ax k_ (.slice Ao41 t415.length co41) ∧ ax k_ (.slice Ao42 t418.length co42))))) ∧ ax k_ (.slice Ao115 t441.length co115)) ∧ ax k_ (.slice Ao116 t444.length co116)) ∧ ax k_ (.slice Ao124 t448.length co124)) ∧ ax k_ (.slice Ao125 t451.length co125))) (n := t401.length) (c := co26) ?_).2.2; exact (uR ((rf3 HO_406002 BK455 (by decide) (.int .i64 t447) (.slice Ao124 t448.length co124) (.slice Ao125 t451.length co125))))); (case side8 => exact (Kd.R_reads' HO_406002.out).2.1); rintro e w137 ⟨rfl, hb⟩; refine ⟨_, rfl, ?_⟩; replace HO_406001 := zA (Kd.R_below (uR ((rf3 HO_406001 BK455 (by decide) (.int .i64 t447) (.slice Ao124 t448.length co124) (.slice Ao125 t451.length co125)))) hb); replace HO_406002 := zA (Kd.R_below (uR ((rf3 HO_406002 BK455 (by decide) (.int .i64 t447) (.slice Ao124 t448.length co124) (.slice Ao125 t451.length co125)))) hb); replace HO_414001 := zA (Kd.R_below (uR ((rf3 HO_414001 BK455 (by decide) (.int .i64 t447) (.slice Ao124 t448.length co124) (.slice Ao125 t451.length co125)))) hb); replace HO_414002 := zA (Kd.R_below (uR ((rf3 HO_414002 BK455 (by decide) (.int .i64 t447) (.slice Ao124 t448.length co124) (.slice Ao125 t451.length co125)))) hb); replace HO_423001 := zA (Kd.R_below (uR ((rf3 HO_423001 BK455 (by decide) (.int .i64 t447) (.slice Ao124 t448.length co124) (.slice Ao125 t451.length co125)))) hb); replace HO_423002 := zA (Kd.R_below (uR ((rf3 HO_423002 BK455 (by decide) (.int .i64 t447) (.slice Ao124 t448.length co124) (.slice Ao125 t451.length co125)))) hb); replace HO443 := zA (Kd.R_below (uR ((rf3 HO443 BK455 (by decide) (.int .i64 t447) (.slice Ao124 t448.length co124) (.slice Ao125 t451.length co125)))) hb); replace HO446 := zA (Kd.R_below (uR ((rf3 HO446 BK455 (by decide) (.int .i64 t447) (.slice Ao124 t448.length co124) (.slice Ao125 t451.length co125)))) hb); replace HO450 := zA (Kd.R_below (uR ((rf3 HO450 BK455 (by decide) (.int .i64 t447) (.slice Ao124 t448.length co124) (.slice Ao125 t451.length co125)))) hb); replace HO453 := zA (Kd.R_below (uR ((rf3 HO453 BK455 (by decide) (.int .i64 t447) (.slice Ao124 t448.length co124) (.slice Ao125 t451.length co125)))) hb); replace BK388 := zA (blk_below (g := gb388) (o := .cells #[.int .i64 a0_0, .slice A0_1 l0_1.length c0_1, .slice A0_2 l0_2.length c0_2] 49 (0, 0)) (by (repeat refine up1 ?_); refine blk_far ?_ NB388_455.out _; (repeat refine up1 ?_); refine blk_far ?_ NB388_455.out _; (repeat refine up1 ?_); refine blk_far ?_ NB388_455.out _; (repeat refine up1 ?_); exact BK388.out) hb); replace BK405 := zA (blk_below (g := gb405) (o := .cells #[.int .i64 t397, .slice Ao25 t398.length co25, .slice Ao26 t401.length co26] 51 (0, 0)) (by (repeat refine up1 ?_); refine blk_far ?_ NB405_455.out _; (repeat refine up1 ?_); refine blk_far ?_ NB405_455.out _; (repeat refine up1 ?_); refine blk_far ?_ NB405_455.out _; (repeat refine up1 ?_); exact BK405.out) hb); replace BK413 := zA (blk_below (g := gb413) (o := .cells #[.int .i64 t406, .slice Ao33 t433.length co33, .slice Ao34 t434.length co34] 51 (0, 0)) (by (repeat refine up1 ?_); refine blk_far ?_ NB413_455.out _; (repeat refine up1 ?_); refine blk_far ?_ NB413_455.out _; (repeat refine up1 ?_); refine blk_far ?_ NB413_455.out _; (repeat refine up1 ?_); exact BK413.out) hb); replace BK422 := zA (blk_below (g := gb422) (o := .cells #[.int .i64 t414, .slice Ao41 t415.length co41, .slice Ao42 t418.length co42] 51 (0, 0)) (by (repeat refine up1 ?_); refine blk_far ?_ NB422_455.out _; (repeat refine up1 ?_); refine blk_far ?_ NB422_455.out _; (repeat refine up1 ?_); refine blk_far ?_ NB422_455.out _; (repeat refine up1 ?_); exact BK422.out) hb); replace BK455 := zA (blk_below (g := gb455) (o := .cells #[.int .i64 t447, .slice Ao124 t448.length co124, .slice Ao125 t451.length co125] 51 (0, 0)) (by (repeat refine up1 ?_); refine blk_put (cs := #[.int .i64 t447, .slice Ao124 t448.length co124, .slice none 0 0]) ?_ 2 _ rfl; (repeat refine up1 ?_); refine blk_put (cs := #[.int .i64 t447, .slice none 0 0, .slice none 0 0]) ?_ 1 _ rfl; (repeat refine up1 ?_); refine blk_put (cs := #[.int .i64 0, .slice none 0 0, .slice none 0 0]) ?_ 0 _ rfl; (repeat refine up1 ?_); exact BK455.out) hb); replace HB := xH HB hb; (try clear hb); (try clear hb2); (try clear hk); (try clear hi)))
            go_meet
            case rel => exact ⟨_, ((t454 != t404)), (by first | rfl | (simp; done) | (simp [*]; done)), H', ⟨by have := HJ12.out; have := HJ65.out; first | omega | exact Nat.le_refl _⟩, ⟨by (try simp only [hl414001_65]); (try simp only [hl414002_65]); (with_reducible repeat (first | apply Kd.R_alloc | apply Kd.R_drewN | apply Kd.R_drew)); exact Kd.R_mono HO_406001.out (fun _ hk => ⟨hk.1.1.1.1.1, ⟨hk.1.1.1.1.2.1, ⟨hk.1.1.1.1.2.2.1, ⟨hk.1.1.1.1.2.2.2.1, ⟨hk.1.1.1.1.2.2.2.2, ⟨hk.1.2, hk.2⟩⟩⟩⟩⟩⟩)⟩, ⟨by (try simp only [hl414001_65]); (try simp only [hl414002_65]); (with_reducible repeat (first | apply Kd.R_alloc | apply Kd.R_drewN | apply Kd.R_drew)); exact Kd.R_mono HO_406002.out (fun _ hk => ⟨hk.1.1.1.1.1, ⟨hk.1.1.1.1.2.1, ⟨hk.1.1.1.1.2.2.1, ⟨hk.1.1.1.1.2.2.2.1, ⟨hk.1.1.1.1.2.2.2.2, ⟨hk.1.2, hk.2⟩⟩⟩⟩⟩⟩)⟩, ⟨by (try simp only [hl414001_65]); (try simp only [hl414002_65]); (with_reducible repeat (first | apply Kd.R_alloc | apply Kd.R_drewN | apply Kd.R_drew)); exact Kd.R_mono HO_414001.out (fun _ hk => ⟨hk.1.1.1.1.1, ⟨hk.1.1.1.1.2.1, ⟨hk.1.1.1.1.2.2.1, ⟨hk.1.1.1.1.2.2.2.1, ⟨hk.1.1.1.1.2.2.2.2, ⟨hk.1.2, hk.2⟩⟩⟩⟩⟩⟩)⟩, ⟨by (try simp only [hl414001_65]); (try simp only [hl414002_65]); (with_reducible repeat (first | apply Kd.R_alloc | apply Kd.R_drewN | apply Kd.R_drew)); exact Kd.R_mono HO_414002.out (fun _ hk => ⟨hk.1.1.1.1.1, ⟨hk.1.1.1.1.2.1, ⟨hk.1.1.1.1.2.2.1, ⟨hk.1.1.1.1.2.2.2.1, ⟨hk.1.1.1.1.2.2.2.2, ⟨hk.1.2, hk.2⟩⟩⟩⟩⟩⟩)⟩, ⟨by (try simp only [hl414001_65]); (try simp only [hl414002_65]); (with_reducible repeat (first | apply Kd.R_alloc | apply Kd.R_drewN | apply Kd.R_drew)); exact Kd.R_mono HO_423001.out (fun _ hk => ⟨hk.1.1.1.1.1, ⟨hk.1.1.1.1.2.1, ⟨hk.1.1.1.1.2.2.1, ⟨hk.1.1.1.1.2.2.2.1, ⟨hk.1.1.1.1.2.2.2.2, ⟨hk.1.2, hk.2⟩⟩⟩⟩⟩⟩)⟩, ⟨by (try simp only [hl414001_65]); (try simp only [hl414002_65]); (with_reducible repeat (first | apply Kd.R_alloc | apply Kd.R_drewN | apply Kd.R_drew)); exact Kd.R_mono HO_423002.out (fun _ hk => ⟨hk.1.1.1.1.1, ⟨hk.1.1.1.1.2.1, ⟨hk.1.1.1.1.2.2.1, ⟨hk.1.1.1.1.2.2.2.1, ⟨hk.1.1.1.1.2.2.2.2, ⟨hk.1.2, hk.2⟩⟩⟩⟩⟩⟩)⟩, ⟨by (try simp only [hl414001_65]); (try simp only [hl414002_65]); (with_reducible repeat (first | apply Kd.R_alloc | apply Kd.R_drewN | apply Kd.R_drew)); exact Kd.R_mono HO450.out (fun _ hk => ⟨hk.1.1.1.1.1.1.1.2, ⟨hk.1.1.1.1.1.1.2, ⟨hk.1.1.1.1.1.2, ⟨hk.1.1.1.1.2, ⟨hk.1.1.1.2, ⟨hk.1.1.2, hk.1.1.1.1.1.1.1.1⟩⟩⟩⟩⟩⟩)⟩, ⟨by (try simp only [hl414001_65]); (try simp only [hl414002_65]); (with_reducible repeat (first | apply Kd.R_alloc | apply Kd.R_drewN | apply Kd.R_drew)); exact Kd.R_mono HO453.out (fun _ hk => ⟨hk.1.1.1.1.1.1.1.2, ⟨hk.1.1.1.1.1.1.2, ⟨hk.1.1.1.1.1.2, ⟨hk.1.1.1.1.2, ⟨hk.1.1.1.2, ⟨hk.1.1.2, hk.1.1.1.1.1.1.1.1⟩⟩⟩⟩⟩⟩)⟩, ⟨by (try simp only [hl414001_65]); (try simp only [hl414002_65]); (repeat refine up1 ?_); exact BK388.out⟩, ⟨by (try simp only [hl414001_65]); (try simp only [hl414002_65]); (repeat refine up1 ?_); exact BK405.out⟩, ⟨by (try simp only [hl414001_65]); (try simp only [hl414002_65]); (repeat refine up1 ?_); exact BK413.out⟩, ⟨by (try simp only [hl414001_65]); (try simp only [hl414002_65]); (repeat refine up1 ?_); exact BK422.out⟩, ⟨by (try simp only [hl414001_65]); (try simp only [hl414002_65]); (repeat refine up1 ?_); exact BK455.out⟩, ⟨uH HB.out⟩⟩
           ·replace c127 := Bool.eq_false_iff.mpr c127
            subst c127
            have H1 : (laws_FnExactMoveRule.j2 kj65 t436 true t414 t437 t438) = some r := by rw [if_neg (show ¬ (false = true) by decide)] at H; exact H
            clear H
            have H := H1
            clear H1
            have H' := zA H
            clear H
            have hnb138 := NB455_388.out; have hnc138 := NB388_455.out; have hnb139 := NB455_405.out; have hnc139 := NB405_455.out; have hnb140 := NB455_413.out; have hnc140 := NB413_455.out; have hnb141 := NB455_422.out; have hnc141 := NB422_455.out
            have hcz142_0 := bc BK455 0
            have hcz142_1 := bc BK455 1
            have hcz142_2 := bc BK455 2
            have hfz142_0 := bf BK455 0
            have hfz142_1 := bf BK455 1
            have hfz142_2 := bf BK455 2
            have hnb143 := NB405_388.out; have hnc143 := NB388_405.out; have hnb144 := NB405_413.out; have hnc144 := NB413_405.out; have hnb145 := NB405_422.out; have hnc145 := NB422_405.out
            have hcz146_0 := bc BK405 0
            have hcz146_1 := bc BK405 1
            have hcz146_2 := bc BK405 2
            have hfz146_0 := bf BK405 0
            have hfz146_1 := bf BK405 1
            have hfz146_2 := bf BK405 2
            go_wp2_with (first | ((with_reducible refine gate_callee (f := 29) rfl ?_); refine gL (some 91) Try.func29 #[.agg #[.int .i64 t447, .slice Ao124 t448.length co124, .slice Ao125 t451.length co125], .agg #[.int .i64 t397, .slice Ao25 t398.length co25, .slice Ao26 t401.length co26]] ?_; (with_reducible refine (laws_eqRule.calls kj65 t447 _ _ t448 _ _ t451 t397 _ _ t398 _ _ t401 false _ ?side1 ?side2 ?side3 ?side4 ?side5 ?side6 ?side7 ?side8 A126.out).mono ?_); (case side1 => refine (Kd.R_reads' (e := 2) (base := w.heap.size) (ok := fun k_ => ((((((((ax k_ (.slice Ao125 t451.length co125) ∧ ax k_ (.slice Ao25 t398.length co25)) ∧ ax k_ (.slice Ao26 t401.length co26)) ∧ ax k_ (.slice Ao33 t433.length co33)) ∧ ax k_ (.slice Ao34 t434.length co34)) ∧ ax k_ (.slice Ao41 t415.length co41)) ∧ ax k_ (.slice Ao42 t418.length co42)) ∧ ax k_ (.slice Ao115 t441.length co115)) ∧ ax k_ (.slice Ao116 t444.length co116))) (n := t448.length) (c := co124) ?_).2.2; exact (uR ((rf3 HO450 BK455 (by decide) (.int .i64 t447) (.slice Ao124 t448.length co124) (.slice Ao125 t451.length co125))))); (case side2 => exact (Kd.R_reads' HO450.out).2.1); (case side3 => refine (Kd.R_reads' (e := 2) (base := w.heap.size) (ok := fun k_ => ((((((((ax k_ (.slice Ao124 t448.length co124) ∧ ax k_ (.slice Ao25 t398.length co25)) ∧ ax k_ (.slice Ao26 t401.length co26)) ∧ ax k_ (.slice Ao33 t433.length co33)) ∧ ax k_ (.slice Ao34 t434.length co34)) ∧ ax k_ (.slice Ao41 t415.length co41)) ∧ ax k_ (.slice Ao42 t418.length co42)) ∧ ax k_ (.slice Ao115 t441.length co115)) ∧ ax k_ (.slice Ao116 t444.length co116))) (n := t451.length) (c := co125) ?_).2.2; exact (uR ((rf3 HO453 BK455 (by decide) (.int .i64 t447) (.slice Ao124 t448.length co124) (.slice Ao125 t451.length co125))))); (case side4 => exact (Kd.R_reads' HO453.out).2.1); (case side5 => refine (Kd.R_reads' (e := 2) (base := w.heap.size) (ok := fun k_ => (((((ax k_ (.slice Ao26 t401.length co26) ∧ (ax k_ (.slice Ao33 t433.length co33) ∧ (ax k_ (.slice Ao34 t434.length co34) ∧ (ax k_ (.slice Ao41 t415.length co41) ∧ ax k_ (.slice Ao42 t418.length co42))))) ∧ ax k_ (.slice Ao115 t441.length co115)) ∧ ax k_ (.slice Ao116 t444.length co116)) ∧ ax k_ (.slice Ao124 t448.length co124)) ∧ ax k_ (.slice Ao125 t451.length co125))) (n := t398.length) (c := co25) ?_).2.2; exact (uR ((rf3 HO_406001 BK455 (by decide) (.int .i64 t447) (.slice Ao124 t448.length co124) (.slice Ao125 t451.length co125))))); (case side6 => exact (Kd.R_reads' HO_406001.out).2.1); (case side7 => refine (Kd.R_reads' (e := 2) (base := w.heap.size) (ok := fun k_ => (((((ax k_ (.slice Ao25 t398.length co25) ∧ (ax k_ (.slice Ao33 t433.length co33) ∧ (ax k_ (.slice Ao34 t434.length co34) ∧ (ax k_ (.slice Ao41 t415.length co41) ∧ ax k_ (.slice Ao42 t418.length co42))))) ∧ ax k_ (.slice Ao115 t441.length co115)) ∧ ax k_ (.slice Ao116 t444.length co116)) ∧ ax k_ (.slice Ao124 t448.length co124)) ∧ ax k_ (.slice Ao125 t451.length co125))) (n := t401.length) (c := co26) ?_).2.2; exact (uR ((rf3 HO_406002 BK455 (by decide) (.int .i64 t447) (.slice Ao124 t448.length co124) (.slice Ao125 t451.length co125))))); (case side8 => exact (Kd.R_reads' HO_406002.out).2.1); rintro e w147 ⟨rfl, hb⟩; refine ⟨_, rfl, ?_⟩; replace HO_406001 := zA (Kd.R_below (uR ((rf3 HO_406001 BK455 (by decide) (.int .i64 t447) (.slice Ao124 t448.length co124) (.slice Ao125 t451.length co125)))) hb); replace HO_406002 := zA (Kd.R_below (uR ((rf3 HO_406002 BK455 (by decide) (.int .i64 t447) (.slice Ao124 t448.length co124) (.slice Ao125 t451.length co125)))) hb); replace HO_414001 := zA (Kd.R_below (uR ((rf3 HO_414001 BK455 (by decide) (.int .i64 t447) (.slice Ao124 t448.length co124) (.slice Ao125 t451.length co125)))) hb); replace HO_414002 := zA (Kd.R_below (uR ((rf3 HO_414002 BK455 (by decide) (.int .i64 t447) (.slice Ao124 t448.length co124) (.slice Ao125 t451.length co125)))) hb); replace HO_423001 := zA (Kd.R_below (uR ((rf3 HO_423001 BK455 (by decide) (.int .i64 t447) (.slice Ao124 t448.length co124) (.slice Ao125 t451.length co125)))) hb); replace HO_423002 := zA (Kd.R_below (uR ((rf3 HO_423002 BK455 (by decide) (.int .i64 t447) (.slice Ao124 t448.length co124) (.slice Ao125 t451.length co125)))) hb); replace HO443 := zA (Kd.R_below (uR ((rf3 HO443 BK455 (by decide) (.int .i64 t447) (.slice Ao124 t448.length co124) (.slice Ao125 t451.length co125)))) hb); replace HO446 := zA (Kd.R_below (uR ((rf3 HO446 BK455 (by decide) (.int .i64 t447) (.slice Ao124 t448.length co124) (.slice Ao125 t451.length co125)))) hb); replace HO450 := zA (Kd.R_below (uR ((rf3 HO450 BK455 (by decide) (.int .i64 t447) (.slice Ao124 t448.length co124) (.slice Ao125 t451.length co125)))) hb); replace HO453 := zA (Kd.R_below (uR ((rf3 HO453 BK455 (by decide) (.int .i64 t447) (.slice Ao124 t448.length co124) (.slice Ao125 t451.length co125)))) hb); replace BK388 := zA (blk_below (g := gb388) (o := .cells #[.int .i64 a0_0, .slice A0_1 l0_1.length c0_1, .slice A0_2 l0_2.length c0_2] 49 (0, 0)) (by (repeat refine up1 ?_); refine blk_far ?_ NB388_455.out _; (repeat refine up1 ?_); refine blk_far ?_ NB388_455.out _; (repeat refine up1 ?_); refine blk_far ?_ NB388_455.out _; (repeat refine up1 ?_); exact BK388.out) hb); replace BK405 := zA (blk_below (g := gb405) (o := .cells #[.int .i64 t397, .slice Ao25 t398.length co25, .slice Ao26 t401.length co26] 51 (0, 0)) (by (repeat refine up1 ?_); refine blk_far ?_ NB405_455.out _; (repeat refine up1 ?_); refine blk_far ?_ NB405_455.out _; (repeat refine up1 ?_); refine blk_far ?_ NB405_455.out _; (repeat refine up1 ?_); exact BK405.out) hb); replace BK413 := zA (blk_below (g := gb413) (o := .cells #[.int .i64 t406, .slice Ao33 t433.length co33, .slice Ao34 t434.length co34] 51 (0, 0)) (by (repeat refine up1 ?_); refine blk_far ?_ NB413_455.out _; (repeat refine up1 ?_); refine blk_far ?_ NB413_455.out _; (repeat refine up1 ?_); refine blk_far ?_ NB413_455.out _; (repeat refine up1 ?_); exact BK413.out) hb); replace BK422 := zA (blk_below (g := gb422) (o := .cells #[.int .i64 t414, .slice Ao41 t415.length co41, .slice Ao42 t418.length co42] 51 (0, 0)) (by (repeat refine up1 ?_); refine blk_far ?_ NB422_455.out _; (repeat refine up1 ?_); refine blk_far ?_ NB422_455.out _; (repeat refine up1 ?_); refine blk_far ?_ NB422_455.out _; (repeat refine up1 ?_); exact BK422.out) hb); replace BK455 := zA (blk_below (g := gb455) (o := .cells #[.int .i64 t447, .slice Ao124 t448.length co124, .slice Ao125 t451.length co125] 51 (0, 0)) (by (repeat refine up1 ?_); refine blk_put (cs := #[.int .i64 t447, .slice Ao124 t448.length co124, .slice none 0 0]) ?_ 2 _ rfl; (repeat refine up1 ?_); refine blk_put (cs := #[.int .i64 t447, .slice none 0 0, .slice none 0 0]) ?_ 1 _ rfl; (repeat refine up1 ?_); refine blk_put (cs := #[.int .i64 0, .slice none 0 0, .slice none 0 0]) ?_ 0 _ rfl; (repeat refine up1 ?_); exact BK455.out) hb); replace HB := xH HB hb; (try clear hb); (try clear hb2); (try clear hk); (try clear hi)))
            go_meet
            case rel => exact ⟨_, (true), (by first | rfl | (simp; done) | (simp [*]; done)), H', ⟨by have := HJ12.out; have := HJ65.out; first | omega | exact Nat.le_refl _⟩, ⟨by (try simp only [hl414001_65]); (try simp only [hl414002_65]); (with_reducible repeat (first | apply Kd.R_alloc | apply Kd.R_drewN | apply Kd.R_drew)); exact Kd.R_mono HO_406001.out (fun _ hk => ⟨hk.1.1.1.1.1, ⟨hk.1.1.1.1.2.1, ⟨hk.1.1.1.1.2.2.1, ⟨hk.1.1.1.1.2.2.2.1, ⟨hk.1.1.1.1.2.2.2.2, ⟨hk.1.2, hk.2⟩⟩⟩⟩⟩⟩)⟩, ⟨by (try simp only [hl414001_65]); (try simp only [hl414002_65]); (with_reducible repeat (first | apply Kd.R_alloc | apply Kd.R_drewN | apply Kd.R_drew)); exact Kd.R_mono HO_406002.out (fun _ hk => ⟨hk.1.1.1.1.1, ⟨hk.1.1.1.1.2.1, ⟨hk.1.1.1.1.2.2.1, ⟨hk.1.1.1.1.2.2.2.1, ⟨hk.1.1.1.1.2.2.2.2, ⟨hk.1.2, hk.2⟩⟩⟩⟩⟩⟩)⟩, ⟨by (try simp only [hl414001_65]); (try simp only [hl414002_65]); (with_reducible repeat (first | apply Kd.R_alloc | apply Kd.R_drewN | apply Kd.R_drew)); exact Kd.R_mono HO_414001.out (fun _ hk => ⟨hk.1.1.1.1.1, ⟨hk.1.1.1.1.2.1, ⟨hk.1.1.1.1.2.2.1, ⟨hk.1.1.1.1.2.2.2.1, ⟨hk.1.1.1.1.2.2.2.2, ⟨hk.1.2, hk.2⟩⟩⟩⟩⟩⟩)⟩, ⟨by (try simp only [hl414001_65]); (try simp only [hl414002_65]); (with_reducible repeat (first | apply Kd.R_alloc | apply Kd.R_drewN | apply Kd.R_drew)); exact Kd.R_mono HO_414002.out (fun _ hk => ⟨hk.1.1.1.1.1, ⟨hk.1.1.1.1.2.1, ⟨hk.1.1.1.1.2.2.1, ⟨hk.1.1.1.1.2.2.2.1, ⟨hk.1.1.1.1.2.2.2.2, ⟨hk.1.2, hk.2⟩⟩⟩⟩⟩⟩)⟩, ⟨by (try simp only [hl414001_65]); (try simp only [hl414002_65]); (with_reducible repeat (first | apply Kd.R_alloc | apply Kd.R_drewN | apply Kd.R_drew)); exact Kd.R_mono HO_423001.out (fun _ hk => ⟨hk.1.1.1.1.1, ⟨hk.1.1.1.1.2.1, ⟨hk.1.1.1.1.2.2.1, ⟨hk.1.1.1.1.2.2.2.1, ⟨hk.1.1.1.1.2.2.2.2, ⟨hk.1.2, hk.2⟩⟩⟩⟩⟩⟩)⟩, ⟨by (try simp only [hl414001_65]); (try simp only [hl414002_65]); (with_reducible repeat (first | apply Kd.R_alloc | apply Kd.R_drewN | apply Kd.R_drew)); exact Kd.R_mono HO_423002.out (fun _ hk => ⟨hk.1.1.1.1.1, ⟨hk.1.1.1.1.2.1, ⟨hk.1.1.1.1.2.2.1, ⟨hk.1.1.1.1.2.2.2.1, ⟨hk.1.1.1.1.2.2.2.2, ⟨hk.1.2, hk.2⟩⟩⟩⟩⟩⟩)⟩, ⟨by (try simp only [hl414001_65]); (try simp only [hl414002_65]); (with_reducible repeat (first | apply Kd.R_alloc | apply Kd.R_drewN | apply Kd.R_drew)); exact Kd.R_mono HO450.out (fun _ hk => ⟨hk.1.1.1.1.1.1.1.2, ⟨hk.1.1.1.1.1.1.2, ⟨hk.1.1.1.1.1.2, ⟨hk.1.1.1.1.2, ⟨hk.1.1.1.2, ⟨hk.1.1.2, hk.1.1.1.1.1.1.1.1⟩⟩⟩⟩⟩⟩)⟩, ⟨by (try simp only [hl414001_65]); (try simp only [hl414002_65]); (with_reducible repeat (first | apply Kd.R_alloc | apply Kd.R_drewN | apply Kd.R_drew)); exact Kd.R_mono HO453.out (fun _ hk => ⟨hk.1.1.1.1.1.1.1.2, ⟨hk.1.1.1.1.1.1.2, ⟨hk.1.1.1.1.1.2, ⟨hk.1.1.1.1.2, ⟨hk.1.1.1.2, ⟨hk.1.1.2, hk.1.1.1.1.1.1.1.1⟩⟩⟩⟩⟩⟩)⟩, ⟨by (try simp only [hl414001_65]); (try simp only [hl414002_65]); (repeat refine up1 ?_); exact BK388.out⟩, ⟨by (try simp only [hl414001_65]); (try simp only [hl414002_65]); (repeat refine up1 ?_); exact BK405.out⟩, ⟨by (try simp only [hl414001_65]); (try simp only [hl414002_65]); (repeat refine up1 ?_); exact BK413.out⟩, ⟨by (try simp only [hl414001_65]); (try simp only [hl414002_65]); (repeat refine up1 ?_); exact BK422.out⟩, ⟨by (try simp only [hl414001_65]); (try simp only [hl414002_65]); (repeat refine up1 ?_); exact BK455.out⟩, ⟨uH HB.out⟩⟩
          case rest =>
           clear HC103
           (try clear c1);(try clear c2);(try clear p2);(try clear c3);(try clear c4);(try clear c5);(try clear c5b0);(try clear c6);(try clear c7);(try clear c8);(try clear c9);(try clear c10);(try clear c11);(try clear c12);(try clear c13);(try clear c14);(try clear c23);(try clear c25);(try clear c27);(try clear c29);(try clear c30);(try clear c31);(try clear c32);(try clear c33);(try clear c37)
           (try clear c38);(try clear c39);(try clear c44);(try clear c45);(try clear c46);(try clear c47);(try clear c49);(try clear c50);(try clear c53);(try clear c54);(try clear c55);(try clear c57);(try clear c58);(try clear c61);(try clear c64);(try clear c72);(try clear c73);(try clear c74);(try clear c77);(try clear c77b0);(try clear c79);(try clear c80);(try clear c81);(try clear c82);(try clear c84)
           (try clear c85);(try clear c88);(try clear c89);(try clear c90);(try clear c92);(try clear c93);(try clear c96);(try clear c99);(try clear c99b0);(try clear c100);(try clear c100b0);(try clear c100b1);(try clear c104);(try clear c105);(try clear c106);(try clear c111);(try clear c112);(try clear c119);(try clear c120);(try clear c121);(try clear c122);(try clear c127);(try clear c128);(try clear c129)
           (try clear c130);(try clear c131);(try clear c133);(try clear c134);(try clear c135);(try clear c138);(try clear c139);(try clear c140);(try clear c141);(try clear c143);(try clear c144);(try clear c145);(try clear hcz107_0);(try clear hcz107_1);(try clear hcz107_2);(try clear hcz109_0);(try clear hcz109_1);(try clear hcz109_2);(try clear hcz113_0);(try clear hcz113_1);(try clear hcz113_2)
           (try clear hcz123_0);(try clear hcz123_1);(try clear hcz123_2);(try clear hcz132_0);(try clear hcz132_1);(try clear hcz132_2);(try clear hcz136_0);(try clear hcz136_1);(try clear hcz136_2);(try clear hcz142_0);(try clear hcz142_1);(try clear hcz142_2);(try clear hcz146_0);(try clear hcz146_1);(try clear hcz146_2);(try clear hcz15_0);(try clear hcz15_1);(try clear hcz15_2);(try clear hcz17_0)
           (try clear hcz17_1);(try clear hcz17_2);(try clear hcz24_0);(try clear hcz24_1);(try clear hcz24_2);(try clear hcz27_0);(try clear hcz27_1);(try clear hcz27_2);(try clear hcz32_0);(try clear hcz32_1);(try clear hcz32_2);(try clear hcz40_0);(try clear hcz40_1);(try clear hcz40_2);(try clear hcz48_0);(try clear hcz48_1);(try clear hcz48_2);(try clear hcz51_0);(try clear hcz51_1);(try clear hcz51_2)
           (try clear hcz56_0);(try clear hcz56_1);(try clear hcz56_2);(try clear hcz59_0);(try clear hcz59_1);(try clear hcz59_2);(try clear hcz75_0);(try clear hcz75_1);(try clear hcz75_2);(try clear hcz7_0);(try clear hcz7_1);(try clear hcz7_2);(try clear hcz83_0);(try clear hcz83_1);(try clear hcz83_2);(try clear hcz86_0);(try clear hcz86_1);(try clear hcz86_2);(try clear hcz91_0);(try clear hcz91_1)
           (try clear hcz91_2);(try clear hcz94_0);(try clear hcz94_1);(try clear hcz94_2);(try clear hfz107_0);(try clear hfz107_1);(try clear hfz107_2);(try clear hfz109_0);(try clear hfz109_1);(try clear hfz109_2);(try clear hfz113_0);(try clear hfz113_1);(try clear hfz113_2);(try clear hfz123_0);(try clear hfz123_1);(try clear hfz123_2);(try clear hfz132_0);(try clear hfz132_1);(try clear hfz132_2)
           (try clear hfz136_0);(try clear hfz136_1);(try clear hfz136_2);(try clear hfz142_0);(try clear hfz142_1);(try clear hfz142_2);(try clear hfz146_0);(try clear hfz146_1);(try clear hfz146_2);(try clear hfz15_0);(try clear hfz15_1);(try clear hfz15_2);(try clear hfz17_0);(try clear hfz17_1);(try clear hfz17_2);(try clear hfz24_0);(try clear hfz24_1);(try clear hfz24_2);(try clear hfz27_0);(try clear hfz27_1)
           (try clear hfz27_2);(try clear hfz32_0);(try clear hfz32_1);(try clear hfz32_2);(try clear hfz40_0);(try clear hfz40_1);(try clear hfz40_2);(try clear hfz48_0);(try clear hfz48_1);(try clear hfz48_2);(try clear hfz51_0);(try clear hfz51_1);(try clear hfz51_2);(try clear hfz56_0);(try clear hfz56_1);(try clear hfz56_2);(try clear hfz59_0);(try clear hfz59_1);(try clear hfz59_2);(try clear hfz75_0)
           (try clear hfz75_1);(try clear hfz75_2);(try clear hfz7_0);(try clear hfz7_1);(try clear hfz7_2);(try clear hfz83_0);(try clear hfz83_1);(try clear hfz83_2);(try clear hfz86_0);(try clear hfz86_1);(try clear hfz86_2);(try clear hfz91_0);(try clear hfz91_1);(try clear hfz91_2);(try clear hfz94_0);(try clear hfz94_1);(try clear hfz94_2);(try clear p2)
           obtain ⟨kq, x97_102, rfl, HA, HJ102, HO_406001, HO_406002, HO_414001, HO_414002, HO_423001, HO_423002, HO_456001, HO_456002, BK388, BK405, BK413, BK422, BK455, HB⟩ := hcut
           have hl423001_102 := (Kd.R_reads' HO_423001.out).1
           rw [hl423001_102] at HO_423001
           (try simp only [hl423001_102])
           (try simp only [hl423001_102] at BK388)
           (try simp only [hl423001_102] at BK405)
           (try simp only [hl423001_102] at BK413)
           (try simp only [hl423001_102] at BK422)
           (try simp only [hl423001_102] at BK455)
           (try simp only [hl423001_102] at HO_406001)
           (try simp only [hl423001_102] at HO_406002)
           (try simp only [hl423001_102] at HO_414001)
           (try simp only [hl423001_102] at HO_414002)
           (try simp only [hl423001_102] at HO_423002)
           (try simp only [hl423001_102] at HO_456001)
           (try simp only [hl423001_102] at HO_456002)
           have hl423002_102 := (Kd.R_reads' HO_423002.out).1
           rw [hl423002_102] at HO_423002
           (try simp only [hl423002_102])
           (try simp only [hl423002_102] at BK388)
           (try simp only [hl423002_102] at BK405)
           (try simp only [hl423002_102] at BK413)
           (try simp only [hl423002_102] at BK422)
           (try simp only [hl423002_102] at BK455)
           (try simp only [hl423002_102] at HO_406001)
           (try simp only [hl423002_102] at HO_406002)
           (try simp only [hl423002_102] at HO_414001)
           (try simp only [hl423002_102] at HO_414002)
           (try simp only [hl423002_102] at HO_423001)
           (try simp only [hl423002_102] at HO_456001)
           (try simp only [hl423002_102] at HO_456002)
           cases kq with
           | zero => exact absurd HA.out (by simp [laws_FnExactMoveRule.j2])
           | succ kj102 =>
            have H := HA.out
            clear HA
            simp only [laws_FnExactMoveRule.j2] at H
            by_cases c148 : x97_102 = true
            ·subst c148
             have H1 : (some false) = some r := by rw [if_pos rfl] at H; exact H
             clear H
             have H := H1
             clear H1
             rw [HRT.out] at H
             exact absurd H (by simp)
            ·replace c148 := Bool.eq_false_iff.mpr c148
             subst c148
             have H1 : ((laws_heldRule.f kj102 t414 t437 t438 1).bind fun t457 => (if t457 < 0 then (some false) else (if t457 = t436 then (some true) else (some false)))) = some r := by rw [if_neg (show ¬ (false = true) by decide)] at H; exact H
             clear H
             have H := H1
             clear H1
             replace H := Option.bind_eq_some_iff.mp H
             obtain ⟨t457, A1490, H⟩ := H
             replace H : (if t457 < 0 then (some false) else (if t457 = t436 then (some true) else (some false))) = some r := H
             have A149 := zA A1490
             clear A1490
             by_cases c150 : t457 < 0
             rotate_left
             ·rw [if_neg c150] at H
              have c150b0 : decide (t457 < 0) = false := decide_eq_false c150
              clear c150
              by_cases c151 : t457 = t436
              rotate_left
              ·rw [if_neg c151] at H
               have c151b0 : (t457 == t436) = false := beq_eq_false_iff_ne.mpr c151
               have c151b1 : (t457 != t436) = true := bne_iff_ne.mpr c151
               rw [HRT.out] at H
               exact absurd H (by simp)
              rw [if_pos c151] at H
              have c151b0 : (t457 == t436) = true := beq_iff_eq.mpr c151
              have c151b1 : (t457 != t436) = false := bne_eq_false_iff_eq.mpr c151
              clear c151
              obtain rfl := Option.some.inj H
              have hnb152 := NB422_388.out; have hnc152 := NB388_422.out; have hnb153 := NB422_405.out; have hnc153 := NB405_422.out; have hnb154 := NB422_413.out; have hnc154 := NB413_422.out; have hnb155 := NB422_455.out; have hnc155 := NB455_422.out
              have hcz156_0 := bc BK422 0
              have hcz156_1 := bc BK422 1
              have hcz156_2 := bc BK422 2
              have hfz156_0 := bf BK422 0
              have hfz156_1 := bf BK422 1
              have hfz156_2 := bf BK422 2
              go_wp2_with (first | ((with_reducible refine gate_callee (f := 31) rfl ?_); refine gL (some 100) Try.func31 #[.agg #[.int .i64 t414, .slice Ao41 t437.length co41, .slice Ao42 t438.length co42], .int .i64 1] ?_; (with_reducible refine (laws_heldRule.calls kj102 t414 _ _ t437 _ _ t438 1 t457 _ ?side1 ?side2 ?side3 ?side4 A149.out).mono ?_); (case side1 => exact uC ((Kd.R_reads' HO_423001.out).2.2)); (case side2 => exact (Kd.R_reads' HO_423001.out).2.1); (case side3 => exact uC ((Kd.R_reads' HO_423002.out).2.2)); (case side4 => exact (Kd.R_reads' HO_423002.out).2.1); rintro e w157 ⟨rfl, hb⟩; refine ⟨_, rfl, ?_⟩; replace HO_406001 := xR HO_406001 hb; replace HO_406002 := xR HO_406002 hb; replace HO_414001 := xR HO_414001 hb; replace HO_414002 := xR HO_414002 hb; replace HO_423001 := xR HO_423001 hb; replace HO_423002 := xR HO_423002 hb; replace HO_456001 := xR HO_456001 hb; replace HO_456002 := xR HO_456002 hb; replace BK388 := xB BK388 hb; replace BK405 := xB BK405 hb; replace BK413 := xB BK413 hb; replace BK422 := xB BK422 hb; replace BK455 := xB BK455 hb; replace HB := xH HB hb; (try clear hb); (try clear hb2); (try clear hk); (try clear hi)))
              go_ret
              exact ⟨by first | rfl | (simp [errW_none, errW_some] <;> rfl) | (simp [*, errW_none, errW_some] <;> rfl), uH HB.out⟩
             rw [if_pos c150] at H
             have c150b0 : decide (t457 < 0) = true := decide_eq_true c150
             clear c150
             rw [HRT.out] at H
             exact absurd H (by simp)
         rw [if_pos c99] at H
         have c99b0 : decide (t439 < 0) = true := decide_eq_true c99
         clear c99
         rw [HRT.out] at H
         exact absurd H (by simp)
     ·replace c64 := Bool.eq_false_iff.mpr c64
      subst c64
      have H1 : (some false) = some r := by rw [if_neg (show ¬ (false = true) by decide)] at H; exact H
      clear H
      have H := H1
      clear H1
      rw [HRT.out] at H
      exact absurd H (by simp)

 rw [if_pos c5] at H
 have c5b0 : decide (t389 < 0) = true := decide_eq_true c5
 clear c5
 obtain rfl := Option.some.inj H
 go_enter Try.func6, Try.ntmps6
 go_wp2_with (first | ((with_reducible refine gate_dst (N := 3) rfl ?_); refine bx 3 #[.int .i64 a0_0, .slice A0_1 l0_1.length c0_1, .slice A0_2 l0_2.length c0_2] 49 ?_; intro gb388 hg w6 hbox hb; have BK388 := zA (hbox); have GW388 := gq HB hg; have GE388 := gq HB hg; replace HB := xH HB hb; have := geI GE388; clear hb hbox hg; have hcz7_0 := bc BK388 0; have hcz7_1 := bc BK388 1; have hcz7_2 := bc BK388 2; have hfz7_0 := bf BK388 0; have hfz7_1 := bf BK388 1; have hfz7_2 := bf BK388 2) | ((with_reducible refine gate_callee (f := 25) rfl ?_); refine gL (some 20) Try.func25 #[.agg #[.int .i64 a0_0, .slice A0_1 l0_1.length c0_1, .slice A0_2 l0_2.length c0_2], .int .i64 1048576] ?_; (with_reducible refine (laws_szRule.calls a0_0 _ _ l0_1 _ _ l0_2 1048576 t389 _ ?side1 ?side2 ?side3 ?side4 A4.out).mono ?_); (case side1 => exact uC ((Kd.C_below HR0_1.out HB.out))); (case side2 => exact HC0_1.out); (case side3 => exact uC ((Kd.C_below HR0_2.out HB.out))); (case side4 => exact HC0_2.out); rintro e w8 ⟨rfl, hb⟩; refine ⟨_, rfl, ?_⟩; replace BK388 := xB BK388 hb; replace HB := xH HB hb; (try clear hb); (try clear hb2); (try clear hk); (try clear hi)))
 go_ret
 exact ⟨by first | rfl | (simp [errW_none, errW_some] <;> rfl) | (simp [*, errW_none, errW_some] <;> rfl), uH HB.out⟩
/-- THE ONE PURE STATEMENT of laws_FnExactMoveRule: yours. -/
def laws_FnExactMoveRule.Pure : Prop := ∀ (a0_0 : Int) (l0_1 : List Int) (l0_2 : List Int) (a1 : Int) (a2 : Int), (Lit.int .i64 a0_0).wf = true → l0_1.length ≤ maxLen → (∀ x ∈ l0_1, (Lit.int .i64 x).wf = true) → l0_2.length ≤ maxLen → (∀ x ∈ l0_2, (Lit.int .i64 x).wf = true) → (Lit.int .i64 a1).wf = true → (Lit.int .i64 a2).wf = true → ∃ k, laws_FnExactMoveRule.f k a0_0 l0_1 l0_2 a1 a2 = some true
theorem laws_FnExactMoveRule.walk (P : laws_FnExactMoveRule.Pure) (a0_0 : Int) (a0_1 : Option Addr) (len0_1 cap0_1 : Nat) (z0_1 : List Int) (a0_2 : Option Addr) (len0_2 cap0_2 : Nat) (z0_2 : List Int) (a1 : Int) (a2 : Int) (w : World) (w0_0 : (Lit.int .i64 a0_0).wf = true) (w0_1 : (a0_1 = none ∧ len0_1 = 0 ∧ cap0_1 = 0 ∧ z0_1 = []) ∨ ∃ x, a0_1 = some x ∧ len0_1 ≤ cap0_1 ∧ cap0_1 ≤ maxLen ∧ z0_1.length = cap0_1 ∧ (∀ i, i < z0_1.length → w.cell? (x.add i) = some (.int .i64 (z0_1.getD i 0))) ∧ ∀ n ∈ z0_1, (Lit.int .i64 n).wf = true) (w0_2 : (a0_2 = none ∧ len0_2 = 0 ∧ cap0_2 = 0 ∧ z0_2 = []) ∨ ∃ x, a0_2 = some x ∧ len0_2 ≤ cap0_2 ∧ cap0_2 ≤ maxLen ∧ z0_2.length = cap0_2 ∧ (∀ i, i < z0_2.length → w.cell? (x.add i) = some (.int .i64 (z0_2.getD i 0))) ∧ ∀ n ∈ z0_2, (Lit.int .i64 n).wf = true) (w1 : (Lit.int .i64 a1).wf = true) (w2 : (Lit.int .i64 a2).wf = true) :
  Calls Try.prog 6 #[.agg #[.int .i64 a0_0, .slice a0_1 len0_1 cap0_1, .slice a0_2 len0_2 cap0_2], .int .i64 a1, .int .i64 a2] w fun e w' => e = .returned (.bool true) ∧ Below w.heap.size w w' := by
 obtain ⟨l0_1, rfl, hr0_1, hm0_1, hw0_1, hc0_1⟩ := ReadsInt.ofRowC w0_1
 obtain ⟨l0_2, rfl, hr0_2, hm0_2, hw0_2, hc0_2⟩ := ReadsInt.ofRowC w0_2
 obtain ⟨k, h⟩ := P a0_0 l0_1 l0_2 a1 a2 w0_0 hm0_1 hw0_1 hm0_2 hw0_2 w1 w2
 refine (laws_FnExactMoveRule.calls k a0_0 _ _ l0_1 _ _ l0_2 a1 a2 true rfl w (Kd.C_of_reads (d := (0 : Int)) (h1 := fun _ => rfl) hr0_1) hc0_1 (Kd.C_of_reads (d := (0 : Int)) (h1 := fun _ => rfl) hr0_2) hc0_2 h).mono ?_
 rintro e w' ⟨rfl, hd⟩
 exact ⟨rfl, hd⟩

end Go.Proofs.Ytjdannndpfkadaa.Pr
