/- Printed by a program of this session out of the translation: what these functions of the program compute, under the conditions that each theorem names. -/
import Derived.Test.YtijkfbnjcebfaaaKC01
import Derived.Test.YtijkfbnjcebfaaaKC13
import Derived.Test.YtijkfbnjcebfaaaKAssociatedOf1
namespace Go.Proofs.Ytijkfbnjcebfaaa.Pr
open Go.RowKit Go.Proofs.YtijkfbnjcebfaaaW.PrintWords Go.Proofs.YtijkfbnjcebfaaaW.PrintLast Go.Proofs.YtijkfbnjcebfaaaW.PrintMore
attribute [local go_sem] max2_int min2_int max_two min_two max_three min_three max_four min_four   -- for this text's walks alone
set_option linter.unusedVariables false
set_option linter.unusedSimpArgs false

/-! ### laws_FnExactAssociatedOf: function 4 -/
mutual
def laws_FnExactAssociatedOf.j0 : Nat → Int → List Int → Int → List Int → Int → Bool → Int → List Int → List Int → Int → List Int → List Int → Option (Bool)
 | 0, _, _, _, _, _, _, _, _, _, _, _, _ => none
 | k + 1, x1, x6, x7, x9, x10, x44, x395000, x395001, x395002, x415000, x415001, x415002 => if x44 = true then (some false) else ((laws_toJacobi.f k x395000 x395001 x395002).bind fun bt420 => ((laws_eqJacobi.f k x415000 x415001 x415002 bt420.1 bt420.2.1 bt420.2.2).bind fun t427 => (if t427 = true then ((laws_markJacobi.f k x415000 x415001 x415002 1).bind fun bt428 => (if bt428.1 < 0 then (laws_FnExactAssociatedOf.j1 k x1 x6 x7 x9 true x395000 x395001 x395002) else ((laws_eqInt64S.f k x9 x6).bind fun t431 => (if t431 = true then (laws_FnExactAssociatedOf.j1 k x1 x6 x7 x9 (x10 != x7) x395000 x395001 x395002) else (laws_FnExactAssociatedOf.j1 k x1 x6 x7 x9 true x395000 x395001 x395002))))) else (some false))))
def laws_FnExactAssociatedOf.j1 : Nat → Int → List Int → Int → List Int → Bool → Int → List Int → List Int → Option (Bool)
 | 0, _, _, _, _, _, _, _, _ => none
 | k + 1, x1, x6, x7, x9, x65, x395000, x395001, x395002 => if x65 = true then (some false) else ((laws_markInt64S.f k x9 1).bind fun bt432 => ((laws_heldInt64S.f k bt432.2 1).bind fun t434 => (if t434 < 0 then (some false) else (if t434 = bt432.1 then ((laws_toJacobi.f k x395000 x395001 x395002).bind fun bt435 => ((impl_AssociatedOf.f k bt435.1 bt435.2.1 bt435.2.2 x1).bind fun bt442 => ((laws_eqInt64S.f k bt442.1 x6).bind fun t446 => (if t446 = true then (laws_FnExactAssociatedOf.j2 k bt432.2 bt432.1 (bt442.2 != x7)) else (laws_FnExactAssociatedOf.j2 k bt432.2 bt432.1 true))))) else (some false)))))
def laws_FnExactAssociatedOf.j2 : Nat → List Int → Int → Bool → Option (Bool)
 | 0, _, _, _ => none
 | k + 1, x9, x12, x92 => if x92 = true then (some false) else ((laws_heldInt64S.f k x9 1).bind fun t447 => (if t447 < 0 then (some false) else (if t447 = x12 then (some true) else (some false))))
end
def laws_FnExactAssociatedOf.f (k : Nat) (a0_0 : Int) (l0_1 : List Int) (l0_2 : List Int) (a1 : Int) : Option (Bool) := (laws_szJacobi.f a0_0 l0_1 l0_2 1048576).bind fun t395 => (if t395 < 0 then (some true) else ((laws_toJacobi.f k a0_0 l0_1 l0_2).bind fun bt396 => ((spec_AssociatedOf.f k bt396.1 bt396.2.1 bt396.2.2 a1).bind fun bt403 => ((laws_toJacobi.f k a0_0 l0_1 l0_2).bind fun bt407 => ((impl_AssociatedOf.f k bt407.1 bt407.2.1 bt407.2.2 a1).bind fun bt415 => ((laws_eqInt64S.f k bt415.1 bt403.1).bind fun t419 => (if t419 = true then (laws_FnExactAssociatedOf.j0 k a1 bt403.1 bt403.2 bt415.1 bt415.2 (bt415.2 != bt403.2) a0_0 l0_1 l0_2 bt407.1 bt407.2.1 bt407.2.2) else (laws_FnExactAssociatedOf.j0 k a1 bt403.1 bt403.2 bt415.1 bt415.2 true a0_0 l0_1 l0_2 bt407.1 bt407.2.1 bt407.2.2))))))))
theorem laws_FnExactAssociatedOf.mono_l : ∀ k, (∀ y0 y1 y2 y3 y4 y5 y6 y7 y8 y9 y10 y11, LeO (laws_FnExactAssociatedOf.j0 k y0 y1 y2 y3 y4 y5 y6 y7 y8 y9 y10 y11) (laws_FnExactAssociatedOf.j0 (k + 1) y0 y1 y2 y3 y4 y5 y6 y7 y8 y9 y10 y11)) ∧ (∀ y0 y1 y2 y3 y4 y5 y6 y7, LeO (laws_FnExactAssociatedOf.j1 k y0 y1 y2 y3 y4 y5 y6 y7) (laws_FnExactAssociatedOf.j1 (k + 1) y0 y1 y2 y3 y4 y5 y6 y7)) ∧ (∀ y0 y1 y2, LeO (laws_FnExactAssociatedOf.j2 k y0 y1 y2) (laws_FnExactAssociatedOf.j2 (k + 1) y0 y1 y2))
 | 0 => ⟨fun _ _ _ _ _ _ _ _ _ _ _ _ r h => by simp [laws_FnExactAssociatedOf.j0] at h, fun _ _ _ _ _ _ _ _ r h => by simp [laws_FnExactAssociatedOf.j1] at h, fun _ _ _ r h => by simp [laws_FnExactAssociatedOf.j2] at h⟩
 | k + 1 => by
  obtain ⟨ih0, ih1, ih2⟩ := laws_FnExactAssociatedOf.mono_l k
  refine ⟨?_, ?_, ?_⟩
  ·intro y0 y1 y2 y3 y4 y5 y6 y7 y8 y9 y10 y11
   unfold laws_FnExactAssociatedOf.j0
   repeat' first
   | (with_reducible exact ih0 _ _ _ _ _ _ _ _ _ _ _ _)
   | (with_reducible exact ih1 _ _ _ _ _ _ _ _)
   | (with_reducible exact ih2 _ _ _)
   | (with_reducible exact impl_AssociatedOf.mono _ _ _ _ _)
   | (with_reducible exact laws_eqInt64S.mono _ _ _)
   | (with_reducible exact laws_eqJacobi.mono _ _ _ _ _ _ _)
   | (with_reducible exact laws_heldInt64S.mono _ _ _)
   | (with_reducible exact laws_markInt64S.mono _ _ _)
   | (with_reducible exact laws_markJacobi.mono _ _ _ _ _)
   | (with_reducible exact laws_toJacobi.mono _ _ _ _)
   | (with_reducible exact spec_AssociatedOf.mono _ _ _ _ _)
   | (with_reducible exact LeO.refl _)
   | (with_reducible exact LeO.none _)
   | (with_reducible refine LeO.ite ?_ ?_)
   | (with_reducible refine LeO.bind ?_ (fun _ => ?_))
   | exact ih0 _ _ _ _ _ _ _ _ _ _ _ _
   | exact ih1 _ _ _ _ _ _ _ _
   | exact ih2 _ _ _
   | exact impl_AssociatedOf.mono _ _ _ _ _
   | exact laws_eqInt64S.mono _ _ _
   | exact laws_eqJacobi.mono _ _ _ _ _ _ _
   | exact laws_heldInt64S.mono _ _ _
   | exact laws_markInt64S.mono _ _ _
   | exact laws_markJacobi.mono _ _ _ _ _
   | exact laws_toJacobi.mono _ _ _ _
   | exact spec_AssociatedOf.mono _ _ _ _ _
   | exact LeO.none _
   | refine LeO.ite ?_ ?_
   | refine LeO.bind ?_ (fun _ => ?_)
  ·intro y0 y1 y2 y3 y4 y5 y6 y7
   unfold laws_FnExactAssociatedOf.j1
   repeat' first
   | (with_reducible exact ih0 _ _ _ _ _ _ _ _ _ _ _ _)
   | (with_reducible exact ih1 _ _ _ _ _ _ _ _)
   | (with_reducible exact ih2 _ _ _)
   | (with_reducible exact impl_AssociatedOf.mono _ _ _ _ _)
   | (with_reducible exact laws_eqInt64S.mono _ _ _)
   | (with_reducible exact laws_eqJacobi.mono _ _ _ _ _ _ _)
   | (with_reducible exact laws_heldInt64S.mono _ _ _)
   | (with_reducible exact laws_markInt64S.mono _ _ _)
   | (with_reducible exact laws_markJacobi.mono _ _ _ _ _)
   | (with_reducible exact laws_toJacobi.mono _ _ _ _)
   | (with_reducible exact spec_AssociatedOf.mono _ _ _ _ _)
   | (with_reducible exact LeO.refl _)
   | (with_reducible exact LeO.none _)
   | (with_reducible refine LeO.ite ?_ ?_)
   | (with_reducible refine LeO.bind ?_ (fun _ => ?_))
   | exact ih0 _ _ _ _ _ _ _ _ _ _ _ _
   | exact ih1 _ _ _ _ _ _ _ _
   | exact ih2 _ _ _
   | exact impl_AssociatedOf.mono _ _ _ _ _
   | exact laws_eqInt64S.mono _ _ _
   | exact laws_eqJacobi.mono _ _ _ _ _ _ _
   | exact laws_heldInt64S.mono _ _ _
   | exact laws_markInt64S.mono _ _ _
   | exact laws_markJacobi.mono _ _ _ _ _
   | exact laws_toJacobi.mono _ _ _ _
   | exact spec_AssociatedOf.mono _ _ _ _ _
   | exact LeO.none _
   | refine LeO.ite ?_ ?_
   | refine LeO.bind ?_ (fun _ => ?_)
  ·intro y0 y1 y2
   unfold laws_FnExactAssociatedOf.j2
   repeat' first
   | (with_reducible exact ih0 _ _ _ _ _ _ _ _ _ _ _ _)
   | (with_reducible exact ih1 _ _ _ _ _ _ _ _)
   | (with_reducible exact ih2 _ _ _)
   | (with_reducible exact impl_AssociatedOf.mono _ _ _ _ _)
   | (with_reducible exact laws_eqInt64S.mono _ _ _)
   | (with_reducible exact laws_eqJacobi.mono _ _ _ _ _ _ _)
   | (with_reducible exact laws_heldInt64S.mono _ _ _)
   | (with_reducible exact laws_markInt64S.mono _ _ _)
   | (with_reducible exact laws_markJacobi.mono _ _ _ _ _)
   | (with_reducible exact laws_toJacobi.mono _ _ _ _)
   | (with_reducible exact spec_AssociatedOf.mono _ _ _ _ _)
   | (with_reducible exact LeO.refl _)
   | (with_reducible exact LeO.none _)
   | (with_reducible refine LeO.ite ?_ ?_)
   | (with_reducible refine LeO.bind ?_ (fun _ => ?_))
   | exact ih0 _ _ _ _ _ _ _ _ _ _ _ _
   | exact ih1 _ _ _ _ _ _ _ _
   | exact ih2 _ _ _
   | exact impl_AssociatedOf.mono _ _ _ _ _
   | exact laws_eqInt64S.mono _ _ _
   | exact laws_eqJacobi.mono _ _ _ _ _ _ _
   | exact laws_heldInt64S.mono _ _ _
   | exact laws_markInt64S.mono _ _ _
   | exact laws_markJacobi.mono _ _ _ _ _
   | exact laws_toJacobi.mono _ _ _ _
   | exact spec_AssociatedOf.mono _ _ _ _ _
   | exact LeO.none _
   | refine LeO.ite ?_ ?_
   | refine LeO.bind ?_ (fun _ => ?_)
theorem laws_FnExactAssociatedOf.mono : ∀ a0 a1 a2 a3 k, LeO (laws_FnExactAssociatedOf.f k a0 a1 a2 a3) (laws_FnExactAssociatedOf.f (k + 1) a0 a1 a2 a3) := by
 intro a0 a1 a2 a3 k
 obtain ⟨ih0, ih1, ih2⟩ := laws_FnExactAssociatedOf.mono_l k
 unfold laws_FnExactAssociatedOf.f
 repeat' first
   | (with_reducible exact ih0 _ _ _ _ _ _ _ _ _ _ _ _)
   | (with_reducible exact ih1 _ _ _ _ _ _ _ _)
   | (with_reducible exact ih2 _ _ _)
   | (with_reducible exact impl_AssociatedOf.mono _ _ _ _ _)
   | (with_reducible exact laws_eqInt64S.mono _ _ _)
   | (with_reducible exact laws_eqJacobi.mono _ _ _ _ _ _ _)
   | (with_reducible exact laws_heldInt64S.mono _ _ _)
   | (with_reducible exact laws_markInt64S.mono _ _ _)
   | (with_reducible exact laws_markJacobi.mono _ _ _ _ _)
   | (with_reducible exact laws_toJacobi.mono _ _ _ _)
   | (with_reducible exact spec_AssociatedOf.mono _ _ _ _ _)
   | (with_reducible exact LeO.refl _)
   | (with_reducible exact LeO.none _)
   | (with_reducible refine LeO.ite ?_ ?_)
   | (with_reducible refine LeO.bind ?_ (fun _ => ?_))
   | exact ih0 _ _ _ _ _ _ _ _ _ _ _ _
   | exact ih1 _ _ _ _ _ _ _ _
   | exact ih2 _ _ _
   | exact impl_AssociatedOf.mono _ _ _ _ _
   | exact laws_eqInt64S.mono _ _ _
   | exact laws_eqJacobi.mono _ _ _ _ _ _ _
   | exact laws_heldInt64S.mono _ _ _
   | exact laws_markInt64S.mono _ _ _
   | exact laws_markJacobi.mono _ _ _ _ _
   | exact laws_toJacobi.mono _ _ _ _
   | exact spec_AssociatedOf.mono _ _ _ _ _
   | exact LeO.none _
   | refine LeO.ite ?_ ?_
   | refine LeO.bind ?_ (fun _ => ?_)
set_option maxHeartbeats 8000000 in
set_option maxRecDepth 100000 in
theorem laws_FnExactAssociatedOf.calls (k : Nat) (a0_0 : Int) (A0_1 : Option Addr) (c0_1 : Nat) (l0_1 : List Int) (A0_2 : Option Addr) (c0_2 : Nat) (l0_2 : List Int) (a1 : Int) (r : Bool) (hr_ : r = true) (w : World) (hr0_1 : Kd.C (Kd.int .i64) w A0_1 l0_1.length l0_1) (hc0_1 : l0_1.length ≤ c0_1) (hr0_2 : Kd.C (Kd.int .i64) w A0_2 l0_2.length l0_2) (hc0_2 : l0_2.length ≤ c0_2) (h : laws_FnExactAssociatedOf.f k a0_0 l0_1 l0_2 a1 = some r) :
  Calls Try.prog 4 #[.agg #[.int .i64 a0_0, .slice A0_1 l0_1.length c0_1, .slice A0_2 l0_2.length c0_2], .int .i64 a1] w fun e w' => e = .returned (.bool r) ∧ Below w.heap.size w w' := by
 have hu24 := Try.underlying24
 have hu28 := Try.underlying28
 have HRT := zA hr_
 clear hr_
 have HR0_1 := zA hr0_1
 have HC0_1 := zA hc0_1
 clear hr0_1 hc0_1
 have HR0_2 := zA hr0_2
 have HC0_2 := zA hc0_2
 clear hr0_2 hc0_2
 have HB := zA (Below.refl w.heap.size w)
 have H : ((laws_szJacobi.f a0_0 l0_1 l0_2 1048576).bind fun t395 => (if t395 < 0 then (some true) else ((laws_toJacobi.f k a0_0 l0_1 l0_2).bind fun bt396 => ((spec_AssociatedOf.f k bt396.1 bt396.2.1 bt396.2.2 a1).bind fun bt403 => ((laws_toJacobi.f k a0_0 l0_1 l0_2).bind fun bt407 => ((impl_AssociatedOf.f k bt407.1 bt407.2.1 bt407.2.2 a1).bind fun bt415 => ((laws_eqInt64S.f k bt415.1 bt403.1).bind fun t419 => (if t419 = true then (laws_FnExactAssociatedOf.j0 k a1 bt403.1 bt403.2 bt415.1 bt415.2 (bt415.2 != bt403.2) a0_0 l0_1 l0_2 bt407.1 bt407.2.1 bt407.2.2) else (laws_FnExactAssociatedOf.j0 k a1 bt403.1 bt403.2 bt415.1 bt415.2 true a0_0 l0_1 l0_2 bt407.1 bt407.2.1 bt407.2.2))))))))) = some r := h
 clear h
 replace H := Option.bind_eq_some_iff.mp H
 obtain ⟨t395, A30, H⟩ := H
 replace H : (if t395 < 0 then (some true) else ((laws_toJacobi.f k a0_0 l0_1 l0_2).bind fun bt396 => ((spec_AssociatedOf.f k bt396.1 bt396.2.1 bt396.2.2 a1).bind fun bt403 => ((laws_toJacobi.f k a0_0 l0_1 l0_2).bind fun bt407 => ((impl_AssociatedOf.f k bt407.1 bt407.2.1 bt407.2.2 a1).bind fun bt415 => ((laws_eqInt64S.f k bt415.1 bt403.1).bind fun t419 => (if t419 = true then (laws_FnExactAssociatedOf.j0 k a1 bt403.1 bt403.2 bt415.1 bt415.2 (bt415.2 != bt403.2) a0_0 l0_1 l0_2 bt407.1 bt407.2.1 bt407.2.2) else (laws_FnExactAssociatedOf.j0 k a1 bt403.1 bt403.2 bt415.1 bt415.2 true a0_0 l0_1 l0_2 bt407.1 bt407.2.1 bt407.2.2)))))))) = some r := H
 have A3 := zA A30
 clear A30
 by_cases c4 : t395 < 0
 rotate_left
 ·rw [if_neg c4] at H
  have c4b0 : decide (t395 < 0) = false := decide_eq_false c4
  clear c4
  replace H := Option.bind_eq_some_iff.mp H
  obtain ⟨⟨t396, t397, t400⟩, A80, H⟩ := H
  replace H : ((spec_AssociatedOf.f k t396 t397 t400 a1).bind fun bt403 => ((laws_toJacobi.f k a0_0 l0_1 l0_2).bind fun bt407 => ((impl_AssociatedOf.f k bt407.1 bt407.2.1 bt407.2.2 a1).bind fun bt415 => ((laws_eqInt64S.f k bt415.1 bt403.1).bind fun t419 => (if t419 = true then (laws_FnExactAssociatedOf.j0 k a1 bt403.1 bt403.2 bt415.1 bt415.2 (bt415.2 != bt403.2) a0_0 l0_1 l0_2 bt407.1 bt407.2.1 bt407.2.2) else (laws_FnExactAssociatedOf.j0 k a1 bt403.1 bt403.2 bt415.1 bt415.2 true a0_0 l0_1 l0_2 bt407.1 bt407.2.1 bt407.2.2)))))) = some r := H
  have A8 := zA A80
  clear A80
  replace H := Option.bind_eq_some_iff.mp H
  obtain ⟨⟨t403, t406⟩, A90, H⟩ := H
  replace H : ((laws_toJacobi.f k a0_0 l0_1 l0_2).bind fun bt407 => ((impl_AssociatedOf.f k bt407.1 bt407.2.1 bt407.2.2 a1).bind fun bt415 => ((laws_eqInt64S.f k bt415.1 t403).bind fun t419 => (if t419 = true then (laws_FnExactAssociatedOf.j0 k a1 t403 t406 bt415.1 bt415.2 (bt415.2 != t406) a0_0 l0_1 l0_2 bt407.1 bt407.2.1 bt407.2.2) else (laws_FnExactAssociatedOf.j0 k a1 t403 t406 bt415.1 bt415.2 true a0_0 l0_1 l0_2 bt407.1 bt407.2.1 bt407.2.2))))) = some r := H
  have A9 := zA A90
  clear A90
  replace H := Option.bind_eq_some_iff.mp H
  obtain ⟨⟨t407, t408, t411⟩, A100, H⟩ := H
  replace H : ((impl_AssociatedOf.f k t407 t408 t411 a1).bind fun bt415 => ((laws_eqInt64S.f k bt415.1 t403).bind fun t419 => (if t419 = true then (laws_FnExactAssociatedOf.j0 k a1 t403 t406 bt415.1 bt415.2 (bt415.2 != t406) a0_0 l0_1 l0_2 t407 t408 t411) else (laws_FnExactAssociatedOf.j0 k a1 t403 t406 bt415.1 bt415.2 true a0_0 l0_1 l0_2 t407 t408 t411)))) = some r := H
  have A10 := zA A100
  clear A100
  replace H := Option.bind_eq_some_iff.mp H
  obtain ⟨⟨t415, t418⟩, A110, H⟩ := H
  replace H : ((laws_eqInt64S.f k t415 t403).bind fun t419 => (if t419 = true then (laws_FnExactAssociatedOf.j0 k a1 t403 t406 t415 t418 (t418 != t406) a0_0 l0_1 l0_2 t407 t408 t411) else (laws_FnExactAssociatedOf.j0 k a1 t403 t406 t415 t418 true a0_0 l0_1 l0_2 t407 t408 t411))) = some r := H
  have A11 := zA A110
  clear A110
  have HC12 := zA H
  clear H
  go_enter Try.func4, Try.ntmps4
  go_upto_region 8 with (first | ((with_reducible refine gate_dst (N := 2) rfl ?_); refine bx 2 #[.int .i64 a0_0, .slice A0_1 l0_1.length c0_1, .slice A0_2 l0_2.length c0_2] 24 ?_; intro gb394 hg w13 hbox hb; have BK394 := zA (hbox); have GW394 := gq HB hg; have GE394 := gq HB hg; replace HB := xH HB hb; have := geI GE394; clear hb hbox hg; have hcz14_0 := bc BK394 0; have hcz14_1 := bc BK394 1; have hcz14_2 := bc BK394 2; have hfz14_0 := bf BK394 0; have hfz14_1 := bf BK394 1; have hfz14_2 := bf BK394 2) | ((with_reducible refine gate_callee (f := 10) rfl ?_); refine gL (some 18) Try.func10 #[.agg #[.int .i64 a0_0, .slice A0_1 l0_1.length c0_1, .slice A0_2 l0_2.length c0_2], .int .i64 1048576] ?_; (with_reducible refine (laws_szJacobi.calls a0_0 _ _ l0_1 _ _ l0_2 1048576 t395 _ ?side1 ?side2 ?side3 ?side4 A3.out).mono ?_); (case side1 => exact uC ((Kd.C_below HR0_1.out HB.out))); (case side2 => exact HC0_1.out); (case side3 => exact uC ((Kd.C_below HR0_2.out HB.out))); (case side4 => exact HC0_2.out); rintro e w15 ⟨rfl, hb⟩; refine ⟨_, rfl, ?_⟩; replace BK394 := xB BK394 hb; replace HB := xH HB hb; (try clear hb); (try clear hb2); (try clear hk); (try clear hi); have hcz16_0 := bc BK394 0; have hcz16_1 := bc BK394 1; have hcz16_2 := bc BK394 2; have hfz16_0 := bf BK394 0; have hfz16_1 := bf BK394 1; have hfz16_2 := bf BK394 2) | ((with_reducible refine gate_callee (f := 12) rfl ?_); refine gL (some 23) Try.func12 #[.agg #[.int .i64 a0_0, .slice A0_1 l0_1.length c0_1, .slice A0_2 l0_2.length c0_2]] ?_; (with_reducible refine (laws_toJacobi.calls k a0_0 _ _ l0_1 _ _ l0_2 t396 t397 t400 _ ?side1 ?side2 ?side3 ?side4 A8.out).mono ?_); (case side1 => exact uC ((Kd.C_below HR0_1.out HB.out))); (case side2 => exact HC0_1.out); (case side3 => exact uC ((Kd.C_below HR0_2.out HB.out))); (case side4 => exact HC0_2.out); rintro e w17 ⟨v398, v401, rfl, ho0, ho1, hb⟩; refine ⟨_, rfl, ?_⟩; have HO399 := zA (Kd.R_lower ho0 (below_size (uH HB.out))); have HO402 := zA (Kd.R_lower ho1 (below_size (uH HB.out))); replace BK394 := xB BK394 hb; replace HB := xH HB hb; (try clear hb); (try clear hb2); (try clear hk); (try clear hi); (try clear ho0); (try clear ho1); obtain ⟨Ao18, co18, eo18⟩ := Kd.R_slice HO399.out; subst eo18; obtain ⟨Ao19, co19, eo19⟩ := Kd.R_slice HO402.out; subst eo19) | ((with_reducible refine gate_callee (f := 19) rfl ?_); refine gL (some 25) Try.func19 #[.agg #[.int .i64 t396, .slice Ao18 t397.length co18, .slice Ao19 t400.length co19], .int .i64 a1] ?_; (with_reducible refine (spec_AssociatedOf.calls k t396 _ _ t397 _ _ t400 a1 t403 t406 _ ?side1 ?side2 ?side3 ?side4 A9.out).mono ?_); (case side1 => exact uC ((Kd.R_reads' HO399.out).2.2)); (case side2 => exact (Kd.R_reads' HO399.out).2.1); (case side3 => exact uC ((Kd.R_reads' HO402.out).2.2)); (case side4 => exact (Kd.R_reads' HO402.out).2.1); rintro e w20 ⟨v404, rfl, ho0, hb⟩; refine ⟨_, rfl, ?_⟩; have HO405 := zA (Kd.R_lower (Kd.R_new' (Kd.R_new' ho0 (Kd.R_lt (uR HO399.out))) (Kd.R_lt (uR HO402.out))) (below_size (uH HB.out))); replace HO399 := zA (Kd.R_elder' (uR HO399.out) (Kd.R_base ho0) hb); replace HO402 := zA (Kd.R_elder' (uR HO402.out) (Kd.R_base ho0) hb); replace BK394 := xB BK394 hb; replace HB := xH HB hb; (try clear hb); (try clear hb2); (try clear hk); (try clear hi); (try clear ho0); have hcz21_0 := bc BK394 0; have hcz21_1 := bc BK394 1; have hcz21_2 := bc BK394 2; have hfz21_0 := bf BK394 0; have hfz21_1 := bf BK394 1; have hfz21_2 := bf BK394 2) | ((with_reducible refine gate_callee (f := 12) rfl ?_); refine gL (some 29) Try.func12 #[.agg #[.int .i64 a0_0, .slice A0_1 l0_1.length c0_1, .slice A0_2 l0_2.length c0_2]] ?_; (with_reducible refine (laws_toJacobi.calls k a0_0 _ _ l0_1 _ _ l0_2 t407 t408 t411 _ ?side1 ?side2 ?side3 ?side4 A10.out).mono ?_); (case side1 => exact uC ((Kd.C_below HR0_1.out HB.out))); (case side2 => exact HC0_1.out); (case side3 => exact uC ((Kd.C_below HR0_2.out HB.out))); (case side4 => exact HC0_2.out); rintro e w22 ⟨v409, v412, rfl, ho0, ho1, hb⟩; refine ⟨_, rfl, ?_⟩; have HO410 := zA (Kd.R_lower (Kd.R_new' (Kd.R_new' (Kd.R_new' ho0 (Kd.R_lt (uR HO399.out))) (Kd.R_lt (uR HO402.out))) (Kd.R_lt (uR HO405.out))) (below_size (uH HB.out))); have HO413 := zA (Kd.R_lower (Kd.R_new' (Kd.R_new' (Kd.R_new' ho1 (Kd.R_lt (uR HO399.out))) (Kd.R_lt (uR HO402.out))) (Kd.R_lt (uR HO405.out))) (below_size (uH HB.out))); replace HO399 := zA (Kd.R_mono (Kd.R_told (Kd.R_told (Kd.R_old (uR HO399.out) hb) (Kd.R_base ho0)) (Kd.R_base ho1)) (fun _ h_ => h_.1)); replace HO402 := zA (Kd.R_mono (Kd.R_told (Kd.R_told (Kd.R_old (uR HO402.out) hb) (Kd.R_base ho0)) (Kd.R_base ho1)) (fun _ h_ => h_.1)); replace HO405 := zA (Kd.R_mono (Kd.R_told (Kd.R_told (Kd.R_old (uR HO405.out) hb) (Kd.R_base ho0)) (Kd.R_base ho1)) (fun _ h_ => h_.1)); replace BK394 := xB BK394 hb; replace HB := xH HB hb; (try clear hb); (try clear hb2); (try clear hk); (try clear hi); (try clear ho0); (try clear ho1)) | ((with_reducible refine gate_dst (N := 8) rfl ?_); refine bx 8 #[.int .i64 0, .slice none 0 0, .slice none 0 0] 28 ?_; intro gb414 hg w23 hbox hb; replace HO399 := xR HO399 hb; replace HO402 := xR HO402 hb; replace HO405 := xR HO405 hb; replace HO410 := xR HO410 hb; replace HO413 := xR HO413 hb; have BK414 := zA (hbox); have GW414 := gq HB hg; have GE414 := gq HB hg; replace HB := xH HB hb; have NB394_414 := zA ((by rw [hg]; exact neL BK394 : gb394 ≠ gb414)); have NB414_394 := zA ((by rw [hg]; exact neG BK394 : gb414 ≠ gb394)); replace BK394 := xB BK394 hb; have := geI GE414; clear hb hbox hg; have hnb24 := NB414_394.out; have hnc24 := NB394_414.out; have hcz25_0 := bc BK414 0; have hcz25_1 := bc BK414 1; have hcz25_2 := bc BK414 2; have hfz25_0 := bf BK414 0; have hfz25_1 := bf BK414 1; have hfz25_2 := bf BK414 2; obtain ⟨Ao26, co26, eo26⟩ := Kd.R_slice HO410.out; subst eo26; obtain ⟨Ao27, co27, eo27⟩ := Kd.R_slice HO413.out; subst eo27) | ((with_reducible refine gate_callee (f := 20) rfl ?_); refine gL (some 33) Try.func20 #[.agg #[.int .i64 t407, .slice Ao26 t408.length co26, .slice Ao27 t411.length co27], .int .i64 a1] ?_; (with_reducible refine (impl_AssociatedOf.calls k t407 _ _ t408 _ _ t411 a1 t415 t418 _ ?side1 ?side2 ?side3 ?side4 A11.out).mono ?_); (case side1 => refine (Kd.R_reads' (e := 2) (base := w.heap.size) (ok := fun k_ => (((ax k_ (.slice Ao27 t411.length co27) ∧ ax k_ (.slice Ao18 t397.length co18)) ∧ ax k_ (.slice Ao19 t400.length co19)) ∧ some k_ ≠ (v404 : Value).ownBlock)) (n := t408.length) (c := co26) ?_).2.2; exact (uR ((rf3 HO410 BK414 (by decide) (.int .i64 t407) (.slice Ao26 t408.length co26) (.slice Ao27 t411.length co27))))); (case side2 => exact (Kd.R_reads' HO410.out).2.1); (case side3 => refine (Kd.R_reads' (e := 2) (base := w.heap.size) (ok := fun k_ => (((ax k_ (.slice Ao26 t408.length co26) ∧ ax k_ (.slice Ao18 t397.length co18)) ∧ ax k_ (.slice Ao19 t400.length co19)) ∧ some k_ ≠ (v404 : Value).ownBlock)) (n := t411.length) (c := co27) ?_).2.2; exact (uR ((rf3 HO413 BK414 (by decide) (.int .i64 t407) (.slice Ao26 t408.length co26) (.slice Ao27 t411.length co27))))); (case side4 => exact (Kd.R_reads' HO413.out).2.1); rintro e w28 ⟨v416, rfl, ho0, hb⟩; refine ⟨_, rfl, ?_⟩; have HO417 := zA (Kd.R_lower (Kd.R_new' (Kd.R_new' (Kd.R_new' (Kd.R_new' (Kd.R_new' ho0 (Kd.R_lt (uR ((rf3 HO399 BK414 (by decide) (.int .i64 t407) (.slice Ao26 t408.length co26) (.slice Ao27 t411.length co27)))))) (Kd.R_lt (uR ((rf3 HO402 BK414 (by decide) (.int .i64 t407) (.slice Ao26 t408.length co26) (.slice Ao27 t411.length co27)))))) (Kd.R_lt (uR ((rf3 HO405 BK414 (by decide) (.int .i64 t407) (.slice Ao26 t408.length co26) (.slice Ao27 t411.length co27)))))) (Kd.R_lt (uR ((rf3 HO410 BK414 (by decide) (.int .i64 t407) (.slice Ao26 t408.length co26) (.slice Ao27 t411.length co27)))))) (Kd.R_lt (uR ((rf3 HO413 BK414 (by decide) (.int .i64 t407) (.slice Ao26 t408.length co26) (.slice Ao27 t411.length co27)))))) (below_size (uH HB.out))); replace HO399 := zA (Kd.R_elder' (uR ((rf3 HO399 BK414 (by decide) (.int .i64 t407) (.slice Ao26 t408.length co26) (.slice Ao27 t411.length co27)))) (Kd.R_base ho0) hb); replace HO402 := zA (Kd.R_elder' (uR ((rf3 HO402 BK414 (by decide) (.int .i64 t407) (.slice Ao26 t408.length co26) (.slice Ao27 t411.length co27)))) (Kd.R_base ho0) hb); replace HO405 := zA (Kd.R_elder' (uR ((rf3 HO405 BK414 (by decide) (.int .i64 t407) (.slice Ao26 t408.length co26) (.slice Ao27 t411.length co27)))) (Kd.R_base ho0) hb); replace HO410 := zA (Kd.R_elder' (uR ((rf3 HO410 BK414 (by decide) (.int .i64 t407) (.slice Ao26 t408.length co26) (.slice Ao27 t411.length co27)))) (Kd.R_base ho0) hb); replace HO413 := zA (Kd.R_elder' (uR ((rf3 HO413 BK414 (by decide) (.int .i64 t407) (.slice Ao26 t408.length co26) (.slice Ao27 t411.length co27)))) (Kd.R_base ho0) hb); replace BK394 := zA (blk_below (g := gb394) (o := .cells #[.int .i64 a0_0, .slice A0_1 l0_1.length c0_1, .slice A0_2 l0_2.length c0_2] 24 (0, 0)) (by (repeat refine up1 ?_); refine blk_far ?_ NB394_414.out _; (repeat refine up1 ?_); refine blk_far ?_ NB394_414.out _; (repeat refine up1 ?_); refine blk_far ?_ NB394_414.out _; (repeat refine up1 ?_); exact BK394.out) hb); replace BK414 := zA (blk_below (g := gb414) (o := .cells #[.int .i64 t407, .slice Ao26 t408.length co26, .slice Ao27 t411.length co27] 28 (0, 0)) (by (repeat refine up1 ?_); refine blk_put (cs := #[.int .i64 t407, .slice Ao26 t408.length co26, .slice none 0 0]) ?_ 2 _ rfl; (repeat refine up1 ?_); refine blk_put (cs := #[.int .i64 t407, .slice none 0 0, .slice none 0 0]) ?_ 1 _ rfl; (repeat refine up1 ?_); refine blk_put (cs := #[.int .i64 0, .slice none 0 0, .slice none 0 0]) ?_ 0 _ rfl; (repeat refine up1 ?_); exact BK414.out) hb); replace HB := xH HB hb; (try clear hb); (try clear hb2); (try clear hk); (try clear hi); (try clear ho0)))
  (try simp only [Act.put, ls, lz, ln])
  go_cut [44] (fun v44 wc => ∃ (kq : Nat) (x44_11 : Bool), v44 = .bool x44_11 ∧ Aside0 (laws_FnExactAssociatedOf.j0 kq a1 t403 t406 t415 t418 x44_11 a0_0 l0_1 l0_2 t407 t408 t411 = some r) ∧ Aside0 (kq ≤ k) ∧ Aside0 (Kd.R (Kd.int .i64) 2 wc w.heap.size (fun k_ => some k_ ≠ (v416 : Value).ownBlock ∧ ax k_ (.slice Ao26 t408.length co26) ∧ ax k_ (.slice Ao27 t411.length co27)) v404 t403) ∧ Aside0 (Kd.R (Kd.int .i64) 2 wc w.heap.size (fun k_ => some k_ ≠ (v404 : Value).ownBlock ∧ ax k_ (.slice Ao26 t408.length co26) ∧ ax k_ (.slice Ao27 t411.length co27)) v416 t415) ∧ Aside0 (Kd.R (Kd.int .i64) 2 wc w.heap.size (fun k_ => some k_ ≠ (v404 : Value).ownBlock ∧ some k_ ≠ (v416 : Value).ownBlock ∧ ax k_ (.slice Ao27 t411.length co27)) (.slice Ao26 t408.length co26) t408) ∧ Aside0 (Kd.R (Kd.int .i64) 2 wc w.heap.size (fun k_ => some k_ ≠ (v404 : Value).ownBlock ∧ some k_ ≠ (v416 : Value).ownBlock ∧ ax k_ (.slice Ao26 t408.length co26)) (.slice Ao27 t411.length co27) t411) ∧ Aside0 (wc.heap[gb394]? = some (.cells #[.int .i64 a0_0, (.slice A0_1 l0_1.length c0_1), (.slice A0_2 l0_2.length c0_2)] 24 (0, 0))) ∧ Aside0 (wc.heap[gb414]? = some (.cells #[.int .i64 t407, (.slice Ao26 t408.length co26), (.slice Ao27 t411.length co27)] 28 (0, 0))) ∧ Aside0 (Below w.heap.size w wc))
  case first =>
   have H := HC12.out
   clear HC12
   replace H := Option.bind_eq_some_iff.mp H
   obtain ⟨t419, A290, H⟩ := H
   replace H : (if t419 = true then (laws_FnExactAssociatedOf.j0 k a1 t403 t406 t415 t418 (t418 != t406) a0_0 l0_1 l0_2 t407 t408 t411) else (laws_FnExactAssociatedOf.j0 k a1 t403 t406 t415 t418 true a0_0 l0_1 l0_2 t407 t408 t411)) = some r := H
   have A29 := zA A290
   clear A290
   by_cases c30 : t419 = true
   ·subst c30
    have H1 : (laws_FnExactAssociatedOf.j0 k a1 t403 t406 t415 t418 (t418 != t406) a0_0 l0_1 l0_2 t407 t408 t411) = some r := by rw [if_pos rfl] at H; exact H
    clear H
    have H := H1
    clear H1
    have H' := zA H
    clear H
    obtain ⟨Ao31, co31, eo31⟩ := Kd.R_slice HO417.out
    subst eo31
    obtain ⟨Ao32, co32, eo32⟩ := Kd.R_slice HO405.out
    subst eo32
    go_wp2_with (first | ((with_reducible refine gate_callee (f := 14) rfl ?_); refine gL (some 38) Try.func14 #[.slice Ao31 t415.length co31, .slice Ao32 t403.length co32] ?_; (with_reducible refine (laws_eqInt64S.calls k _ _ t415 _ _ t403 true _ ?side1 ?side2 ?side3 ?side4 A29.out).mono ?_); (case side1 => exact uC ((Kd.R_reads' HO417.out).2.2)); (case side2 => exact (Kd.R_reads' HO417.out).2.1); (case side3 => exact uC ((Kd.R_reads' HO405.out).2.2)); (case side4 => exact (Kd.R_reads' HO405.out).2.1); rintro e w' ⟨rfl, ⟨nd, rfl⟩⟩; refine ⟨_, rfl, ?_⟩))
    go_meet
    case rel => exact ⟨_, ((t418 != t406)), (by first | rfl | (simp; done) | (simp [*]; done)), H', ⟨by first | omega | exact Nat.le_refl _⟩, ⟨uR (Kd.R_mono HO405.out (fun _ hk => ⟨hk.2, ⟨hk.1.1.2, hk.1.2⟩⟩))⟩, ⟨uR (Kd.R_mono HO417.out (fun _ hk => ⟨hk.1.1.2, ⟨hk.1.2, hk.2⟩⟩))⟩, ⟨uR (Kd.R_mono HO410.out (fun _ hk => ⟨hk.1.2, ⟨hk.2, hk.1.1.1.1⟩⟩))⟩, ⟨uR (Kd.R_mono HO413.out (fun _ hk => ⟨hk.1.2, ⟨hk.2, hk.1.1.1.1⟩⟩))⟩, ⟨uB BK394.out⟩, ⟨uB BK414.out⟩, ⟨uH HB.out⟩⟩
   ·replace c30 := Bool.eq_false_iff.mpr c30
    subst c30
    have H1 : (laws_FnExactAssociatedOf.j0 k a1 t403 t406 t415 t418 true a0_0 l0_1 l0_2 t407 t408 t411) = some r := by rw [if_neg (show ¬ (false = true) by decide)] at H; exact H
    clear H
    have H := H1
    clear H1
    have H' := zA H
    clear H
    obtain ⟨Ao33, co33, eo33⟩ := Kd.R_slice HO417.out
    subst eo33
    obtain ⟨Ao34, co34, eo34⟩ := Kd.R_slice HO405.out
    subst eo34
    go_wp2_with (first | ((with_reducible refine gate_callee (f := 14) rfl ?_); refine gL (some 38) Try.func14 #[.slice Ao33 t415.length co33, .slice Ao34 t403.length co34] ?_; (with_reducible refine (laws_eqInt64S.calls k _ _ t415 _ _ t403 false _ ?side1 ?side2 ?side3 ?side4 A29.out).mono ?_); (case side1 => exact uC ((Kd.R_reads' HO417.out).2.2)); (case side2 => exact (Kd.R_reads' HO417.out).2.1); (case side3 => exact uC ((Kd.R_reads' HO405.out).2.2)); (case side4 => exact (Kd.R_reads' HO405.out).2.1); rintro e w' ⟨rfl, ⟨nd, rfl⟩⟩; refine ⟨_, rfl, ?_⟩))
    go_meet
    case rel => exact ⟨_, (true), (by first | rfl | (simp; done) | (simp [*]; done)), H', ⟨by first | omega | exact Nat.le_refl _⟩, ⟨uR (Kd.R_mono HO405.out (fun _ hk => ⟨hk.2, ⟨hk.1.1.2, hk.1.2⟩⟩))⟩, ⟨uR (Kd.R_mono HO417.out (fun _ hk => ⟨hk.1.1.2, ⟨hk.1.2, hk.2⟩⟩))⟩, ⟨uR (Kd.R_mono HO410.out (fun _ hk => ⟨hk.1.2, ⟨hk.2, hk.1.1.1.1⟩⟩))⟩, ⟨uR (Kd.R_mono HO413.out (fun _ hk => ⟨hk.1.2, ⟨hk.2, hk.1.1.1.1⟩⟩))⟩, ⟨uB BK394.out⟩, ⟨uB BK414.out⟩, ⟨uH HB.out⟩⟩
  case rest =>
   clear HC12
   (try clear c1);(try clear c2);(try clear p2);(try clear c3);(try clear c4);(try clear c4b0);(try clear c10);(try clear c12);(try clear c14);(try clear c19);(try clear c20);(try clear c24);(try clear c30);(try clear hcz14_0);(try clear hcz14_1);(try clear hcz14_2);(try clear hcz16_0);(try clear hcz16_1);(try clear hcz16_2);(try clear hcz21_0);(try clear hcz21_1);(try clear hcz21_2);(try clear hcz25_0)
   (try clear hcz25_1);(try clear hcz25_2);(try clear hcz6_0);(try clear hcz6_1);(try clear hcz6_2);(try clear hfz14_0);(try clear hfz14_1);(try clear hfz14_2);(try clear hfz16_0);(try clear hfz16_1);(try clear hfz16_2);(try clear hfz21_0);(try clear hfz21_1);(try clear hfz21_2);(try clear hfz25_0);(try clear hfz25_1);(try clear hfz25_2);(try clear hfz6_0);(try clear hfz6_1);(try clear hfz6_2)
   obtain ⟨kq, x44_11, rfl, HA, HJ11, HO_6, HO_9, HO_415001, HO_415002, BK394, BK414, HB⟩ := hcut
   cases kq with
   | zero => exact absurd HA.out (by simp [laws_FnExactAssociatedOf.j0])
   | succ kj11 =>
    have H := HA.out
    clear HA
    simp only [laws_FnExactAssociatedOf.j0] at H
    by_cases c35 : x44_11 = true
    ·subst c35
     have H1 : (some false) = some r := by rw [if_pos rfl] at H; exact H
     clear H
     have H := H1
     clear H1
     rw [HRT.out] at H
     exact absurd H (by simp)
    ·replace c35 := Bool.eq_false_iff.mpr c35
     subst c35
     have H1 : ((laws_toJacobi.f kj11 a0_0 l0_1 l0_2).bind fun bt420 => ((laws_eqJacobi.f kj11 t407 t408 t411 bt420.1 bt420.2.1 bt420.2.2).bind fun t427 => (if t427 = true then ((laws_markJacobi.f kj11 t407 t408 t411 1).bind fun bt428 => (if bt428.1 < 0 then (laws_FnExactAssociatedOf.j1 kj11 a1 t403 t406 t415 true a0_0 l0_1 l0_2) else ((laws_eqInt64S.f kj11 t415 t403).bind fun t431 => (if t431 = true then (laws_FnExactAssociatedOf.j1 kj11 a1 t403 t406 t415 (t418 != t406) a0_0 l0_1 l0_2) else (laws_FnExactAssociatedOf.j1 kj11 a1 t403 t406 t415 true a0_0 l0_1 l0_2))))) else (some false)))) = some r := by rw [if_neg (show ¬ (false = true) by decide)] at H; exact H
     clear H
     have H := H1
     clear H1
     replace H := Option.bind_eq_some_iff.mp H
     obtain ⟨⟨t420, t421, t424⟩, A360, H⟩ := H
     replace H : ((laws_eqJacobi.f kj11 t407 t408 t411 t420 t421 t424).bind fun t427 => (if t427 = true then ((laws_markJacobi.f kj11 t407 t408 t411 1).bind fun bt428 => (if bt428.1 < 0 then (laws_FnExactAssociatedOf.j1 kj11 a1 t403 t406 t415 true a0_0 l0_1 l0_2) else ((laws_eqInt64S.f kj11 t415 t403).bind fun t431 => (if t431 = true then (laws_FnExactAssociatedOf.j1 kj11 a1 t403 t406 t415 (t418 != t406) a0_0 l0_1 l0_2) else (laws_FnExactAssociatedOf.j1 kj11 a1 t403 t406 t415 true a0_0 l0_1 l0_2))))) else (some false))) = some r := H
     have A36 := zA A360
     clear A360
     replace H := Option.bind_eq_some_iff.mp H
     obtain ⟨t427, A370, H⟩ := H
     replace H : (if t427 = true then ((laws_markJacobi.f kj11 t407 t408 t411 1).bind fun bt428 => (if bt428.1 < 0 then (laws_FnExactAssociatedOf.j1 kj11 a1 t403 t406 t415 true a0_0 l0_1 l0_2) else ((laws_eqInt64S.f kj11 t415 t403).bind fun t431 => (if t431 = true then (laws_FnExactAssociatedOf.j1 kj11 a1 t403 t406 t415 (t418 != t406) a0_0 l0_1 l0_2) else (laws_FnExactAssociatedOf.j1 kj11 a1 t403 t406 t415 true a0_0 l0_1 l0_2))))) else (some false)) = some r := H
     have A37 := zA A370
     clear A370
     by_cases c38 : t427 = true
     ·subst c38
      have H1 : ((laws_markJacobi.f kj11 t407 t408 t411 1).bind fun bt428 => (if bt428.1 < 0 then (laws_FnExactAssociatedOf.j1 kj11 a1 t403 t406 t415 true a0_0 l0_1 l0_2) else ((laws_eqInt64S.f kj11 t415 t403).bind fun t431 => (if t431 = true then (laws_FnExactAssociatedOf.j1 kj11 a1 t403 t406 t415 (t418 != t406) a0_0 l0_1 l0_2) else (laws_FnExactAssociatedOf.j1 kj11 a1 t403 t406 t415 true a0_0 l0_1 l0_2))))) = some r := by rw [if_pos rfl] at H; exact H
      clear H
      have H := H1
      clear H1
      replace H := Option.bind_eq_some_iff.mp H
      obtain ⟨⟨t428, t429, t430⟩, A390, H⟩ := H
      replace H : (if t428 < 0 then (laws_FnExactAssociatedOf.j1 kj11 a1 t403 t406 t415 true a0_0 l0_1 l0_2) else ((laws_eqInt64S.f kj11 t415 t403).bind fun t431 => (if t431 = true then (laws_FnExactAssociatedOf.j1 kj11 a1 t403 t406 t415 (t418 != t406) a0_0 l0_1 l0_2) else (laws_FnExactAssociatedOf.j1 kj11 a1 t403 t406 t415 true a0_0 l0_1 l0_2)))) = some r := H
      have A39 := zA A390
      clear A390
      have HC40 := zA H
      clear H
      try go_wp2
      replace HO_6 := zA (Kd.R_drew HO_6.out)
      replace HO_9 := zA (Kd.R_drew HO_9.out)
      replace HO_415001 := zA (Kd.R_drew HO_415001.out)
      replace HO_415002 := zA (Kd.R_drew HO_415002.out)
      replace BK394 := zA (blk_drew BK394.out)
      replace BK414 := zA (blk_drew BK414.out)
      replace HB := zA (below_drew1 HB.out)
      refine start_ (n := 5) (S := fun w' => w'.cell? ⟨gb414, 0, none⟩ = some (.int .i64 t407) ∧ w'.cell? ⟨gb414, 1, none⟩ = some (.slice Ao26 t408.length co26) ∧ w'.cell? ⟨gb414, 2, none⟩ = some (.slice Ao27 t411.length co27) ∧ w'.cell? ⟨gb394, 0, none⟩ = some (.int .i64 a0_0) ∧ w'.cell? ⟨gb394, 1, none⟩ = some (.slice A0_1 l0_1.length c0_1) ∧ w'.cell? ⟨gb394, 2, none⟩ = some (.slice A0_2 l0_2.length c0_2)) (ds := []) #[false, false, false, false, false] (by kernel_rfl) rfl rfl ⟨bcu BK414 0, bcu BK414 1, bcu BK414 2, bcu BK394 0, bcu BK394 1, bcu BK394 2⟩ (fun hHeld => ?_)
      generalize wc.drew = w41 at HO_6 HO_9 HO_415001 HO_415002 BK394 BK414 HB hHeld ⊢
      refine take_ (i := 0) (N := some 45) (v := ?_) (a' := ?_) (bl 5 1) rfl rfl (by kernel_rfl) (fun _ _ _ h => h) (Or.inl ⟨by rfl, ?_⟩) hHeld ?_ ?_
      rotate_left
      ·rintro w' ⟨s0, s1, s2, s3, s4, s5⟩
       go_simp
       with_reducible rfl
      rotate_left
      ·simp only [Act.put, ls, lz, ln, i64_w, i32_w]
       rfl
      refine take_ (i := 1) (N := some 46) (v := ?_) (a' := ?_) (bl 5 3) rfl rfl (by kernel_rfl) (fun _ _ _ h => h) (Or.inl ⟨by rfl, ?_⟩) hHeld ?_ ?_
      rotate_left
      ·rintro w' ⟨s0, s1, s2, s3, s4, s5⟩
       go_simp
       with_reducible rfl
      rotate_left
      ·simp only [Act.put, ls, lz, ln, i64_w, i32_w]
       rfl
      refine one_ (i := 2) (N := some 47) (bl 5 7) rfl rfl (by kernel_rfl) (by decide) (fun K hK => ?_)
      refine gS Try.func12 #[.agg #[.int .i64 a0_0, .slice A0_1 l0_1.length c0_1, .slice A0_2 l0_2.length c0_2]] ?_
      with_reducible refine (laws_toJacobi.calls kj11 a0_0 _ _ l0_1 _ _ l0_2 t420 t421 t424 _ ?side1 ?side2 ?side3 ?side4 A36.out).mono ?_
      (case side1 => exact uC ((Kd.C_below HR0_1.out HB.out)))
      (case side2 => exact HC0_1.out)
      (case side3 => exact uC ((Kd.C_below HR0_2.out HB.out)))
      (case side4 => exact HC0_2.out)
      rintro e w42 ⟨v422, v425, rfl, ho0, ho1, hb⟩
      refine ⟨_, rfl, ?_⟩
      have HO423 := zA (Kd.R_lower (Kd.R_new' (Kd.R_new' (Kd.R_new' (Kd.R_new' ho0 (Kd.R_lt (uR HO_6.out))) (Kd.R_lt (uR HO_9.out))) (Kd.R_lt (uR HO_415001.out))) (Kd.R_lt (uR HO_415002.out))) (below_size (uH HB.out)))
      have HO426 := zA (Kd.R_lower (Kd.R_new' (Kd.R_new' (Kd.R_new' (Kd.R_new' ho1 (Kd.R_lt (uR HO_6.out))) (Kd.R_lt (uR HO_9.out))) (Kd.R_lt (uR HO_415001.out))) (Kd.R_lt (uR HO_415002.out))) (below_size (uH HB.out)))
      replace HO_6 := zA (Kd.R_mono (Kd.R_told (Kd.R_told (Kd.R_old (uR HO_6.out) hb) (Kd.R_base ho0)) (Kd.R_base ho1)) (fun _ h_ => h_.1))
      replace HO_9 := zA (Kd.R_mono (Kd.R_told (Kd.R_told (Kd.R_old (uR HO_9.out) hb) (Kd.R_base ho0)) (Kd.R_base ho1)) (fun _ h_ => h_.1))
      replace HO_415001 := zA (Kd.R_mono (Kd.R_told (Kd.R_told (Kd.R_old (uR HO_415001.out) hb) (Kd.R_base ho0)) (Kd.R_base ho1)) (fun _ h_ => h_.1))
      replace HO_415002 := zA (Kd.R_mono (Kd.R_told (Kd.R_told (Kd.R_old (uR HO_415002.out) hb) (Kd.R_base ho0)) (Kd.R_base ho1)) (fun _ h_ => h_.1))
      replace BK394 := xB BK394 hb
      replace BK414 := xB BK414 hb
      replace HB := xH HB hb
      (try clear hb); (try clear hb2); (try clear hk); (try clear hi); (try clear ho0); (try clear ho1)
      obtain ⟨Ao43, co43, eo43⟩ := Kd.R_slice HO423.out
      (first | subst eo43 | (injection eo43 with f1_ f2_ f3_; have f4_ := f1_.symm; have f5_ := f3_.symm; clear f1_ f2_ f3_; subst f4_; subst f5_))
      obtain ⟨Ao44, co44, eo44⟩ := Kd.R_slice HO426.out
      (first | subst eo44 | (injection eo44 with f1_ f2_ f3_; have f4_ := f1_.symm; have f5_ := f3_.symm; clear f1_ f2_ f3_; subst f4_; subst f5_))
      refine hK.out _ _ ⟨bcu BK414 0, bcu BK414 1, bcu BK414 2, bcu BK394 0, bcu BK394 1, bcu BK394 2⟩ (fun hHeld => ?_)
      clear hK K
      refine no_ 47 ?_
      refine one_ (i := 3) (N := some 48) (bl 5 15) rfl rfl (by kernel_rfl) (by decide) (fun K hK => ?_)
      refine gS Try.func15 #[.agg #[.int .i64 t407, .slice Ao26 t408.length co26, .slice Ao27 t411.length co27], .agg #[.int .i64 t420, .slice Ao43 t421.length co43, .slice Ao44 t424.length co44]] ?_
      with_reducible refine (laws_eqJacobi.calls kj11 t407 _ _ t408 _ _ t411 t420 _ _ t421 _ _ t424 true _ ?side1 ?side2 ?side3 ?side4 ?side5 ?side6 ?side7 ?side8 A37.out).mono ?_
      (case side1 => exact uC ((Kd.R_reads' HO_415001.out).2.2))
      (case side2 => exact (Kd.R_reads' HO_415001.out).2.1)
      (case side3 => exact uC ((Kd.R_reads' HO_415002.out).2.2))
      (case side4 => exact (Kd.R_reads' HO_415002.out).2.1)
      (case side5 => exact uC ((Kd.R_reads' HO423.out).2.2))
      (case side6 => exact (Kd.R_reads' HO423.out).2.1)
      (case side7 => exact uC ((Kd.R_reads' HO426.out).2.2))
      (case side8 => exact (Kd.R_reads' HO426.out).2.1)
      rintro e w45 ⟨rfl, hb⟩
      refine ⟨_, rfl, ?_⟩
      replace HO_6 := xR HO_6 hb
      replace HO_9 := xR HO_9 hb
      replace HO_415001 := xR HO_415001 hb
      replace HO_415002 := xR HO_415002 hb
      replace HO423 := xR HO423 hb
      replace HO426 := xR HO426 hb
      replace BK394 := xB BK394 hb
      replace BK414 := xB BK414 hb
      replace HB := xH HB hb
      (try clear hb); (try clear hb2); (try clear hk); (try clear hi)
      refine hK.out _ _ ⟨bcu BK414 0, bcu BK414 1, bcu BK414 2, bcu BK394 0, bcu BK394 1, bcu BK394 2⟩ (fun hHeld => ?_)
      clear hK K
      refine no_ 48 ?_
      refine pure_ (i := 4) (N := some 49) (v := ?_) (a' := ?_) (bl 5 31) rfl rfl (by kernel_rfl) (fun _ _ _ h => h) (Or.inl ⟨by rfl, ?_⟩) ?_ ?_
      rotate_left
      ·intro w'
       go_simp
       with_reducible rfl
      rotate_left
      ·simp only [Act.put, ls, lz, ln, i64_w, i32_w]
       rfl
      refine done_ (by kernel_rfl) ?_
      have hnb46 := NB414_394.out; have hnc46 := NB394_414.out
      have hcz47_0 := bc BK414 0
      have hcz47_1 := bc BK414 1
      have hcz47_2 := bc BK414 2
      have hfz47_0 := bf BK414 0
      have hfz47_1 := bf BK414 1
      have hfz47_2 := bf BK414 2
      go_upto_region 14 with (first | ((with_reducible refine gate_callee (f := 16) rfl ?_); refine gL (some 52) Try.func16 #[.agg #[.int .i64 t407, .slice Ao26 t408.length co26, .slice Ao27 t411.length co27], .int .i64 1] ?_; (with_reducible refine (laws_markJacobi.calls kj11 t407 (fun k_ => some k_ = (.slice Ao26 t408.length co26 : Value).ownBlock) (.slice Ao26 t408.length co26) t408 (fun k_ => some k_ = (.slice Ao27 t411.length co27 : Value).ownBlock) (.slice Ao27 t411.length co27) t411 1 t428 t429 t430 w _ ?side1 ?side2 ?side3 ?side4 ?side5 A39.out).mono ?_); (case side1 => repeat (first | (with_reducible first | exact HB.out | apply below_alloc | apply pw_below_drewN | apply below_drew1 | refine below_set ?_ GE394.out | refine below_set ?_ GE414.out) | exact HB.out)); (case side2 => exact Kd.R_tight rfl HO_415001.out); (case side3 => exact fun k_ e_ => (HO_415001.out.1 k_ e_.symm).1.1.2.2); (case side4 => exact Kd.R_tight rfl HO_415002.out); (case side5 => exact fun k_ e_ => (HO_415002.out.1 k_ e_.symm).1.1.2.2); rintro e w48 ⟨rfl, hy0, hy1, hb, hkp⟩; refine ⟨_, rfl, ?_⟩; replace HO_6 := zA (Kd.R_mono (ok' := fun k_ => some k_ ≠ (v416 : Value).ownBlock ∧ ax k_ (.slice Ao26 t408.length co26) ∧ ax k_ (.slice Ao27 t411.length co27) ∧ ax k_ (.slice Ao43 t421.length co43) ∧ ax k_ (.slice Ao44 t424.length co44)) (Kd.R_keptB (HO_6.out) hkp (fun k_ hk_ hs_ => Or.elim hs_ (fun e_ => (hk_.1.1.2.1) e_) (fun e_ => (hk_.1.1.2.2) e_))) (fun k_ hk_ => ⟨hk_.1.1.1.1, hk_.1.1.1.2.1, hk_.1.1.1.2.2, hk_.1.1.2, hk_.1.2⟩)); replace HO_9 := zA (Kd.R_mono (ok' := fun k_ => some k_ ≠ (v404 : Value).ownBlock ∧ ax k_ (.slice Ao26 t408.length co26) ∧ ax k_ (.slice Ao27 t411.length co27) ∧ ax k_ (.slice Ao43 t421.length co43) ∧ ax k_ (.slice Ao44 t424.length co44)) (Kd.R_keptB (HO_9.out) hkp (fun k_ hk_ hs_ => Or.elim hs_ (fun e_ => (hk_.1.1.2.1) e_) (fun e_ => (hk_.1.1.2.2) e_))) (fun k_ hk_ => ⟨hk_.1.1.1.1, hk_.1.1.1.2.1, hk_.1.1.1.2.2, hk_.1.1.2, hk_.1.2⟩)); replace BK394 := zA (blk_kept (uB BK394.out) hkp (fun hs_ => Or.elim hs_ (fun e_ => (fun e_ => (Kd.R_ne HO_415001.out BK394.out (by decide)) e_) e_) (fun e_ => (fun e_ => (Kd.R_ne HO_415002.out BK394.out (by decide)) e_) e_))); replace BK414 := zA (blk_kept (uB BK414.out) hkp (fun hs_ => Or.elim hs_ (fun e_ => (fun e_ => (Kd.R_ne HO_415001.out BK414.out (by decide)) e_) e_) (fun e_ => (fun e_ => (Kd.R_ne HO_415002.out BK414.out (by decide)) e_) e_))); replace HO_415001 := zA (Kd.R_reok rfl hy0 (fun k_ e_ => HO_415001.out.1 k_ e_)); replace HO_415002 := zA (Kd.R_reok rfl hy1 (fun k_ e_ => HO_415002.out.1 k_ e_)); replace HO423 := zA (Kd.R_mono (ok' := fun k_ => some k_ ≠ (v404 : Value).ownBlock ∧ some k_ ≠ (v416 : Value).ownBlock ∧ ax k_ (.slice Ao26 t408.length co26) ∧ ax k_ (.slice Ao27 t411.length co27) ∧ ax k_ (.slice Ao44 t424.length co44)) (Kd.R_keptB (HO423.out) hkp (fun k_ hk_ hs_ => Or.elim hs_ (fun e_ => (hk_.1.2) e_) (fun e_ => (hk_.2) e_))) (fun k_ hk_ => ⟨hk_.1.1.1.1.2, hk_.1.1.1.2, hk_.1.1.2, hk_.1.2, hk_.1.1.1.1.1⟩)); replace HO426 := zA (Kd.R_mono (ok' := fun k_ => some k_ ≠ (v404 : Value).ownBlock ∧ some k_ ≠ (v416 : Value).ownBlock ∧ ax k_ (.slice Ao26 t408.length co26) ∧ ax k_ (.slice Ao27 t411.length co27) ∧ ax k_ (.slice Ao43 t421.length co43)) (Kd.R_keptB (HO426.out) hkp (fun k_ hk_ hs_ => Or.elim hs_ (fun e_ => (hk_.1.2) e_) (fun e_ => (hk_.2) e_))) (fun k_ hk_ => ⟨hk_.1.1.1.1.2, hk_.1.1.1.2, hk_.1.1.2, hk_.1.2, hk_.1.1.1.1.1⟩)); replace HB := zA (hb); (try clear hb); (try clear hkp); (try clear hy0); (try clear hy1)))
      (try simp only [Act.put, ls, lz, ln])
      go_cut [65] (fun v65 wc => ∃ (kq : Nat) (x65_39 : Bool), v65 = .bool x65_39 ∧ Aside0 (laws_FnExactAssociatedOf.j1 kq a1 t403 t406 t415 x65_39 a0_0 l0_1 l0_2 = some r) ∧ Aside0 (kq ≤ kj11) ∧ Aside0 (Kd.R (Kd.int .i64) 2 wc w.heap.size (fun k_ => some k_ ≠ (v416 : Value).ownBlock ∧ ax k_ (.slice Ao26 t408.length co26) ∧ ax k_ (.slice Ao27 t411.length co27)) v404 t403) ∧ Aside0 (Kd.R (Kd.int .i64) 2 wc w.heap.size (fun k_ => some k_ ≠ (v404 : Value).ownBlock ∧ ax k_ (.slice Ao26 t408.length co26) ∧ ax k_ (.slice Ao27 t411.length co27)) v416 t415) ∧ Aside0 (Kd.R (Kd.int .i64) 2 wc w.heap.size (fun k_ => some k_ ≠ (v404 : Value).ownBlock ∧ some k_ ≠ (v416 : Value).ownBlock ∧ ax k_ (.slice Ao27 t411.length co27)) (.slice Ao26 t408.length co26) t429) ∧ Aside0 (Kd.R (Kd.int .i64) 2 wc w.heap.size (fun k_ => some k_ ≠ (v404 : Value).ownBlock ∧ some k_ ≠ (v416 : Value).ownBlock ∧ ax k_ (.slice Ao26 t408.length co26)) (.slice Ao27 t411.length co27) t430) ∧ Aside0 (wc.heap[gb394]? = some (.cells #[.int .i64 a0_0, (.slice A0_1 l0_1.length c0_1), (.slice A0_2 l0_2.length c0_2)] 24 (0, 0))) ∧ Aside0 (wc.heap[gb414]? = some (.cells #[.int .i64 t407, (.slice Ao26 t408.length co26), (.slice Ao27 t411.length co27)] 28 (0, 0))) ∧ Aside0 (Below w.heap.size w wc))
      case first =>
       have H := HC40.out
       clear HC40
       by_cases c49 : t428 < 0
       rotate_left
       ·rw [if_neg c49] at H
        have c49b0 : decide (t428 < 0) = false := decide_eq_false c49
        clear c49
        (first | rw [c49b0] | (simp only [i64_w, i32_w]; rw [c49b0]) | skip)
        replace H := Option.bind_eq_some_iff.mp H
        obtain ⟨t431, A500, H⟩ := H
        replace H : (if t431 = true then (laws_FnExactAssociatedOf.j1 kj11 a1 t403 t406 t415 (t418 != t406) a0_0 l0_1 l0_2) else (laws_FnExactAssociatedOf.j1 kj11 a1 t403 t406 t415 true a0_0 l0_1 l0_2)) = some r := H
        have A50 := zA A500
        clear A500
        by_cases c51 : t431 = true
        ·subst c51
         have H1 : (laws_FnExactAssociatedOf.j1 kj11 a1 t403 t406 t415 (t418 != t406) a0_0 l0_1 l0_2) = some r := by rw [if_pos rfl] at H; exact H
         clear H
         have H := H1
         clear H1
         have H' := zA H
         clear H
         obtain ⟨Ao52, co52, eo52⟩ := Kd.R_slice HO_9.out
         subst eo52
         obtain ⟨Ao53, co53, eo53⟩ := Kd.R_slice HO_6.out
         subst eo53
         go_wp2_with (first | (go_at_call 14; (with_reducible refine (laws_eqInt64S.calls kj11 _ _ t415 _ _ t403 true _ ?side1 ?side2 ?side3 ?side4 A50.out).mono ?_); (case side1 => exact uC ((Kd.R_reads' HO_9.out).2.2)); (case side2 => exact (Kd.R_reads' HO_9.out).2.1); (case side3 => exact uC ((Kd.R_reads' HO_6.out).2.2)); (case side4 => exact (Kd.R_reads' HO_6.out).2.1); rintro e w' ⟨rfl, ⟨nd, rfl⟩⟩))
         go_meet
         case rel => exact ⟨_, ((t418 != t406)), (by first | rfl | (simp; done) | (simp [*]; done)), H', ⟨by have := HJ11.out; first | omega | exact Nat.le_refl _⟩, ⟨uR (Kd.R_mono HO_6.out (fun _ hk => ⟨hk.1, ⟨hk.2.1, hk.2.2.1⟩⟩))⟩, ⟨uR (Kd.R_mono HO_9.out (fun _ hk => ⟨hk.1, ⟨hk.2.1, hk.2.2.1⟩⟩))⟩, ⟨uR (Kd.R_mono HO_415001.out (fun _ hk => ⟨hk.1.1.1, ⟨hk.1.1.2.1, hk.1.1.2.2⟩⟩))⟩, ⟨uR (Kd.R_mono HO_415002.out (fun _ hk => ⟨hk.1.1.1, ⟨hk.1.1.2.1, hk.1.1.2.2⟩⟩))⟩, ⟨uB BK394.out⟩, ⟨uB BK414.out⟩, ⟨uH HB.out⟩⟩
        ·replace c51 := Bool.eq_false_iff.mpr c51
         subst c51
         have H1 : (laws_FnExactAssociatedOf.j1 kj11 a1 t403 t406 t415 true a0_0 l0_1 l0_2) = some r := by rw [if_neg (show ¬ (false = true) by decide)] at H; exact H
         clear H
         have H := H1
         clear H1
         have H' := zA H
         clear H
         obtain ⟨Ao54, co54, eo54⟩ := Kd.R_slice HO_9.out
         subst eo54
         obtain ⟨Ao55, co55, eo55⟩ := Kd.R_slice HO_6.out
         subst eo55
         go_wp2_with (first | (go_at_call 14; (with_reducible refine (laws_eqInt64S.calls kj11 _ _ t415 _ _ t403 false _ ?side1 ?side2 ?side3 ?side4 A50.out).mono ?_); (case side1 => exact uC ((Kd.R_reads' HO_9.out).2.2)); (case side2 => exact (Kd.R_reads' HO_9.out).2.1); (case side3 => exact uC ((Kd.R_reads' HO_6.out).2.2)); (case side4 => exact (Kd.R_reads' HO_6.out).2.1); rintro e w' ⟨rfl, ⟨nd, rfl⟩⟩))
         go_meet
         case rel => exact ⟨_, (true), (by first | rfl | (simp; done) | (simp [*]; done)), H', ⟨by have := HJ11.out; first | omega | exact Nat.le_refl _⟩, ⟨uR (Kd.R_mono HO_6.out (fun _ hk => ⟨hk.1, ⟨hk.2.1, hk.2.2.1⟩⟩))⟩, ⟨uR (Kd.R_mono HO_9.out (fun _ hk => ⟨hk.1, ⟨hk.2.1, hk.2.2.1⟩⟩))⟩, ⟨uR (Kd.R_mono HO_415001.out (fun _ hk => ⟨hk.1.1.1, ⟨hk.1.1.2.1, hk.1.1.2.2⟩⟩))⟩, ⟨uR (Kd.R_mono HO_415002.out (fun _ hk => ⟨hk.1.1.1, ⟨hk.1.1.2.1, hk.1.1.2.2⟩⟩))⟩, ⟨uB BK394.out⟩, ⟨uB BK414.out⟩, ⟨uH HB.out⟩⟩
       rw [if_pos c49] at H
       have c49b0 : decide (t428 < 0) = true := decide_eq_true c49
       clear c49
       (first | rw [c49b0] | (simp only [i64_w, i32_w]; rw [c49b0]) | skip)
       have H' := zA H
       clear H
       go_wp2
       go_meet
       case rel => exact ⟨_, (true), (by first | rfl | (simp; done) | (simp [*]; done)), H', ⟨by have := HJ11.out; first | omega | exact Nat.le_refl _⟩, ⟨uR (Kd.R_mono HO_6.out (fun _ hk => ⟨hk.1, ⟨hk.2.1, hk.2.2.1⟩⟩))⟩, ⟨uR (Kd.R_mono HO_9.out (fun _ hk => ⟨hk.1, ⟨hk.2.1, hk.2.2.1⟩⟩))⟩, ⟨uR (Kd.R_mono HO_415001.out (fun _ hk => ⟨hk.1.1.1, ⟨hk.1.1.2.1, hk.1.1.2.2⟩⟩))⟩, ⟨uR (Kd.R_mono HO_415002.out (fun _ hk => ⟨hk.1.1.1, ⟨hk.1.1.2.1, hk.1.1.2.2⟩⟩))⟩, ⟨uB BK394.out⟩, ⟨uB BK414.out⟩, ⟨uH HB.out⟩⟩
      case rest =>
       clear HC40
       (try clear c1);(try clear c2);(try clear p2);(try clear c3);(try clear c4);(try clear c4b0);(try clear c5);(try clear c10);(try clear c12);(try clear c14);(try clear c15);(try clear c16);(try clear c19);(try clear c20);(try clear c24);(try clear c30);(try clear c35);(try clear c38);(try clear c46);(try clear c49);(try clear c49b0);(try clear c51);(try clear hcz14_0);(try clear hcz14_1);(try clear hcz14_2)
       (try clear hcz16_0);(try clear hcz16_1);(try clear hcz16_2);(try clear hcz21_0);(try clear hcz21_1);(try clear hcz21_2);(try clear hcz25_0);(try clear hcz25_1);(try clear hcz25_2);(try clear hcz47_0);(try clear hcz47_1);(try clear hcz47_2);(try clear hcz6_0);(try clear hcz6_1);(try clear hcz6_2);(try clear hfz14_0);(try clear hfz14_1);(try clear hfz14_2);(try clear hfz16_0);(try clear hfz16_1)
       (try clear hfz16_2);(try clear hfz21_0);(try clear hfz21_1);(try clear hfz21_2);(try clear hfz25_0);(try clear hfz25_1);(try clear hfz25_2);(try clear hfz47_0);(try clear hfz47_1);(try clear hfz47_2);(try clear hfz6_0);(try clear hfz6_1);(try clear hfz6_2);(try clear p2)
       obtain ⟨kq, x65_39, rfl, HA, HJ39, HO_6, HO_9, HO_415001, HO_415002, BK394, BK414, HB⟩ := hcut
       have hl415001_39 := (Kd.R_reads' HO_415001.out).1
       rw [hl415001_39] at HO_415001
       (try simp only [hl415001_39])
       (try simp only [hl415001_39] at BK394)
       (try simp only [hl415001_39] at BK414)
       (try simp only [hl415001_39] at HO_6)
       (try simp only [hl415001_39] at HO_9)
       (try simp only [hl415001_39] at HO_415002)
       have hl415002_39 := (Kd.R_reads' HO_415002.out).1
       rw [hl415002_39] at HO_415002
       (try simp only [hl415002_39])
       (try simp only [hl415002_39] at BK394)
       (try simp only [hl415002_39] at BK414)
       (try simp only [hl415002_39] at HO_6)
       (try simp only [hl415002_39] at HO_9)
       (try simp only [hl415002_39] at HO_415001)
       cases kq with
       | zero => exact absurd HA.out (by simp [laws_FnExactAssociatedOf.j1])
       | succ kj39 =>
        have H := HA.out
        clear HA
        simp only [laws_FnExactAssociatedOf.j1] at H
        by_cases c56 : x65_39 = true
        ·subst c56
         have H1 : (some false) = some r := by rw [if_pos rfl] at H; exact H
         clear H
         have H := H1
         clear H1
         rw [HRT.out] at H
         exact absurd H (by simp)
        ·replace c56 := Bool.eq_false_iff.mpr c56
         subst c56
         have H1 : ((laws_markInt64S.f kj39 t415 1).bind fun bt432 => ((laws_heldInt64S.f kj39 bt432.2 1).bind fun t434 => (if t434 < 0 then (some false) else (if t434 = bt432.1 then ((laws_toJacobi.f kj39 a0_0 l0_1 l0_2).bind fun bt435 => ((impl_AssociatedOf.f kj39 bt435.1 bt435.2.1 bt435.2.2 a1).bind fun bt442 => ((laws_eqInt64S.f kj39 bt442.1 t403).bind fun t446 => (if t446 = true then (laws_FnExactAssociatedOf.j2 kj39 bt432.2 bt432.1 (bt442.2 != t406)) else (laws_FnExactAssociatedOf.j2 kj39 bt432.2 bt432.1 true))))) else (some false))))) = some r := by rw [if_neg (show ¬ (false = true) by decide)] at H; exact H
         clear H
         have H := H1
         clear H1
         replace H := Option.bind_eq_some_iff.mp H
         obtain ⟨⟨t432, t433⟩, A570, H⟩ := H
         replace H : ((laws_heldInt64S.f kj39 t433 1).bind fun t434 => (if t434 < 0 then (some false) else (if t434 = t432 then ((laws_toJacobi.f kj39 a0_0 l0_1 l0_2).bind fun bt435 => ((impl_AssociatedOf.f kj39 bt435.1 bt435.2.1 bt435.2.2 a1).bind fun bt442 => ((laws_eqInt64S.f kj39 bt442.1 t403).bind fun t446 => (if t446 = true then (laws_FnExactAssociatedOf.j2 kj39 t433 t432 (bt442.2 != t406)) else (laws_FnExactAssociatedOf.j2 kj39 t433 t432 true))))) else (some false)))) = some r := H
         have A57 := zA A570
         clear A570
         replace H := Option.bind_eq_some_iff.mp H
         obtain ⟨t434, A580, H⟩ := H
         replace H : (if t434 < 0 then (some false) else (if t434 = t432 then ((laws_toJacobi.f kj39 a0_0 l0_1 l0_2).bind fun bt435 => ((impl_AssociatedOf.f kj39 bt435.1 bt435.2.1 bt435.2.2 a1).bind fun bt442 => ((laws_eqInt64S.f kj39 bt442.1 t403).bind fun t446 => (if t446 = true then (laws_FnExactAssociatedOf.j2 kj39 t433 t432 (bt442.2 != t406)) else (laws_FnExactAssociatedOf.j2 kj39 t433 t432 true))))) else (some false))) = some r := H
         have A58 := zA A580
         clear A580
         by_cases c59 : t434 < 0
         rotate_left
         ·rw [if_neg c59] at H
          have c59b0 : decide (t434 < 0) = false := decide_eq_false c59
          clear c59
          by_cases c60 : t434 = t432
          rotate_left
          ·rw [if_neg c60] at H
           have c60b0 : (t434 == t432) = false := beq_eq_false_iff_ne.mpr c60
           have c60b1 : (t434 != t432) = true := bne_iff_ne.mpr c60
           rw [HRT.out] at H
           exact absurd H (by simp)
          rw [if_pos c60] at H
          have c60b0 : (t434 == t432) = true := beq_iff_eq.mpr c60
          have c60b1 : (t434 != t432) = false := bne_eq_false_iff_eq.mpr c60
          clear c60
          replace H := Option.bind_eq_some_iff.mp H
          obtain ⟨⟨t435, t436, t439⟩, A610, H⟩ := H
          replace H : ((impl_AssociatedOf.f kj39 t435 t436 t439 a1).bind fun bt442 => ((laws_eqInt64S.f kj39 bt442.1 t403).bind fun t446 => (if t446 = true then (laws_FnExactAssociatedOf.j2 kj39 t433 t432 (bt442.2 != t406)) else (laws_FnExactAssociatedOf.j2 kj39 t433 t432 true)))) = some r := H
          have A61 := zA A610
          clear A610
          replace H := Option.bind_eq_some_iff.mp H
          obtain ⟨⟨t442, t445⟩, A620, H⟩ := H
          replace H : ((laws_eqInt64S.f kj39 t442 t403).bind fun t446 => (if t446 = true then (laws_FnExactAssociatedOf.j2 kj39 t433 t432 (t445 != t406)) else (laws_FnExactAssociatedOf.j2 kj39 t433 t432 true))) = some r := H
          have A62 := zA A620
          clear A620
          have HC63 := zA H
          clear H
          obtain ⟨Ao64, co64, eo64⟩ := Kd.R_slice HO_9.out
          subst eo64
          go_upto_region 25 with (first | ((with_reducible refine gate_callee (f := 17) rfl ?_); refine gL (some 68) Try.func17 #[.slice Ao64 t415.length co64, .int .i64 1] ?_; (with_reducible refine (laws_markInt64S.calls kj39 (fun k_ => some k_ = (.slice Ao64 t415.length co64 : Value).ownBlock) (.slice Ao64 t415.length co64) t415 1 t432 t433 w _ ?side1 ?side2 A57.out).mono ?_); (case side1 => repeat (first | (with_reducible first | exact HB.out | apply below_alloc | apply pw_below_drewN | apply below_drew1 | refine below_set ?_ GE394.out | refine below_set ?_ GE414.out) | exact HB.out)); (case side2 => exact Kd.R_tight rfl HO_9.out); rintro e w65 ⟨rfl, hy0, hb, hkp⟩; refine ⟨_, rfl, ?_⟩; replace HO_6 := zA (Kd.R_mono (ok' := fun k_ => ax k_ (.slice Ao64 t415.length co64) ∧ ax k_ (.slice Ao26 t429.length co26) ∧ ax k_ (.slice Ao27 t430.length co27)) (Kd.R_keptB (HO_6.out) hkp (fun k_ hk_ hs_ => (hk_.1) hs_)) (fun k_ hk_ => ⟨hk_.1.1, hk_.1.2.1, hk_.1.2.2⟩)); replace HO_415001 := zA (Kd.R_mono (ok' := fun k_ => some k_ ≠ (v404 : Value).ownBlock ∧ ax k_ (.slice Ao64 t415.length co64) ∧ ax k_ (.slice Ao27 t430.length co27)) (Kd.R_keptB (HO_415001.out) hkp (fun k_ hk_ hs_ => (hk_.2.1) hs_)) (fun k_ hk_ => ⟨hk_.1.1, hk_.1.2.1, hk_.1.2.2⟩)); replace HO_415002 := zA (Kd.R_mono (ok' := fun k_ => some k_ ≠ (v404 : Value).ownBlock ∧ ax k_ (.slice Ao64 t415.length co64) ∧ ax k_ (.slice Ao26 t429.length co26)) (Kd.R_keptB (HO_415002.out) hkp (fun k_ hk_ hs_ => (hk_.2.1) hs_)) (fun k_ hk_ => ⟨hk_.1.1, hk_.1.2.1, hk_.1.2.2⟩)); replace BK394 := zA (blk_kept (uB BK394.out) hkp (fun hs_ => (fun e_ => (Kd.R_ne HO_9.out BK394.out (by decide)) e_) hs_)); replace BK414 := zA (blk_kept (uB BK414.out) hkp (fun hs_ => (fun e_ => (Kd.R_ne HO_9.out BK414.out (by decide)) e_) hs_)); replace HO_9 := zA (Kd.R_reok rfl hy0 (fun k_ e_ => HO_9.out.1 k_ e_)); replace HB := zA (hb); (try clear hb); (try clear hkp); (try clear hy0)) | ((with_reducible refine gate_callee (f := 18) rfl ?_); refine goesL_ (some 71) rfl rfl Try.func18 (by kernel_rfl) rfl #[.slice Ao64 t433.length co64, .int .i64 1] rfl (by (try simp only [la, lb, lc]); first | done | (rw [show t433.length = t415.length from (Kd.R_reads' HO_9.out).1.symm] <;> rfl) | rfl | (simp only [ld, le]; rfl)) ?_; (with_reducible refine (laws_heldInt64S.calls kj39 _ _ t433 1 t434 _ ?side1 ?side2 A58.out).mono ?_); (case side1 => exact uC ((Kd.R_reads' HO_9.out).2.2)); (case side2 => rw [show t433.length = t415.length from (Kd.R_reads' HO_9.out).1.symm]; exact (Kd.R_reads' HO_9.out).2.1); rintro e w' ⟨rfl, ⟨nd, rfl⟩⟩; refine ⟨_, rfl, ?_⟩; have hnb66 := NB394_414.out; have hnc66 := NB414_394.out; have hcz67_0 := bc BK394 0; have hcz67_1 := bc BK394 1; have hcz67_2 := bc BK394 2; have hfz67_0 := bf BK394 0; have hfz67_1 := bf BK394 1; have hfz67_2 := bf BK394 2) | ((with_reducible refine gate_callee (f := 12) rfl ?_); refine gL (some 79) Try.func12 #[.agg #[.int .i64 a0_0, .slice A0_1 l0_1.length c0_1, .slice A0_2 l0_2.length c0_2]] ?_; (with_reducible refine (laws_toJacobi.calls kj39 a0_0 _ _ l0_1 _ _ l0_2 t435 t436 t439 _ ?side1 ?side2 ?side3 ?side4 A61.out).mono ?_); (case side1 => repeat (first | exact (Kd.C_below HR0_1.out (uH HB.out)) | (with_reducible refine Kd.C_alloc ?_ _) | (with_reducible refine Kd.C_drewN ?_ _) | (with_reducible refine Kd.C_drew ?_))); (case side2 => exact HC0_1.out); (case side3 => repeat (first | exact (Kd.C_below HR0_2.out (uH HB.out)) | (with_reducible refine Kd.C_alloc ?_ _) | (with_reducible refine Kd.C_drewN ?_ _) | (with_reducible refine Kd.C_drew ?_))); (case side4 => exact HC0_2.out); rintro e w68 ⟨v437, v440, rfl, ho0, ho1, hb⟩; refine ⟨_, rfl, ?_⟩; have HO438 := zA (Kd.R_lower (Kd.R_new' (Kd.R_new' (Kd.R_new' (Kd.R_new' ho0 (Kd.R_lt (uR HO_6.out))) (Kd.R_lt (uR HO_9.out))) (Kd.R_lt (uR HO_415001.out))) (Kd.R_lt (uR HO_415002.out))) (below_size (uH HB.out))); have HO441 := zA (Kd.R_lower (Kd.R_new' (Kd.R_new' (Kd.R_new' (Kd.R_new' ho1 (Kd.R_lt (uR HO_6.out))) (Kd.R_lt (uR HO_9.out))) (Kd.R_lt (uR HO_415001.out))) (Kd.R_lt (uR HO_415002.out))) (below_size (uH HB.out))); replace HO_6 := zA (Kd.R_mono (Kd.R_told (Kd.R_told (Kd.R_old (uR HO_6.out) hb) (Kd.R_base ho0)) (Kd.R_base ho1)) (fun _ h_ => h_.1)); replace HO_9 := zA (Kd.R_mono (Kd.R_told (Kd.R_told (Kd.R_old (uR HO_9.out) hb) (Kd.R_base ho0)) (Kd.R_base ho1)) (fun _ h_ => h_.1)); replace HO_415001 := zA (Kd.R_mono (Kd.R_told (Kd.R_told (Kd.R_old (uR HO_415001.out) hb) (Kd.R_base ho0)) (Kd.R_base ho1)) (fun _ h_ => h_.1)); replace HO_415002 := zA (Kd.R_mono (Kd.R_told (Kd.R_told (Kd.R_old (uR HO_415002.out) hb) (Kd.R_base ho0)) (Kd.R_base ho1)) (fun _ h_ => h_.1)); replace BK394 := xB BK394 hb; replace BK414 := xB BK414 hb; replace HB := xH HB hb; (try clear hb); (try clear hb2); (try clear hk); (try clear hi); (try clear ho0); (try clear ho1); obtain ⟨Ao69, co69, eo69⟩ := Kd.R_slice HO438.out; subst eo69; obtain ⟨Ao70, co70, eo70⟩ := Kd.R_slice HO441.out; subst eo70) | ((with_reducible refine gate_callee (f := 20) rfl ?_); refine gL (some 81) Try.func20 #[.agg #[.int .i64 t435, .slice Ao69 t436.length co69, .slice Ao70 t439.length co70], .int .i64 a1] ?_; (with_reducible refine (impl_AssociatedOf.calls kj39 t435 _ _ t436 _ _ t439 a1 t442 t445 _ ?side1 ?side2 ?side3 ?side4 A62.out).mono ?_); (case side1 => exact uC ((Kd.R_reads' HO438.out).2.2)); (case side2 => exact (Kd.R_reads' HO438.out).2.1); (case side3 => exact uC ((Kd.R_reads' HO441.out).2.2)); (case side4 => exact (Kd.R_reads' HO441.out).2.1); rintro e w71 ⟨v443, rfl, ho0, hb⟩; refine ⟨_, rfl, ?_⟩; have HO444 := zA (Kd.R_lower (Kd.R_new' (Kd.R_new' (Kd.R_new' (Kd.R_new' (Kd.R_new' (Kd.R_new' ho0 (Kd.R_lt (uR HO_6.out))) (Kd.R_lt (uR HO_9.out))) (Kd.R_lt (uR HO_415001.out))) (Kd.R_lt (uR HO_415002.out))) (Kd.R_lt (uR HO438.out))) (Kd.R_lt (uR HO441.out))) (below_size (uH HB.out))); replace HO_6 := zA (Kd.R_elder' (uR HO_6.out) (Kd.R_base ho0) hb); replace HO_9 := zA (Kd.R_elder' (uR HO_9.out) (Kd.R_base ho0) hb); replace HO_415001 := zA (Kd.R_elder' (uR HO_415001.out) (Kd.R_base ho0) hb); replace HO_415002 := zA (Kd.R_elder' (uR HO_415002.out) (Kd.R_base ho0) hb); replace HO438 := zA (Kd.R_elder' (uR HO438.out) (Kd.R_base ho0) hb); replace HO441 := zA (Kd.R_elder' (uR HO441.out) (Kd.R_base ho0) hb); replace BK394 := xB BK394 hb; replace BK414 := xB BK414 hb; replace HB := xH HB hb; (try clear hb); (try clear hb2); (try clear hk); (try clear hi); (try clear ho0)))
          (try simp only [Act.put, ls, lz, ln])
          go_cut [92] (fun v92 wc => ∃ (kq : Nat) (x92_62 : Bool), v92 = .bool x92_62 ∧ Aside0 (laws_FnExactAssociatedOf.j2 kq t433 t432 x92_62 = some r) ∧ Aside0 (kq ≤ kj39) ∧ Aside0 (Kd.R (Kd.int .i64) 2 wc w.heap.size (fun k_ => ax k_ (.slice Ao26 t429.length co26) ∧ ax k_ (.slice Ao27 t430.length co27)) (.slice Ao64 t415.length co64) t433) ∧ Aside0 (Kd.R (Kd.int .i64) 2 wc w.heap.size (fun k_ => ax k_ (.slice Ao64 t415.length co64) ∧ ax k_ (.slice Ao27 t430.length co27)) (.slice Ao26 t429.length co26) t429) ∧ Aside0 (Kd.R (Kd.int .i64) 2 wc w.heap.size (fun k_ => ax k_ (.slice Ao64 t415.length co64) ∧ ax k_ (.slice Ao26 t429.length co26)) (.slice Ao27 t430.length co27) t430) ∧ Aside0 (wc.heap[gb394]? = some (.cells #[.int .i64 a0_0, (.slice A0_1 l0_1.length c0_1), (.slice A0_2 l0_2.length c0_2)] 24 (0, 0))) ∧ Aside0 (wc.heap[gb414]? = some (.cells #[.int .i64 t407, (.slice Ao26 t429.length co26), (.slice Ao27 t430.length co27)] 28 (0, 0))) ∧ Aside0 (Below w.heap.size w wc))
          case first =>
           have H := HC63.out
           clear HC63
           replace H := Option.bind_eq_some_iff.mp H
           obtain ⟨t446, A720, H⟩ := H
           replace H : (if t446 = true then (laws_FnExactAssociatedOf.j2 kj39 t433 t432 (t445 != t406)) else (laws_FnExactAssociatedOf.j2 kj39 t433 t432 true)) = some r := H
           have A72 := zA A720
           clear A720
           by_cases c73 : t446 = true
           ·subst c73
            have H1 : (laws_FnExactAssociatedOf.j2 kj39 t433 t432 (t445 != t406)) = some r := by rw [if_pos rfl] at H; exact H
            clear H
            have H := H1
            clear H1
            have H' := zA H
            clear H
            obtain ⟨Ao74, co74, eo74⟩ := Kd.R_slice HO444.out
            subst eo74
            obtain ⟨Ao75, co75, eo75⟩ := Kd.R_slice HO_6.out
            subst eo75
            go_wp2_with (first | ((with_reducible refine gate_callee (f := 14) rfl ?_); refine gL (some 86) Try.func14 #[.slice Ao74 t442.length co74, .slice Ao75 t403.length co75] ?_; (with_reducible refine (laws_eqInt64S.calls kj39 _ _ t442 _ _ t403 true _ ?side1 ?side2 ?side3 ?side4 A72.out).mono ?_); (case side1 => exact uC ((Kd.R_reads' HO444.out).2.2)); (case side2 => exact (Kd.R_reads' HO444.out).2.1); (case side3 => exact uC ((Kd.R_reads' HO_6.out).2.2)); (case side4 => exact (Kd.R_reads' HO_6.out).2.1); rintro e w' ⟨rfl, ⟨nd, rfl⟩⟩; refine ⟨_, rfl, ?_⟩))
            go_meet
            case rel => exact ⟨_, ((t445 != t406)), (by first | rfl | (simp; done) | (simp [*]; done)), H', ⟨by have := HJ11.out; have := HJ39.out; first | omega | exact Nat.le_refl _⟩, ⟨by (try simp only [hl415001_39]); (try simp only [hl415002_39]); (with_reducible repeat (first | apply Kd.R_alloc | apply Kd.R_drewN | apply Kd.R_drew)); exact Kd.R_mono HO_9.out (fun _ hk => ⟨hk.1.1.1.2.1, hk.1.1.1.2.2⟩)⟩, ⟨by (try simp only [hl415001_39]); (try simp only [hl415002_39]); (with_reducible repeat (first | apply Kd.R_alloc | apply Kd.R_drewN | apply Kd.R_drew)); exact Kd.R_mono HO_415001.out (fun _ hk => ⟨hk.1.1.1.2.1, hk.1.1.1.2.2⟩)⟩, ⟨by (try simp only [hl415001_39]); (try simp only [hl415002_39]); (with_reducible repeat (first | apply Kd.R_alloc | apply Kd.R_drewN | apply Kd.R_drew)); exact Kd.R_mono HO_415002.out (fun _ hk => ⟨hk.1.1.1.2.1, hk.1.1.1.2.2⟩)⟩, ⟨by (try simp only [hl415001_39]); (try simp only [hl415002_39]); (repeat refine up1 ?_); exact BK394.out⟩, ⟨by (try simp only [hl415001_39]); (try simp only [hl415002_39]); (repeat refine up1 ?_); exact BK414.out⟩, ⟨uH HB.out⟩⟩
           ·replace c73 := Bool.eq_false_iff.mpr c73
            subst c73
            have H1 : (laws_FnExactAssociatedOf.j2 kj39 t433 t432 true) = some r := by rw [if_neg (show ¬ (false = true) by decide)] at H; exact H
            clear H
            have H := H1
            clear H1
            have H' := zA H
            clear H
            obtain ⟨Ao76, co76, eo76⟩ := Kd.R_slice HO444.out
            subst eo76
            obtain ⟨Ao77, co77, eo77⟩ := Kd.R_slice HO_6.out
            subst eo77
            go_wp2_with (first | ((with_reducible refine gate_callee (f := 14) rfl ?_); refine gL (some 86) Try.func14 #[.slice Ao76 t442.length co76, .slice Ao77 t403.length co77] ?_; (with_reducible refine (laws_eqInt64S.calls kj39 _ _ t442 _ _ t403 false _ ?side1 ?side2 ?side3 ?side4 A72.out).mono ?_); (case side1 => exact uC ((Kd.R_reads' HO444.out).2.2)); (case side2 => exact (Kd.R_reads' HO444.out).2.1); (case side3 => exact uC ((Kd.R_reads' HO_6.out).2.2)); (case side4 => exact (Kd.R_reads' HO_6.out).2.1); rintro e w' ⟨rfl, ⟨nd, rfl⟩⟩; refine ⟨_, rfl, ?_⟩))
            go_meet
            case rel => exact ⟨_, (true), (by first | rfl | (simp; done) | (simp [*]; done)), H', ⟨by have := HJ11.out; have := HJ39.out; first | omega | exact Nat.le_refl _⟩, ⟨by (try simp only [hl415001_39]); (try simp only [hl415002_39]); (with_reducible repeat (first | apply Kd.R_alloc | apply Kd.R_drewN | apply Kd.R_drew)); exact Kd.R_mono HO_9.out (fun _ hk => ⟨hk.1.1.1.2.1, hk.1.1.1.2.2⟩)⟩, ⟨by (try simp only [hl415001_39]); (try simp only [hl415002_39]); (with_reducible repeat (first | apply Kd.R_alloc | apply Kd.R_drewN | apply Kd.R_drew)); exact Kd.R_mono HO_415001.out (fun _ hk => ⟨hk.1.1.1.2.1, hk.1.1.1.2.2⟩)⟩, ⟨by (try simp only [hl415001_39]); (try simp only [hl415002_39]); (with_reducible repeat (first | apply Kd.R_alloc | apply Kd.R_drewN | apply Kd.R_drew)); exact Kd.R_mono HO_415002.out (fun _ hk => ⟨hk.1.1.1.2.1, hk.1.1.1.2.2⟩)⟩, ⟨by (try simp only [hl415001_39]); (try simp only [hl415002_39]); (repeat refine up1 ?_); exact BK394.out⟩, ⟨by (try simp only [hl415001_39]); (try simp only [hl415002_39]); (repeat refine up1 ?_); exact BK414.out⟩, ⟨uH HB.out⟩⟩
          case rest =>
           clear HC63
           (try clear c1);(try clear c2);(try clear p2);(try clear c3);(try clear c4);(try clear c4b0);(try clear c5);(try clear c6);(try clear c7);(try clear c10);(try clear c12);(try clear c14);(try clear c15);(try clear c16);(try clear c17);(try clear c18);(try clear c19);(try clear c20);(try clear c24);(try clear c30);(try clear c35);(try clear c38);(try clear c46);(try clear c49);(try clear c49b0)
           (try clear c51);(try clear c56);(try clear c59);(try clear c59b0);(try clear c60);(try clear c60b0);(try clear c60b1);(try clear c66);(try clear c73);(try clear hcz14_0);(try clear hcz14_1);(try clear hcz14_2);(try clear hcz16_0);(try clear hcz16_1);(try clear hcz16_2);(try clear hcz21_0);(try clear hcz21_1);(try clear hcz21_2);(try clear hcz25_0);(try clear hcz25_1);(try clear hcz25_2)
           (try clear hcz47_0);(try clear hcz47_1);(try clear hcz47_2);(try clear hcz67_0);(try clear hcz67_1);(try clear hcz67_2);(try clear hcz6_0);(try clear hcz6_1);(try clear hcz6_2);(try clear hfz14_0);(try clear hfz14_1);(try clear hfz14_2);(try clear hfz16_0);(try clear hfz16_1);(try clear hfz16_2);(try clear hfz21_0);(try clear hfz21_1);(try clear hfz21_2);(try clear hfz25_0);(try clear hfz25_1)
           (try clear hfz25_2);(try clear hfz47_0);(try clear hfz47_1);(try clear hfz47_2);(try clear hfz67_0);(try clear hfz67_1);(try clear hfz67_2);(try clear hfz6_0);(try clear hfz6_1);(try clear hfz6_2);(try clear p2)
           obtain ⟨kq, x92_62, rfl, HA, HJ62, HO_9, HO_415001, HO_415002, BK394, BK414, HB⟩ := hcut
           have hl9_62 := (Kd.R_reads' HO_9.out).1
           rw [hl9_62] at HO_9
           (try simp only [hl9_62])
           (try simp only [hl9_62] at BK394)
           (try simp only [hl9_62] at BK414)
           (try simp only [hl9_62] at HO_415001)
           (try simp only [hl9_62] at HO_415002)
           cases kq with
           | zero => exact absurd HA.out (by simp [laws_FnExactAssociatedOf.j2])
           | succ kj62 =>
            have H := HA.out
            clear HA
            simp only [laws_FnExactAssociatedOf.j2] at H
            by_cases c78 : x92_62 = true
            ·subst c78
             have H1 : (some false) = some r := by rw [if_pos rfl] at H; exact H
             clear H
             have H := H1
             clear H1
             rw [HRT.out] at H
             exact absurd H (by simp)
            ·replace c78 := Bool.eq_false_iff.mpr c78
             subst c78
             have H1 : ((laws_heldInt64S.f kj62 t433 1).bind fun t447 => (if t447 < 0 then (some false) else (if t447 = t432 then (some true) else (some false)))) = some r := by rw [if_neg (show ¬ (false = true) by decide)] at H; exact H
             clear H
             have H := H1
             clear H1
             replace H := Option.bind_eq_some_iff.mp H
             obtain ⟨t447, A790, H⟩ := H
             replace H : (if t447 < 0 then (some false) else (if t447 = t432 then (some true) else (some false))) = some r := H
             have A79 := zA A790
             clear A790
             by_cases c80 : t447 < 0
             rotate_left
             ·rw [if_neg c80] at H
              have c80b0 : decide (t447 < 0) = false := decide_eq_false c80
              clear c80
              by_cases c81 : t447 = t432
              rotate_left
              ·rw [if_neg c81] at H
               have c81b0 : (t447 == t432) = false := beq_eq_false_iff_ne.mpr c81
               have c81b1 : (t447 != t432) = true := bne_iff_ne.mpr c81
               rw [HRT.out] at H
               exact absurd H (by simp)
              rw [if_pos c81] at H
              have c81b0 : (t447 == t432) = true := beq_iff_eq.mpr c81
              have c81b1 : (t447 != t432) = false := bne_eq_false_iff_eq.mpr c81
              clear c81
              obtain rfl := Option.some.inj H
              go_wp2_with (first | ((with_reducible refine gate_callee (f := 18) rfl ?_); refine gL (some 95) Try.func18 #[.slice Ao64 t433.length co64, .int .i64 1] ?_; (with_reducible refine (laws_heldInt64S.calls kj62 _ _ t433 1 t447 _ ?side1 ?side2 A79.out).mono ?_); (case side1 => exact uC ((Kd.R_reads' HO_9.out).2.2)); (case side2 => exact (Kd.R_reads' HO_9.out).2.1); rintro e w' ⟨rfl, ⟨nd, rfl⟩⟩; refine ⟨_, rfl, ?_⟩))
              go_ret
              exact ⟨by first | rfl | (simp [errW_none, errW_some] <;> rfl) | (simp [*, errW_none, errW_some] <;> rfl), uH HB.out⟩
             rw [if_pos c80] at H
             have c80b0 : decide (t447 < 0) = true := decide_eq_true c80
             clear c80
             rw [HRT.out] at H
             exact absurd H (by simp)
         rw [if_pos c59] at H
         have c59b0 : decide (t434 < 0) = true := decide_eq_true c59
         clear c59
         rw [HRT.out] at H
         exact absurd H (by simp)
     ·replace c38 := Bool.eq_false_iff.mpr c38
      subst c38
      have H1 : (some false) = some r := by rw [if_neg (show ¬ (false = true) by decide)] at H; exact H
      clear H
      have H := H1
      clear H1
      rw [HRT.out] at H
      exact absurd H (by simp)

 rw [if_pos c4] at H
 have c4b0 : decide (t395 < 0) = true := decide_eq_true c4
 clear c4
 obtain rfl := Option.some.inj H
 go_enter Try.func4, Try.ntmps4
 go_wp2_with (first | ((with_reducible refine gate_dst (N := 2) rfl ?_); refine bx 2 #[.int .i64 a0_0, .slice A0_1 l0_1.length c0_1, .slice A0_2 l0_2.length c0_2] 24 ?_; intro gb394 hg w5 hbox hb; have BK394 := zA (hbox); have GW394 := gq HB hg; have GE394 := gq HB hg; replace HB := xH HB hb; have := geI GE394; clear hb hbox hg; have hcz6_0 := bc BK394 0; have hcz6_1 := bc BK394 1; have hcz6_2 := bc BK394 2; have hfz6_0 := bf BK394 0; have hfz6_1 := bf BK394 1; have hfz6_2 := bf BK394 2) | ((with_reducible refine gate_callee (f := 10) rfl ?_); refine gL (some 18) Try.func10 #[.agg #[.int .i64 a0_0, .slice A0_1 l0_1.length c0_1, .slice A0_2 l0_2.length c0_2], .int .i64 1048576] ?_; (with_reducible refine (laws_szJacobi.calls a0_0 _ _ l0_1 _ _ l0_2 1048576 t395 _ ?side1 ?side2 ?side3 ?side4 A3.out).mono ?_); (case side1 => exact uC ((Kd.C_below HR0_1.out HB.out))); (case side2 => exact HC0_1.out); (case side3 => exact uC ((Kd.C_below HR0_2.out HB.out))); (case side4 => exact HC0_2.out); rintro e w7 ⟨rfl, hb⟩; refine ⟨_, rfl, ?_⟩; replace BK394 := xB BK394 hb; replace HB := xH HB hb; (try clear hb); (try clear hb2); (try clear hk); (try clear hi)))
 go_ret
 exact ⟨by first | rfl | (simp [errW_none, errW_some] <;> rfl) | (simp [*, errW_none, errW_some] <;> rfl), uH HB.out⟩
/-- THE ONE PURE STATEMENT of laws_FnExactAssociatedOf: yours. -/
def laws_FnExactAssociatedOf.Pure : Prop := ∀ (a0_0 : Int) (l0_1 : List Int) (l0_2 : List Int) (a1 : Int), (Lit.int .i64 a0_0).wf = true → l0_1.length ≤ maxLen → (∀ x ∈ l0_1, (Lit.int .i64 x).wf = true) → l0_2.length ≤ maxLen → (∀ x ∈ l0_2, (Lit.int .i64 x).wf = true) → (Lit.int .i64 a1).wf = true → ∃ k, laws_FnExactAssociatedOf.f k a0_0 l0_1 l0_2 a1 = some true
theorem laws_FnExactAssociatedOf.walk (P : laws_FnExactAssociatedOf.Pure) (a0_0 : Int) (a0_1 : Option Addr) (len0_1 cap0_1 : Nat) (z0_1 : List Int) (a0_2 : Option Addr) (len0_2 cap0_2 : Nat) (z0_2 : List Int) (a1 : Int) (w : World) (w0_0 : (Lit.int .i64 a0_0).wf = true) (w0_1 : (a0_1 = none ∧ len0_1 = 0 ∧ cap0_1 = 0 ∧ z0_1 = []) ∨ ∃ x, a0_1 = some x ∧ len0_1 ≤ cap0_1 ∧ cap0_1 ≤ maxLen ∧ z0_1.length = cap0_1 ∧ (∀ i, i < z0_1.length → w.cell? (x.add i) = some (.int .i64 (z0_1.getD i 0))) ∧ ∀ n ∈ z0_1, (Lit.int .i64 n).wf = true) (w0_2 : (a0_2 = none ∧ len0_2 = 0 ∧ cap0_2 = 0 ∧ z0_2 = []) ∨ ∃ x, a0_2 = some x ∧ len0_2 ≤ cap0_2 ∧ cap0_2 ≤ maxLen ∧ z0_2.length = cap0_2 ∧ (∀ i, i < z0_2.length → w.cell? (x.add i) = some (.int .i64 (z0_2.getD i 0))) ∧ ∀ n ∈ z0_2, (Lit.int .i64 n).wf = true) (w1 : (Lit.int .i64 a1).wf = true) :
  Calls Try.prog 4 #[.agg #[.int .i64 a0_0, .slice a0_1 len0_1 cap0_1, .slice a0_2 len0_2 cap0_2], .int .i64 a1] w fun e w' => e = .returned (.bool true) ∧ Below w.heap.size w w' := by
 obtain ⟨l0_1, rfl, hr0_1, hm0_1, hw0_1, hc0_1⟩ := ReadsInt.ofRowC w0_1
 obtain ⟨l0_2, rfl, hr0_2, hm0_2, hw0_2, hc0_2⟩ := ReadsInt.ofRowC w0_2
 obtain ⟨k, h⟩ := P a0_0 l0_1 l0_2 a1 w0_0 hm0_1 hw0_1 hm0_2 hw0_2 w1
 refine (laws_FnExactAssociatedOf.calls k a0_0 _ _ l0_1 _ _ l0_2 a1 true rfl w (Kd.C_of_reads (d := (0 : Int)) (h1 := fun _ => rfl) hr0_1) hc0_1 (Kd.C_of_reads (d := (0 : Int)) (h1 := fun _ => rfl) hr0_2) hc0_2 h).mono ?_
 rintro e w' ⟨rfl, hd⟩
 exact ⟨rfl, hd⟩

end Go.Proofs.Ytijkfbnjcebfaaa.Pr
