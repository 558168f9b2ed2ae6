/- Printed by a program of this session out of the translation: what these functions of the program compute, under the conditions that each theorem names. -/
import Derived.Test.YtijkfbnjcebfaaaKC01
import Derived.Test.YtijkfbnjcebfaaaKC13
import Derived.Test.YtijkfbnjcebfaaaKPolyOf1
namespace Go.Proofs.Ytijkfbnjcebfaaa.Pr
open Go.RowKit Go.Proofs.YtijkfbnjcebfaaaW.PrintWords Go.Proofs.YtijkfbnjcebfaaaW.PrintLast Go.Proofs.YtijkfbnjcebfaaaW.PrintMore
attribute [local go_sem] max2_int min2_int max_two min_two max_three min_three max_four min_four   -- for this text's walks alone
set_option linter.unusedVariables false
set_option linter.unusedSimpArgs false

/-! ### laws_FnExactPolyOf: function 3 -/
mutual
def laws_FnExactPolyOf.j0 : Nat → Int → List Int → Int → List Int → Int → Bool → Int → List Int → List Int → Int → List Int → List Int → Option (Bool)
 | 0, _, _, _, _, _, _, _, _, _, _, _, _ => none
 | k + 1, x1, x6, x7, x9, x10, x44, x295000, x295001, x295002, x315000, x315001, x315002 => if x44 = true then (some false) else ((laws_toJacobi.f k x295000 x295001 x295002).bind fun bt320 => ((laws_eqJacobi.f k x315000 x315001 x315002 bt320.1 bt320.2.1 bt320.2.2).bind fun t327 => (if t327 = true then ((laws_markJacobi.f k x315000 x315001 x315002 1).bind fun bt328 => (if bt328.1 < 0 then (laws_FnExactPolyOf.j1 k x1 x6 x7 x9 true x295000 x295001 x295002) else ((laws_eqInt64S.f k x9 x6).bind fun t331 => (if t331 = true then (laws_FnExactPolyOf.j1 k x1 x6 x7 x9 (x10 != x7) x295000 x295001 x295002) else (laws_FnExactPolyOf.j1 k x1 x6 x7 x9 true x295000 x295001 x295002))))) else (some false))))
def laws_FnExactPolyOf.j1 : Nat → Int → List Int → Int → List Int → Bool → Int → List Int → List Int → Option (Bool)
 | 0, _, _, _, _, _, _, _, _ => none
 | k + 1, x1, x6, x7, x9, x65, x295000, x295001, x295002 => if x65 = true then (some false) else ((laws_markInt64S.f k x9 1).bind fun bt332 => ((laws_heldInt64S.f k bt332.2 1).bind fun t334 => (if t334 < 0 then (some false) else (if t334 = bt332.1 then ((laws_toJacobi.f k x295000 x295001 x295002).bind fun bt335 => ((impl_PolyOf.f k bt335.1 bt335.2.1 bt335.2.2 x1).bind fun bt342 => ((laws_eqInt64S.f k bt342.1 x6).bind fun t346 => (if t346 = true then (laws_FnExactPolyOf.j2 k bt332.2 bt332.1 (bt342.2 != x7)) else (laws_FnExactPolyOf.j2 k bt332.2 bt332.1 true))))) else (some false)))))
def laws_FnExactPolyOf.j2 : Nat → List Int → Int → Bool → Option (Bool)
 | 0, _, _, _ => none
 | k + 1, x9, x12, x92 => if x92 = true then (some false) else ((laws_heldInt64S.f k x9 1).bind fun t347 => (if t347 < 0 then (some false) else (if t347 = x12 then (some true) else (some false))))
end
def laws_FnExactPolyOf.f (k : Nat) (a0_0 : Int) (l0_1 : List Int) (l0_2 : List Int) (a1 : Int) : Option (Bool) := (laws_szJacobi.f a0_0 l0_1 l0_2 1048576).bind fun t295 => (if t295 < 0 then (some true) else ((laws_toJacobi.f k a0_0 l0_1 l0_2).bind fun bt296 => ((spec_PolyOf.f k bt296.1 bt296.2.1 bt296.2.2 a1).bind fun bt303 => ((laws_toJacobi.f k a0_0 l0_1 l0_2).bind fun bt307 => ((impl_PolyOf.f k bt307.1 bt307.2.1 bt307.2.2 a1).bind fun bt315 => ((laws_eqInt64S.f k bt315.1 bt303.1).bind fun t319 => (if t319 = true then (laws_FnExactPolyOf.j0 k a1 bt303.1 bt303.2 bt315.1 bt315.2 (bt315.2 != bt303.2) a0_0 l0_1 l0_2 bt307.1 bt307.2.1 bt307.2.2) else (laws_FnExactPolyOf.j0 k a1 bt303.1 bt303.2 bt315.1 bt315.2 true a0_0 l0_1 l0_2 bt307.1 bt307.2.1 bt307.2.2))))))))
theorem laws_FnExactPolyOf.mono_l : ∀ k, (∀ y0 y1 y2 y3 y4 y5 y6 y7 y8 y9 y10 y11, LeO (laws_FnExactPolyOf.j0 k y0 y1 y2 y3 y4 y5 y6 y7 y8 y9 y10 y11) (laws_FnExactPolyOf.j0 (k + 1) y0 y1 y2 y3 y4 y5 y6 y7 y8 y9 y10 y11)) ∧ (∀ y0 y1 y2 y3 y4 y5 y6 y7, LeO (laws_FnExactPolyOf.j1 k y0 y1 y2 y3 y4 y5 y6 y7) (laws_FnExactPolyOf.j1 (k + 1) y0 y1 y2 y3 y4 y5 y6 y7)) ∧ (∀ y0 y1 y2, LeO (laws_FnExactPolyOf.j2 k y0 y1 y2) (laws_FnExactPolyOf.j2 (k + 1) y0 y1 y2))
 | 0 => ⟨fun _ _ _ _ _ _ _ _ _ _ _ _ r h => by simp [laws_FnExactPolyOf.j0] at h, fun _ _ _ _ _ _ _ _ r h => by simp [laws_FnExactPolyOf.j1] at h, fun _ _ _ r h => by simp [laws_FnExactPolyOf.j2] at h⟩
 | k + 1 => by
  obtain ⟨ih0, ih1, ih2⟩ := laws_FnExactPolyOf.mono_l k
  refine ⟨?_, ?_, ?_⟩
  ·intro y0 y1 y2 y3 y4 y5 y6 y7 y8 y9 y10 y11
   unfold laws_FnExactPolyOf.j0
   repeat' first
   | (with_reducible exact ih0 _ _ _ _ _ _ _ _ _ _ _ _)
   | (with_reducible exact ih1 _ _ _ _ _ _ _ _)
   | (with_reducible exact ih2 _ _ _)
   | (with_reducible exact impl_PolyOf.mono _ _ _ _ _)
   | (with_reducible exact laws_eqInt64S.mono _ _ _)
   | (with_reducible exact laws_eqJacobi.mono _ _ _ _ _ _ _)
   | (with_reducible exact laws_heldInt64S.mono _ _ _)
   | (with_reducible exact laws_markInt64S.mono _ _ _)
   | (with_reducible exact laws_markJacobi.mono _ _ _ _ _)
   | (with_reducible exact laws_toJacobi.mono _ _ _ _)
   | (with_reducible exact spec_PolyOf.mono _ _ _ _ _)
   | (with_reducible exact LeO.refl _)
   | (with_reducible exact LeO.none _)
   | (with_reducible refine LeO.ite ?_ ?_)
   | (with_reducible refine LeO.bind ?_ (fun _ => ?_))
   | exact ih0 _ _ _ _ _ _ _ _ _ _ _ _
   | exact ih1 _ _ _ _ _ _ _ _
   | exact ih2 _ _ _
   | exact impl_PolyOf.mono _ _ _ _ _
   | exact laws_eqInt64S.mono _ _ _
   | exact laws_eqJacobi.mono _ _ _ _ _ _ _
   | exact laws_heldInt64S.mono _ _ _
   | exact laws_markInt64S.mono _ _ _
   | exact laws_markJacobi.mono _ _ _ _ _
   | exact laws_toJacobi.mono _ _ _ _
   | exact spec_PolyOf.mono _ _ _ _ _
   | exact LeO.none _
   | refine LeO.ite ?_ ?_
   | refine LeO.bind ?_ (fun _ => ?_)
  ·intro y0 y1 y2 y3 y4 y5 y6 y7
   unfold laws_FnExactPolyOf.j1
   repeat' first
   | (with_reducible exact ih0 _ _ _ _ _ _ _ _ _ _ _ _)
   | (with_reducible exact ih1 _ _ _ _ _ _ _ _)
   | (with_reducible exact ih2 _ _ _)
   | (with_reducible exact impl_PolyOf.mono _ _ _ _ _)
   | (with_reducible exact laws_eqInt64S.mono _ _ _)
   | (with_reducible exact laws_eqJacobi.mono _ _ _ _ _ _ _)
   | (with_reducible exact laws_heldInt64S.mono _ _ _)
   | (with_reducible exact laws_markInt64S.mono _ _ _)
   | (with_reducible exact laws_markJacobi.mono _ _ _ _ _)
   | (with_reducible exact laws_toJacobi.mono _ _ _ _)
   | (with_reducible exact spec_PolyOf.mono _ _ _ _ _)
   | (with_reducible exact LeO.refl _)
   | (with_reducible exact LeO.none _)
   | (with_reducible refine LeO.ite ?_ ?_)
   | (with_reducible refine LeO.bind ?_ (fun _ => ?_))
   | exact ih0 _ _ _ _ _ _ _ _ _ _ _ _
   | exact ih1 _ _ _ _ _ _ _ _
   | exact ih2 _ _ _
   | exact impl_PolyOf.mono _ _ _ _ _
   | exact laws_eqInt64S.mono _ _ _
   | exact laws_eqJacobi.mono _ _ _ _ _ _ _
   | exact laws_heldInt64S.mono _ _ _
   | exact laws_markInt64S.mono _ _ _
   | exact laws_markJacobi.mono _ _ _ _ _
   | exact laws_toJacobi.mono _ _ _ _
   | exact spec_PolyOf.mono _ _ _ _ _
   | exact LeO.none _
   | refine LeO.ite ?_ ?_
   | refine LeO.bind ?_ (fun _ => ?_)
  ·intro y0 y1 y2
   unfold laws_FnExactPolyOf.j2
   repeat' first
   | (with_reducible exact ih0 _ _ _ _ _ _ _ _ _ _ _ _)
   | (with_reducible exact ih1 _ _ _ _ _ _ _ _)
   | (with_reducible exact ih2 _ _ _)
   | (with_reducible exact impl_PolyOf.mono _ _ _ _ _)
   | (with_reducible exact laws_eqInt64S.mono _ _ _)
   | (with_reducible exact laws_eqJacobi.mono _ _ _ _ _ _ _)
   | (with_reducible exact laws_heldInt64S.mono _ _ _)
   | (with_reducible exact laws_markInt64S.mono _ _ _)
   | (with_reducible exact laws_markJacobi.mono _ _ _ _ _)
   | (with_reducible exact laws_toJacobi.mono _ _ _ _)
   | (with_reducible exact spec_PolyOf.mono _ _ _ _ _)
   | (with_reducible exact LeO.refl _)
   | (with_reducible exact LeO.none _)
   | (with_reducible refine LeO.ite ?_ ?_)
   | (with_reducible refine LeO.bind ?_ (fun _ => ?_))
   | exact ih0 _ _ _ _ _ _ _ _ _ _ _ _
   | exact ih1 _ _ _ _ _ _ _ _
   | exact ih2 _ _ _
   | exact impl_PolyOf.mono _ _ _ _ _
   | exact laws_eqInt64S.mono _ _ _
   | exact laws_eqJacobi.mono _ _ _ _ _ _ _
   | exact laws_heldInt64S.mono _ _ _
   | exact laws_markInt64S.mono _ _ _
   | exact laws_markJacobi.mono _ _ _ _ _
   | exact laws_toJacobi.mono _ _ _ _
   | exact spec_PolyOf.mono _ _ _ _ _
   | exact LeO.none _
   | refine LeO.ite ?_ ?_
   | refine LeO.bind ?_ (fun _ => ?_)
theorem laws_FnExactPolyOf.mono : ∀ a0 a1 a2 a3 k, LeO (laws_FnExactPolyOf.f k a0 a1 a2 a3) (laws_FnExactPolyOf.f (k + 1) a0 a1 a2 a3) := by
 intro a0 a1 a2 a3 k
 obtain ⟨ih0, ih1, ih2⟩ := laws_FnExactPolyOf.mono_l k
 unfold laws_FnExactPolyOf.f
 repeat' first
   | (with_reducible exact ih0 _ _ _ _ _ _ _ _ _ _ _ _)
   | (with_reducible exact ih1 _ _ _ _ _ _ _ _)
   | (with_reducible exact ih2 _ _ _)
   | (with_reducible exact impl_PolyOf.mono _ _ _ _ _)
   | (with_reducible exact laws_eqInt64S.mono _ _ _)
   | (with_reducible exact laws_eqJacobi.mono _ _ _ _ _ _ _)
   | (with_reducible exact laws_heldInt64S.mono _ _ _)
   | (with_reducible exact laws_markInt64S.mono _ _ _)
   | (with_reducible exact laws_markJacobi.mono _ _ _ _ _)
   | (with_reducible exact laws_toJacobi.mono _ _ _ _)
   | (with_reducible exact spec_PolyOf.mono _ _ _ _ _)
   | (with_reducible exact LeO.refl _)
   | (with_reducible exact LeO.none _)
   | (with_reducible refine LeO.ite ?_ ?_)
   | (with_reducible refine LeO.bind ?_ (fun _ => ?_))
   | exact ih0 _ _ _ _ _ _ _ _ _ _ _ _
   | exact ih1 _ _ _ _ _ _ _ _
   | exact ih2 _ _ _
   | exact impl_PolyOf.mono _ _ _ _ _
   | exact laws_eqInt64S.mono _ _ _
   | exact laws_eqJacobi.mono _ _ _ _ _ _ _
   | exact laws_heldInt64S.mono _ _ _
   | exact laws_markInt64S.mono _ _ _
   | exact laws_markJacobi.mono _ _ _ _ _
   | exact laws_toJacobi.mono _ _ _ _
   | exact spec_PolyOf.mono _ _ _ _ _
   | exact LeO.none _
   | refine LeO.ite ?_ ?_
   | refine LeO.bind ?_ (fun _ => ?_)
set_option maxHeartbeats 8000000 in
set_option maxRecDepth 100000 in
theorem laws_FnExactPolyOf.calls (k : Nat) (a0_0 : Int) (A0_1 : Option Addr) (c0_1 : Nat) (l0_1 : List Int) (A0_2 : Option Addr) (c0_2 : Nat) (l0_2 : List Int) (a1 : Int) (r : Bool) (hr_ : r = true) (w : World) (hr0_1 : Kd.C (Kd.int .i64) w A0_1 l0_1.length l0_1) (hc0_1 : l0_1.length ≤ c0_1) (hr0_2 : Kd.C (Kd.int .i64) w A0_2 l0_2.length l0_2) (hc0_2 : l0_2.length ≤ c0_2) (h : laws_FnExactPolyOf.f k a0_0 l0_1 l0_2 a1 = some r) :
  Calls Try.prog 3 #[.agg #[.int .i64 a0_0, .slice A0_1 l0_1.length c0_1, .slice A0_2 l0_2.length c0_2], .int .i64 a1] w fun e w' => e = .returned (.bool r) ∧ Below w.heap.size w w' := by
 have hu24 := Try.underlying24
 have hu28 := Try.underlying28
 have HRT := zA hr_
 clear hr_
 have HR0_1 := zA hr0_1
 have HC0_1 := zA hc0_1
 clear hr0_1 hc0_1
 have HR0_2 := zA hr0_2
 have HC0_2 := zA hc0_2
 clear hr0_2 hc0_2
 have HB := zA (Below.refl w.heap.size w)
 have H : ((laws_szJacobi.f a0_0 l0_1 l0_2 1048576).bind fun t295 => (if t295 < 0 then (some true) else ((laws_toJacobi.f k a0_0 l0_1 l0_2).bind fun bt296 => ((spec_PolyOf.f k bt296.1 bt296.2.1 bt296.2.2 a1).bind fun bt303 => ((laws_toJacobi.f k a0_0 l0_1 l0_2).bind fun bt307 => ((impl_PolyOf.f k bt307.1 bt307.2.1 bt307.2.2 a1).bind fun bt315 => ((laws_eqInt64S.f k bt315.1 bt303.1).bind fun t319 => (if t319 = true then (laws_FnExactPolyOf.j0 k a1 bt303.1 bt303.2 bt315.1 bt315.2 (bt315.2 != bt303.2) a0_0 l0_1 l0_2 bt307.1 bt307.2.1 bt307.2.2) else (laws_FnExactPolyOf.j0 k a1 bt303.1 bt303.2 bt315.1 bt315.2 true a0_0 l0_1 l0_2 bt307.1 bt307.2.1 bt307.2.2))))))))) = some r := h
 clear h
 replace H := Option.bind_eq_some_iff.mp H
 obtain ⟨t295, A30, H⟩ := H
 replace H : (if t295 < 0 then (some true) else ((laws_toJacobi.f k a0_0 l0_1 l0_2).bind fun bt296 => ((spec_PolyOf.f k bt296.1 bt296.2.1 bt296.2.2 a1).bind fun bt303 => ((laws_toJacobi.f k a0_0 l0_1 l0_2).bind fun bt307 => ((impl_PolyOf.f k bt307.1 bt307.2.1 bt307.2.2 a1).bind fun bt315 => ((laws_eqInt64S.f k bt315.1 bt303.1).bind fun t319 => (if t319 = true then (laws_FnExactPolyOf.j0 k a1 bt303.1 bt303.2 bt315.1 bt315.2 (bt315.2 != bt303.2) a0_0 l0_1 l0_2 bt307.1 bt307.2.1 bt307.2.2) else (laws_FnExactPolyOf.j0 k a1 bt303.1 bt303.2 bt315.1 bt315.2 true a0_0 l0_1 l0_2 bt307.1 bt307.2.1 bt307.2.2)))))))) = some r := H
 have A3 := zA A30
 clear A30
 by_cases c4 : t295 < 0
 rotate_left
 ·rw [if_neg c4] at H
  have c4b0 : decide (t295 < 0) = false := decide_eq_false c4
  clear c4
  replace H := Option.bind_eq_some_iff.mp H
  obtain ⟨⟨t296, t297, t300⟩, A80, H⟩ := H
  replace H : ((spec_PolyOf.f k t296 t297 t300 a1).bind fun bt303 => ((laws_toJacobi.f k a0_0 l0_1 l0_2).bind fun bt307 => ((impl_PolyOf.f k bt307.1 bt307.2.1 bt307.2.2 a1).bind fun bt315 => ((laws_eqInt64S.f k bt315.1 bt303.1).bind fun t319 => (if t319 = true then (laws_FnExactPolyOf.j0 k a1 bt303.1 bt303.2 bt315.1 bt315.2 (bt315.2 != bt303.2) a0_0 l0_1 l0_2 bt307.1 bt307.2.1 bt307.2.2) else (laws_FnExactPolyOf.j0 k a1 bt303.1 bt303.2 bt315.1 bt315.2 true a0_0 l0_1 l0_2 bt307.1 bt307.2.1 bt307.2.2)))))) = some r := H
  have A8 := zA A80
  clear A80
  replace H := Option.bind_eq_some_iff.mp H
  obtain ⟨⟨t303, t306⟩, A90, H⟩ := H
  replace H : ((laws_toJacobi.f k a0_0 l0_1 l0_2).bind fun bt307 => ((impl_PolyOf.f k bt307.1 bt307.2.1 bt307.2.2 a1).bind fun bt315 => ((laws_eqInt64S.f k bt315.1 t303).bind fun t319 => (if t319 = true then (laws_FnExactPolyOf.j0 k a1 t303 t306 bt315.1 bt315.2 (bt315.2 != t306) a0_0 l0_1 l0_2 bt307.1 bt307.2.1 bt307.2.2) else (laws_FnExactPolyOf.j0 k a1 t303 t306 bt315.1 bt315.2 true a0_0 l0_1 l0_2 bt307.1 bt307.2.1 bt307.2.2))))) = some r := H
  have A9 := zA A90
  clear A90
  replace H := Option.bind_eq_some_iff.mp H
  obtain ⟨⟨t307, t308, t311⟩, A100, H⟩ := H
  replace H : ((impl_PolyOf.f k t307 t308 t311 a1).bind fun bt315 => ((laws_eqInt64S.f k bt315.1 t303).bind fun t319 => (if t319 = true then (laws_FnExactPolyOf.j0 k a1 t303 t306 bt315.1 bt315.2 (bt315.2 != t306) a0_0 l0_1 l0_2 t307 t308 t311) else (laws_FnExactPolyOf.j0 k a1 t303 t306 bt315.1 bt315.2 true a0_0 l0_1 l0_2 t307 t308 t311)))) = some r := H
  have A10 := zA A100
  clear A100
  replace H := Option.bind_eq_some_iff.mp H
  obtain ⟨⟨t315, t318⟩, A110, H⟩ := H
  replace H : ((laws_eqInt64S.f k t315 t303).bind fun t319 => (if t319 = true then (laws_FnExactPolyOf.j0 k a1 t303 t306 t315 t318 (t318 != t306) a0_0 l0_1 l0_2 t307 t308 t311) else (laws_FnExactPolyOf.j0 k a1 t303 t306 t315 t318 true a0_0 l0_1 l0_2 t307 t308 t311))) = some r := H
  have A11 := zA A110
  clear A110
  have HC12 := zA H
  clear H
  go_enter Try.func3, Try.ntmps3
  go_upto_region 8 with (first | ((with_reducible refine gate_dst (N := 2) rfl ?_); refine bx 2 #[.int .i64 a0_0, .slice A0_1 l0_1.length c0_1, .slice A0_2 l0_2.length c0_2] 24 ?_; intro gb294 hg w13 hbox hb; have BK294 := zA (hbox); have GW294 := gq HB hg; have GE294 := gq HB hg; replace HB := xH HB hb; have := geI GE294; clear hb hbox hg; have hcz14_0 := bc BK294 0; have hcz14_1 := bc BK294 1; have hcz14_2 := bc BK294 2; have hfz14_0 := bf BK294 0; have hfz14_1 := bf BK294 1; have hfz14_2 := bf BK294 2) | ((with_reducible refine gate_callee (f := 10) rfl ?_); refine gL (some 18) Try.func10 #[.agg #[.int .i64 a0_0, .slice A0_1 l0_1.length c0_1, .slice A0_2 l0_2.length c0_2], .int .i64 1048576] ?_; (with_reducible refine (laws_szJacobi.calls a0_0 _ _ l0_1 _ _ l0_2 1048576 t295 _ ?side1 ?side2 ?side3 ?side4 A3.out).mono ?_); (case side1 => exact uC ((Kd.C_below HR0_1.out HB.out))); (case side2 => exact HC0_1.out); (case side3 => exact uC ((Kd.C_below HR0_2.out HB.out))); (case side4 => exact HC0_2.out); rintro e w15 ⟨rfl, hb⟩; refine ⟨_, rfl, ?_⟩; replace BK294 := xB BK294 hb; replace HB := xH HB hb; (try clear hb); (try clear hb2); (try clear hk); (try clear hi); have hcz16_0 := bc BK294 0; have hcz16_1 := bc BK294 1; have hcz16_2 := bc BK294 2; have hfz16_0 := bf BK294 0; have hfz16_1 := bf BK294 1; have hfz16_2 := bf BK294 2) | ((with_reducible refine gate_callee (f := 12) rfl ?_); refine gL (some 23) Try.func12 #[.agg #[.int .i64 a0_0, .slice A0_1 l0_1.length c0_1, .slice A0_2 l0_2.length c0_2]] ?_; (with_reducible refine (laws_toJacobi.calls k a0_0 _ _ l0_1 _ _ l0_2 t296 t297 t300 _ ?side1 ?side2 ?side3 ?side4 A8.out).mono ?_); (case side1 => exact uC ((Kd.C_below HR0_1.out HB.out))); (case side2 => exact HC0_1.out); (case side3 => exact uC ((Kd.C_below HR0_2.out HB.out))); (case side4 => exact HC0_2.out); rintro e w17 ⟨v298, v301, rfl, ho0, ho1, hb⟩; refine ⟨_, rfl, ?_⟩; have HO299 := zA (Kd.R_lower ho0 (below_size (uH HB.out))); have HO302 := zA (Kd.R_lower ho1 (below_size (uH HB.out))); replace BK294 := xB BK294 hb; replace HB := xH HB hb; (try clear hb); (try clear hb2); (try clear hk); (try clear hi); (try clear ho0); (try clear ho1); obtain ⟨Ao18, co18, eo18⟩ := Kd.R_slice HO299.out; subst eo18; obtain ⟨Ao19, co19, eo19⟩ := Kd.R_slice HO302.out; subst eo19) | ((with_reducible refine gate_callee (f := 11) rfl ?_); refine gL (some 25) Try.func11 #[.agg #[.int .i64 t296, .slice Ao18 t297.length co18, .slice Ao19 t300.length co19], .int .i64 a1] ?_; (with_reducible refine (spec_PolyOf.calls k t296 _ _ t297 _ _ t300 a1 t303 t306 _ ?side1 ?side2 ?side3 ?side4 A9.out).mono ?_); (case side1 => exact uC ((Kd.R_reads' HO299.out).2.2)); (case side2 => exact (Kd.R_reads' HO299.out).2.1); (case side3 => exact uC ((Kd.R_reads' HO302.out).2.2)); (case side4 => exact (Kd.R_reads' HO302.out).2.1); rintro e w20 ⟨v304, rfl, ho0, hb⟩; refine ⟨_, rfl, ?_⟩; have HO305 := zA (Kd.R_lower (Kd.R_new' (Kd.R_new' ho0 (Kd.R_lt (uR HO299.out))) (Kd.R_lt (uR HO302.out))) (below_size (uH HB.out))); replace HO299 := zA (Kd.R_elder' (uR HO299.out) (Kd.R_base ho0) hb); replace HO302 := zA (Kd.R_elder' (uR HO302.out) (Kd.R_base ho0) hb); replace BK294 := xB BK294 hb; replace HB := xH HB hb; (try clear hb); (try clear hb2); (try clear hk); (try clear hi); (try clear ho0); have hcz21_0 := bc BK294 0; have hcz21_1 := bc BK294 1; have hcz21_2 := bc BK294 2; have hfz21_0 := bf BK294 0; have hfz21_1 := bf BK294 1; have hfz21_2 := bf BK294 2) | ((with_reducible refine gate_callee (f := 12) rfl ?_); refine gL (some 29) Try.func12 #[.agg #[.int .i64 a0_0, .slice A0_1 l0_1.length c0_1, .slice A0_2 l0_2.length c0_2]] ?_; (with_reducible refine (laws_toJacobi.calls k a0_0 _ _ l0_1 _ _ l0_2 t307 t308 t311 _ ?side1 ?side2 ?side3 ?side4 A10.out).mono ?_); (case side1 => exact uC ((Kd.C_below HR0_1.out HB.out))); (case side2 => exact HC0_1.out); (case side3 => exact uC ((Kd.C_below HR0_2.out HB.out))); (case side4 => exact HC0_2.out); rintro e w22 ⟨v309, v312, rfl, ho0, ho1, hb⟩; refine ⟨_, rfl, ?_⟩; have HO310 := zA (Kd.R_lower (Kd.R_new' (Kd.R_new' (Kd.R_new' ho0 (Kd.R_lt (uR HO299.out))) (Kd.R_lt (uR HO302.out))) (Kd.R_lt (uR HO305.out))) (below_size (uH HB.out))); have HO313 := zA (Kd.R_lower (Kd.R_new' (Kd.R_new' (Kd.R_new' ho1 (Kd.R_lt (uR HO299.out))) (Kd.R_lt (uR HO302.out))) (Kd.R_lt (uR HO305.out))) (below_size (uH HB.out))); replace HO299 := zA (Kd.R_mono (Kd.R_told (Kd.R_told (Kd.R_old (uR HO299.out) hb) (Kd.R_base ho0)) (Kd.R_base ho1)) (fun _ h_ => h_.1)); replace HO302 := zA (Kd.R_mono (Kd.R_told (Kd.R_told (Kd.R_old (uR HO302.out) hb) (Kd.R_base ho0)) (Kd.R_base ho1)) (fun _ h_ => h_.1)); replace HO305 := zA (Kd.R_mono (Kd.R_told (Kd.R_told (Kd.R_old (uR HO305.out) hb) (Kd.R_base ho0)) (Kd.R_base ho1)) (fun _ h_ => h_.1)); replace BK294 := xB BK294 hb; replace HB := xH HB hb; (try clear hb); (try clear hb2); (try clear hk); (try clear hi); (try clear ho0); (try clear ho1)) | ((with_reducible refine gate_dst (N := 8) rfl ?_); refine bx 8 #[.int .i64 0, .slice none 0 0, .slice none 0 0] 28 ?_; intro gb314 hg w23 hbox hb; replace HO299 := xR HO299 hb; replace HO302 := xR HO302 hb; replace HO305 := xR HO305 hb; replace HO310 := xR HO310 hb; replace HO313 := xR HO313 hb; have BK314 := zA (hbox); have GW314 := gq HB hg; have GE314 := gq HB hg; replace HB := xH HB hb; have NB294_314 := zA ((by rw [hg]; exact neL BK294 : gb294 ≠ gb314)); have NB314_294 := zA ((by rw [hg]; exact neG BK294 : gb314 ≠ gb294)); replace BK294 := xB BK294 hb; have := geI GE314; clear hb hbox hg; have hnb24 := NB314_294.out; have hnc24 := NB294_314.out; have hcz25_0 := bc BK314 0; have hcz25_1 := bc BK314 1; have hcz25_2 := bc BK314 2; have hfz25_0 := bf BK314 0; have hfz25_1 := bf BK314 1; have hfz25_2 := bf BK314 2; obtain ⟨Ao26, co26, eo26⟩ := Kd.R_slice HO310.out; subst eo26; obtain ⟨Ao27, co27, eo27⟩ := Kd.R_slice HO313.out; subst eo27) | ((with_reducible refine gate_callee (f := 13) rfl ?_); refine gL (some 33) Try.func13 #[.agg #[.int .i64 t307, .slice Ao26 t308.length co26, .slice Ao27 t311.length co27], .int .i64 a1] ?_; (with_reducible refine (impl_PolyOf.calls k t307 _ _ t308 _ _ t311 a1 t315 t318 _ ?side1 ?side2 ?side3 ?side4 A11.out).mono ?_); (case side1 => refine (Kd.R_reads' (e := 2) (base := w.heap.size) (ok := fun k_ => (((ax k_ (.slice Ao27 t311.length co27) ∧ ax k_ (.slice Ao18 t297.length co18)) ∧ ax k_ (.slice Ao19 t300.length co19)) ∧ some k_ ≠ (v304 : Value).ownBlock)) (n := t308.length) (c := co26) ?_).2.2; exact (uR ((rf3 HO310 BK314 (by decide) (.int .i64 t307) (.slice Ao26 t308.length co26) (.slice Ao27 t311.length co27))))); (case side2 => exact (Kd.R_reads' HO310.out).2.1); (case side3 => refine (Kd.R_reads' (e := 2) (base := w.heap.size) (ok := fun k_ => (((ax k_ (.slice Ao26 t308.length co26) ∧ ax k_ (.slice Ao18 t297.length co18)) ∧ ax k_ (.slice Ao19 t300.length co19)) ∧ some k_ ≠ (v304 : Value).ownBlock)) (n := t311.length) (c := co27) ?_).2.2; exact (uR ((rf3 HO313 BK314 (by decide) (.int .i64 t307) (.slice Ao26 t308.length co26) (.slice Ao27 t311.length co27))))); (case side4 => exact (Kd.R_reads' HO313.out).2.1); rintro e w28 ⟨v316, rfl, ho0, hb⟩; refine ⟨_, rfl, ?_⟩; have HO317 := zA (Kd.R_lower (Kd.R_new' (Kd.R_new' (Kd.R_new' (Kd.R_new' (Kd.R_new' ho0 (Kd.R_lt (uR ((rf3 HO299 BK314 (by decide) (.int .i64 t307) (.slice Ao26 t308.length co26) (.slice Ao27 t311.length co27)))))) (Kd.R_lt (uR ((rf3 HO302 BK314 (by decide) (.int .i64 t307) (.slice Ao26 t308.length co26) (.slice Ao27 t311.length co27)))))) (Kd.R_lt (uR ((rf3 HO305 BK314 (by decide) (.int .i64 t307) (.slice Ao26 t308.length co26) (.slice Ao27 t311.length co27)))))) (Kd.R_lt (uR ((rf3 HO310 BK314 (by decide) (.int .i64 t307) (.slice Ao26 t308.length co26) (.slice Ao27 t311.length co27)))))) (Kd.R_lt (uR ((rf3 HO313 BK314 (by decide) (.int .i64 t307) (.slice Ao26 t308.length co26) (.slice Ao27 t311.length co27)))))) (below_size (uH HB.out))); replace HO299 := zA (Kd.R_elder' (uR ((rf3 HO299 BK314 (by decide) (.int .i64 t307) (.slice Ao26 t308.length co26) (.slice Ao27 t311.length co27)))) (Kd.R_base ho0) hb); replace HO302 := zA (Kd.R_elder' (uR ((rf3 HO302 BK314 (by decide) (.int .i64 t307) (.slice Ao26 t308.length co26) (.slice Ao27 t311.length co27)))) (Kd.R_base ho0) hb); replace HO305 := zA (Kd.R_elder' (uR ((rf3 HO305 BK314 (by decide) (.int .i64 t307) (.slice Ao26 t308.length co26) (.slice Ao27 t311.length co27)))) (Kd.R_base ho0) hb); replace HO310 := zA (Kd.R_elder' (uR ((rf3 HO310 BK314 (by decide) (.int .i64 t307) (.slice Ao26 t308.length co26) (.slice Ao27 t311.length co27)))) (Kd.R_base ho0) hb); replace HO313 := zA (Kd.R_elder' (uR ((rf3 HO313 BK314 (by decide) (.int .i64 t307) (.slice Ao26 t308.length co26) (.slice Ao27 t311.length co27)))) (Kd.R_base ho0) hb); replace BK294 := zA (blk_below (g := gb294) (o := .cells #[.int .i64 a0_0, .slice A0_1 l0_1.length c0_1, .slice A0_2 l0_2.length c0_2] 24 (0, 0)) (by (repeat refine up1 ?_); refine blk_far ?_ NB294_314.out _; (repeat refine up1 ?_); refine blk_far ?_ NB294_314.out _; (repeat refine up1 ?_); refine blk_far ?_ NB294_314.out _; (repeat refine up1 ?_); exact BK294.out) hb); replace BK314 := zA (blk_below (g := gb314) (o := .cells #[.int .i64 t307, .slice Ao26 t308.length co26, .slice Ao27 t311.length co27] 28 (0, 0)) (by (repeat refine up1 ?_); refine blk_put (cs := #[.int .i64 t307, .slice Ao26 t308.length co26, .slice none 0 0]) ?_ 2 _ rfl; (repeat refine up1 ?_); refine blk_put (cs := #[.int .i64 t307, .slice none 0 0, .slice none 0 0]) ?_ 1 _ rfl; (repeat refine up1 ?_); refine blk_put (cs := #[.int .i64 0, .slice none 0 0, .slice none 0 0]) ?_ 0 _ rfl; (repeat refine up1 ?_); exact BK314.out) hb); replace HB := xH HB hb; (try clear hb); (try clear hb2); (try clear hk); (try clear hi); (try clear ho0)))
  (try simp only [Act.put, ls, lz, ln])
  go_cut [44] (fun v44 wc => ∃ (kq : Nat) (x44_11 : Bool), v44 = .bool x44_11 ∧ Aside0 (laws_FnExactPolyOf.j0 kq a1 t303 t306 t315 t318 x44_11 a0_0 l0_1 l0_2 t307 t308 t311 = some r) ∧ Aside0 (kq ≤ k) ∧ Aside0 (Kd.R (Kd.int .i64) 2 wc w.heap.size (fun k_ => some k_ ≠ (v316 : Value).ownBlock ∧ ax k_ (.slice Ao26 t308.length co26) ∧ ax k_ (.slice Ao27 t311.length co27)) v304 t303) ∧ Aside0 (Kd.R (Kd.int .i64) 2 wc w.heap.size (fun k_ => some k_ ≠ (v304 : Value).ownBlock ∧ ax k_ (.slice Ao26 t308.length co26) ∧ ax k_ (.slice Ao27 t311.length co27)) v316 t315) ∧ Aside0 (Kd.R (Kd.int .i64) 2 wc w.heap.size (fun k_ => some k_ ≠ (v304 : Value).ownBlock ∧ some k_ ≠ (v316 : Value).ownBlock ∧ ax k_ (.slice Ao27 t311.length co27)) (.slice Ao26 t308.length co26) t308) ∧ Aside0 (Kd.R (Kd.int .i64) 2 wc w.heap.size (fun k_ => some k_ ≠ (v304 : Value).ownBlock ∧ some k_ ≠ (v316 : Value).ownBlock ∧ ax k_ (.slice Ao26 t308.length co26)) (.slice Ao27 t311.length co27) t311) ∧ Aside0 (wc.heap[gb294]? = some (.cells #[.int .i64 a0_0, (.slice A0_1 l0_1.length c0_1), (.slice A0_2 l0_2.length c0_2)] 24 (0, 0))) ∧ Aside0 (wc.heap[gb314]? = some (.cells #[.int .i64 t307, (.slice Ao26 t308.length co26), (.slice Ao27 t311.length co27)] 28 (0, 0))) ∧ Aside0 (Below w.heap.size w wc))
  case first =>
   have H := HC12.out
   clear HC12
   replace H := Option.bind_eq_some_iff.mp H
   obtain ⟨t319, A290, H⟩ := H
   replace H : (if t319 = true then (laws_FnExactPolyOf.j0 k a1 t303 t306 t315 t318 (t318 != t306) a0_0 l0_1 l0_2 t307 t308 t311) else (laws_FnExactPolyOf.j0 k a1 t303 t306 t315 t318 true a0_0 l0_1 l0_2 t307 t308 t311)) = some r := H
   have A29 := zA A290
   clear A290
   by_cases c30 : t319 = true
   ·subst c30
    have H1 : (laws_FnExactPolyOf.j0 k a1 t303 t306 t315 t318 (t318 != t306) a0_0 l0_1 l0_2 t307 t308 t311) = some r := by rw [if_pos rfl] at H; exact H
    clear H
    have H := H1
    clear H1
    have H' := zA H
    clear H
    obtain ⟨Ao31, co31, eo31⟩ := Kd.R_slice HO317.out
    subst eo31
    obtain ⟨Ao32, co32, eo32⟩ := Kd.R_slice HO305.out
    subst eo32
    go_wp2_with (first | ((with_reducible refine gate_callee (f := 14) rfl ?_); refine gL (some 38) Try.func14 #[.slice Ao31 t315.length co31, .slice Ao32 t303.length co32] ?_; (with_reducible refine (laws_eqInt64S.calls k _ _ t315 _ _ t303 true _ ?side1 ?side2 ?side3 ?side4 A29.out).mono ?_); (case side1 => exact uC ((Kd.R_reads' HO317.out).2.2)); (case side2 => exact (Kd.R_reads' HO317.out).2.1); (case side3 => exact uC ((Kd.R_reads' HO305.out).2.2)); (case side4 => exact (Kd.R_reads' HO305.out).2.1); rintro e w' ⟨rfl, ⟨nd, rfl⟩⟩; refine ⟨_, rfl, ?_⟩))
    go_meet
    case rel => exact ⟨_, ((t318 != t306)), (by first | rfl | (simp; done) | (simp [*]; done)), H', ⟨by first | omega | exact Nat.le_refl _⟩, ⟨uR (Kd.R_mono HO305.out (fun _ hk => ⟨hk.2, ⟨hk.1.1.2, hk.1.2⟩⟩))⟩, ⟨uR (Kd.R_mono HO317.out (fun _ hk => ⟨hk.1.1.2, ⟨hk.1.2, hk.2⟩⟩))⟩, ⟨uR (Kd.R_mono HO310.out (fun _ hk => ⟨hk.1.2, ⟨hk.2, hk.1.1.1.1⟩⟩))⟩, ⟨uR (Kd.R_mono HO313.out (fun _ hk => ⟨hk.1.2, ⟨hk.2, hk.1.1.1.1⟩⟩))⟩, ⟨uB BK294.out⟩, ⟨uB BK314.out⟩, ⟨uH HB.out⟩⟩
   ·replace c30 := Bool.eq_false_iff.mpr c30
    subst c30
    have H1 : (laws_FnExactPolyOf.j0 k a1 t303 t306 t315 t318 true a0_0 l0_1 l0_2 t307 t308 t311) = some r := by rw [if_neg (show ¬ (false = true) by decide)] at H; exact H
    clear H
    have H := H1
    clear H1
    have H' := zA H
    clear H
    obtain ⟨Ao33, co33, eo33⟩ := Kd.R_slice HO317.out
    subst eo33
    obtain ⟨Ao34, co34, eo34⟩ := Kd.R_slice HO305.out
    subst eo34
    go_wp2_with (first | ((with_reducible refine gate_callee (f := 14) rfl ?_); refine gL (some 38) Try.func14 #[.slice Ao33 t315.length co33, .slice Ao34 t303.length co34] ?_; (with_reducible refine (laws_eqInt64S.calls k _ _ t315 _ _ t303 false _ ?side1 ?side2 ?side3 ?side4 A29.out).mono ?_); (case side1 => exact uC ((Kd.R_reads' HO317.out).2.2)); (case side2 => exact (Kd.R_reads' HO317.out).2.1); (case side3 => exact uC ((Kd.R_reads' HO305.out).2.2)); (case side4 => exact (Kd.R_reads' HO305.out).2.1); rintro e w' ⟨rfl, ⟨nd, rfl⟩⟩; refine ⟨_, rfl, ?_⟩))
    go_meet
    case rel => exact ⟨_, (true), (by first | rfl | (simp; done) | (simp [*]; done)), H', ⟨by first | omega | exact Nat.le_refl _⟩, ⟨uR (Kd.R_mono HO305.out (fun _ hk => ⟨hk.2, ⟨hk.1.1.2, hk.1.2⟩⟩))⟩, ⟨uR (Kd.R_mono HO317.out (fun _ hk => ⟨hk.1.1.2, ⟨hk.1.2, hk.2⟩⟩))⟩, ⟨uR (Kd.R_mono HO310.out (fun _ hk => ⟨hk.1.2, ⟨hk.2, hk.1.1.1.1⟩⟩))⟩, ⟨uR (Kd.R_mono HO313.out (fun _ hk => ⟨hk.1.2, ⟨hk.2, hk.1.1.1.1⟩⟩))⟩, ⟨uB BK294.out⟩, ⟨uB BK314.out⟩, ⟨uH HB.out⟩⟩
  case rest =>
   clear HC12
   (try clear c1);(try clear c2);(try clear p2);(try clear c3);(try clear c4);(try clear c4b0);(try clear c10);(try clear c11);(try clear c12);(try clear c13);(try clear c14);(try clear c24);(try clear c30);(try clear hcz14_0);(try clear hcz14_1);(try clear hcz14_2);(try clear hcz16_0);(try clear hcz16_1);(try clear hcz16_2);(try clear hcz21_0);(try clear hcz21_1);(try clear hcz21_2);(try clear hcz25_0)
   (try clear hcz25_1);(try clear hcz25_2);(try clear hcz6_0);(try clear hcz6_1);(try clear hcz6_2);(try clear hfz14_0);(try clear hfz14_1);(try clear hfz14_2);(try clear hfz16_0);(try clear hfz16_1);(try clear hfz16_2);(try clear hfz21_0);(try clear hfz21_1);(try clear hfz21_2);(try clear hfz25_0);(try clear hfz25_1);(try clear hfz25_2);(try clear hfz6_0);(try clear hfz6_1);(try clear hfz6_2)
   obtain ⟨kq, x44_11, rfl, HA, HJ11, HO_6, HO_9, HO_315001, HO_315002, BK294, BK314, HB⟩ := hcut
   cases kq with
   | zero => exact absurd HA.out (by simp [laws_FnExactPolyOf.j0])
   | succ kj11 =>
    have H := HA.out
    clear HA
    simp only [laws_FnExactPolyOf.j0] at H
    by_cases c35 : x44_11 = true
    ·subst c35
     have H1 : (some false) = some r := by rw [if_pos rfl] at H; exact H
     clear H
     have H := H1
     clear H1
     rw [HRT.out] at H
     exact absurd H (by simp)
    ·replace c35 := Bool.eq_false_iff.mpr c35
     subst c35
     have H1 : ((laws_toJacobi.f kj11 a0_0 l0_1 l0_2).bind fun bt320 => ((laws_eqJacobi.f kj11 t307 t308 t311 bt320.1 bt320.2.1 bt320.2.2).bind fun t327 => (if t327 = true then ((laws_markJacobi.f kj11 t307 t308 t311 1).bind fun bt328 => (if bt328.1 < 0 then (laws_FnExactPolyOf.j1 kj11 a1 t303 t306 t315 true a0_0 l0_1 l0_2) else ((laws_eqInt64S.f kj11 t315 t303).bind fun t331 => (if t331 = true then (laws_FnExactPolyOf.j1 kj11 a1 t303 t306 t315 (t318 != t306) a0_0 l0_1 l0_2) else (laws_FnExactPolyOf.j1 kj11 a1 t303 t306 t315 true a0_0 l0_1 l0_2))))) else (some false)))) = some r := by rw [if_neg (show ¬ (false = true) by decide)] at H; exact H
     clear H
     have H := H1
     clear H1
     replace H := Option.bind_eq_some_iff.mp H
     obtain ⟨⟨t320, t321, t324⟩, A360, H⟩ := H
     replace H : ((laws_eqJacobi.f kj11 t307 t308 t311 t320 t321 t324).bind fun t327 => (if t327 = true then ((laws_markJacobi.f kj11 t307 t308 t311 1).bind fun bt328 => (if bt328.1 < 0 then (laws_FnExactPolyOf.j1 kj11 a1 t303 t306 t315 true a0_0 l0_1 l0_2) else ((laws_eqInt64S.f kj11 t315 t303).bind fun t331 => (if t331 = true then (laws_FnExactPolyOf.j1 kj11 a1 t303 t306 t315 (t318 != t306) a0_0 l0_1 l0_2) else (laws_FnExactPolyOf.j1 kj11 a1 t303 t306 t315 true a0_0 l0_1 l0_2))))) else (some false))) = some r := H
     have A36 := zA A360
     clear A360
     replace H := Option.bind_eq_some_iff.mp H
     obtain ⟨t327, A370, H⟩ := H
     replace H : (if t327 = true then ((laws_markJacobi.f kj11 t307 t308 t311 1).bind fun bt328 => (if bt328.1 < 0 then (laws_FnExactPolyOf.j1 kj11 a1 t303 t306 t315 true a0_0 l0_1 l0_2) else ((laws_eqInt64S.f kj11 t315 t303).bind fun t331 => (if t331 = true then (laws_FnExactPolyOf.j1 kj11 a1 t303 t306 t315 (t318 != t306) a0_0 l0_1 l0_2) else (laws_FnExactPolyOf.j1 kj11 a1 t303 t306 t315 true a0_0 l0_1 l0_2))))) else (some false)) = some r := H
     have A37 := zA A370
     clear A370
     by_cases c38 : t327 = true
     ·subst c38
      have H1 : ((laws_markJacobi.f kj11 t307 t308 t311 1).bind fun bt328 => (if bt328.1 < 0 then (laws_FnExactPolyOf.j1 kj11 a1 t303 t306 t315 true a0_0 l0_1 l0_2) else ((laws_eqInt64S.f kj11 t315 t303).bind fun t331 => (if t331 = true then (laws_FnExactPolyOf.j1 kj11 a1 t303 t306 t315 (t318 != t306) a0_0 l0_1 l0_2) else (laws_FnExactPolyOf.j1 kj11 a1 t303 t306 t315 true a0_0 l0_1 l0_2))))) = some r := by rw [if_pos rfl] at H; exact H
      clear H
      have H := H1
      clear H1
      replace H := Option.bind_eq_some_iff.mp H
      obtain ⟨⟨t328, t329, t330⟩, A390, H⟩ := H
      replace H : (if t328 < 0 then (laws_FnExactPolyOf.j1 kj11 a1 t303 t306 t315 true a0_0 l0_1 l0_2) else ((laws_eqInt64S.f kj11 t315 t303).bind fun t331 => (if t331 = true then (laws_FnExactPolyOf.j1 kj11 a1 t303 t306 t315 (t318 != t306) a0_0 l0_1 l0_2) else (laws_FnExactPolyOf.j1 kj11 a1 t303 t306 t315 true a0_0 l0_1 l0_2)))) = some r := H
      have A39 := zA A390
      clear A390
      have HC40 := zA H
      clear H
      try go_wp2
      replace HO_6 := zA (Kd.R_drew HO_6.out)
      replace HO_9 := zA (Kd.R_drew HO_9.out)
      replace HO_315001 := zA (Kd.R_drew HO_315001.out)
      replace HO_315002 := zA (Kd.R_drew HO_315002.out)
      replace BK294 := zA (blk_drew BK294.out)
      replace BK314 := zA (blk_drew BK314.out)
      replace HB := zA (below_drew1 HB.out)
      refine start_ (n := 5) (S := fun w' => w'.cell? ⟨gb314, 0, none⟩ = some (.int .i64 t307) ∧ w'.cell? ⟨gb314, 1, none⟩ = some (.slice Ao26 t308.length co26) ∧ w'.cell? ⟨gb314, 2, none⟩ = some (.slice Ao27 t311.length co27) ∧ w'.cell? ⟨gb294, 0, none⟩ = some (.int .i64 a0_0) ∧ w'.cell? ⟨gb294, 1, none⟩ = some (.slice A0_1 l0_1.length c0_1) ∧ w'.cell? ⟨gb294, 2, none⟩ = some (.slice A0_2 l0_2.length c0_2)) (ds := []) #[false, false, false, false, false] (by kernel_rfl) rfl rfl ⟨bcu BK314 0, bcu BK314 1, bcu BK314 2, bcu BK294 0, bcu BK294 1, bcu BK294 2⟩ (fun hHeld => ?_)
      generalize wc.drew = w41 at HO_6 HO_9 HO_315001 HO_315002 BK294 BK314 HB hHeld ⊢
      refine take_ (i := 0) (N := some 45) (v := ?_) (a' := ?_) (bl 5 1) rfl rfl (by kernel_rfl) (fun _ _ _ h => h) (Or.inl ⟨by rfl, ?_⟩) hHeld ?_ ?_
      rotate_left
      ·rintro w' ⟨s0, s1, s2, s3, s4, s5⟩
       go_simp
       with_reducible rfl
      rotate_left
      ·simp only [Act.put, ls, lz, ln, i64_w, i32_w]
       rfl
      refine take_ (i := 1) (N := some 46) (v := ?_) (a' := ?_) (bl 5 3) rfl rfl (by kernel_rfl) (fun _ _ _ h => h) (Or.inl ⟨by rfl, ?_⟩) hHeld ?_ ?_
      rotate_left
      ·rintro w' ⟨s0, s1, s2, s3, s4, s5⟩
       go_simp
       with_reducible rfl
      rotate_left
      ·simp only [Act.put, ls, lz, ln, i64_w, i32_w]
       rfl
      refine one_ (i := 2) (N := some 47) (bl 5 7) rfl rfl (by kernel_rfl) (by decide) (fun K hK => ?_)
      refine gS Try.func12 #[.agg #[.int .i64 a0_0, .slice A0_1 l0_1.length c0_1, .slice A0_2 l0_2.length c0_2]] ?_
      with_reducible refine (laws_toJacobi.calls kj11 a0_0 _ _ l0_1 _ _ l0_2 t320 t321 t324 _ ?side1 ?side2 ?side3 ?side4 A36.out).mono ?_
      (case side1 => exact uC ((Kd.C_below HR0_1.out HB.out)))
      (case side2 => exact HC0_1.out)
      (case side3 => exact uC ((Kd.C_below HR0_2.out HB.out)))
      (case side4 => exact HC0_2.out)
      rintro e w42 ⟨v322, v325, rfl, ho0, ho1, hb⟩
      refine ⟨_, rfl, ?_⟩
      have HO323 := zA (Kd.R_lower (Kd.R_new' (Kd.R_new' (Kd.R_new' (Kd.R_new' ho0 (Kd.R_lt (uR HO_6.out))) (Kd.R_lt (uR HO_9.out))) (Kd.R_lt (uR HO_315001.out))) (Kd.R_lt (uR HO_315002.out))) (below_size (uH HB.out)))
      have HO326 := zA (Kd.R_lower (Kd.R_new' (Kd.R_new' (Kd.R_new' (Kd.R_new' ho1 (Kd.R_lt (uR HO_6.out))) (Kd.R_lt (uR HO_9.out))) (Kd.R_lt (uR HO_315001.out))) (Kd.R_lt (uR HO_315002.out))) (below_size (uH HB.out)))
      replace HO_6 := zA (Kd.R_mono (Kd.R_told (Kd.R_told (Kd.R_old (uR HO_6.out) hb) (Kd.R_base ho0)) (Kd.R_base ho1)) (fun _ h_ => h_.1))
      replace HO_9 := zA (Kd.R_mono (Kd.R_told (Kd.R_told (Kd.R_old (uR HO_9.out) hb) (Kd.R_base ho0)) (Kd.R_base ho1)) (fun _ h_ => h_.1))
      replace HO_315001 := zA (Kd.R_mono (Kd.R_told (Kd.R_told (Kd.R_old (uR HO_315001.out) hb) (Kd.R_base ho0)) (Kd.R_base ho1)) (fun _ h_ => h_.1))
      replace HO_315002 := zA (Kd.R_mono (Kd.R_told (Kd.R_told (Kd.R_old (uR HO_315002.out) hb) (Kd.R_base ho0)) (Kd.R_base ho1)) (fun _ h_ => h_.1))
      replace BK294 := xB BK294 hb
      replace BK314 := xB BK314 hb
      replace HB := xH HB hb
      (try clear hb); (try clear hb2); (try clear hk); (try clear hi); (try clear ho0); (try clear ho1)
      obtain ⟨Ao43, co43, eo43⟩ := Kd.R_slice HO323.out
      (first | subst eo43 | (injection eo43 with f1_ f2_ f3_; have f4_ := f1_.symm; have f5_ := f3_.symm; clear f1_ f2_ f3_; subst f4_; subst f5_))
      obtain ⟨Ao44, co44, eo44⟩ := Kd.R_slice HO326.out
      (first | subst eo44 | (injection eo44 with f1_ f2_ f3_; have f4_ := f1_.symm; have f5_ := f3_.symm; clear f1_ f2_ f3_; subst f4_; subst f5_))
      refine hK.out _ _ ⟨bcu BK314 0, bcu BK314 1, bcu BK314 2, bcu BK294 0, bcu BK294 1, bcu BK294 2⟩ (fun hHeld => ?_)
      clear hK K
      refine no_ 47 ?_
      refine one_ (i := 3) (N := some 48) (bl 5 15) rfl rfl (by kernel_rfl) (by decide) (fun K hK => ?_)
      refine gS Try.func15 #[.agg #[.int .i64 t307, .slice Ao26 t308.length co26, .slice Ao27 t311.length co27], .agg #[.int .i64 t320, .slice Ao43 t321.length co43, .slice Ao44 t324.length co44]] ?_
      with_reducible refine (laws_eqJacobi.calls kj11 t307 _ _ t308 _ _ t311 t320 _ _ t321 _ _ t324 true _ ?side1 ?side2 ?side3 ?side4 ?side5 ?side6 ?side7 ?side8 A37.out).mono ?_
      (case side1 => exact uC ((Kd.R_reads' HO_315001.out).2.2))
      (case side2 => exact (Kd.R_reads' HO_315001.out).2.1)
      (case side3 => exact uC ((Kd.R_reads' HO_315002.out).2.2))
      (case side4 => exact (Kd.R_reads' HO_315002.out).2.1)
      (case side5 => exact uC ((Kd.R_reads' HO323.out).2.2))
      (case side6 => exact (Kd.R_reads' HO323.out).2.1)
      (case side7 => exact uC ((Kd.R_reads' HO326.out).2.2))
      (case side8 => exact (Kd.R_reads' HO326.out).2.1)
      rintro e w45 ⟨rfl, hb⟩
      refine ⟨_, rfl, ?_⟩
      replace HO_6 := xR HO_6 hb
      replace HO_9 := xR HO_9 hb
      replace HO_315001 := xR HO_315001 hb
      replace HO_315002 := xR HO_315002 hb
      replace HO323 := xR HO323 hb
      replace HO326 := xR HO326 hb
      replace BK294 := xB BK294 hb
      replace BK314 := xB BK314 hb
      replace HB := xH HB hb
      (try clear hb); (try clear hb2); (try clear hk); (try clear hi)
      refine hK.out _ _ ⟨bcu BK314 0, bcu BK314 1, bcu BK314 2, bcu BK294 0, bcu BK294 1, bcu BK294 2⟩ (fun hHeld => ?_)
      clear hK K
      refine no_ 48 ?_
      refine pure_ (i := 4) (N := some 49) (v := ?_) (a' := ?_) (bl 5 31) rfl rfl (by kernel_rfl) (fun _ _ _ h => h) (Or.inl ⟨by rfl, ?_⟩) ?_ ?_
      rotate_left
      ·intro w'
       go_simp
       with_reducible rfl
      rotate_left
      ·simp only [Act.put, ls, lz, ln, i64_w, i32_w]
       rfl
      refine done_ (by kernel_rfl) ?_
      have hnb46 := NB314_294.out; have hnc46 := NB294_314.out
      have hcz47_0 := bc BK314 0
      have hcz47_1 := bc BK314 1
      have hcz47_2 := bc BK314 2
      have hfz47_0 := bf BK314 0
      have hfz47_1 := bf BK314 1
      have hfz47_2 := bf BK314 2
      go_upto_region 14 with (first | ((with_reducible refine gate_callee (f := 16) rfl ?_); refine gL (some 52) Try.func16 #[.agg #[.int .i64 t307, .slice Ao26 t308.length co26, .slice Ao27 t311.length co27], .int .i64 1] ?_; (with_reducible refine (laws_markJacobi.calls kj11 t307 (fun k_ => some k_ = (.slice Ao26 t308.length co26 : Value).ownBlock) (.slice Ao26 t308.length co26) t308 (fun k_ => some k_ = (.slice Ao27 t311.length co27 : Value).ownBlock) (.slice Ao27 t311.length co27) t311 1 t328 t329 t330 w _ ?side1 ?side2 ?side3 ?side4 ?side5 A39.out).mono ?_); (case side1 => repeat (first | (with_reducible first | exact HB.out | apply below_alloc | apply pw_below_drewN | apply below_drew1 | refine below_set ?_ GE294.out | refine below_set ?_ GE314.out) | exact HB.out)); (case side2 => exact Kd.R_tight rfl HO_315001.out); (case side3 => exact fun k_ e_ => (HO_315001.out.1 k_ e_.symm).1.1.2.2); (case side4 => exact Kd.R_tight rfl HO_315002.out); (case side5 => exact fun k_ e_ => (HO_315002.out.1 k_ e_.symm).1.1.2.2); rintro e w48 ⟨rfl, hy0, hy1, hb, hkp⟩; refine ⟨_, rfl, ?_⟩; replace HO_6 := zA (Kd.R_mono (ok' := fun k_ => some k_ ≠ (v316 : Value).ownBlock ∧ ax k_ (.slice Ao26 t308.length co26) ∧ ax k_ (.slice Ao27 t311.length co27) ∧ ax k_ (.slice Ao43 t321.length co43) ∧ ax k_ (.slice Ao44 t324.length co44)) (Kd.R_keptB (HO_6.out) hkp (fun k_ hk_ hs_ => Or.elim hs_ (fun e_ => (hk_.1.1.2.1) e_) (fun e_ => (hk_.1.1.2.2) e_))) (fun k_ hk_ => ⟨hk_.1.1.1.1, hk_.1.1.1.2.1, hk_.1.1.1.2.2, hk_.1.1.2, hk_.1.2⟩)); replace HO_9 := zA (Kd.R_mono (ok' := fun k_ => some k_ ≠ (v304 : Value).ownBlock ∧ ax k_ (.slice Ao26 t308.length co26) ∧ ax k_ (.slice Ao27 t311.length co27) ∧ ax k_ (.slice Ao43 t321.length co43) ∧ ax k_ (.slice Ao44 t324.length co44)) (Kd.R_keptB (HO_9.out) hkp (fun k_ hk_ hs_ => Or.elim hs_ (fun e_ => (hk_.1.1.2.1) e_) (fun e_ => (hk_.1.1.2.2) e_))) (fun k_ hk_ => ⟨hk_.1.1.1.1, hk_.1.1.1.2.1, hk_.1.1.1.2.2, hk_.1.1.2, hk_.1.2⟩)); replace BK294 := zA (blk_kept (uB BK294.out) hkp (fun hs_ => Or.elim hs_ (fun e_ => (fun e_ => (Kd.R_ne HO_315001.out BK294.out (by decide)) e_) e_) (fun e_ => (fun e_ => (Kd.R_ne HO_315002.out BK294.out (by decide)) e_) e_))); replace BK314 := zA (blk_kept (uB BK314.out) hkp (fun hs_ => Or.elim hs_ (fun e_ => (fun e_ => (Kd.R_ne HO_315001.out BK314.out (by decide)) e_) e_) (fun e_ => (fun e_ => (Kd.R_ne HO_315002.out BK314.out (by decide)) e_) e_))); replace HO_315001 := zA (Kd.R_reok rfl hy0 (fun k_ e_ => HO_315001.out.1 k_ e_)); replace HO_315002 := zA (Kd.R_reok rfl hy1 (fun k_ e_ => HO_315002.out.1 k_ e_)); replace HO323 := zA (Kd.R_mono (ok' := fun k_ => some k_ ≠ (v304 : Value).ownBlock ∧ some k_ ≠ (v316 : Value).ownBlock ∧ ax k_ (.slice Ao26 t308.length co26) ∧ ax k_ (.slice Ao27 t311.length co27) ∧ ax k_ (.slice Ao44 t324.length co44)) (Kd.R_keptB (HO323.out) hkp (fun k_ hk_ hs_ => Or.elim hs_ (fun e_ => (hk_.1.2) e_) (fun e_ => (hk_.2) e_))) (fun k_ hk_ => ⟨hk_.1.1.1.1.2, hk_.1.1.1.2, hk_.1.1.2, hk_.1.2, hk_.1.1.1.1.1⟩)); replace HO326 := zA (Kd.R_mono (ok' := fun k_ => some k_ ≠ (v304 : Value).ownBlock ∧ some k_ ≠ (v316 : Value).ownBlock ∧ ax k_ (.slice Ao26 t308.length co26) ∧ ax k_ (.slice Ao27 t311.length co27) ∧ ax k_ (.slice Ao43 t321.length co43)) (Kd.R_keptB (HO326.out) hkp (fun k_ hk_ hs_ => Or.elim hs_ (fun e_ => (hk_.1.2) e_) (fun e_ => (hk_.2) e_))) (fun k_ hk_ => ⟨hk_.1.1.1.1.2, hk_.1.1.1.2, hk_.1.1.2, hk_.1.2, hk_.1.1.1.1.1⟩)); replace HB := zA (hb); (try clear hb); (try clear hkp); (try clear hy0); (try clear hy1)))
      (try simp only [Act.put, ls, lz, ln])
      go_cut [65] (fun v65 wc => ∃ (kq : Nat) (x65_39 : Bool), v65 = .bool x65_39 ∧ Aside0 (laws_FnExactPolyOf.j1 kq a1 t303 t306 t315 x65_39 a0_0 l0_1 l0_2 = some r) ∧ Aside0 (kq ≤ kj11) ∧ Aside0 (Kd.R (Kd.int .i64) 2 wc w.heap.size (fun k_ => some k_ ≠ (v316 : Value).ownBlock ∧ ax k_ (.slice Ao26 t308.length co26) ∧ ax k_ (.slice Ao27 t311.length co27)) v304 t303) ∧ Aside0 (Kd.R (Kd.int .i64) 2 wc w.heap.size (fun k_ => some k_ ≠ (v304 : Value).ownBlock ∧ ax k_ (.slice Ao26 t308.length co26) ∧ ax k_ (.slice Ao27 t311.length co27)) v316 t315) ∧ Aside0 (Kd.R (Kd.int .i64) 2 wc w.heap.size (fun k_ => some k_ ≠ (v304 : Value).ownBlock ∧ some k_ ≠ (v316 : Value).ownBlock ∧ ax k_ (.slice Ao27 t311.length co27)) (.slice Ao26 t308.length co26) t329) ∧ Aside0 (Kd.R (Kd.int .i64) 2 wc w.heap.size (fun k_ => some k_ ≠ (v304 : Value).ownBlock ∧ some k_ ≠ (v316 : Value).ownBlock ∧ ax k_ (.slice Ao26 t308.length co26)) (.slice Ao27 t311.length co27) t330) ∧ Aside0 (wc.heap[gb294]? = some (.cells #[.int .i64 a0_0, (.slice A0_1 l0_1.length c0_1), (.slice A0_2 l0_2.length c0_2)] 24 (0, 0))) ∧ Aside0 (wc.heap[gb314]? = some (.cells #[.int .i64 t307, (.slice Ao26 t308.length co26), (.slice Ao27 t311.length co27)] 28 (0, 0))) ∧ Aside0 (Below w.heap.size w wc))
      case first =>
       have H := HC40.out
       clear HC40
       by_cases c49 : t328 < 0
       rotate_left
       ·rw [if_neg c49] at H
        have c49b0 : decide (t328 < 0) = false := decide_eq_false c49
        clear c49
        (first | rw [c49b0] | (simp only [i64_w, i32_w]; rw [c49b0]) | skip)
        replace H := Option.bind_eq_some_iff.mp H
        obtain ⟨t331, A500, H⟩ := H
        replace H : (if t331 = true then (laws_FnExactPolyOf.j1 kj11 a1 t303 t306 t315 (t318 != t306) a0_0 l0_1 l0_2) else (laws_FnExactPolyOf.j1 kj11 a1 t303 t306 t315 true a0_0 l0_1 l0_2)) = some r := H
        have A50 := zA A500
        clear A500
        by_cases c51 : t331 = true
        ·subst c51
         have H1 : (laws_FnExactPolyOf.j1 kj11 a1 t303 t306 t315 (t318 != t306) a0_0 l0_1 l0_2) = some r := by rw [if_pos rfl] at H; exact H
         clear H
         have H := H1
         clear H1
         have H' := zA H
         clear H
         obtain ⟨Ao52, co52, eo52⟩ := Kd.R_slice HO_9.out
         subst eo52
         obtain ⟨Ao53, co53, eo53⟩ := Kd.R_slice HO_6.out
         subst eo53
         go_wp2_with (first | (go_at_call 14; (with_reducible refine (laws_eqInt64S.calls kj11 _ _ t315 _ _ t303 true _ ?side1 ?side2 ?side3 ?side4 A50.out).mono ?_); (case side1 => exact uC ((Kd.R_reads' HO_9.out).2.2)); (case side2 => exact (Kd.R_reads' HO_9.out).2.1); (case side3 => exact uC ((Kd.R_reads' HO_6.out).2.2)); (case side4 => exact (Kd.R_reads' HO_6.out).2.1); rintro e w' ⟨rfl, ⟨nd, rfl⟩⟩))
         go_meet
         case rel => exact ⟨_, ((t318 != t306)), (by first | rfl | (simp; done) | (simp [*]; done)), H', ⟨by have := HJ11.out; first | omega | exact Nat.le_refl _⟩, ⟨uR (Kd.R_mono HO_6.out (fun _ hk => ⟨hk.1, ⟨hk.2.1, hk.2.2.1⟩⟩))⟩, ⟨uR (Kd.R_mono HO_9.out (fun _ hk => ⟨hk.1, ⟨hk.2.1, hk.2.2.1⟩⟩))⟩, ⟨uR (Kd.R_mono HO_315001.out (fun _ hk => ⟨hk.1.1.1, ⟨hk.1.1.2.1, hk.1.1.2.2⟩⟩))⟩, ⟨uR (Kd.R_mono HO_315002.out (fun _ hk => ⟨hk.1.1.1, ⟨hk.1.1.2.1, hk.1.1.2.2⟩⟩))⟩, ⟨uB BK294.out⟩, ⟨uB BK314.out⟩, ⟨uH HB.out⟩⟩
        ·replace c51 := Bool.eq_false_iff.mpr c51
         subst c51
         have H1 : (laws_FnExactPolyOf.j1 kj11 a1 t303 t306 t315 true a0_0 l0_1 l0_2) = some r := by rw [if_neg (show ¬ (false = true) by decide)] at H; exact H
         clear H
         have H := H1
         clear H1
         have H' := zA H
         clear H
         obtain ⟨Ao54, co54, eo54⟩ := Kd.R_slice HO_9.out
         subst eo54
         obtain ⟨Ao55, co55, eo55⟩ := Kd.R_slice HO_6.out
         subst eo55
         go_wp2_with (first | (go_at_call 14; (with_reducible refine (laws_eqInt64S.calls kj11 _ _ t315 _ _ t303 false _ ?side1 ?side2 ?side3 ?side4 A50.out).mono ?_); (case side1 => exact uC ((Kd.R_reads' HO_9.out).2.2)); (case side2 => exact (Kd.R_reads' HO_9.out).2.1); (case side3 => exact uC ((Kd.R_reads' HO_6.out).2.2)); (case side4 => exact (Kd.R_reads' HO_6.out).2.1); rintro e w' ⟨rfl, ⟨nd, rfl⟩⟩))
         go_meet
         case rel => exact ⟨_, (true), (by first | rfl | (simp; done) | (simp [*]; done)), H', ⟨by have := HJ11.out; first | omega | exact Nat.le_refl _⟩, ⟨uR (Kd.R_mono HO_6.out (fun _ hk => ⟨hk.1, ⟨hk.2.1, hk.2.2.1⟩⟩))⟩, ⟨uR (Kd.R_mono HO_9.out (fun _ hk => ⟨hk.1, ⟨hk.2.1, hk.2.2.1⟩⟩))⟩, ⟨uR (Kd.R_mono HO_315001.out (fun _ hk => ⟨hk.1.1.1, ⟨hk.1.1.2.1, hk.1.1.2.2⟩⟩))⟩, ⟨uR (Kd.R_mono HO_315002.out (fun _ hk => ⟨hk.1.1.1, ⟨hk.1.1.2.1, hk.1.1.2.2⟩⟩))⟩, ⟨uB BK294.out⟩, ⟨uB BK314.out⟩, ⟨uH HB.out⟩⟩
       rw [if_pos c49] at H
       have c49b0 : decide (t328 < 0) = true := decide_eq_true c49
       clear c49
       (first | rw [c49b0] | (simp only [i64_w, i32_w]; rw [c49b0]) | skip)
       have H' := zA H
       clear H
       go_wp2
       go_meet
       case rel => exact ⟨_, (true), (by first | rfl | (simp; done) | (simp [*]; done)), H', ⟨by have := HJ11.out; first | omega | exact Nat.le_refl _⟩, ⟨uR (Kd.R_mono HO_6.out (fun _ hk => ⟨hk.1, ⟨hk.2.1, hk.2.2.1⟩⟩))⟩, ⟨uR (Kd.R_mono HO_9.out (fun _ hk => ⟨hk.1, ⟨hk.2.1, hk.2.2.1⟩⟩))⟩, ⟨uR (Kd.R_mono HO_315001.out (fun _ hk => ⟨hk.1.1.1, ⟨hk.1.1.2.1, hk.1.1.2.2⟩⟩))⟩, ⟨uR (Kd.R_mono HO_315002.out (fun _ hk => ⟨hk.1.1.1, ⟨hk.1.1.2.1, hk.1.1.2.2⟩⟩))⟩, ⟨uB BK294.out⟩, ⟨uB BK314.out⟩, ⟨uH HB.out⟩⟩
      case rest =>
       clear HC40
       (try clear c1);(try clear c2);(try clear p2);(try clear c3);(try clear c4);(try clear c4b0);(try clear c5);(try clear c10);(try clear c11);(try clear c12);(try clear c13);(try clear c14);(try clear c15);(try clear c16);(try clear c24);(try clear c30);(try clear c35);(try clear c38);(try clear c46);(try clear c49);(try clear c49b0);(try clear c51);(try clear hcz14_0);(try clear hcz14_1);(try clear hcz14_2)
       (try clear hcz16_0);(try clear hcz16_1);(try clear hcz16_2);(try clear hcz21_0);(try clear hcz21_1);(try clear hcz21_2);(try clear hcz25_0);(try clear hcz25_1);(try clear hcz25_2);(try clear hcz47_0);(try clear hcz47_1);(try clear hcz47_2);(try clear hcz6_0);(try clear hcz6_1);(try clear hcz6_2);(try clear hfz14_0);(try clear hfz14_1);(try clear hfz14_2);(try clear hfz16_0);(try clear hfz16_1)
       (try clear hfz16_2);(try clear hfz21_0);(try clear hfz21_1);(try clear hfz21_2);(try clear hfz25_0);(try clear hfz25_1);(try clear hfz25_2);(try clear hfz47_0);(try clear hfz47_1);(try clear hfz47_2);(try clear hfz6_0);(try clear hfz6_1);(try clear hfz6_2);(try clear p2)
       obtain ⟨kq, x65_39, rfl, HA, HJ39, HO_6, HO_9, HO_315001, HO_315002, BK294, BK314, HB⟩ := hcut
       have hl315001_39 := (Kd.R_reads' HO_315001.out).1
       rw [hl315001_39] at HO_315001
       (try simp only [hl315001_39])
       (try simp only [hl315001_39] at BK294)
       (try simp only [hl315001_39] at BK314)
       (try simp only [hl315001_39] at HO_6)
       (try simp only [hl315001_39] at HO_9)
       (try simp only [hl315001_39] at HO_315002)
       have hl315002_39 := (Kd.R_reads' HO_315002.out).1
       rw [hl315002_39] at HO_315002
       (try simp only [hl315002_39])
       (try simp only [hl315002_39] at BK294)
       (try simp only [hl315002_39] at BK314)
       (try simp only [hl315002_39] at HO_6)
       (try simp only [hl315002_39] at HO_9)
       (try simp only [hl315002_39] at HO_315001)
       cases kq with
       | zero => exact absurd HA.out (by simp [laws_FnExactPolyOf.j1])
       | succ kj39 =>
        have H := HA.out
        clear HA
        simp only [laws_FnExactPolyOf.j1] at H
        by_cases c56 : x65_39 = true
        ·subst c56
         have H1 : (some false) = some r := by rw [if_pos rfl] at H; exact H
         clear H
         have H := H1
         clear H1
         rw [HRT.out] at H
         exact absurd H (by simp)
        ·replace c56 := Bool.eq_false_iff.mpr c56
         subst c56
         have H1 : ((laws_markInt64S.f kj39 t315 1).bind fun bt332 => ((laws_heldInt64S.f kj39 bt332.2 1).bind fun t334 => (if t334 < 0 then (some false) else (if t334 = bt332.1 then ((laws_toJacobi.f kj39 a0_0 l0_1 l0_2).bind fun bt335 => ((impl_PolyOf.f kj39 bt335.1 bt335.2.1 bt335.2.2 a1).bind fun bt342 => ((laws_eqInt64S.f kj39 bt342.1 t303).bind fun t346 => (if t346 = true then (laws_FnExactPolyOf.j2 kj39 bt332.2 bt332.1 (bt342.2 != t306)) else (laws_FnExactPolyOf.j2 kj39 bt332.2 bt332.1 true))))) else (some false))))) = some r := by rw [if_neg (show ¬ (false = true) by decide)] at H; exact H
         clear H
         have H := H1
         clear H1
         replace H := Option.bind_eq_some_iff.mp H
         obtain ⟨⟨t332, t333⟩, A570, H⟩ := H
         replace H : ((laws_heldInt64S.f kj39 t333 1).bind fun t334 => (if t334 < 0 then (some false) else (if t334 = t332 then ((laws_toJacobi.f kj39 a0_0 l0_1 l0_2).bind fun bt335 => ((impl_PolyOf.f kj39 bt335.1 bt335.2.1 bt335.2.2 a1).bind fun bt342 => ((laws_eqInt64S.f kj39 bt342.1 t303).bind fun t346 => (if t346 = true then (laws_FnExactPolyOf.j2 kj39 t333 t332 (bt342.2 != t306)) else (laws_FnExactPolyOf.j2 kj39 t333 t332 true))))) else (some false)))) = some r := H
         have A57 := zA A570
         clear A570
         replace H := Option.bind_eq_some_iff.mp H
         obtain ⟨t334, A580, H⟩ := H
         replace H : (if t334 < 0 then (some false) else (if t334 = t332 then ((laws_toJacobi.f kj39 a0_0 l0_1 l0_2).bind fun bt335 => ((impl_PolyOf.f kj39 bt335.1 bt335.2.1 bt335.2.2 a1).bind fun bt342 => ((laws_eqInt64S.f kj39 bt342.1 t303).bind fun t346 => (if t346 = true then (laws_FnExactPolyOf.j2 kj39 t333 t332 (bt342.2 != t306)) else (laws_FnExactPolyOf.j2 kj39 t333 t332 true))))) else (some false))) = some r := H
         have A58 := zA A580
         clear A580
         by_cases c59 : t334 < 0
         rotate_left
         ·rw [if_neg c59] at H
          have c59b0 : decide (t334 < 0) = false := decide_eq_false c59
          clear c59
          by_cases c60 : t334 = t332
          rotate_left
          ·rw [if_neg c60] at H
           have c60b0 : (t334 == t332) = false := beq_eq_false_iff_ne.mpr c60
           have c60b1 : (t334 != t332) = true := bne_iff_ne.mpr c60
           rw [HRT.out] at H
           exact absurd H (by simp)
          rw [if_pos c60] at H
          have c60b0 : (t334 == t332) = true := beq_iff_eq.mpr c60
          have c60b1 : (t334 != t332) = false := bne_eq_false_iff_eq.mpr c60
          clear c60
          replace H := Option.bind_eq_some_iff.mp H
          obtain ⟨⟨t335, t336, t339⟩, A610, H⟩ := H
          replace H : ((impl_PolyOf.f kj39 t335 t336 t339 a1).bind fun bt342 => ((laws_eqInt64S.f kj39 bt342.1 t303).bind fun t346 => (if t346 = true then (laws_FnExactPolyOf.j2 kj39 t333 t332 (bt342.2 != t306)) else (laws_FnExactPolyOf.j2 kj39 t333 t332 true)))) = some r := H
          have A61 := zA A610
          clear A610
          replace H := Option.bind_eq_some_iff.mp H
          obtain ⟨⟨t342, t345⟩, A620, H⟩ := H
          replace H : ((laws_eqInt64S.f kj39 t342 t303).bind fun t346 => (if t346 = true then (laws_FnExactPolyOf.j2 kj39 t333 t332 (t345 != t306)) else (laws_FnExactPolyOf.j2 kj39 t333 t332 true))) = some r := H
          have A62 := zA A620
          clear A620
          have HC63 := zA H
          clear H
          obtain ⟨Ao64, co64, eo64⟩ := Kd.R_slice HO_9.out
          subst eo64
          go_upto_region 25 with (first | ((with_reducible refine gate_callee (f := 17) rfl ?_); refine gL (some 68) Try.func17 #[.slice Ao64 t315.length co64, .int .i64 1] ?_; (with_reducible refine (laws_markInt64S.calls kj39 (fun k_ => some k_ = (.slice Ao64 t315.length co64 : Value).ownBlock) (.slice Ao64 t315.length co64) t315 1 t332 t333 w _ ?side1 ?side2 A57.out).mono ?_); (case side1 => repeat (first | (with_reducible first | exact HB.out | apply below_alloc | apply pw_below_drewN | apply below_drew1 | refine below_set ?_ GE294.out | refine below_set ?_ GE314.out) | exact HB.out)); (case side2 => exact Kd.R_tight rfl HO_9.out); rintro e w65 ⟨rfl, hy0, hb, hkp⟩; refine ⟨_, rfl, ?_⟩; replace HO_6 := zA (Kd.R_mono (ok' := fun k_ => ax k_ (.slice Ao64 t315.length co64) ∧ ax k_ (.slice Ao26 t329.length co26) ∧ ax k_ (.slice Ao27 t330.length co27)) (Kd.R_keptB (HO_6.out) hkp (fun k_ hk_ hs_ => (hk_.1) hs_)) (fun k_ hk_ => ⟨hk_.1.1, hk_.1.2.1, hk_.1.2.2⟩)); replace HO_315001 := zA (Kd.R_mono (ok' := fun k_ => some k_ ≠ (v304 : Value).ownBlock ∧ ax k_ (.slice Ao64 t315.length co64) ∧ ax k_ (.slice Ao27 t330.length co27)) (Kd.R_keptB (HO_315001.out) hkp (fun k_ hk_ hs_ => (hk_.2.1) hs_)) (fun k_ hk_ => ⟨hk_.1.1, hk_.1.2.1, hk_.1.2.2⟩)); replace HO_315002 := zA (Kd.R_mono (ok' := fun k_ => some k_ ≠ (v304 : Value).ownBlock ∧ ax k_ (.slice Ao64 t315.length co64) ∧ ax k_ (.slice Ao26 t329.length co26)) (Kd.R_keptB (HO_315002.out) hkp (fun k_ hk_ hs_ => (hk_.2.1) hs_)) (fun k_ hk_ => ⟨hk_.1.1, hk_.1.2.1, hk_.1.2.2⟩)); replace BK294 := zA (blk_kept (uB BK294.out) hkp (fun hs_ => (fun e_ => (Kd.R_ne HO_9.out BK294.out (by decide)) e_) hs_)); replace BK314 := zA (blk_kept (uB BK314.out) hkp (fun hs_ => (fun e_ => (Kd.R_ne HO_9.out BK314.out (by decide)) e_) hs_)); replace HO_9 := zA (Kd.R_reok rfl hy0 (fun k_ e_ => HO_9.out.1 k_ e_)); replace HB := zA (hb); (try clear hb); (try clear hkp); (try clear hy0)) | ((with_reducible refine gate_callee (f := 18) rfl ?_); refine goesL_ (some 71) rfl rfl Try.func18 (by kernel_rfl) rfl #[.slice Ao64 t333.length co64, .int .i64 1] rfl (by (try simp only [la, lb, lc]); first | done | (rw [show t333.length = t315.length from (Kd.R_reads' HO_9.out).1.symm] <;> rfl) | rfl | (simp only [ld, le]; rfl)) ?_; (with_reducible refine (laws_heldInt64S.calls kj39 _ _ t333 1 t334 _ ?side1 ?side2 A58.out).mono ?_); (case side1 => exact uC ((Kd.R_reads' HO_9.out).2.2)); (case side2 => rw [show t333.length = t315.length from (Kd.R_reads' HO_9.out).1.symm]; exact (Kd.R_reads' HO_9.out).2.1); rintro e w' ⟨rfl, ⟨nd, rfl⟩⟩; refine ⟨_, rfl, ?_⟩; have hnb66 := NB294_314.out; have hnc66 := NB314_294.out; have hcz67_0 := bc BK294 0; have hcz67_1 := bc BK294 1; have hcz67_2 := bc BK294 2; have hfz67_0 := bf BK294 0; have hfz67_1 := bf BK294 1; have hfz67_2 := bf BK294 2) | ((with_reducible refine gate_callee (f := 12) rfl ?_); refine gL (some 79) Try.func12 #[.agg #[.int .i64 a0_0, .slice A0_1 l0_1.length c0_1, .slice A0_2 l0_2.length c0_2]] ?_; (with_reducible refine (laws_toJacobi.calls kj39 a0_0 _ _ l0_1 _ _ l0_2 t335 t336 t339 _ ?side1 ?side2 ?side3 ?side4 A61.out).mono ?_); (case side1 => repeat (first | exact (Kd.C_below HR0_1.out (uH HB.out)) | (with_reducible refine Kd.C_alloc ?_ _) | (with_reducible refine Kd.C_drewN ?_ _) | (with_reducible refine Kd.C_drew ?_))); (case side2 => exact HC0_1.out); (case side3 => repeat (first | exact (Kd.C_below HR0_2.out (uH HB.out)) | (with_reducible refine Kd.C_alloc ?_ _) | (with_reducible refine Kd.C_drewN ?_ _) | (with_reducible refine Kd.C_drew ?_))); (case side4 => exact HC0_2.out); rintro e w68 ⟨v337, v340, rfl, ho0, ho1, hb⟩; refine ⟨_, rfl, ?_⟩; have HO338 := zA (Kd.R_lower (Kd.R_new' (Kd.R_new' (Kd.R_new' (Kd.R_new' ho0 (Kd.R_lt (uR HO_6.out))) (Kd.R_lt (uR HO_9.out))) (Kd.R_lt (uR HO_315001.out))) (Kd.R_lt (uR HO_315002.out))) (below_size (uH HB.out))); have HO341 := zA (Kd.R_lower (Kd.R_new' (Kd.R_new' (Kd.R_new' (Kd.R_new' ho1 (Kd.R_lt (uR HO_6.out))) (Kd.R_lt (uR HO_9.out))) (Kd.R_lt (uR HO_315001.out))) (Kd.R_lt (uR HO_315002.out))) (below_size (uH HB.out))); replace HO_6 := zA (Kd.R_mono (Kd.R_told (Kd.R_told (Kd.R_old (uR HO_6.out) hb) (Kd.R_base ho0)) (Kd.R_base ho1)) (fun _ h_ => h_.1)); replace HO_9 := zA (Kd.R_mono (Kd.R_told (Kd.R_told (Kd.R_old (uR HO_9.out) hb) (Kd.R_base ho0)) (Kd.R_base ho1)) (fun _ h_ => h_.1)); replace HO_315001 := zA (Kd.R_mono (Kd.R_told (Kd.R_told (Kd.R_old (uR HO_315001.out) hb) (Kd.R_base ho0)) (Kd.R_base ho1)) (fun _ h_ => h_.1)); replace HO_315002 := zA (Kd.R_mono (Kd.R_told (Kd.R_told (Kd.R_old (uR HO_315002.out) hb) (Kd.R_base ho0)) (Kd.R_base ho1)) (fun _ h_ => h_.1)); replace BK294 := xB BK294 hb; replace BK314 := xB BK314 hb; replace HB := xH HB hb; (try clear hb); (try clear hb2); (try clear hk); (try clear hi); (try clear ho0); (try clear ho1); obtain ⟨Ao69, co69, eo69⟩ := Kd.R_slice HO338.out; subst eo69; obtain ⟨Ao70, co70, eo70⟩ := Kd.R_slice HO341.out; subst eo70) | ((with_reducible refine gate_callee (f := 13) rfl ?_); refine gL (some 81) Try.func13 #[.agg #[.int .i64 t335, .slice Ao69 t336.length co69, .slice Ao70 t339.length co70], .int .i64 a1] ?_; (with_reducible refine (impl_PolyOf.calls kj39 t335 _ _ t336 _ _ t339 a1 t342 t345 _ ?side1 ?side2 ?side3 ?side4 A62.out).mono ?_); (case side1 => exact uC ((Kd.R_reads' HO338.out).2.2)); (case side2 => exact (Kd.R_reads' HO338.out).2.1); (case side3 => exact uC ((Kd.R_reads' HO341.out).2.2)); (case side4 => exact (Kd.R_reads' HO341.out).2.1); rintro e w71 ⟨v343, rfl, ho0, hb⟩; refine ⟨_, rfl, ?_⟩; have HO344 := zA (Kd.R_lower (Kd.R_new' (Kd.R_new' (Kd.R_new' (Kd.R_new' (Kd.R_new' (Kd.R_new' ho0 (Kd.R_lt (uR HO_6.out))) (Kd.R_lt (uR HO_9.out))) (Kd.R_lt (uR HO_315001.out))) (Kd.R_lt (uR HO_315002.out))) (Kd.R_lt (uR HO338.out))) (Kd.R_lt (uR HO341.out))) (below_size (uH HB.out))); replace HO_6 := zA (Kd.R_elder' (uR HO_6.out) (Kd.R_base ho0) hb); replace HO_9 := zA (Kd.R_elder' (uR HO_9.out) (Kd.R_base ho0) hb); replace HO_315001 := zA (Kd.R_elder' (uR HO_315001.out) (Kd.R_base ho0) hb); replace HO_315002 := zA (Kd.R_elder' (uR HO_315002.out) (Kd.R_base ho0) hb); replace HO338 := zA (Kd.R_elder' (uR HO338.out) (Kd.R_base ho0) hb); replace HO341 := zA (Kd.R_elder' (uR HO341.out) (Kd.R_base ho0) hb); replace BK294 := xB BK294 hb; replace BK314 := xB BK314 hb; replace HB := xH HB hb; (try clear hb); (try clear hb2); (try clear hk); (try clear hi); (try clear ho0)))
          (try simp only [Act.put, ls, lz, ln])
          go_cut [92] (fun v92 wc => ∃ (kq : Nat) (x92_62 : Bool), v92 = .bool x92_62 ∧ Aside0 (laws_FnExactPolyOf.j2 kq t333 t332 x92_62 = some r) ∧ Aside0 (kq ≤ kj39) ∧ Aside0 (Kd.R (Kd.int .i64) 2 wc w.heap.size (fun k_ => ax k_ (.slice Ao26 t329.length co26) ∧ ax k_ (.slice Ao27 t330.length co27)) (.slice Ao64 t315.length co64) t333) ∧ Aside0 (Kd.R (Kd.int .i64) 2 wc w.heap.size (fun k_ => ax k_ (.slice Ao64 t315.length co64) ∧ ax k_ (.slice Ao27 t330.length co27)) (.slice Ao26 t329.length co26) t329) ∧ Aside0 (Kd.R (Kd.int .i64) 2 wc w.heap.size (fun k_ => ax k_ (.slice Ao64 t315.length co64) ∧ ax k_ (.slice Ao26 t329.length co26)) (.slice Ao27 t330.length co27) t330) ∧ Aside0 (wc.heap[gb294]? = some (.cells #[.int .i64 a0_0, (.slice A0_1 l0_1.length c0_1), (.slice A0_2 l0_2.length c0_2)] 24 (0, 0))) ∧ Aside0 (wc.heap[gb314]? = some (.cells #[.int .i64 t307, (.slice Ao26 t329.length co26), (.slice Ao27 t330.length co27)] 28 (0, 0))) ∧ Aside0 (Below w.heap.size w wc))
          case first =>
           have H := HC63.out
           clear HC63
           replace H := Option.bind_eq_some_iff.mp H
           obtain ⟨t346, A720, H⟩ := H
           replace H : (if t346 = true then (laws_FnExactPolyOf.j2 kj39 t333 t332 (t345 != t306)) else (laws_FnExactPolyOf.j2 kj39 t333 t332 true)) = some r := H
           have A72 := zA A720
           clear A720
           by_cases c73 : t346 = true
           ·subst c73
            have H1 : (laws_FnExactPolyOf.j2 kj39 t333 t332 (t345 != t306)) = some r := by rw [if_pos rfl] at H; exact H
            clear H
            have H := H1
            clear H1
            have H' := zA H
            clear H
            obtain ⟨Ao74, co74, eo74⟩ := Kd.R_slice HO344.out
            subst eo74
            obtain ⟨Ao75, co75, eo75⟩ := Kd.R_slice HO_6.out
            subst eo75
            go_wp2_with (first | ((with_reducible refine gate_callee (f := 14) rfl ?_); refine gL (some 86) Try.func14 #[.slice Ao74 t342.length co74, .slice Ao75 t303.length co75] ?_; (with_reducible refine (laws_eqInt64S.calls kj39 _ _ t342 _ _ t303 true _ ?side1 ?side2 ?side3 ?side4 A72.out).mono ?_); (case side1 => exact uC ((Kd.R_reads' HO344.out).2.2)); (case side2 => exact (Kd.R_reads' HO344.out).2.1); (case side3 => exact uC ((Kd.R_reads' HO_6.out).2.2)); (case side4 => exact (Kd.R_reads' HO_6.out).2.1); rintro e w' ⟨rfl, ⟨nd, rfl⟩⟩; refine ⟨_, rfl, ?_⟩))
            go_meet
            case rel => exact ⟨_, ((t345 != t306)), (by first | rfl | (simp; done) | (simp [*]; done)), H', ⟨by have := HJ11.out; have := HJ39.out; first | omega | exact Nat.le_refl _⟩, ⟨by (try simp only [hl315001_39]); (try simp only [hl315002_39]); (with_reducible repeat (first | apply Kd.R_alloc | apply Kd.R_drewN | apply Kd.R_drew)); exact Kd.R_mono HO_9.out (fun _ hk => ⟨hk.1.1.1.2.1, hk.1.1.1.2.2⟩)⟩, ⟨by (try simp only [hl315001_39]); (try simp only [hl315002_39]); (with_reducible repeat (first | apply Kd.R_alloc | apply Kd.R_drewN | apply Kd.R_drew)); exact Kd.R_mono HO_315001.out (fun _ hk => ⟨hk.1.1.1.2.1, hk.1.1.1.2.2⟩)⟩, ⟨by (try simp only [hl315001_39]); (try simp only [hl315002_39]); (with_reducible repeat (first | apply Kd.R_alloc | apply Kd.R_drewN | apply Kd.R_drew)); exact Kd.R_mono HO_315002.out (fun _ hk => ⟨hk.1.1.1.2.1, hk.1.1.1.2.2⟩)⟩, ⟨by (try simp only [hl315001_39]); (try simp only [hl315002_39]); (repeat refine up1 ?_); exact BK294.out⟩, ⟨by (try simp only [hl315001_39]); (try simp only [hl315002_39]); (repeat refine up1 ?_); exact BK314.out⟩, ⟨uH HB.out⟩⟩
           ·replace c73 := Bool.eq_false_iff.mpr c73
            subst c73
            have H1 : (laws_FnExactPolyOf.j2 kj39 t333 t332 true) = some r := by rw [if_neg (show ¬ (false = true) by decide)] at H; exact H
            clear H
            have H := H1
            clear H1
            have H' := zA H
            clear H
            obtain ⟨Ao76, co76, eo76⟩ := Kd.R_slice HO344.out
            subst eo76
            obtain ⟨Ao77, co77, eo77⟩ := Kd.R_slice HO_6.out
            subst eo77
            go_wp2_with (first | ((with_reducible refine gate_callee (f := 14) rfl ?_); refine gL (some 86) Try.func14 #[.slice Ao76 t342.length co76, .slice Ao77 t303.length co77] ?_; (with_reducible refine (laws_eqInt64S.calls kj39 _ _ t342 _ _ t303 false _ ?side1 ?side2 ?side3 ?side4 A72.out).mono ?_); (case side1 => exact uC ((Kd.R_reads' HO344.out).2.2)); (case side2 => exact (Kd.R_reads' HO344.out).2.1); (case side3 => exact uC ((Kd.R_reads' HO_6.out).2.2)); (case side4 => exact (Kd.R_reads' HO_6.out).2.1); rintro e w' ⟨rfl, ⟨nd, rfl⟩⟩; refine ⟨_, rfl, ?_⟩))
            go_meet
            case rel => exact ⟨_, (true), (by first | rfl | (simp; done) | (simp [*]; done)), H', ⟨by have := HJ11.out; have := HJ39.out; first | omega | exact Nat.le_refl _⟩, ⟨by (try simp only [hl315001_39]); (try simp only [hl315002_39]); (with_reducible repeat (first | apply Kd.R_alloc | apply Kd.R_drewN | apply Kd.R_drew)); exact Kd.R_mono HO_9.out (fun _ hk => ⟨hk.1.1.1.2.1, hk.1.1.1.2.2⟩)⟩, ⟨by (try simp only [hl315001_39]); (try simp only [hl315002_39]); (with_reducible repeat (first | apply Kd.R_alloc | apply Kd.R_drewN | apply Kd.R_drew)); exact Kd.R_mono HO_315001.out (fun _ hk => ⟨hk.1.1.1.2.1, hk.1.1.1.2.2⟩)⟩, ⟨by (try simp only [hl315001_39]); (try simp only [hl315002_39]); (with_reducible repeat (first | apply Kd.R_alloc | apply Kd.R_drewN | apply Kd.R_drew)); exact Kd.R_mono HO_315002.out (fun _ hk => ⟨hk.1.1.1.2.1, hk.1.1.1.2.2⟩)⟩, ⟨by (try simp only [hl315001_39]); (try simp only [hl315002_39]); (repeat refine up1 ?_); exact BK294.out⟩, ⟨by (try simp only [hl315001_39]); (try simp only [hl315002_39]); (repeat refine up1 ?_); exact BK314.out⟩, ⟨uH HB.out⟩⟩
          case rest =>
           clear HC63
           (try clear c1);(try clear c2);(try clear p2);(try clear c3);(try clear c4);(try clear c4b0);(try clear c5);(try clear c6);(try clear c7);(try clear c10);(try clear c11);(try clear c12);(try clear c13);(try clear c14);(try clear c15);(try clear c16);(try clear c17);(try clear c18);(try clear c24);(try clear c30);(try clear c35);(try clear c38);(try clear c46);(try clear c49);(try clear c49b0)
           (try clear c51);(try clear c56);(try clear c59);(try clear c59b0);(try clear c60);(try clear c60b0);(try clear c60b1);(try clear c66);(try clear c73);(try clear hcz14_0);(try clear hcz14_1);(try clear hcz14_2);(try clear hcz16_0);(try clear hcz16_1);(try clear hcz16_2);(try clear hcz21_0);(try clear hcz21_1);(try clear hcz21_2);(try clear hcz25_0);(try clear hcz25_1);(try clear hcz25_2)
           (try clear hcz47_0);(try clear hcz47_1);(try clear hcz47_2);(try clear hcz67_0);(try clear hcz67_1);(try clear hcz67_2);(try clear hcz6_0);(try clear hcz6_1);(try clear hcz6_2);(try clear hfz14_0);(try clear hfz14_1);(try clear hfz14_2);(try clear hfz16_0);(try clear hfz16_1);(try clear hfz16_2);(try clear hfz21_0);(try clear hfz21_1);(try clear hfz21_2);(try clear hfz25_0);(try clear hfz25_1)
           (try clear hfz25_2);(try clear hfz47_0);(try clear hfz47_1);(try clear hfz47_2);(try clear hfz67_0);(try clear hfz67_1);(try clear hfz67_2);(try clear hfz6_0);(try clear hfz6_1);(try clear hfz6_2);(try clear p2)
           obtain ⟨kq, x92_62, rfl, HA, HJ62, HO_9, HO_315001, HO_315002, BK294, BK314, HB⟩ := hcut
           have hl9_62 := (Kd.R_reads' HO_9.out).1
           rw [hl9_62] at HO_9
           (try simp only [hl9_62])
           (try simp only [hl9_62] at BK294)
           (try simp only [hl9_62] at BK314)
           (try simp only [hl9_62] at HO_315001)
           (try simp only [hl9_62] at HO_315002)
           cases kq with
           | zero => exact absurd HA.out (by simp [laws_FnExactPolyOf.j2])
           | succ kj62 =>
            have H := HA.out
            clear HA
            simp only [laws_FnExactPolyOf.j2] at H
            by_cases c78 : x92_62 = true
            ·subst c78
             have H1 : (some false) = some r := by rw [if_pos rfl] at H; exact H
             clear H
             have H := H1
             clear H1
             rw [HRT.out] at H
             exact absurd H (by simp)
            ·replace c78 := Bool.eq_false_iff.mpr c78
             subst c78
             have H1 : ((laws_heldInt64S.f kj62 t333 1).bind fun t347 => (if t347 < 0 then (some false) else (if t347 = t332 then (some true) else (some false)))) = some r := by rw [if_neg (show ¬ (false = true) by decide)] at H; exact H
             clear H
             have H := H1
             clear H1
             replace H := Option.bind_eq_some_iff.mp H
             obtain ⟨t347, A790, H⟩ := H
             replace H : (if t347 < 0 then (some false) else (if t347 = t332 then (some true) else (some false))) = some r := H
             have A79 := zA A790
             clear A790
             by_cases c80 : t347 < 0
             rotate_left
             ·rw [if_neg c80] at H
              have c80b0 : decide (t347 < 0) = false := decide_eq_false c80
              clear c80
              by_cases c81 : t347 = t332
              rotate_left
              ·rw [if_neg c81] at H
               have c81b0 : (t347 == t332) = false := beq_eq_false_iff_ne.mpr c81
               have c81b1 : (t347 != t332) = true := bne_iff_ne.mpr c81
               rw [HRT.out] at H
               exact absurd H (by simp)
              rw [if_pos c81] at H
              have c81b0 : (t347 == t332) = true := beq_iff_eq.mpr c81
              have c81b1 : (t347 != t332) = false := bne_eq_false_iff_eq.mpr c81
              clear c81
              obtain rfl := Option.some.inj H
              go_wp2_with (first | ((with_reducible refine gate_callee (f := 18) rfl ?_); refine gL (some 95) Try.func18 #[.slice Ao64 t333.length co64, .int .i64 1] ?_; (with_reducible refine (laws_heldInt64S.calls kj62 _ _ t333 1 t347 _ ?side1 ?side2 A79.out).mono ?_); (case side1 => exact uC ((Kd.R_reads' HO_9.out).2.2)); (case side2 => exact (Kd.R_reads' HO_9.out).2.1); rintro e w' ⟨rfl, ⟨nd, rfl⟩⟩; refine ⟨_, rfl, ?_⟩))
              go_ret
              exact ⟨by first | rfl | (simp [errW_none, errW_some] <;> rfl) | (simp [*, errW_none, errW_some] <;> rfl), uH HB.out⟩
             rw [if_pos c80] at H
             have c80b0 : decide (t347 < 0) = true := decide_eq_true c80
             clear c80
             rw [HRT.out] at H
             exact absurd H (by simp)
         rw [if_pos c59] at H
         have c59b0 : decide (t334 < 0) = true := decide_eq_true c59
         clear c59
         rw [HRT.out] at H
         exact absurd H (by simp)
     ·replace c38 := Bool.eq_false_iff.mpr c38
      subst c38
      have H1 : (some false) = some r := by rw [if_neg (show ¬ (false = true) by decide)] at H; exact H
      clear H
      have H := H1
      clear H1
      rw [HRT.out] at H
      exact absurd H (by simp)

 rw [if_pos c4] at H
 have c4b0 : decide (t295 < 0) = true := decide_eq_true c4
 clear c4
 obtain rfl := Option.some.inj H
 go_enter Try.func3, Try.ntmps3
 go_wp2_with (first | ((with_reducible refine gate_dst (N := 2) rfl ?_); refine bx 2 #[.int .i64 a0_0, .slice A0_1 l0_1.length c0_1, .slice A0_2 l0_2.length c0_2] 24 ?_; intro gb294 hg w5 hbox hb; have BK294 := zA (hbox); have GW294 := gq HB hg; have GE294 := gq HB hg; replace HB := xH HB hb; have := geI GE294; clear hb hbox hg; have hcz6_0 := bc BK294 0; have hcz6_1 := bc BK294 1; have hcz6_2 := bc BK294 2; have hfz6_0 := bf BK294 0; have hfz6_1 := bf BK294 1; have hfz6_2 := bf BK294 2) | ((with_reducible refine gate_callee (f := 10) rfl ?_); refine gL (some 18) Try.func10 #[.agg #[.int .i64 a0_0, .slice A0_1 l0_1.length c0_1, .slice A0_2 l0_2.length c0_2], .int .i64 1048576] ?_; (with_reducible refine (laws_szJacobi.calls a0_0 _ _ l0_1 _ _ l0_2 1048576 t295 _ ?side1 ?side2 ?side3 ?side4 A3.out).mono ?_); (case side1 => exact uC ((Kd.C_below HR0_1.out HB.out))); (case side2 => exact HC0_1.out); (case side3 => exact uC ((Kd.C_below HR0_2.out HB.out))); (case side4 => exact HC0_2.out); rintro e w7 ⟨rfl, hb⟩; refine ⟨_, rfl, ?_⟩; replace BK294 := xB BK294 hb; replace HB := xH HB hb; (try clear hb); (try clear hb2); (try clear hk); (try clear hi)))
 go_ret
 exact ⟨by first | rfl | (simp [errW_none, errW_some] <;> rfl) | (simp [*, errW_none, errW_some] <;> rfl), uH HB.out⟩
/-- THE ONE PURE STATEMENT of laws_FnExactPolyOf: yours. -/
def laws_FnExactPolyOf.Pure : Prop := ∀ (a0_0 : Int) (l0_1 : List Int) (l0_2 : List Int) (a1 : Int), (Lit.int .i64 a0_0).wf = true → l0_1.length ≤ maxLen → (∀ x ∈ l0_1, (Lit.int .i64 x).wf = true) → l0_2.length ≤ maxLen → (∀ x ∈ l0_2, (Lit.int .i64 x).wf = true) → (Lit.int .i64 a1).wf = true → ∃ k, laws_FnExactPolyOf.f k a0_0 l0_1 l0_2 a1 = some true
theorem laws_FnExactPolyOf.walk (P : laws_FnExactPolyOf.Pure) (a0_0 : Int) (a0_1 : Option Addr) (len0_1 cap0_1 : Nat) (z0_1 : List Int) (a0_2 : Option Addr) (len0_2 cap0_2 : Nat) (z0_2 : List Int) (a1 : Int) (w : World) (w0_0 : (Lit.int .i64 a0_0).wf = true) (w0_1 : (a0_1 = none ∧ len0_1 = 0 ∧ cap0_1 = 0 ∧ z0_1 = []) ∨ ∃ x, a0_1 = some x ∧ len0_1 ≤ cap0_1 ∧ cap0_1 ≤ maxLen ∧ z0_1.length = cap0_1 ∧ (∀ i, i < z0_1.length → w.cell? (x.add i) = some (.int .i64 (z0_1.getD i 0))) ∧ ∀ n ∈ z0_1, (Lit.int .i64 n).wf = true) (w0_2 : (a0_2 = none ∧ len0_2 = 0 ∧ cap0_2 = 0 ∧ z0_2 = []) ∨ ∃ x, a0_2 = some x ∧ len0_2 ≤ cap0_2 ∧ cap0_2 ≤ maxLen ∧ z0_2.length = cap0_2 ∧ (∀ i, i < z0_2.length → w.cell? (x.add i) = some (.int .i64 (z0_2.getD i 0))) ∧ ∀ n ∈ z0_2, (Lit.int .i64 n).wf = true) (w1 : (Lit.int .i64 a1).wf = true) :
  Calls Try.prog 3 #[.agg #[.int .i64 a0_0, .slice a0_1 len0_1 cap0_1, .slice a0_2 len0_2 cap0_2], .int .i64 a1] w fun e w' => e = .returned (.bool true) ∧ Below w.heap.size w w' := by
 obtain ⟨l0_1, rfl, hr0_1, hm0_1, hw0_1, hc0_1⟩ := ReadsInt.ofRowC w0_1
 obtain ⟨l0_2, rfl, hr0_2, hm0_2, hw0_2, hc0_2⟩ := ReadsInt.ofRowC w0_2
 obtain ⟨k, h⟩ := P a0_0 l0_1 l0_2 a1 w0_0 hm0_1 hw0_1 hm0_2 hw0_2 w1
 refine (laws_FnExactPolyOf.calls k a0_0 _ _ l0_1 _ _ l0_2 a1 true rfl w (Kd.C_of_reads (d := (0 : Int)) (h1 := fun _ => rfl) hr0_1) hc0_1 (Kd.C_of_reads (d := (0 : Int)) (h1 := fun _ => rfl) hr0_2) hc0_2 h).mono ?_
 rintro e w' ⟨rfl, hd⟩
 exact ⟨rfl, hd⟩

end Go.Proofs.Ytijkfbnjcebfaaa.Pr
