/- Printed by a program of this session out of the translation: what these functions of the program compute, under the conditions that each theorem names. -/
import Derived.Test.YtjdannndpfkadaaKMatrixOf1
import Derived.Test.YtjdannndpfkadaaKMatrixOf2
import Derived.Test.YtjdannndpfkadaaKMatrixOf6
import Derived.Test.YtjdannndpfkadaaKFimplMatrixOf
import Derived.Test.YtjdannndpfkadaaKMatrixOf4
namespace Go.Proofs.Ytjdannndpfkadaa.Pr
open Go.RowKit Go.Proofs.YtjdannndpfkadaaW.PrintWords Go.Proofs.YtjdannndpfkadaaW.PrintLast Go.Proofs.YtjdannndpfkadaaW.PrintMore
attribute [local go_sem] max2_int min2_int max_two min_two max_three min_three max_four min_four   -- for this text's walks alone
set_option linter.unusedVariables false
set_option linter.unusedSimpArgs false

/-! ### laws_FnExactMatrixOf: function 3 -/
mutual
def laws_FnExactMatrixOf.j0 : Nat → List (List Int) → Int → List (List Int) → Int → Bool → Int → List Int → List Int → Int → List Int → List Int → Option (Bool)
 | 0, _, _, _, _, _, _, _, _, _, _, _ => none
 | k + 1, x4, x5, x7, x8, x40, x224000, x224001, x224002, x244000, x244001, x244002 => if x40 = true then (some false) else ((laws_toJacobi.f k x224000 x224001 x224002).bind fun bt249 => ((laws_eqJacobi.f k x244000 x244001 x244002 bt249.1 bt249.2.1 bt249.2.2).bind fun t256 => (if t256 = true then ((laws_markJacobi.f k x244000 x244001 x244002 1).bind fun bt257 => (if bt257.1 < 0 then (laws_FnExactMatrixOf.j1 k x4 x5 x7 true x224000 x224001 x224002) else ((laws_eqInt64SS.f k x7 x4).bind fun t260 => (if t260 = true then (laws_FnExactMatrixOf.j1 k x4 x5 x7 (x8 != x5) x224000 x224001 x224002) else (laws_FnExactMatrixOf.j1 k x4 x5 x7 true x224000 x224001 x224002))))) else (some false))))
def laws_FnExactMatrixOf.j1 : Nat → List (List Int) → Int → List (List Int) → Bool → Int → List Int → List Int → Option (Bool)
 | 0, _, _, _, _, _, _, _ => none
 | k + 1, x4, x5, x7, x61, x224000, x224001, x224002 => if x61 = true then (some false) else ((laws_markInt64SS.f k x7 1).bind fun bt261 => ((laws_heldInt64SS.f k bt261.2 1).bind fun t263 => (if t263 < 0 then (some false) else (if t263 = bt261.1 then ((laws_toJacobi.f k x224000 x224001 x224002).bind fun bt264 => ((impl_MatrixOf.f k bt264.1 bt264.2.1 bt264.2.2).bind fun bt271 => ((laws_eqInt64SS.f k bt271.1 x4).bind fun t275 => (if t275 = true then (laws_FnExactMatrixOf.j2 k bt261.2 bt261.1 (bt271.2 != x5)) else (laws_FnExactMatrixOf.j2 k bt261.2 bt261.1 true))))) else (some false)))))
def laws_FnExactMatrixOf.j2 : Nat → List (List Int) → Int → Bool → Option (Bool)
 | 0, _, _, _ => none
 | k + 1, x7, x10, x87 => if x87 = true then (some false) else ((laws_heldInt64SS.f k x7 1).bind fun t276 => (if t276 < 0 then (some false) else (if t276 = x10 then (some true) else (some false))))
end
def laws_FnExactMatrixOf.f (k : Nat) (a0_0 : Int) (l0_1 : List Int) (l0_2 : List Int) : Option (Bool) := (laws_szJacobi.f a0_0 l0_1 l0_2 1048576).bind fun t224 => (if t224 < 0 then (some true) else ((laws_toJacobi.f k a0_0 l0_1 l0_2).bind fun bt225 => ((spec_MatrixOf.f k bt225.1 bt225.2.1 bt225.2.2).bind fun bt232 => ((laws_toJacobi.f k a0_0 l0_1 l0_2).bind fun bt236 => ((impl_MatrixOf.f k bt236.1 bt236.2.1 bt236.2.2).bind fun bt244 => ((laws_eqInt64SS.f k bt244.1 bt232.1).bind fun t248 => (if t248 = true then (laws_FnExactMatrixOf.j0 k bt232.1 bt232.2 bt244.1 bt244.2 (bt244.2 != bt232.2) a0_0 l0_1 l0_2 bt236.1 bt236.2.1 bt236.2.2) else (laws_FnExactMatrixOf.j0 k bt232.1 bt232.2 bt244.1 bt244.2 true a0_0 l0_1 l0_2 bt236.1 bt236.2.1 bt236.2.2))))))))
theorem laws_FnExactMatrixOf.mono_l : ∀ k, (∀ y0 y1 y2 y3 y4 y5 y6 y7 y8 y9 y10, LeO (laws_FnExactMatrixOf.j0 k y0 y1 y2 y3 y4 y5 y6 y7 y8 y9 y10) (laws_FnExactMatrixOf.j0 (k + 1) y0 y1 y2 y3 y4 y5 y6 y7 y8 y9 y10)) ∧ (∀ y0 y1 y2 y3 y4 y5 y6, LeO (laws_FnExactMatrixOf.j1 k y0 y1 y2 y3 y4 y5 y6) (laws_FnExactMatrixOf.j1 (k + 1) y0 y1 y2 y3 y4 y5 y6)) ∧ (∀ y0 y1 y2, LeO (laws_FnExactMatrixOf.j2 k y0 y1 y2) (laws_FnExactMatrixOf.j2 (k + 1) y0 y1 y2))
 | 0 => ⟨fun _ _ _ _ _ _ _ _ _ _ _ r h => by simp [laws_FnExactMatrixOf.j0] at h, fun _ _ _ _ _ _ _ r h => by simp [laws_FnExactMatrixOf.j1] at h, fun _ _ _ r h => by simp [laws_FnExactMatrixOf.j2] at h⟩
 | k + 1 => by
  obtain ⟨ih0, ih1, ih2⟩ := laws_FnExactMatrixOf.mono_l k
  refine ⟨?_, ?_, ?_⟩
  ·intro y0 y1 y2 y3 y4 y5 y6 y7 y8 y9 y10
   unfold laws_FnExactMatrixOf.j0
   repeat' first
   | (with_reducible exact ih0 _ _ _ _ _ _ _ _ _ _ _)
   | (with_reducible exact ih1 _ _ _ _ _ _ _)
   | (with_reducible exact ih2 _ _ _)
   | (with_reducible exact impl_MatrixOf.mono _ _ _ _)
   | (with_reducible exact laws_eqInt64SS.mono _ _ _)
   | (with_reducible exact laws_eqJacobi.mono _ _ _ _ _ _ _)
   | (with_reducible exact laws_heldInt64SS.mono _ _ _)
   | (with_reducible exact laws_markInt64SS.mono _ _ _)
   | (with_reducible exact laws_markJacobi.mono _ _ _ _ _)
   | (with_reducible exact laws_toJacobi.mono _ _ _ _)
   | (with_reducible exact spec_MatrixOf.mono _ _ _ _)
   | (with_reducible exact LeO.refl _)
   | (with_reducible exact LeO.none _)
   | (with_reducible refine LeO.ite ?_ ?_)
   | (with_reducible refine LeO.bind ?_ (fun _ => ?_))
   | exact ih0 _ _ _ _ _ _ _ _ _ _ _
   | exact ih1 _ _ _ _ _ _ _
   | exact ih2 _ _ _
   | exact impl_MatrixOf.mono _ _ _ _
   | exact laws_eqInt64SS.mono _ _ _
   | exact laws_eqJacobi.mono _ _ _ _ _ _ _
   | exact laws_heldInt64SS.mono _ _ _
   | exact laws_markInt64SS.mono _ _ _
   | exact laws_markJacobi.mono _ _ _ _ _
   | exact laws_toJacobi.mono _ _ _ _
   | exact spec_MatrixOf.mono _ _ _ _
   | exact LeO.none _
   | refine LeO.ite ?_ ?_
   | refine LeO.bind ?_ (fun _ => ?_)
  ·intro y0 y1 y2 y3 y4 y5 y6
   unfold laws_FnExactMatrixOf.j1
   repeat' first
   | (with_reducible exact ih0 _ _ _ _ _ _ _ _ _ _ _)
   | (with_reducible exact ih1 _ _ _ _ _ _ _)
   | (with_reducible exact ih2 _ _ _)
   | (with_reducible exact impl_MatrixOf.mono _ _ _ _)
   | (with_reducible exact laws_eqInt64SS.mono _ _ _)
   | (with_reducible exact laws_eqJacobi.mono _ _ _ _ _ _ _)
   | (with_reducible exact laws_heldInt64SS.mono _ _ _)
   | (with_reducible exact laws_markInt64SS.mono _ _ _)
   | (with_reducible exact laws_markJacobi.mono _ _ _ _ _)
   | (with_reducible exact laws_toJacobi.mono _ _ _ _)
   | (with_reducible exact spec_MatrixOf.mono _ _ _ _)
   | (with_reducible exact LeO.refl _)
   | (with_reducible exact LeO.none _)
   | (with_reducible refine LeO.ite ?_ ?_)
   | (with_reducible refine LeO.bind ?_ (fun _ => ?_))
   | exact ih0 _ _ _ _ _ _ _ _ _ _ _
   | exact ih1 _ _ _ _ _ _ _
   | exact ih2 _ _ _
   | exact impl_MatrixOf.mono _ _ _ _
   | exact laws_eqInt64SS.mono _ _ _
   | exact laws_eqJacobi.mono _ _ _ _ _ _ _
   | exact laws_heldInt64SS.mono _ _ _
   | exact laws_markInt64SS.mono _ _ _
   | exact laws_markJacobi.mono _ _ _ _ _
   | exact laws_toJacobi.mono _ _ _ _
   | exact spec_MatrixOf.mono _ _ _ _
   | exact LeO.none _
   | refine LeO.ite ?_ ?_
   | refine LeO.bind ?_ (fun _ => ?_)
  ·intro y0 y1 y2
   unfold laws_FnExactMatrixOf.j2
   repeat' first
   | (with_reducible exact ih0 _ _ _ _ _ _ _ _ _ _ _)
   | (with_reducible exact ih1 _ _ _ _ _ _ _)
   | (with_reducible exact ih2 _ _ _)
   | (with_reducible exact impl_MatrixOf.mono _ _ _ _)
   | (with_reducible exact laws_eqInt64SS.mono _ _ _)
   | (with_reducible exact laws_eqJacobi.mono _ _ _ _ _ _ _)
   | (with_reducible exact laws_heldInt64SS.mono _ _ _)
   | (with_reducible exact laws_markInt64SS.mono _ _ _)
   | (with_reducible exact laws_markJacobi.mono _ _ _ _ _)
   | (with_reducible exact laws_toJacobi.mono _ _ _ _)
   | (with_reducible exact spec_MatrixOf.mono _ _ _ _)
   | (with_reducible exact LeO.refl _)
   | (with_reducible exact LeO.none _)
   | (with_reducible refine LeO.ite ?_ ?_)
   | (with_reducible refine LeO.bind ?_ (fun _ => ?_))
   | exact ih0 _ _ _ _ _ _ _ _ _ _ _
   | exact ih1 _ _ _ _ _ _ _
   | exact ih2 _ _ _
   | exact impl_MatrixOf.mono _ _ _ _
   | exact laws_eqInt64SS.mono _ _ _
   | exact laws_eqJacobi.mono _ _ _ _ _ _ _
   | exact laws_heldInt64SS.mono _ _ _
   | exact laws_markInt64SS.mono _ _ _
   | exact laws_markJacobi.mono _ _ _ _ _
   | exact laws_toJacobi.mono _ _ _ _
   | exact spec_MatrixOf.mono _ _ _ _
   | exact LeO.none _
   | refine LeO.ite ?_ ?_
   | refine LeO.bind ?_ (fun _ => ?_)
theorem laws_FnExactMatrixOf.mono : ∀ a0 a1 a2 k, LeO (laws_FnExactMatrixOf.f k a0 a1 a2) (laws_FnExactMatrixOf.f (k + 1) a0 a1 a2) := by
 intro a0 a1 a2 k
 obtain ⟨ih0, ih1, ih2⟩ := laws_FnExactMatrixOf.mono_l k
 unfold laws_FnExactMatrixOf.f
 repeat' first
   | (with_reducible exact ih0 _ _ _ _ _ _ _ _ _ _ _)
   | (with_reducible exact ih1 _ _ _ _ _ _ _)
   | (with_reducible exact ih2 _ _ _)
   | (with_reducible exact impl_MatrixOf.mono _ _ _ _)
   | (with_reducible exact laws_eqInt64SS.mono _ _ _)
   | (with_reducible exact laws_eqJacobi.mono _ _ _ _ _ _ _)
   | (with_reducible exact laws_heldInt64SS.mono _ _ _)
   | (with_reducible exact laws_markInt64SS.mono _ _ _)
   | (with_reducible exact laws_markJacobi.mono _ _ _ _ _)
   | (with_reducible exact laws_toJacobi.mono _ _ _ _)
   | (with_reducible exact spec_MatrixOf.mono _ _ _ _)
   | (with_reducible exact LeO.refl _)
   | (with_reducible exact LeO.none _)
   | (with_reducible refine LeO.ite ?_ ?_)
   | (with_reducible refine LeO.bind ?_ (fun _ => ?_))
   | exact ih0 _ _ _ _ _ _ _ _ _ _ _
   | exact ih1 _ _ _ _ _ _ _
   | exact ih2 _ _ _
   | exact impl_MatrixOf.mono _ _ _ _
   | exact laws_eqInt64SS.mono _ _ _
   | exact laws_eqJacobi.mono _ _ _ _ _ _ _
   | exact laws_heldInt64SS.mono _ _ _
   | exact laws_markInt64SS.mono _ _ _
   | exact laws_markJacobi.mono _ _ _ _ _
   | exact laws_toJacobi.mono _ _ _ _
   | exact spec_MatrixOf.mono _ _ _ _
   | exact LeO.none _
   | refine LeO.ite ?_ ?_
   | refine LeO.bind ?_ (fun _ => ?_)
set_option maxHeartbeats 8000000 in
set_option maxRecDepth 100000 in
theorem laws_FnExactMatrixOf.calls (k : Nat) (a0_0 : Int) (A0_1 : Option Addr) (c0_1 : Nat) (l0_1 : List Int) (A0_2 : Option Addr) (c0_2 : Nat) (l0_2 : List Int) (r : Bool) (hr_ : r = true) (w : World) (hr0_1 : Kd.C (Kd.int .i64) w A0_1 l0_1.length l0_1) (hc0_1 : l0_1.length ≤ c0_1) (hr0_2 : Kd.C (Kd.int .i64) w A0_2 l0_2.length l0_2) (hc0_2 : l0_2.length ≤ c0_2) (h : laws_FnExactMatrixOf.f k a0_0 l0_1 l0_2 = some r) :
  Calls Try.prog 3 #[.agg #[.int .i64 a0_0, .slice A0_1 l0_1.length c0_1, .slice A0_2 l0_2.length c0_2]] w fun e w' => e = .returned (.bool r) ∧ Below w.heap.size w w' := by
 have hu24 := Try.underlying24
 have hu29 := Try.underlying29
 have HRT := zA hr_
 clear hr_
 have HR0_1 := zA hr0_1
 have HC0_1 := zA hc0_1
 clear hr0_1 hc0_1
 have HR0_2 := zA hr0_2
 have HC0_2 := zA hc0_2
 clear hr0_2 hc0_2
 have HB := zA (Below.refl w.heap.size w)
 have H : ((laws_szJacobi.f a0_0 l0_1 l0_2 1048576).bind fun t224 => (if t224 < 0 then (some true) else ((laws_toJacobi.f k a0_0 l0_1 l0_2).bind fun bt225 => ((spec_MatrixOf.f k bt225.1 bt225.2.1 bt225.2.2).bind fun bt232 => ((laws_toJacobi.f k a0_0 l0_1 l0_2).bind fun bt236 => ((impl_MatrixOf.f k bt236.1 bt236.2.1 bt236.2.2).bind fun bt244 => ((laws_eqInt64SS.f k bt244.1 bt232.1).bind fun t248 => (if t248 = true then (laws_FnExactMatrixOf.j0 k bt232.1 bt232.2 bt244.1 bt244.2 (bt244.2 != bt232.2) a0_0 l0_1 l0_2 bt236.1 bt236.2.1 bt236.2.2) else (laws_FnExactMatrixOf.j0 k bt232.1 bt232.2 bt244.1 bt244.2 true a0_0 l0_1 l0_2 bt236.1 bt236.2.1 bt236.2.2))))))))) = some r := h
 clear h
 replace H := Option.bind_eq_some_iff.mp H
 obtain ⟨t224, A20, H⟩ := H
 replace H : (if t224 < 0 then (some true) else ((laws_toJacobi.f k a0_0 l0_1 l0_2).bind fun bt225 => ((spec_MatrixOf.f k bt225.1 bt225.2.1 bt225.2.2).bind fun bt232 => ((laws_toJacobi.f k a0_0 l0_1 l0_2).bind fun bt236 => ((impl_MatrixOf.f k bt236.1 bt236.2.1 bt236.2.2).bind fun bt244 => ((laws_eqInt64SS.f k bt244.1 bt232.1).bind fun t248 => (if t248 = true then (laws_FnExactMatrixOf.j0 k bt232.1 bt232.2 bt244.1 bt244.2 (bt244.2 != bt232.2) a0_0 l0_1 l0_2 bt236.1 bt236.2.1 bt236.2.2) else (laws_FnExactMatrixOf.j0 k bt232.1 bt232.2 bt244.1 bt244.2 true a0_0 l0_1 l0_2 bt236.1 bt236.2.1 bt236.2.2)))))))) = some r := H
 have A2 := zA A20
 clear A20
 by_cases c3 : t224 < 0
 rotate_left
 ·rw [if_neg c3] at H
  have c3b0 : decide (t224 < 0) = false := decide_eq_false c3
  clear c3
  replace H := Option.bind_eq_some_iff.mp H
  obtain ⟨⟨t225, t226, t229⟩, A70, H⟩ := H
  replace H : ((spec_MatrixOf.f k t225 t226 t229).bind fun bt232 => ((laws_toJacobi.f k a0_0 l0_1 l0_2).bind fun bt236 => ((impl_MatrixOf.f k bt236.1 bt236.2.1 bt236.2.2).bind fun bt244 => ((laws_eqInt64SS.f k bt244.1 bt232.1).bind fun t248 => (if t248 = true then (laws_FnExactMatrixOf.j0 k bt232.1 bt232.2 bt244.1 bt244.2 (bt244.2 != bt232.2) a0_0 l0_1 l0_2 bt236.1 bt236.2.1 bt236.2.2) else (laws_FnExactMatrixOf.j0 k bt232.1 bt232.2 bt244.1 bt244.2 true a0_0 l0_1 l0_2 bt236.1 bt236.2.1 bt236.2.2)))))) = some r := H
  have A7 := zA A70
  clear A70
  replace H := Option.bind_eq_some_iff.mp H
  obtain ⟨⟨t232, t235⟩, A80, H⟩ := H
  replace H : ((laws_toJacobi.f k a0_0 l0_1 l0_2).bind fun bt236 => ((impl_MatrixOf.f k bt236.1 bt236.2.1 bt236.2.2).bind fun bt244 => ((laws_eqInt64SS.f k bt244.1 t232).bind fun t248 => (if t248 = true then (laws_FnExactMatrixOf.j0 k t232 t235 bt244.1 bt244.2 (bt244.2 != t235) a0_0 l0_1 l0_2 bt236.1 bt236.2.1 bt236.2.2) else (laws_FnExactMatrixOf.j0 k t232 t235 bt244.1 bt244.2 true a0_0 l0_1 l0_2 bt236.1 bt236.2.1 bt236.2.2))))) = some r := H
  have A8 := zA A80
  clear A80
  replace H := Option.bind_eq_some_iff.mp H
  obtain ⟨⟨t236, t237, t240⟩, A90, H⟩ := H
  replace H : ((impl_MatrixOf.f k t236 t237 t240).bind fun bt244 => ((laws_eqInt64SS.f k bt244.1 t232).bind fun t248 => (if t248 = true then (laws_FnExactMatrixOf.j0 k t232 t235 bt244.1 bt244.2 (bt244.2 != t235) a0_0 l0_1 l0_2 t236 t237 t240) else (laws_FnExactMatrixOf.j0 k t232 t235 bt244.1 bt244.2 true a0_0 l0_1 l0_2 t236 t237 t240)))) = some r := H
  have A9 := zA A90
  clear A90
  replace H := Option.bind_eq_some_iff.mp H
  obtain ⟨⟨t244, t247⟩, A100, H⟩ := H
  replace H : ((laws_eqInt64SS.f k t244 t232).bind fun t248 => (if t248 = true then (laws_FnExactMatrixOf.j0 k t232 t235 t244 t247 (t247 != t235) a0_0 l0_1 l0_2 t236 t237 t240) else (laws_FnExactMatrixOf.j0 k t232 t235 t244 t247 true a0_0 l0_1 l0_2 t236 t237 t240))) = some r := H
  have A10 := zA A100
  clear A100
  have HC11 := zA H
  clear H
  go_enter Try.func3, Try.ntmps3
  go_upto_region 8 with (first | ((with_reducible refine gate_dst (N := 1) rfl ?_); refine bx 1 #[.int .i64 a0_0, .slice A0_1 l0_1.length c0_1, .slice A0_2 l0_2.length c0_2] 24 ?_; intro gb223 hg w12 hbox hb; have BK223 := zA (hbox); have GW223 := gq HB hg; have GE223 := gq HB hg; replace HB := xH HB hb; have := geI GE223; clear hb hbox hg; have hcz13_0 := bc BK223 0; have hcz13_1 := bc BK223 1; have hcz13_2 := bc BK223 2; have hfz13_0 := bf BK223 0; have hfz13_1 := bf BK223 1; have hfz13_2 := bf BK223 2) | ((with_reducible refine gate_callee (f := 7) rfl ?_); refine gL (some 16) Try.func7 #[.agg #[.int .i64 a0_0, .slice A0_1 l0_1.length c0_1, .slice A0_2 l0_2.length c0_2], .int .i64 1048576] ?_; (with_reducible refine (laws_szJacobi.calls a0_0 _ _ l0_1 _ _ l0_2 1048576 t224 _ ?side1 ?side2 ?side3 ?side4 A2.out).mono ?_); (case side1 => exact uC ((Kd.C_below HR0_1.out HB.out))); (case side2 => exact HC0_1.out); (case side3 => exact uC ((Kd.C_below HR0_2.out HB.out))); (case side4 => exact HC0_2.out); rintro e w14 ⟨rfl, hb⟩; refine ⟨_, rfl, ?_⟩; replace BK223 := xB BK223 hb; replace HB := xH HB hb; (try clear hb); (try clear hb2); (try clear hk); (try clear hi); have hcz15_0 := bc BK223 0; have hcz15_1 := bc BK223 1; have hcz15_2 := bc BK223 2; have hfz15_0 := bf BK223 0; have hfz15_1 := bf BK223 1; have hfz15_2 := bf BK223 2) | ((with_reducible refine gate_callee (f := 9) rfl ?_); refine gL (some 21) Try.func9 #[.agg #[.int .i64 a0_0, .slice A0_1 l0_1.length c0_1, .slice A0_2 l0_2.length c0_2]] ?_; (with_reducible refine (laws_toJacobi.calls k a0_0 _ _ l0_1 _ _ l0_2 t225 t226 t229 _ ?side1 ?side2 ?side3 ?side4 A7.out).mono ?_); (case side1 => exact uC ((Kd.C_below HR0_1.out HB.out))); (case side2 => exact HC0_1.out); (case side3 => exact uC ((Kd.C_below HR0_2.out HB.out))); (case side4 => exact HC0_2.out); rintro e w16 ⟨v227, v230, rfl, ho0, ho1, hb⟩; refine ⟨_, rfl, ?_⟩; have HO228 := zA (Kd.R_lower ho0 (below_size (uH HB.out))); have HO231 := zA (Kd.R_lower ho1 (below_size (uH HB.out))); replace BK223 := xB BK223 hb; replace HB := xH HB hb; (try clear hb); (try clear hb2); (try clear hk); (try clear hi); (try clear ho0); (try clear ho1); obtain ⟨Ao17, co17, eo17⟩ := Kd.R_slice HO228.out; subst eo17; obtain ⟨Ao18, co18, eo18⟩ := Kd.R_slice HO231.out; subst eo18) | ((with_reducible refine gate_callee (f := 8) rfl ?_); refine gL (some 22) Try.func8 #[.agg #[.int .i64 t225, .slice Ao17 t226.length co17, .slice Ao18 t229.length co18]] ?_; (with_reducible refine (spec_MatrixOf.calls k t225 _ _ t226 _ _ t229 t232 t235 _ ?side1 ?side2 ?side3 ?side4 A8.out).mono ?_); (case side1 => exact uC ((Kd.R_reads' HO228.out).2.2)); (case side2 => exact (Kd.R_reads' HO228.out).2.1); (case side3 => exact uC ((Kd.R_reads' HO231.out).2.2)); (case side4 => exact (Kd.R_reads' HO231.out).2.1); rintro e w19 ⟨v233, rfl, ho0, hb⟩; refine ⟨_, rfl, ?_⟩; have HO234 := zA (Kd.S_lower (Kd.S_new' (Kd.S_new' ho0 (Kd.R_lt (uR HO228.out))) (Kd.R_lt (uR HO231.out))) (below_size (uH HB.out))); replace HO228 := xR HO228 hb; replace HO231 := xR HO231 hb; replace BK223 := xB BK223 hb; replace HB := xH HB hb; (try clear hb); (try clear hb2); (try clear hk); (try clear hi); (try clear ho0); have hcz20_0 := bc BK223 0; have hcz20_1 := bc BK223 1; have hcz20_2 := bc BK223 2; have hfz20_0 := bf BK223 0; have hfz20_1 := bf BK223 1; have hfz20_2 := bf BK223 2) | ((with_reducible refine gate_callee (f := 9) rfl ?_); refine gL (some 26) Try.func9 #[.agg #[.int .i64 a0_0, .slice A0_1 l0_1.length c0_1, .slice A0_2 l0_2.length c0_2]] ?_; (with_reducible refine (laws_toJacobi.calls k a0_0 _ _ l0_1 _ _ l0_2 t236 t237 t240 _ ?side1 ?side2 ?side3 ?side4 A9.out).mono ?_); (case side1 => exact uC ((Kd.C_below HR0_1.out HB.out))); (case side2 => exact HC0_1.out); (case side3 => exact uC ((Kd.C_below HR0_2.out HB.out))); (case side4 => exact HC0_2.out); rintro e w21 ⟨v238, v241, rfl, ho0, ho1, hb⟩; refine ⟨_, rfl, ?_⟩; replace HO234 := zA (Kd.S_mono (Kd.S_told (Kd.S_told (Kd.S_old (by (with_reducible repeat (first | apply Kd.S_alloc | apply Kd.S_drewN | apply Kd.S_drew)); exact HO234.out) hb) (Kd.R_base ho0)) (Kd.R_base ho1)) (fun _ h_ => h_.1)); have HO239 := zA (Kd.R_lower (Kd.R_new' (Kd.R_new' ho0 (Kd.R_lt (uR HO228.out))) (Kd.R_lt (uR HO231.out))) (below_size (uH HB.out))); have HO242 := zA (Kd.R_lower (Kd.R_new' (Kd.R_new' ho1 (Kd.R_lt (uR HO228.out))) (Kd.R_lt (uR HO231.out))) (below_size (uH HB.out))); replace HO228 := zA (Kd.R_mono (Kd.R_told (Kd.R_told (Kd.R_old (uR HO228.out) hb) (Kd.R_base ho0)) (Kd.R_base ho1)) (fun _ h_ => h_.1)); replace HO231 := zA (Kd.R_mono (Kd.R_told (Kd.R_told (Kd.R_old (uR HO231.out) hb) (Kd.R_base ho0)) (Kd.R_base ho1)) (fun _ h_ => h_.1)); replace BK223 := xB BK223 hb; replace HB := xH HB hb; (try clear hb); (try clear hb2); (try clear hk); (try clear hi); (try clear ho0); (try clear ho1)) | ((with_reducible refine gate_dst (N := 6) rfl ?_); refine bx 6 #[.int .i64 0, .slice none 0 0, .slice none 0 0] 29 ?_; intro gb243 hg w22 hbox hb; replace HO228 := xR HO228 hb; replace HO231 := xR HO231 hb; replace HO234 := zA (Kd.S_below (by (with_reducible repeat (first | apply Kd.S_alloc | apply Kd.S_drewN | apply Kd.S_drew)); exact HO234.out) hb); replace HO239 := xR HO239 hb; replace HO242 := xR HO242 hb; have BK243 := zA (hbox); have GW243 := gq HB hg; have GE243 := gq HB hg; replace HB := xH HB hb; have NB223_243 := zA ((by rw [hg]; exact neL BK223 : gb223 ≠ gb243)); have NB243_223 := zA ((by rw [hg]; exact neG BK223 : gb243 ≠ gb223)); replace BK223 := xB BK223 hb; have := geI GE243; clear hb hbox hg; have hnb23 := NB243_223.out; have hnc23 := NB223_243.out; have hcz24_0 := bc BK243 0; have hcz24_1 := bc BK243 1; have hcz24_2 := bc BK243 2; have hfz24_0 := bf BK243 0; have hfz24_1 := bf BK243 1; have hfz24_2 := bf BK243 2; obtain ⟨Ao25, co25, eo25⟩ := Kd.R_slice HO239.out; subst eo25; obtain ⟨Ao26, co26, eo26⟩ := Kd.R_slice HO242.out; subst eo26) | ((with_reducible refine gate_callee (f := 10) rfl ?_); refine gL (some 29) Try.func10 #[.agg #[.int .i64 t236, .slice Ao25 t237.length co25, .slice Ao26 t240.length co26]] ?_; (with_reducible refine (impl_MatrixOf.calls k t236 _ _ t237 _ _ t240 t244 t247 _ ?side1 ?side2 ?side3 ?side4 A10.out).mono ?_); (case side1 => refine (Kd.R_reads' (e := 2) (base := w.heap.size) (ok := fun k_ => ((ax k_ (.slice Ao26 t240.length co26) ∧ ax k_ (.slice Ao17 t226.length co17)) ∧ ax k_ (.slice Ao18 t229.length co18))) (n := t237.length) (c := co25) ?_).2.2; exact (uR ((rf3 HO239 BK243 (by decide) (.int .i64 t236) (.slice Ao25 t237.length co25) (.slice Ao26 t240.length co26))))); (case side2 => exact (Kd.R_reads' HO239.out).2.1); (case side3 => refine (Kd.R_reads' (e := 2) (base := w.heap.size) (ok := fun k_ => ((ax k_ (.slice Ao25 t237.length co25) ∧ ax k_ (.slice Ao17 t226.length co17)) ∧ ax k_ (.slice Ao18 t229.length co18))) (n := t240.length) (c := co26) ?_).2.2; exact (uR ((rf3 HO242 BK243 (by decide) (.int .i64 t236) (.slice Ao25 t237.length co25) (.slice Ao26 t240.length co26))))); (case side4 => exact (Kd.R_reads' HO242.out).2.1); rintro e w27 ⟨v245, rfl, ho0, hb⟩; refine ⟨_, rfl, ?_⟩; obtain ⟨N_, hN_⟩ := sizeN ho0; replace HO234 := zA (oldN hN_ (by (with_reducible repeat (first | apply Kd.S_alloc | apply Kd.S_drewN | apply Kd.S_drew)); exact (Kd.S_mono (Kd.S_far (p := ⟨gb243, 2, none⟩) (Kd.S_far (p := ⟨gb243, 1, none⟩) (Kd.S_far (p := ⟨gb243, 0, none⟩) (Kd.S_types HO234.out BK243.out (by decide)) (fun _ hk => hk.2) (.int .i64 t236)) (fun _ hk => hk.2) (.slice Ao25 t237.length co25)) (fun _ hk => hk.2) (.slice Ao26 t240.length co26)) (fun _ h_ => h_.1))) hb); have HO246 := zA (Kd.S_lower (Kd.S_new' (Kd.S_new' (newN hN_ (Kd.S_new' (Kd.S_new' ho0 (Kd.R_lt (uR ((rf3 HO228 BK243 (by decide) (.int .i64 t236) (.slice Ao25 t237.length co25) (.slice Ao26 t240.length co26)))))) (Kd.R_lt (uR ((rf3 HO231 BK243 (by decide) (.int .i64 t236) (.slice Ao25 t237.length co25) (.slice Ao26 t240.length co26))))))) (Kd.R_lt (uR ((rf3 HO239 BK243 (by decide) (.int .i64 t236) (.slice Ao25 t237.length co25) (.slice Ao26 t240.length co26)))))) (Kd.R_lt (uR ((rf3 HO242 BK243 (by decide) (.int .i64 t236) (.slice Ao25 t237.length co25) (.slice Ao26 t240.length co26)))))) (below_size (uH HB.out))); replace HO228 := zA (Kd.R_below (uR ((rf3 HO228 BK243 (by decide) (.int .i64 t236) (.slice Ao25 t237.length co25) (.slice Ao26 t240.length co26)))) hb); replace HO231 := zA (Kd.R_below (uR ((rf3 HO231 BK243 (by decide) (.int .i64 t236) (.slice Ao25 t237.length co25) (.slice Ao26 t240.length co26)))) hb); replace HO239 := zA (Kd.R_below (uR ((rf3 HO239 BK243 (by decide) (.int .i64 t236) (.slice Ao25 t237.length co25) (.slice Ao26 t240.length co26)))) hb); replace HO242 := zA (Kd.R_below (uR ((rf3 HO242 BK243 (by decide) (.int .i64 t236) (.slice Ao25 t237.length co25) (.slice Ao26 t240.length co26)))) hb); replace BK223 := zA (blk_below (g := gb223) (o := .cells #[.int .i64 a0_0, .slice A0_1 l0_1.length c0_1, .slice A0_2 l0_2.length c0_2] 24 (0, 0)) (by (repeat refine up1 ?_); refine blk_far ?_ NB223_243.out _; (repeat refine up1 ?_); refine blk_far ?_ NB223_243.out _; (repeat refine up1 ?_); refine blk_far ?_ NB223_243.out _; (repeat refine up1 ?_); exact BK223.out) hb); replace BK243 := zA (blk_below (g := gb243) (o := .cells #[.int .i64 t236, .slice Ao25 t237.length co25, .slice Ao26 t240.length co26] 29 (0, 0)) (by (repeat refine up1 ?_); refine blk_put (cs := #[.int .i64 t236, .slice Ao25 t237.length co25, .slice none 0 0]) ?_ 2 _ rfl; (repeat refine up1 ?_); refine blk_put (cs := #[.int .i64 t236, .slice none 0 0, .slice none 0 0]) ?_ 1 _ rfl; (repeat refine up1 ?_); refine blk_put (cs := #[.int .i64 0, .slice none 0 0, .slice none 0 0]) ?_ 0 _ rfl; (repeat refine up1 ?_); exact BK243.out) hb); replace HB := xH HB hb; (try clear hb); (try clear hb2); (try clear hk); (try clear hi); (try clear ho0)))
  (try simp only [Act.put, ls, lz, ln])
  go_cut [40] (fun v40 wc => ∃ (kq : Nat) (x40_10 : Bool), v40 = .bool x40_10 ∧ Aside0 (laws_FnExactMatrixOf.j0 kq t232 t235 t244 t247 x40_10 a0_0 l0_1 l0_2 t236 t237 t240 = some r) ∧ Aside0 (kq ≤ k) ∧ Aside0 (Kd.S (Kd.slice 2 (Kd.int .i64)) 22 wc w.heap.size (fun k_ => k_ < N_ ∧ ax k_ (.slice Ao25 t237.length co25) ∧ ax k_ (.slice Ao26 t240.length co26)) v233 t232) ∧ Aside0 (Kd.S (Kd.slice 2 (Kd.int .i64)) 22 wc w.heap.size (fun k_ => N_ ≤ k_ ∧ ax k_ (.slice Ao25 t237.length co25) ∧ ax k_ (.slice Ao26 t240.length co26)) v245 t244) ∧ Aside0 (Kd.R (Kd.int .i64) 2 wc w.heap.size (fun k_ => ax k_ (.slice Ao26 t240.length co26)) (.slice Ao25 t237.length co25) t237) ∧ Aside0 (Kd.R (Kd.int .i64) 2 wc w.heap.size (fun k_ => ax k_ (.slice Ao25 t237.length co25)) (.slice Ao26 t240.length co26) t240) ∧ Aside0 (wc.heap[gb223]? = some (.cells #[.int .i64 a0_0, (.slice A0_1 l0_1.length c0_1), (.slice A0_2 l0_2.length c0_2)] 24 (0, 0))) ∧ Aside0 (wc.heap[gb243]? = some (.cells #[.int .i64 t236, (.slice Ao25 t237.length co25), (.slice Ao26 t240.length co26)] 29 (0, 0))) ∧ Aside0 (Below w.heap.size w wc))
  case first =>
   have H := HC11.out
   clear HC11
   replace H := Option.bind_eq_some_iff.mp H
   obtain ⟨t248, A280, H⟩ := H
   replace H : (if t248 = true then (laws_FnExactMatrixOf.j0 k t232 t235 t244 t247 (t247 != t235) a0_0 l0_1 l0_2 t236 t237 t240) else (laws_FnExactMatrixOf.j0 k t232 t235 t244 t247 true a0_0 l0_1 l0_2 t236 t237 t240)) = some r := H
   have A28 := zA A280
   clear A280
   by_cases c29 : t248 = true
   ·subst c29
    have H1 : (laws_FnExactMatrixOf.j0 k t232 t235 t244 t247 (t247 != t235) a0_0 l0_1 l0_2 t236 t237 t240) = some r := by rw [if_pos rfl] at H; exact H
    clear H
    have H := H1
    clear H1
    have H' := zA H
    clear H
    obtain ⟨Ao30, co30, eo30⟩ := Kd.S_slice HO246.out
    subst eo30
    obtain ⟨Ao31, co31, eo31⟩ := Kd.S_slice HO234.out
    subst eo31
    go_wp2_with (first | ((with_reducible refine gate_callee (f := 11) rfl ?_); refine gL (some 34) Try.func11 #[.slice Ao30 t244.length co30, .slice Ao31 t232.length co31] ?_; (with_reducible refine (laws_eqInt64SS.calls k _ _ t244 _ _ t232 true _ ?side1 ?side2 ?side3 ?side4 A28.out).mono ?_); (case side1 => exact uC ((Kd.S_reads' HO246.out).2.2)); (case side2 => exact (Kd.S_reads' HO246.out).2.1); (case side3 => exact uC ((Kd.S_reads' HO234.out).2.2)); (case side4 => exact (Kd.S_reads' HO234.out).2.1); rintro e w32 ⟨rfl, hb⟩; refine ⟨_, rfl, ?_⟩; replace HO228 := xR HO228 hb; replace HO231 := xR HO231 hb; replace HO234 := zA (Kd.S_below (by (with_reducible repeat (first | apply Kd.S_alloc | apply Kd.S_drewN | apply Kd.S_drew)); exact HO234.out) hb); replace HO239 := xR HO239 hb; replace HO242 := xR HO242 hb; replace HO246 := zA (Kd.S_below (by (with_reducible repeat (first | apply Kd.S_alloc | apply Kd.S_drewN | apply Kd.S_drew)); exact HO246.out) hb); replace BK223 := xB BK223 hb; replace BK243 := xB BK243 hb; replace HB := xH HB hb; (try clear hb); (try clear hb2); (try clear hk); (try clear hi)))
    go_meet
    case rel => exact ⟨_, ((t247 != t235)), (by first | rfl | (simp; done) | (simp [*]; done)), H', ⟨by first | omega | exact Nat.le_refl _⟩, ⟨by (with_reducible repeat (first | apply Kd.S_alloc | apply Kd.S_drewN | apply Kd.S_drew)); exact Kd.S_mono HO234.out (fun _ hk => ⟨hk.2, ⟨hk.1.1.2, hk.1.2⟩⟩)⟩, ⟨by (with_reducible repeat (first | apply Kd.S_alloc | apply Kd.S_drewN | apply Kd.S_drew)); exact Kd.S_mono HO246.out (fun _ hk => ⟨hk.1.1.2, ⟨hk.1.2, hk.2⟩⟩)⟩, ⟨uR (Kd.R_mono HO239.out (fun _ hk => hk.1.1))⟩, ⟨uR (Kd.R_mono HO242.out (fun _ hk => hk.1.1))⟩, ⟨uB BK223.out⟩, ⟨uB BK243.out⟩, ⟨uH HB.out⟩⟩
   ·replace c29 := Bool.eq_false_iff.mpr c29
    subst c29
    have H1 : (laws_FnExactMatrixOf.j0 k t232 t235 t244 t247 true a0_0 l0_1 l0_2 t236 t237 t240) = some r := by rw [if_neg (show ¬ (false = true) by decide)] at H; exact H
    clear H
    have H := H1
    clear H1
    have H' := zA H
    clear H
    obtain ⟨Ao33, co33, eo33⟩ := Kd.S_slice HO246.out
    subst eo33
    obtain ⟨Ao34, co34, eo34⟩ := Kd.S_slice HO234.out
    subst eo34
    go_wp2_with (first | ((with_reducible refine gate_callee (f := 11) rfl ?_); refine gL (some 34) Try.func11 #[.slice Ao33 t244.length co33, .slice Ao34 t232.length co34] ?_; (with_reducible refine (laws_eqInt64SS.calls k _ _ t244 _ _ t232 false _ ?side1 ?side2 ?side3 ?side4 A28.out).mono ?_); (case side1 => exact uC ((Kd.S_reads' HO246.out).2.2)); (case side2 => exact (Kd.S_reads' HO246.out).2.1); (case side3 => exact uC ((Kd.S_reads' HO234.out).2.2)); (case side4 => exact (Kd.S_reads' HO234.out).2.1); rintro e w35 ⟨rfl, hb⟩; refine ⟨_, rfl, ?_⟩; replace HO228 := xR HO228 hb; replace HO231 := xR HO231 hb; replace HO234 := zA (Kd.S_below (by (with_reducible repeat (first | apply Kd.S_alloc | apply Kd.S_drewN | apply Kd.S_drew)); exact HO234.out) hb); replace HO239 := xR HO239 hb; replace HO242 := xR HO242 hb; replace HO246 := zA (Kd.S_below (by (with_reducible repeat (first | apply Kd.S_alloc | apply Kd.S_drewN | apply Kd.S_drew)); exact HO246.out) hb); replace BK223 := xB BK223 hb; replace BK243 := xB BK243 hb; replace HB := xH HB hb; (try clear hb); (try clear hb2); (try clear hk); (try clear hi)))
    go_meet
    case rel => exact ⟨_, (true), (by first | rfl | (simp; done) | (simp [*]; done)), H', ⟨by first | omega | exact Nat.le_refl _⟩, ⟨by (with_reducible repeat (first | apply Kd.S_alloc | apply Kd.S_drewN | apply Kd.S_drew)); exact Kd.S_mono HO234.out (fun _ hk => ⟨hk.2, ⟨hk.1.1.2, hk.1.2⟩⟩)⟩, ⟨by (with_reducible repeat (first | apply Kd.S_alloc | apply Kd.S_drewN | apply Kd.S_drew)); exact Kd.S_mono HO246.out (fun _ hk => ⟨hk.1.1.2, ⟨hk.1.2, hk.2⟩⟩)⟩, ⟨uR (Kd.R_mono HO239.out (fun _ hk => hk.1.1))⟩, ⟨uR (Kd.R_mono HO242.out (fun _ hk => hk.1.1))⟩, ⟨uB BK223.out⟩, ⟨uB BK243.out⟩, ⟨uH HB.out⟩⟩
  case rest =>
   clear HC11
   (try clear c1);(try clear c2);(try clear p2);(try clear c3);(try clear c3b0);(try clear c7);(try clear c8);(try clear c9);(try clear c10);(try clear c11);(try clear c23);(try clear c29);(try clear hcz13_0);(try clear hcz13_1);(try clear hcz13_2);(try clear hcz15_0);(try clear hcz15_1);(try clear hcz15_2);(try clear hcz20_0);(try clear hcz20_1);(try clear hcz20_2);(try clear hcz24_0);(try clear hcz24_1)
   (try clear hcz24_2);(try clear hcz5_0);(try clear hcz5_1);(try clear hcz5_2);(try clear hfz13_0);(try clear hfz13_1);(try clear hfz13_2);(try clear hfz15_0);(try clear hfz15_1);(try clear hfz15_2);(try clear hfz20_0);(try clear hfz20_1);(try clear hfz20_2);(try clear hfz24_0);(try clear hfz24_1);(try clear hfz24_2);(try clear hfz5_0);(try clear hfz5_1);(try clear hfz5_2)
   obtain ⟨kq, x40_10, rfl, HA, HJ10, HO_4, HO_7, HO_244001, HO_244002, BK223, BK243, HB⟩ := hcut
   cases kq with
   | zero => exact absurd HA.out (by simp [laws_FnExactMatrixOf.j0])
   | succ kj10 =>
    have H := HA.out
    clear HA
    simp only [laws_FnExactMatrixOf.j0] at H
    by_cases c36 : x40_10 = true
    ·subst c36
     have H1 : (some false) = some r := by rw [if_pos rfl] at H; exact H
     clear H
     have H := H1
     clear H1
     rw [HRT.out] at H
     exact absurd H (by simp)
    ·replace c36 := Bool.eq_false_iff.mpr c36
     subst c36
     have H1 : ((laws_toJacobi.f kj10 a0_0 l0_1 l0_2).bind fun bt249 => ((laws_eqJacobi.f kj10 t236 t237 t240 bt249.1 bt249.2.1 bt249.2.2).bind fun t256 => (if t256 = true then ((laws_markJacobi.f kj10 t236 t237 t240 1).bind fun bt257 => (if bt257.1 < 0 then (laws_FnExactMatrixOf.j1 kj10 t232 t235 t244 true a0_0 l0_1 l0_2) else ((laws_eqInt64SS.f kj10 t244 t232).bind fun t260 => (if t260 = true then (laws_FnExactMatrixOf.j1 kj10 t232 t235 t244 (t247 != t235) a0_0 l0_1 l0_2) else (laws_FnExactMatrixOf.j1 kj10 t232 t235 t244 true a0_0 l0_1 l0_2))))) else (some false)))) = some r := by rw [if_neg (show ¬ (false = true) by decide)] at H; exact H
     clear H
     have H := H1
     clear H1
     replace H := Option.bind_eq_some_iff.mp H
     obtain ⟨⟨t249, t250, t253⟩, A370, H⟩ := H
     replace H : ((laws_eqJacobi.f kj10 t236 t237 t240 t249 t250 t253).bind fun t256 => (if t256 = true then ((laws_markJacobi.f kj10 t236 t237 t240 1).bind fun bt257 => (if bt257.1 < 0 then (laws_FnExactMatrixOf.j1 kj10 t232 t235 t244 true a0_0 l0_1 l0_2) else ((laws_eqInt64SS.f kj10 t244 t232).bind fun t260 => (if t260 = true then (laws_FnExactMatrixOf.j1 kj10 t232 t235 t244 (t247 != t235) a0_0 l0_1 l0_2) else (laws_FnExactMatrixOf.j1 kj10 t232 t235 t244 true a0_0 l0_1 l0_2))))) else (some false))) = some r := H
     have A37 := zA A370
     clear A370
     replace H := Option.bind_eq_some_iff.mp H
     obtain ⟨t256, A380, H⟩ := H
     replace H : (if t256 = true then ((laws_markJacobi.f kj10 t236 t237 t240 1).bind fun bt257 => (if bt257.1 < 0 then (laws_FnExactMatrixOf.j1 kj10 t232 t235 t244 true a0_0 l0_1 l0_2) else ((laws_eqInt64SS.f kj10 t244 t232).bind fun t260 => (if t260 = true then (laws_FnExactMatrixOf.j1 kj10 t232 t235 t244 (t247 != t235) a0_0 l0_1 l0_2) else (laws_FnExactMatrixOf.j1 kj10 t232 t235 t244 true a0_0 l0_1 l0_2))))) else (some false)) = some r := H
     have A38 := zA A380
     clear A380
     by_cases c39 : t256 = true
     ·subst c39
      have H1 : ((laws_markJacobi.f kj10 t236 t237 t240 1).bind fun bt257 => (if bt257.1 < 0 then (laws_FnExactMatrixOf.j1 kj10 t232 t235 t244 true a0_0 l0_1 l0_2) else ((laws_eqInt64SS.f kj10 t244 t232).bind fun t260 => (if t260 = true then (laws_FnExactMatrixOf.j1 kj10 t232 t235 t244 (t247 != t235) a0_0 l0_1 l0_2) else (laws_FnExactMatrixOf.j1 kj10 t232 t235 t244 true a0_0 l0_1 l0_2))))) = some r := by rw [if_pos rfl] at H; exact H
      clear H
      have H := H1
      clear H1
      replace H := Option.bind_eq_some_iff.mp H
      obtain ⟨⟨t257, t258, t259⟩, A400, H⟩ := H
      replace H : (if t257 < 0 then (laws_FnExactMatrixOf.j1 kj10 t232 t235 t244 true a0_0 l0_1 l0_2) else ((laws_eqInt64SS.f kj10 t244 t232).bind fun t260 => (if t260 = true then (laws_FnExactMatrixOf.j1 kj10 t232 t235 t244 (t247 != t235) a0_0 l0_1 l0_2) else (laws_FnExactMatrixOf.j1 kj10 t232 t235 t244 true a0_0 l0_1 l0_2)))) = some r := H
      have A40 := zA A400
      clear A400
      have HC41 := zA H
      clear H
      try go_wp2
      replace HO_4 := zA (Kd.S_drew HO_4.out)
      replace HO_7 := zA (Kd.S_drew HO_7.out)
      replace HO_244001 := zA (Kd.R_drew HO_244001.out)
      replace HO_244002 := zA (Kd.R_drew HO_244002.out)
      replace BK223 := zA (blk_drew BK223.out)
      replace BK243 := zA (blk_drew BK243.out)
      replace HB := zA (below_drew1 HB.out)
      refine start_ (n := 5) (S := fun w' => w'.cell? ⟨gb243, 0, none⟩ = some (.int .i64 t236) ∧ w'.cell? ⟨gb243, 1, none⟩ = some (.slice Ao25 t237.length co25) ∧ w'.cell? ⟨gb243, 2, none⟩ = some (.slice Ao26 t240.length co26) ∧ w'.cell? ⟨gb223, 0, none⟩ = some (.int .i64 a0_0) ∧ w'.cell? ⟨gb223, 1, none⟩ = some (.slice A0_1 l0_1.length c0_1) ∧ w'.cell? ⟨gb223, 2, none⟩ = some (.slice A0_2 l0_2.length c0_2)) (ds := []) #[false, false, false, false, false] (by kernel_rfl) rfl rfl ⟨bcu BK243 0, bcu BK243 1, bcu BK243 2, bcu BK223 0, bcu BK223 1, bcu BK223 2⟩ (fun hHeld => ?_)
      generalize wc.drew = w42 at HO_4 HO_7 HO_244001 HO_244002 BK223 BK243 HB hHeld ⊢
      refine take_ (i := 0) (N := some 41) (v := ?_) (a' := ?_) (bl 5 1) rfl rfl (by kernel_rfl) (fun _ _ _ h => h) (Or.inl ⟨by rfl, ?_⟩) hHeld ?_ ?_
      rotate_left
      ·rintro w' ⟨s0, s1, s2, s3, s4, s5⟩
       go_simp
       with_reducible rfl
      rotate_left
      ·simp only [Act.put, ls, lz, ln, i64_w, i32_w]
       rfl
      refine take_ (i := 1) (N := some 42) (v := ?_) (a' := ?_) (bl 5 3) rfl rfl (by kernel_rfl) (fun _ _ _ h => h) (Or.inl ⟨by rfl, ?_⟩) hHeld ?_ ?_
      rotate_left
      ·rintro w' ⟨s0, s1, s2, s3, s4, s5⟩
       go_simp
       with_reducible rfl
      rotate_left
      ·simp only [Act.put, ls, lz, ln, i64_w, i32_w]
       rfl
      refine one_ (i := 2) (N := some 43) (bl 5 7) rfl rfl (by kernel_rfl) (by decide) (fun K hK => ?_)
      refine gS Try.func9 #[.agg #[.int .i64 a0_0, .slice A0_1 l0_1.length c0_1, .slice A0_2 l0_2.length c0_2]] ?_
      with_reducible refine (laws_toJacobi.calls kj10 a0_0 _ _ l0_1 _ _ l0_2 t249 t250 t253 _ ?side1 ?side2 ?side3 ?side4 A37.out).mono ?_
      (case side1 => exact uC ((Kd.C_below HR0_1.out HB.out)))
      (case side2 => exact HC0_1.out)
      (case side3 => exact uC ((Kd.C_below HR0_2.out HB.out)))
      (case side4 => exact HC0_2.out)
      rintro e w43 ⟨v251, v254, rfl, ho0, ho1, hb⟩
      refine ⟨_, rfl, ?_⟩
      replace HO_4 := zA (Kd.S_mono (Kd.S_told (Kd.S_told (Kd.S_old (by (with_reducible repeat (first | apply Kd.S_alloc | apply Kd.S_drewN | apply Kd.S_drew)); exact HO_4.out) hb) (Kd.R_base ho0)) (Kd.R_base ho1)) (fun _ h_ => h_.1))
      replace HO_7 := zA (Kd.S_mono (Kd.S_told (Kd.S_told (Kd.S_old (by (with_reducible repeat (first | apply Kd.S_alloc | apply Kd.S_drewN | apply Kd.S_drew)); exact HO_7.out) hb) (Kd.R_base ho0)) (Kd.R_base ho1)) (fun _ h_ => h_.1))
      have HO252 := zA (Kd.R_lower (Kd.R_new' (Kd.R_new' ho0 (Kd.R_lt (uR HO_244001.out))) (Kd.R_lt (uR HO_244002.out))) (below_size (uH HB.out)))
      have HO255 := zA (Kd.R_lower (Kd.R_new' (Kd.R_new' ho1 (Kd.R_lt (uR HO_244001.out))) (Kd.R_lt (uR HO_244002.out))) (below_size (uH HB.out)))
      replace HO_244001 := zA (Kd.R_mono (Kd.R_told (Kd.R_told (Kd.R_old (uR HO_244001.out) hb) (Kd.R_base ho0)) (Kd.R_base ho1)) (fun _ h_ => h_.1))
      replace HO_244002 := zA (Kd.R_mono (Kd.R_told (Kd.R_told (Kd.R_old (uR HO_244002.out) hb) (Kd.R_base ho0)) (Kd.R_base ho1)) (fun _ h_ => h_.1))
      replace BK223 := xB BK223 hb
      replace BK243 := xB BK243 hb
      replace HB := xH HB hb
      (try clear hb); (try clear hb2); (try clear hk); (try clear hi); (try clear ho0); (try clear ho1)
      obtain ⟨Ao44, co44, eo44⟩ := Kd.R_slice HO252.out
      (first | subst eo44 | (injection eo44 with f1_ f2_ f3_; have f4_ := f1_.symm; have f5_ := f3_.symm; clear f1_ f2_ f3_; subst f4_; subst f5_))
      obtain ⟨Ao45, co45, eo45⟩ := Kd.R_slice HO255.out
      (first | subst eo45 | (injection eo45 with f1_ f2_ f3_; have f4_ := f1_.symm; have f5_ := f3_.symm; clear f1_ f2_ f3_; subst f4_; subst f5_))
      refine hK.out _ _ ⟨bcu BK243 0, bcu BK243 1, bcu BK243 2, bcu BK223 0, bcu BK223 1, bcu BK223 2⟩ (fun hHeld => ?_)
      clear hK K
      refine no_ 43 ?_
      refine one_ (i := 3) (N := some 44) (bl 5 15) rfl rfl (by kernel_rfl) (by decide) (fun K hK => ?_)
      refine gS Try.func12 #[.agg #[.int .i64 t236, .slice Ao25 t237.length co25, .slice Ao26 t240.length co26], .agg #[.int .i64 t249, .slice Ao44 t250.length co44, .slice Ao45 t253.length co45]] ?_
      with_reducible refine (laws_eqJacobi.calls kj10 t236 _ _ t237 _ _ t240 t249 _ _ t250 _ _ t253 true _ ?side1 ?side2 ?side3 ?side4 ?side5 ?side6 ?side7 ?side8 A38.out).mono ?_
      (case side1 => exact uC ((Kd.R_reads' HO_244001.out).2.2))
      (case side2 => exact (Kd.R_reads' HO_244001.out).2.1)
      (case side3 => exact uC ((Kd.R_reads' HO_244002.out).2.2))
      (case side4 => exact (Kd.R_reads' HO_244002.out).2.1)
      (case side5 => exact uC ((Kd.R_reads' HO252.out).2.2))
      (case side6 => exact (Kd.R_reads' HO252.out).2.1)
      (case side7 => exact uC ((Kd.R_reads' HO255.out).2.2))
      (case side8 => exact (Kd.R_reads' HO255.out).2.1)
      rintro e w46 ⟨rfl, hb⟩
      refine ⟨_, rfl, ?_⟩
      replace HO_4 := zA (Kd.S_below (by (with_reducible repeat (first | apply Kd.S_alloc | apply Kd.S_drewN | apply Kd.S_drew)); exact HO_4.out) hb)
      replace HO_7 := zA (Kd.S_below (by (with_reducible repeat (first | apply Kd.S_alloc | apply Kd.S_drewN | apply Kd.S_drew)); exact HO_7.out) hb)
      replace HO_244001 := xR HO_244001 hb
      replace HO_244002 := xR HO_244002 hb
      replace HO252 := xR HO252 hb
      replace HO255 := xR HO255 hb
      replace BK223 := xB BK223 hb
      replace BK243 := xB BK243 hb
      replace HB := xH HB hb
      (try clear hb); (try clear hb2); (try clear hk); (try clear hi)
      refine hK.out _ _ ⟨bcu BK243 0, bcu BK243 1, bcu BK243 2, bcu BK223 0, bcu BK223 1, bcu BK223 2⟩ (fun hHeld => ?_)
      clear hK K
      refine no_ 44 ?_
      refine pure_ (i := 4) (N := some 45) (v := ?_) (a' := ?_) (bl 5 31) rfl rfl (by kernel_rfl) (fun _ _ _ h => h) (Or.inl ⟨by rfl, ?_⟩) ?_ ?_
      rotate_left
      ·intro w'
       go_simp
       with_reducible rfl
      rotate_left
      ·simp only [Act.put, ls, lz, ln, i64_w, i32_w]
       rfl
      refine done_ (by kernel_rfl) ?_
      have hnb47 := NB243_223.out; have hnc47 := NB223_243.out
      have hcz48_0 := bc BK243 0
      have hcz48_1 := bc BK243 1
      have hcz48_2 := bc BK243 2
      have hfz48_0 := bf BK243 0
      have hfz48_1 := bf BK243 1
      have hfz48_2 := bf BK243 2
      go_upto_region 14 with (first | ((with_reducible refine gate_callee (f := 13) rfl ?_); refine gL (some 48) Try.func13 #[.agg #[.int .i64 t236, .slice Ao25 t237.length co25, .slice Ao26 t240.length co26], .int .i64 1] ?_; (with_reducible refine (laws_markJacobi.calls kj10 t236 (fun k_ => some k_ = (.slice Ao25 t237.length co25 : Value).ownBlock) (.slice Ao25 t237.length co25) t237 (fun k_ => some k_ = (.slice Ao26 t240.length co26 : Value).ownBlock) (.slice Ao26 t240.length co26) t240 1 t257 t258 t259 w _ ?side1 ?side2 ?side3 ?side4 ?side5 A40.out).mono ?_); (case side1 => repeat (first | (with_reducible first | exact HB.out | apply below_alloc | apply pw_below_drewN | apply below_drew1 | refine below_set ?_ GE223.out | refine below_set ?_ GE243.out) | exact HB.out)); (case side2 => exact Kd.R_tight rfl HO_244001.out); (case side3 => exact fun k_ e_ => (HO_244001.out.1 k_ e_.symm).1.1); (case side4 => exact Kd.R_tight rfl HO_244002.out); (case side5 => exact fun k_ e_ => (HO_244002.out.1 k_ e_.symm).1.1); rintro e w49 ⟨rfl, hy0, hy1, hb, hkp⟩; refine ⟨_, rfl, ?_⟩; replace HO_4 := zA (Kd.S_mono (ok' := fun k_ => k_ < N_ ∧ ax k_ (.slice Ao25 t237.length co25) ∧ ax k_ (.slice Ao26 t240.length co26) ∧ ax k_ (.slice Ao44 t250.length co44) ∧ ax k_ (.slice Ao45 t253.length co45)) (Kd.S_keptB (HO_4.out) hkp (fun k_ hk_ hs_ => Or.elim hs_ (fun e_ => (hk_.1.1.2.1) e_) (fun e_ => (hk_.1.1.2.2) e_))) (fun k_ hk_ => ⟨hk_.1.1.1.1, hk_.1.1.1.2.1, hk_.1.1.1.2.2, hk_.1.1.2, hk_.1.2⟩)); replace HO_7 := zA (Kd.S_mono (ok' := fun k_ => N_ ≤ k_ ∧ ax k_ (.slice Ao25 t237.length co25) ∧ ax k_ (.slice Ao26 t240.length co26) ∧ ax k_ (.slice Ao44 t250.length co44) ∧ ax k_ (.slice Ao45 t253.length co45)) (Kd.S_keptB (HO_7.out) hkp (fun k_ hk_ hs_ => Or.elim hs_ (fun e_ => (hk_.1.1.2.1) e_) (fun e_ => (hk_.1.1.2.2) e_))) (fun k_ hk_ => ⟨hk_.1.1.1.1, hk_.1.1.1.2.1, hk_.1.1.1.2.2, hk_.1.1.2, hk_.1.2⟩)); replace BK223 := zA (blk_kept (uB BK223.out) hkp (fun hs_ => Or.elim hs_ (fun e_ => (fun e_ => (Kd.R_ne HO_244001.out BK223.out (by decide)) e_) e_) (fun e_ => (fun e_ => (Kd.R_ne HO_244002.out BK223.out (by decide)) e_) e_))); replace BK243 := zA (blk_kept (uB BK243.out) hkp (fun hs_ => Or.elim hs_ (fun e_ => (fun e_ => (Kd.R_ne HO_244001.out BK243.out (by decide)) e_) e_) (fun e_ => (fun e_ => (Kd.R_ne HO_244002.out BK243.out (by decide)) e_) e_))); replace HO_244001 := zA (Kd.R_reok rfl hy0 (fun k_ e_ => HO_244001.out.1 k_ e_)); replace HO_244002 := zA (Kd.R_reok rfl hy1 (fun k_ e_ => HO_244002.out.1 k_ e_)); replace HO252 := zA (Kd.R_mono (ok' := fun k_ => ax k_ (.slice Ao25 t237.length co25) ∧ ax k_ (.slice Ao26 t240.length co26) ∧ ax k_ (.slice Ao45 t253.length co45)) (Kd.R_keptB (HO252.out) hkp (fun k_ hk_ hs_ => Or.elim hs_ (fun e_ => (hk_.1.2) e_) (fun e_ => (hk_.2) e_))) (fun k_ hk_ => ⟨hk_.1.1.2, hk_.1.2, hk_.1.1.1⟩)); replace HO255 := zA (Kd.R_mono (ok' := fun k_ => ax k_ (.slice Ao25 t237.length co25) ∧ ax k_ (.slice Ao26 t240.length co26) ∧ ax k_ (.slice Ao44 t250.length co44)) (Kd.R_keptB (HO255.out) hkp (fun k_ hk_ hs_ => Or.elim hs_ (fun e_ => (hk_.1.2) e_) (fun e_ => (hk_.2) e_))) (fun k_ hk_ => ⟨hk_.1.1.2, hk_.1.2, hk_.1.1.1⟩)); replace HB := zA (hb); (try clear hb); (try clear hkp); (try clear hy0); (try clear hy1)))
      (try simp only [Act.put, ls, lz, ln])
      go_cut [61] (fun v61 wc => ∃ (kq : Nat) (x61_40 : Bool), v61 = .bool x61_40 ∧ Aside0 (laws_FnExactMatrixOf.j1 kq t232 t235 t244 x61_40 a0_0 l0_1 l0_2 = some r) ∧ Aside0 (kq ≤ kj10) ∧ Aside0 (Kd.S (Kd.slice 2 (Kd.int .i64)) 22 wc w.heap.size (fun k_ => k_ < N_ ∧ ax k_ (.slice Ao25 t237.length co25) ∧ ax k_ (.slice Ao26 t240.length co26)) v233 t232) ∧ Aside0 (Kd.S (Kd.slice 2 (Kd.int .i64)) 22 wc w.heap.size (fun k_ => N_ ≤ k_ ∧ ax k_ (.slice Ao25 t237.length co25) ∧ ax k_ (.slice Ao26 t240.length co26)) v245 t244) ∧ Aside0 (Kd.R (Kd.int .i64) 2 wc w.heap.size (fun k_ => ax k_ (.slice Ao26 t240.length co26)) (.slice Ao25 t237.length co25) t258) ∧ Aside0 (Kd.R (Kd.int .i64) 2 wc w.heap.size (fun k_ => ax k_ (.slice Ao25 t237.length co25)) (.slice Ao26 t240.length co26) t259) ∧ Aside0 (wc.heap[gb223]? = some (.cells #[.int .i64 a0_0, (.slice A0_1 l0_1.length c0_1), (.slice A0_2 l0_2.length c0_2)] 24 (0, 0))) ∧ Aside0 (wc.heap[gb243]? = some (.cells #[.int .i64 t236, (.slice Ao25 t237.length co25), (.slice Ao26 t240.length co26)] 29 (0, 0))) ∧ Aside0 (Below w.heap.size w wc))
      case first =>
       have H := HC41.out
       clear HC41
       by_cases c50 : t257 < 0
       rotate_left
       ·rw [if_neg c50] at H
        have c50b0 : decide (t257 < 0) = false := decide_eq_false c50
        clear c50
        (first | rw [c50b0] | (simp only [i64_w, i32_w]; rw [c50b0]) | skip)
        replace H := Option.bind_eq_some_iff.mp H
        obtain ⟨t260, A510, H⟩ := H
        replace H : (if t260 = true then (laws_FnExactMatrixOf.j1 kj10 t232 t235 t244 (t247 != t235) a0_0 l0_1 l0_2) else (laws_FnExactMatrixOf.j1 kj10 t232 t235 t244 true a0_0 l0_1 l0_2)) = some r := H
        have A51 := zA A510
        clear A510
        by_cases c52 : t260 = true
        ·subst c52
         have H1 : (laws_FnExactMatrixOf.j1 kj10 t232 t235 t244 (t247 != t235) a0_0 l0_1 l0_2) = some r := by rw [if_pos rfl] at H; exact H
         clear H
         have H := H1
         clear H1
         have H' := zA H
         clear H
         obtain ⟨Ao53, co53, eo53⟩ := Kd.S_slice HO_7.out
         subst eo53
         obtain ⟨Ao54, co54, eo54⟩ := Kd.S_slice HO_4.out
         subst eo54
         go_wp2_with (first | (go_at_call 11; (with_reducible refine (laws_eqInt64SS.calls kj10 _ _ t244 _ _ t232 true _ ?side1 ?side2 ?side3 ?side4 A51.out).mono ?_); (case side1 => exact uC ((Kd.S_reads' HO_7.out).2.2)); (case side2 => exact (Kd.S_reads' HO_7.out).2.1); (case side3 => exact uC ((Kd.S_reads' HO_4.out).2.2)); (case side4 => exact (Kd.S_reads' HO_4.out).2.1); rintro e w55 ⟨rfl, hb⟩; replace HO_4 := zA (Kd.S_below (by (with_reducible repeat (first | apply Kd.S_alloc | apply Kd.S_drewN | apply Kd.S_drew)); exact HO_4.out) hb); replace HO_7 := zA (Kd.S_below (by (with_reducible repeat (first | apply Kd.S_alloc | apply Kd.S_drewN | apply Kd.S_drew)); exact HO_7.out) hb); replace HO_244001 := xR HO_244001 hb; replace HO_244002 := xR HO_244002 hb; replace HO252 := xR HO252 hb; replace HO255 := xR HO255 hb; replace BK223 := xB BK223 hb; replace BK243 := xB BK243 hb; replace HB := xH HB hb; (try clear hb); (try clear hb2); (try clear hk); (try clear hi)))
         go_meet
         case rel => exact ⟨_, ((t247 != t235)), (by first | rfl | (simp; done) | (simp [*]; done)), H', ⟨by have := HJ10.out; first | omega | exact Nat.le_refl _⟩, ⟨by (with_reducible repeat (first | apply Kd.S_alloc | apply Kd.S_drewN | apply Kd.S_drew)); exact Kd.S_mono HO_4.out (fun _ hk => ⟨hk.1, ⟨hk.2.1, hk.2.2.1⟩⟩)⟩, ⟨by (with_reducible repeat (first | apply Kd.S_alloc | apply Kd.S_drewN | apply Kd.S_drew)); exact Kd.S_mono HO_7.out (fun _ hk => ⟨hk.1, ⟨hk.2.1, hk.2.2.1⟩⟩)⟩, ⟨uR (Kd.R_mono HO_244001.out (fun _ hk => hk.1.1))⟩, ⟨uR (Kd.R_mono HO_244002.out (fun _ hk => hk.1.1))⟩, ⟨uB BK223.out⟩, ⟨uB BK243.out⟩, ⟨uH HB.out⟩⟩
        ·replace c52 := Bool.eq_false_iff.mpr c52
         subst c52
         have H1 : (laws_FnExactMatrixOf.j1 kj10 t232 t235 t244 true a0_0 l0_1 l0_2) = some r := by rw [if_neg (show ¬ (false = true) by decide)] at H; exact H
         clear H
         have H := H1
         clear H1
         have H' := zA H
         clear H
         obtain ⟨Ao56, co56, eo56⟩ := Kd.S_slice HO_7.out
         subst eo56
         obtain ⟨Ao57, co57, eo57⟩ := Kd.S_slice HO_4.out
         subst eo57
         go_wp2_with (first | (go_at_call 11; (with_reducible refine (laws_eqInt64SS.calls kj10 _ _ t244 _ _ t232 false _ ?side1 ?side2 ?side3 ?side4 A51.out).mono ?_); (case side1 => exact uC ((Kd.S_reads' HO_7.out).2.2)); (case side2 => exact (Kd.S_reads' HO_7.out).2.1); (case side3 => exact uC ((Kd.S_reads' HO_4.out).2.2)); (case side4 => exact (Kd.S_reads' HO_4.out).2.1); rintro e w58 ⟨rfl, hb⟩; replace HO_4 := zA (Kd.S_below (by (with_reducible repeat (first | apply Kd.S_alloc | apply Kd.S_drewN | apply Kd.S_drew)); exact HO_4.out) hb); replace HO_7 := zA (Kd.S_below (by (with_reducible repeat (first | apply Kd.S_alloc | apply Kd.S_drewN | apply Kd.S_drew)); exact HO_7.out) hb); replace HO_244001 := xR HO_244001 hb; replace HO_244002 := xR HO_244002 hb; replace HO252 := xR HO252 hb; replace HO255 := xR HO255 hb; replace BK223 := xB BK223 hb; replace BK243 := xB BK243 hb; replace HB := xH HB hb; (try clear hb); (try clear hb2); (try clear hk); (try clear hi)))
         go_meet
         case rel => exact ⟨_, (true), (by first | rfl | (simp; done) | (simp [*]; done)), H', ⟨by have := HJ10.out; first | omega | exact Nat.le_refl _⟩, ⟨by (with_reducible repeat (first | apply Kd.S_alloc | apply Kd.S_drewN | apply Kd.S_drew)); exact Kd.S_mono HO_4.out (fun _ hk => ⟨hk.1, ⟨hk.2.1, hk.2.2.1⟩⟩)⟩, ⟨by (with_reducible repeat (first | apply Kd.S_alloc | apply Kd.S_drewN | apply Kd.S_drew)); exact Kd.S_mono HO_7.out (fun _ hk => ⟨hk.1, ⟨hk.2.1, hk.2.2.1⟩⟩)⟩, ⟨uR (Kd.R_mono HO_244001.out (fun _ hk => hk.1.1))⟩, ⟨uR (Kd.R_mono HO_244002.out (fun _ hk => hk.1.1))⟩, ⟨uB BK223.out⟩, ⟨uB BK243.out⟩, ⟨uH HB.out⟩⟩
       rw [if_pos c50] at H
       have c50b0 : decide (t257 < 0) = true := decide_eq_true c50
       clear c50
       (first | rw [c50b0] | (simp only [i64_w, i32_w]; rw [c50b0]) | skip)
       have H' := zA H
       clear H
       go_wp2
       go_meet
       case rel => exact ⟨_, (true), (by first | rfl | (simp; done) | (simp [*]; done)), H', ⟨by have := HJ10.out; first | omega | exact Nat.le_refl _⟩, ⟨by (with_reducible repeat (first | apply Kd.S_alloc | apply Kd.S_drewN | apply Kd.S_drew)); exact Kd.S_mono HO_4.out (fun _ hk => ⟨hk.1, ⟨hk.2.1, hk.2.2.1⟩⟩)⟩, ⟨by (with_reducible repeat (first | apply Kd.S_alloc | apply Kd.S_drewN | apply Kd.S_drew)); exact Kd.S_mono HO_7.out (fun _ hk => ⟨hk.1, ⟨hk.2.1, hk.2.2.1⟩⟩)⟩, ⟨uR (Kd.R_mono HO_244001.out (fun _ hk => hk.1.1))⟩, ⟨uR (Kd.R_mono HO_244002.out (fun _ hk => hk.1.1))⟩, ⟨uB BK223.out⟩, ⟨uB BK243.out⟩, ⟨uH HB.out⟩⟩
      case rest =>
       clear HC41
       (try clear c1);(try clear c2);(try clear p2);(try clear c3);(try clear c3b0);(try clear c4);(try clear c5);(try clear c7);(try clear c8);(try clear c9);(try clear c10);(try clear c11);(try clear c12);(try clear c13);(try clear c23);(try clear c29);(try clear c36);(try clear c39);(try clear c47);(try clear c50);(try clear c50b0);(try clear c52);(try clear hcz13_0);(try clear hcz13_1);(try clear hcz13_2)
       (try clear hcz15_0);(try clear hcz15_1);(try clear hcz15_2);(try clear hcz20_0);(try clear hcz20_1);(try clear hcz20_2);(try clear hcz24_0);(try clear hcz24_1);(try clear hcz24_2);(try clear hcz48_0);(try clear hcz48_1);(try clear hcz48_2);(try clear hcz5_0);(try clear hcz5_1);(try clear hcz5_2);(try clear hfz13_0);(try clear hfz13_1);(try clear hfz13_2);(try clear hfz15_0);(try clear hfz15_1)
       (try clear hfz15_2);(try clear hfz20_0);(try clear hfz20_1);(try clear hfz20_2);(try clear hfz24_0);(try clear hfz24_1);(try clear hfz24_2);(try clear hfz48_0);(try clear hfz48_1);(try clear hfz48_2);(try clear hfz5_0);(try clear hfz5_1);(try clear hfz5_2);(try clear p2)
       obtain ⟨kq, x61_40, rfl, HA, HJ40, HO_4, HO_7, HO_244001, HO_244002, BK223, BK243, HB⟩ := hcut
       have hl244001_40 := (Kd.R_reads' HO_244001.out).1
       rw [hl244001_40] at HO_244001
       (try simp only [hl244001_40])
       (try simp only [hl244001_40] at BK223)
       (try simp only [hl244001_40] at BK243)
       (try simp only [hl244001_40] at HO_4)
       (try simp only [hl244001_40] at HO_7)
       (try simp only [hl244001_40] at HO_244002)
       have hl244002_40 := (Kd.R_reads' HO_244002.out).1
       rw [hl244002_40] at HO_244002
       (try simp only [hl244002_40])
       (try simp only [hl244002_40] at BK223)
       (try simp only [hl244002_40] at BK243)
       (try simp only [hl244002_40] at HO_4)
       (try simp only [hl244002_40] at HO_7)
       (try simp only [hl244002_40] at HO_244001)
       cases kq with
       | zero => exact absurd HA.out (by simp [laws_FnExactMatrixOf.j1])
       | succ kj40 =>
        have H := HA.out
        clear HA
        simp only [laws_FnExactMatrixOf.j1] at H
        by_cases c59 : x61_40 = true
        ·subst c59
         have H1 : (some false) = some r := by rw [if_pos rfl] at H; exact H
         clear H
         have H := H1
         clear H1
         rw [HRT.out] at H
         exact absurd H (by simp)
        ·replace c59 := Bool.eq_false_iff.mpr c59
         subst c59
         have H1 : ((laws_markInt64SS.f kj40 t244 1).bind fun bt261 => ((laws_heldInt64SS.f kj40 bt261.2 1).bind fun t263 => (if t263 < 0 then (some false) else (if t263 = bt261.1 then ((laws_toJacobi.f kj40 a0_0 l0_1 l0_2).bind fun bt264 => ((impl_MatrixOf.f kj40 bt264.1 bt264.2.1 bt264.2.2).bind fun bt271 => ((laws_eqInt64SS.f kj40 bt271.1 t232).bind fun t275 => (if t275 = true then (laws_FnExactMatrixOf.j2 kj40 bt261.2 bt261.1 (bt271.2 != t235)) else (laws_FnExactMatrixOf.j2 kj40 bt261.2 bt261.1 true))))) else (some false))))) = some r := by rw [if_neg (show ¬ (false = true) by decide)] at H; exact H
         clear H
         have H := H1
         clear H1
         replace H := Option.bind_eq_some_iff.mp H
         obtain ⟨⟨t261, t262⟩, A600, H⟩ := H
         replace H : ((laws_heldInt64SS.f kj40 t262 1).bind fun t263 => (if t263 < 0 then (some false) else (if t263 = t261 then ((laws_toJacobi.f kj40 a0_0 l0_1 l0_2).bind fun bt264 => ((impl_MatrixOf.f kj40 bt264.1 bt264.2.1 bt264.2.2).bind fun bt271 => ((laws_eqInt64SS.f kj40 bt271.1 t232).bind fun t275 => (if t275 = true then (laws_FnExactMatrixOf.j2 kj40 t262 t261 (bt271.2 != t235)) else (laws_FnExactMatrixOf.j2 kj40 t262 t261 true))))) else (some false)))) = some r := H
         have A60 := zA A600
         clear A600
         replace H := Option.bind_eq_some_iff.mp H
         obtain ⟨t263, A610, H⟩ := H
         replace H : (if t263 < 0 then (some false) else (if t263 = t261 then ((laws_toJacobi.f kj40 a0_0 l0_1 l0_2).bind fun bt264 => ((impl_MatrixOf.f kj40 bt264.1 bt264.2.1 bt264.2.2).bind fun bt271 => ((laws_eqInt64SS.f kj40 bt271.1 t232).bind fun t275 => (if t275 = true then (laws_FnExactMatrixOf.j2 kj40 t262 t261 (bt271.2 != t235)) else (laws_FnExactMatrixOf.j2 kj40 t262 t261 true))))) else (some false))) = some r := H
         have A61 := zA A610
         clear A610
         by_cases c62 : t263 < 0
         rotate_left
         ·rw [if_neg c62] at H
          have c62b0 : decide (t263 < 0) = false := decide_eq_false c62
          clear c62
          by_cases c63 : t263 = t261
          rotate_left
          ·rw [if_neg c63] at H
           have c63b0 : (t263 == t261) = false := beq_eq_false_iff_ne.mpr c63
           have c63b1 : (t263 != t261) = true := bne_iff_ne.mpr c63
           rw [HRT.out] at H
           exact absurd H (by simp)
          rw [if_pos c63] at H
          have c63b0 : (t263 == t261) = true := beq_iff_eq.mpr c63
          have c63b1 : (t263 != t261) = false := bne_eq_false_iff_eq.mpr c63
          clear c63
          replace H := Option.bind_eq_some_iff.mp H
          obtain ⟨⟨t264, t265, t268⟩, A640, H⟩ := H
          replace H : ((impl_MatrixOf.f kj40 t264 t265 t268).bind fun bt271 => ((laws_eqInt64SS.f kj40 bt271.1 t232).bind fun t275 => (if t275 = true then (laws_FnExactMatrixOf.j2 kj40 t262 t261 (bt271.2 != t235)) else (laws_FnExactMatrixOf.j2 kj40 t262 t261 true)))) = some r := H
          have A64 := zA A640
          clear A640
          replace H := Option.bind_eq_some_iff.mp H
          obtain ⟨⟨t271, t274⟩, A650, H⟩ := H
          replace H : ((laws_eqInt64SS.f kj40 t271 t232).bind fun t275 => (if t275 = true then (laws_FnExactMatrixOf.j2 kj40 t262 t261 (t274 != t235)) else (laws_FnExactMatrixOf.j2 kj40 t262 t261 true))) = some r := H
          have A65 := zA A650
          clear A650
          have HC66 := zA H
          clear H
          obtain ⟨Ao67, co67, eo67⟩ := Kd.S_slice HO_7.out
          subst eo67
          go_upto_region 25 with (first | ((with_reducible refine gate_callee (f := 14) rfl ?_); refine gL (some 64) Try.func14 #[.slice Ao67 t244.length co67, .int .i64 1] ?_; (with_reducible refine (laws_markInt64SS.calls kj40 (fun k_ => ((N_ ≤ k_ ∧ ax k_ (.slice Ao25 t258.length co25) ∧ ax k_ (.slice Ao26 t259.length co26)) ∧ k_ ≠ gb223) ∧ k_ ≠ gb243) (.slice Ao67 t244.length co67) t244 1 t261 t262 w _ ?side1 ?side2 A60.out).mono ?_); (case side1 => repeat (first | (with_reducible first | exact HB.out | apply below_alloc | apply pw_below_drewN | apply below_drew1 | refine below_set ?_ GE223.out | refine below_set ?_ GE243.out) | exact HB.out)); (case side2 => exact Kd.S_types (Kd.S_types HO_7.out BK223.out (by decide)) BK243.out (by decide)); rintro e w68 ⟨rfl, hy0, hb, hkp⟩; refine ⟨_, rfl, ?_⟩; replace HO_4 := zA (Kd.S_mono (ok' := fun k_ => k_ < N_ ∧ ax k_ (.slice Ao25 t258.length co25) ∧ ax k_ (.slice Ao26 t259.length co26)) (Kd.S_keptB (HO_4.out) hkp (fun k_ hk_ hs_ => absurd hs_.1.1.1 (Nat.not_le.2 hk_.1))) (fun k_ hk_ => hk_.1)); replace HO_7 := zA (Kd.S_mono hy0 (fun _ hk_ => hk_.1.1)); replace HO_244001 := zA (Kd.R_mono (ok' := fun k_ => ax k_ (.slice Ao26 t259.length co26)) (Kd.R_keptB (Kd.R_tight rfl HO_244001.out) hkp (fun k_ hk_ hs_ => hs_.1.1.2.1 hk_)) (fun k_ hk_ => HO_244001.out.1 k_ hk_.1.symm)); replace HO_244002 := zA (Kd.R_mono (ok' := fun k_ => ax k_ (.slice Ao25 t258.length co25)) (Kd.R_keptB (Kd.R_tight rfl HO_244002.out) hkp (fun k_ hk_ hs_ => hs_.1.1.2.2 hk_)) (fun k_ hk_ => HO_244002.out.1 k_ hk_.1.symm)); replace BK223 := zA (blk_kept (uB BK223.out) hkp (fun hs_ => hs_.1.2 rfl)); replace BK243 := zA (blk_kept (uB BK243.out) hkp (fun hs_ => hs_.2 rfl)); replace HB := zA (hb); (try clear hb); (try clear hkp); (try clear hy0)) | ((with_reducible refine gate_callee (f := 15) rfl ?_); refine goesL_ (some 67) rfl rfl Try.func15 (by kernel_rfl) rfl #[.slice Ao67 t262.length co67, .int .i64 1] rfl (by (try simp only [la, lb, lc]); first | done | (rw [show t262.length = t244.length from (Kd.S_reads' HO_7.out).1.symm] <;> rfl) | rfl | (simp only [ld, le]; rfl)) ?_; (with_reducible refine (laws_heldInt64SS.calls kj40 _ _ t262 1 t263 _ ?side1 ?side2 A61.out).mono ?_); (case side1 => exact uC ((Kd.S_reads' HO_7.out).2.2)); (case side2 => rw [show t262.length = t244.length from (Kd.S_reads' HO_7.out).1.symm]; exact (Kd.S_reads' HO_7.out).2.1); rintro e w' ⟨rfl, ⟨nd, rfl⟩⟩; refine ⟨_, rfl, ?_⟩; have hnb69 := NB223_243.out; have hnc69 := NB243_223.out; have hcz70_0 := bc BK223 0; have hcz70_1 := bc BK223 1; have hcz70_2 := bc BK223 2; have hfz70_0 := bf BK223 0; have hfz70_1 := bf BK223 1; have hfz70_2 := bf BK223 2) | ((with_reducible refine gate_callee (f := 9) rfl ?_); refine gL (some 75) Try.func9 #[.agg #[.int .i64 a0_0, .slice A0_1 l0_1.length c0_1, .slice A0_2 l0_2.length c0_2]] ?_; (with_reducible refine (laws_toJacobi.calls kj40 a0_0 _ _ l0_1 _ _ l0_2 t264 t265 t268 _ ?side1 ?side2 ?side3 ?side4 A64.out).mono ?_); (case side1 => repeat (first | exact (Kd.C_below HR0_1.out (uH HB.out)) | (with_reducible refine Kd.C_alloc ?_ _) | (with_reducible refine Kd.C_drewN ?_ _) | (with_reducible refine Kd.C_drew ?_))); (case side2 => exact HC0_1.out); (case side3 => repeat (first | exact (Kd.C_below HR0_2.out (uH HB.out)) | (with_reducible refine Kd.C_alloc ?_ _) | (with_reducible refine Kd.C_drewN ?_ _) | (with_reducible refine Kd.C_drew ?_))); (case side4 => exact HC0_2.out); rintro e w71 ⟨v266, v269, rfl, ho0, ho1, hb⟩; refine ⟨_, rfl, ?_⟩; replace HO_4 := zA (Kd.S_mono (Kd.S_told (Kd.S_told (Kd.S_old (by (with_reducible repeat (first | apply Kd.S_alloc | apply Kd.S_drewN | apply Kd.S_drew)); exact HO_4.out) hb) (Kd.R_base ho0)) (Kd.R_base ho1)) (fun _ h_ => h_.1)); replace HO_7 := zA (Kd.S_mono (Kd.S_told (Kd.S_told (Kd.S_old (by (with_reducible repeat (first | apply Kd.S_alloc | apply Kd.S_drewN | apply Kd.S_drew)); exact HO_7.out) hb) (Kd.R_base ho0)) (Kd.R_base ho1)) (fun _ h_ => h_.1)); have HO267 := zA (Kd.R_lower (Kd.R_new' (Kd.R_new' ho0 (Kd.R_lt (uR HO_244001.out))) (Kd.R_lt (uR HO_244002.out))) (below_size (uH HB.out))); have HO270 := zA (Kd.R_lower (Kd.R_new' (Kd.R_new' ho1 (Kd.R_lt (uR HO_244001.out))) (Kd.R_lt (uR HO_244002.out))) (below_size (uH HB.out))); replace HO_244001 := zA (Kd.R_mono (Kd.R_told (Kd.R_told (Kd.R_old (uR HO_244001.out) hb) (Kd.R_base ho0)) (Kd.R_base ho1)) (fun _ h_ => h_.1)); replace HO_244002 := zA (Kd.R_mono (Kd.R_told (Kd.R_told (Kd.R_old (uR HO_244002.out) hb) (Kd.R_base ho0)) (Kd.R_base ho1)) (fun _ h_ => h_.1)); replace BK223 := xB BK223 hb; replace BK243 := xB BK243 hb; replace HB := xH HB hb; (try clear hb); (try clear hb2); (try clear hk); (try clear hi); (try clear ho0); (try clear ho1); obtain ⟨Ao72, co72, eo72⟩ := Kd.R_slice HO267.out; subst eo72; obtain ⟨Ao73, co73, eo73⟩ := Kd.R_slice HO270.out; subst eo73) | ((with_reducible refine gate_callee (f := 10) rfl ?_); refine gL (some 76) Try.func10 #[.agg #[.int .i64 t264, .slice Ao72 t265.length co72, .slice Ao73 t268.length co73]] ?_; (with_reducible refine (impl_MatrixOf.calls kj40 t264 _ _ t265 _ _ t268 t271 t274 _ ?side1 ?side2 ?side3 ?side4 A65.out).mono ?_); (case side1 => exact uC ((Kd.R_reads' HO267.out).2.2)); (case side2 => exact (Kd.R_reads' HO267.out).2.1); (case side3 => exact uC ((Kd.R_reads' HO270.out).2.2)); (case side4 => exact (Kd.R_reads' HO270.out).2.1); rintro e w74 ⟨v272, rfl, ho0, hb⟩; refine ⟨_, rfl, ?_⟩; have HO273 := zA (Kd.S_lower (Kd.S_new' (Kd.S_new' (Kd.S_new' (Kd.S_new' (Kd.S_new' (Kd.S_new' ho0 (Kd.S_lt (by (with_reducible repeat (first | apply Kd.S_alloc | apply Kd.S_drewN | apply Kd.S_drew)); exact HO_4.out))) (Kd.S_lt (by (with_reducible repeat (first | apply Kd.S_alloc | apply Kd.S_drewN | apply Kd.S_drew)); exact HO_7.out))) (Kd.R_lt (uR HO_244001.out))) (Kd.R_lt (uR HO_244002.out))) (Kd.R_lt (uR HO267.out))) (Kd.R_lt (uR HO270.out))) (below_size (uH HB.out))); replace HO_4 := zA (Kd.S_elder' (by (with_reducible repeat (first | apply Kd.S_alloc | apply Kd.S_drewN | apply Kd.S_drew)); exact HO_4.out) (Kd.S_base ho0) hb); replace HO_7 := zA (Kd.S_elder' (by (with_reducible repeat (first | apply Kd.S_alloc | apply Kd.S_drewN | apply Kd.S_drew)); exact HO_7.out) (Kd.S_base ho0) hb); replace HO_244001 := xR HO_244001 hb; replace HO_244002 := xR HO_244002 hb; replace HO267 := xR HO267 hb; replace HO270 := xR HO270 hb; replace BK223 := xB BK223 hb; replace BK243 := xB BK243 hb; replace HB := xH HB hb; (try clear hb); (try clear hb2); (try clear hk); (try clear hi); (try clear ho0)))
          (try simp only [Act.put, ls, lz, ln])
          go_cut [87] (fun v87 wc => ∃ (kq : Nat) (x87_65 : Bool), v87 = .bool x87_65 ∧ Aside0 (laws_FnExactMatrixOf.j2 kq t262 t261 x87_65 = some r) ∧ Aside0 (kq ≤ kj40) ∧ Aside0 (Kd.S (Kd.slice 2 (Kd.int .i64)) 22 wc w.heap.size (fun k_ => ax k_ (.slice Ao25 t258.length co25) ∧ ax k_ (.slice Ao26 t259.length co26)) (.slice Ao67 t244.length co67) t262) ∧ Aside0 (Kd.R (Kd.int .i64) 2 wc w.heap.size (fun k_ => ax k_ (.slice Ao26 t259.length co26)) (.slice Ao25 t258.length co25) t258) ∧ Aside0 (Kd.R (Kd.int .i64) 2 wc w.heap.size (fun k_ => ax k_ (.slice Ao25 t258.length co25)) (.slice Ao26 t259.length co26) t259) ∧ Aside0 (wc.heap[gb223]? = some (.cells #[.int .i64 a0_0, (.slice A0_1 l0_1.length c0_1), (.slice A0_2 l0_2.length c0_2)] 24 (0, 0))) ∧ Aside0 (wc.heap[gb243]? = some (.cells #[.int .i64 t236, (.slice Ao25 t258.length co25), (.slice Ao26 t259.length co26)] 29 (0, 0))) ∧ Aside0 (Below w.heap.size w wc))
          case first =>
           have H := HC66.out
           clear HC66
           replace H := Option.bind_eq_some_iff.mp H
           obtain ⟨t275, A750, H⟩ := H
           replace H : (if t275 = true then (laws_FnExactMatrixOf.j2 kj40 t262 t261 (t274 != t235)) else (laws_FnExactMatrixOf.j2 kj40 t262 t261 true)) = some r := H
           have A75 := zA A750
           clear A750
           by_cases c76 : t275 = true
           ·subst c76
            have H1 : (laws_FnExactMatrixOf.j2 kj40 t262 t261 (t274 != t235)) = some r := by rw [if_pos rfl] at H; exact H
            clear H
            have H := H1
            clear H1
            have H' := zA H
            clear H
            obtain ⟨Ao77, co77, eo77⟩ := Kd.S_slice HO273.out
            subst eo77
            obtain ⟨Ao78, co78, eo78⟩ := Kd.S_slice HO_4.out
            subst eo78
            go_wp2_with (first | ((with_reducible refine gate_callee (f := 11) rfl ?_); refine gL (some 81) Try.func11 #[.slice Ao77 t271.length co77, .slice Ao78 t232.length co78] ?_; (with_reducible refine (laws_eqInt64SS.calls kj40 _ _ t271 _ _ t232 true _ ?side1 ?side2 ?side3 ?side4 A75.out).mono ?_); (case side1 => exact uC ((Kd.S_reads' HO273.out).2.2)); (case side2 => exact (Kd.S_reads' HO273.out).2.1); (case side3 => exact uC ((Kd.S_reads' HO_4.out).2.2)); (case side4 => exact (Kd.S_reads' HO_4.out).2.1); rintro e w79 ⟨rfl, hb⟩; refine ⟨_, rfl, ?_⟩; replace HO_4 := zA (Kd.S_below (by (with_reducible repeat (first | apply Kd.S_alloc | apply Kd.S_drewN | apply Kd.S_drew)); exact HO_4.out) hb); replace HO_7 := zA (Kd.S_below (by (with_reducible repeat (first | apply Kd.S_alloc | apply Kd.S_drewN | apply Kd.S_drew)); exact HO_7.out) hb); replace HO_244001 := xR HO_244001 hb; replace HO_244002 := xR HO_244002 hb; replace HO267 := xR HO267 hb; replace HO270 := xR HO270 hb; replace HO273 := zA (Kd.S_below (by (with_reducible repeat (first | apply Kd.S_alloc | apply Kd.S_drewN | apply Kd.S_drew)); exact HO273.out) hb); replace BK223 := xB BK223 hb; replace BK243 := xB BK243 hb; replace HB := xH HB hb; (try clear hb); (try clear hb2); (try clear hk); (try clear hi)))
            go_meet
            case rel => exact ⟨_, ((t274 != t235)), (by first | rfl | (simp; done) | (simp [*]; done)), H', ⟨by have := HJ10.out; have := HJ40.out; first | omega | exact Nat.le_refl _⟩, ⟨by (try simp only [hl244001_40]); (try simp only [hl244002_40]); (with_reducible repeat (first | apply Kd.S_alloc | apply Kd.S_drewN | apply Kd.S_drew)); exact Kd.S_mono HO_7.out (fun _ hk => ⟨hk.1.1.1.2.1, hk.1.1.1.2.2⟩)⟩, ⟨by (try simp only [hl244001_40]); (try simp only [hl244002_40]); (with_reducible repeat (first | apply Kd.R_alloc | apply Kd.R_drewN | apply Kd.R_drew)); exact Kd.R_mono HO_244001.out (fun _ hk => hk.1.1)⟩, ⟨by (try simp only [hl244001_40]); (try simp only [hl244002_40]); (with_reducible repeat (first | apply Kd.R_alloc | apply Kd.R_drewN | apply Kd.R_drew)); exact Kd.R_mono HO_244002.out (fun _ hk => hk.1.1)⟩, ⟨by (try simp only [hl244001_40]); (try simp only [hl244002_40]); (repeat refine up1 ?_); exact BK223.out⟩, ⟨by (try simp only [hl244001_40]); (try simp only [hl244002_40]); (repeat refine up1 ?_); exact BK243.out⟩, ⟨uH HB.out⟩⟩
           ·replace c76 := Bool.eq_false_iff.mpr c76
            subst c76
            have H1 : (laws_FnExactMatrixOf.j2 kj40 t262 t261 true) = some r := by rw [if_neg (show ¬ (false = true) by decide)] at H; exact H
            clear H
            have H := H1
            clear H1
            have H' := zA H
            clear H
            obtain ⟨Ao80, co80, eo80⟩ := Kd.S_slice HO273.out
            subst eo80
            obtain ⟨Ao81, co81, eo81⟩ := Kd.S_slice HO_4.out
            subst eo81
            go_wp2_with (first | ((with_reducible refine gate_callee (f := 11) rfl ?_); refine gL (some 81) Try.func11 #[.slice Ao80 t271.length co80, .slice Ao81 t232.length co81] ?_; (with_reducible refine (laws_eqInt64SS.calls kj40 _ _ t271 _ _ t232 false _ ?side1 ?side2 ?side3 ?side4 A75.out).mono ?_); (case side1 => exact uC ((Kd.S_reads' HO273.out).2.2)); (case side2 => exact (Kd.S_reads' HO273.out).2.1); (case side3 => exact uC ((Kd.S_reads' HO_4.out).2.2)); (case side4 => exact (Kd.S_reads' HO_4.out).2.1); rintro e w82 ⟨rfl, hb⟩; refine ⟨_, rfl, ?_⟩; replace HO_4 := zA (Kd.S_below (by (with_reducible repeat (first | apply Kd.S_alloc | apply Kd.S_drewN | apply Kd.S_drew)); exact HO_4.out) hb); replace HO_7 := zA (Kd.S_below (by (with_reducible repeat (first | apply Kd.S_alloc | apply Kd.S_drewN | apply Kd.S_drew)); exact HO_7.out) hb); replace HO_244001 := xR HO_244001 hb; replace HO_244002 := xR HO_244002 hb; replace HO267 := xR HO267 hb; replace HO270 := xR HO270 hb; replace HO273 := zA (Kd.S_below (by (with_reducible repeat (first | apply Kd.S_alloc | apply Kd.S_drewN | apply Kd.S_drew)); exact HO273.out) hb); replace BK223 := xB BK223 hb; replace BK243 := xB BK243 hb; replace HB := xH HB hb; (try clear hb); (try clear hb2); (try clear hk); (try clear hi)))
            go_meet
            case rel => exact ⟨_, (true), (by first | rfl | (simp; done) | (simp [*]; done)), H', ⟨by have := HJ10.out; have := HJ40.out; first | omega | exact Nat.le_refl _⟩, ⟨by (try simp only [hl244001_40]); (try simp only [hl244002_40]); (with_reducible repeat (first | apply Kd.S_alloc | apply Kd.S_drewN | apply Kd.S_drew)); exact Kd.S_mono HO_7.out (fun _ hk => ⟨hk.1.1.1.2.1, hk.1.1.1.2.2⟩)⟩, ⟨by (try simp only [hl244001_40]); (try simp only [hl244002_40]); (with_reducible repeat (first | apply Kd.R_alloc | apply Kd.R_drewN | apply Kd.R_drew)); exact Kd.R_mono HO_244001.out (fun _ hk => hk.1.1)⟩, ⟨by (try simp only [hl244001_40]); (try simp only [hl244002_40]); (with_reducible repeat (first | apply Kd.R_alloc | apply Kd.R_drewN | apply Kd.R_drew)); exact Kd.R_mono HO_244002.out (fun _ hk => hk.1.1)⟩, ⟨by (try simp only [hl244001_40]); (try simp only [hl244002_40]); (repeat refine up1 ?_); exact BK223.out⟩, ⟨by (try simp only [hl244001_40]); (try simp only [hl244002_40]); (repeat refine up1 ?_); exact BK243.out⟩, ⟨uH HB.out⟩⟩
          case rest =>
           clear HC66
           (try clear c1);(try clear c2);(try clear p2);(try clear c3);(try clear c3b0);(try clear c4);(try clear c5);(try clear c6);(try clear c7);(try clear c8);(try clear c9);(try clear c10);(try clear c11);(try clear c12);(try clear c13);(try clear c14);(try clear c15);(try clear c23);(try clear c29);(try clear c36);(try clear c39);(try clear c47);(try clear c50);(try clear c50b0);(try clear c52)
           (try clear c59);(try clear c62);(try clear c62b0);(try clear c63);(try clear c63b0);(try clear c63b1);(try clear c69);(try clear c76);(try clear hcz13_0);(try clear hcz13_1);(try clear hcz13_2);(try clear hcz15_0);(try clear hcz15_1);(try clear hcz15_2);(try clear hcz20_0);(try clear hcz20_1);(try clear hcz20_2);(try clear hcz24_0);(try clear hcz24_1);(try clear hcz24_2);(try clear hcz48_0)
           (try clear hcz48_1);(try clear hcz48_2);(try clear hcz5_0);(try clear hcz5_1);(try clear hcz5_2);(try clear hcz70_0);(try clear hcz70_1);(try clear hcz70_2);(try clear hfz13_0);(try clear hfz13_1);(try clear hfz13_2);(try clear hfz15_0);(try clear hfz15_1);(try clear hfz15_2);(try clear hfz20_0);(try clear hfz20_1);(try clear hfz20_2);(try clear hfz24_0);(try clear hfz24_1);(try clear hfz24_2)
           (try clear hfz48_0);(try clear hfz48_1);(try clear hfz48_2);(try clear hfz5_0);(try clear hfz5_1);(try clear hfz5_2);(try clear hfz70_0);(try clear hfz70_1);(try clear hfz70_2);(try clear p2)
           obtain ⟨kq, x87_65, rfl, HA, HJ65, HO_7, HO_244001, HO_244002, BK223, BK243, HB⟩ := hcut
           have hl7_65 := (Kd.S_reads' HO_7.out).1
           rw [hl7_65] at HO_7
           (try simp only [hl7_65])
           (try simp only [hl7_65] at BK223)
           (try simp only [hl7_65] at BK243)
           (try simp only [hl7_65] at HO_244001)
           (try simp only [hl7_65] at HO_244002)
           cases kq with
           | zero => exact absurd HA.out (by simp [laws_FnExactMatrixOf.j2])
           | succ kj65 =>
            have H := HA.out
            clear HA
            simp only [laws_FnExactMatrixOf.j2] at H
            by_cases c83 : x87_65 = true
            ·subst c83
             have H1 : (some false) = some r := by rw [if_pos rfl] at H; exact H
             clear H
             have H := H1
             clear H1
             rw [HRT.out] at H
             exact absurd H (by simp)
            ·replace c83 := Bool.eq_false_iff.mpr c83
             subst c83
             have H1 : ((laws_heldInt64SS.f kj65 t262 1).bind fun t276 => (if t276 < 0 then (some false) else (if t276 = t261 then (some true) else (some false)))) = some r := by rw [if_neg (show ¬ (false = true) by decide)] at H; exact H
             clear H
             have H := H1
             clear H1
             replace H := Option.bind_eq_some_iff.mp H
             obtain ⟨t276, A840, H⟩ := H
             replace H : (if t276 < 0 then (some false) else (if t276 = t261 then (some true) else (some false))) = some r := H
             have A84 := zA A840
             clear A840
             by_cases c85 : t276 < 0
             rotate_left
             ·rw [if_neg c85] at H
              have c85b0 : decide (t276 < 0) = false := decide_eq_false c85
              clear c85
              by_cases c86 : t276 = t261
              rotate_left
              ·rw [if_neg c86] at H
               have c86b0 : (t276 == t261) = false := beq_eq_false_iff_ne.mpr c86
               have c86b1 : (t276 != t261) = true := bne_iff_ne.mpr c86
               rw [HRT.out] at H
               exact absurd H (by simp)
              rw [if_pos c86] at H
              have c86b0 : (t276 == t261) = true := beq_iff_eq.mpr c86
              have c86b1 : (t276 != t261) = false := bne_eq_false_iff_eq.mpr c86
              clear c86
              obtain rfl := Option.some.inj H
              go_wp2_with (first | ((with_reducible refine gate_callee (f := 15) rfl ?_); refine gL (some 90) Try.func15 #[.slice Ao67 t262.length co67, .int .i64 1] ?_; (with_reducible refine (laws_heldInt64SS.calls kj65 _ _ t262 1 t276 _ ?side1 ?side2 A84.out).mono ?_); (case side1 => exact uC ((Kd.S_reads' HO_7.out).2.2)); (case side2 => exact (Kd.S_reads' HO_7.out).2.1); rintro e w' ⟨rfl, ⟨nd, rfl⟩⟩; refine ⟨_, rfl, ?_⟩))
              go_ret
              exact ⟨by first | rfl | (simp [errW_none, errW_some] <;> rfl) | (simp [*, errW_none, errW_some] <;> rfl), uH HB.out⟩
             rw [if_pos c85] at H
             have c85b0 : decide (t276 < 0) = true := decide_eq_true c85
             clear c85
             rw [HRT.out] at H
             exact absurd H (by simp)
         rw [if_pos c62] at H
         have c62b0 : decide (t263 < 0) = true := decide_eq_true c62
         clear c62
         rw [HRT.out] at H
         exact absurd H (by simp)
     ·replace c39 := Bool.eq_false_iff.mpr c39
      subst c39
      have H1 : (some false) = some r := by rw [if_neg (show ¬ (false = true) by decide)] at H; exact H
      clear H
      have H := H1
      clear H1
      rw [HRT.out] at H
      exact absurd H (by simp)

 rw [if_pos c3] at H
 have c3b0 : decide (t224 < 0) = true := decide_eq_true c3
 clear c3
 obtain rfl := Option.some.inj H
 go_enter Try.func3, Try.ntmps3
 go_wp2_with (first | ((with_reducible refine gate_dst (N := 1) rfl ?_); refine bx 1 #[.int .i64 a0_0, .slice A0_1 l0_1.length c0_1, .slice A0_2 l0_2.length c0_2] 24 ?_; intro gb223 hg w4 hbox hb; have BK223 := zA (hbox); have GW223 := gq HB hg; have GE223 := gq HB hg; replace HB := xH HB hb; have := geI GE223; clear hb hbox hg; have hcz5_0 := bc BK223 0; have hcz5_1 := bc BK223 1; have hcz5_2 := bc BK223 2; have hfz5_0 := bf BK223 0; have hfz5_1 := bf BK223 1; have hfz5_2 := bf BK223 2) | ((with_reducible refine gate_callee (f := 7) rfl ?_); refine gL (some 16) Try.func7 #[.agg #[.int .i64 a0_0, .slice A0_1 l0_1.length c0_1, .slice A0_2 l0_2.length c0_2], .int .i64 1048576] ?_; (with_reducible refine (laws_szJacobi.calls a0_0 _ _ l0_1 _ _ l0_2 1048576 t224 _ ?side1 ?side2 ?side3 ?side4 A2.out).mono ?_); (case side1 => exact uC ((Kd.C_below HR0_1.out HB.out))); (case side2 => exact HC0_1.out); (case side3 => exact uC ((Kd.C_below HR0_2.out HB.out))); (case side4 => exact HC0_2.out); rintro e w6 ⟨rfl, hb⟩; refine ⟨_, rfl, ?_⟩; replace BK223 := xB BK223 hb; replace HB := xH HB hb; (try clear hb); (try clear hb2); (try clear hk); (try clear hi)))
 go_ret
 exact ⟨by first | rfl | (simp [errW_none, errW_some] <;> rfl) | (simp [*, errW_none, errW_some] <;> rfl), uH HB.out⟩
/-- THE ONE PURE STATEMENT of laws_FnExactMatrixOf: yours. -/
def laws_FnExactMatrixOf.Pure : Prop := ∀ (a0_0 : Int) (l0_1 : List Int) (l0_2 : List Int), (Lit.int .i64 a0_0).wf = true → l0_1.length ≤ maxLen → (∀ x ∈ l0_1, (Lit.int .i64 x).wf = true) → l0_2.length ≤ maxLen → (∀ x ∈ l0_2, (Lit.int .i64 x).wf = true) → ∃ k, laws_FnExactMatrixOf.f k a0_0 l0_1 l0_2 = some true
theorem laws_FnExactMatrixOf.walk (P : laws_FnExactMatrixOf.Pure) (a0_0 : Int) (a0_1 : Option Addr) (len0_1 cap0_1 : Nat) (z0_1 : List Int) (a0_2 : Option Addr) (len0_2 cap0_2 : Nat) (z0_2 : List Int) (w : World) (w0_0 : (Lit.int .i64 a0_0).wf = true) (w0_1 : (a0_1 = none ∧ len0_1 = 0 ∧ cap0_1 = 0 ∧ z0_1 = []) ∨ ∃ x, a0_1 = some x ∧ len0_1 ≤ cap0_1 ∧ cap0_1 ≤ maxLen ∧ z0_1.length = cap0_1 ∧ (∀ i, i < z0_1.length → w.cell? (x.add i) = some (.int .i64 (z0_1.getD i 0))) ∧ ∀ n ∈ z0_1, (Lit.int .i64 n).wf = true) (w0_2 : (a0_2 = none ∧ len0_2 = 0 ∧ cap0_2 = 0 ∧ z0_2 = []) ∨ ∃ x, a0_2 = some x ∧ len0_2 ≤ cap0_2 ∧ cap0_2 ≤ maxLen ∧ z0_2.length = cap0_2 ∧ (∀ i, i < z0_2.length → w.cell? (x.add i) = some (.int .i64 (z0_2.getD i 0))) ∧ ∀ n ∈ z0_2, (Lit.int .i64 n).wf = true) :
  Calls Try.prog 3 #[.agg #[.int .i64 a0_0, .slice a0_1 len0_1 cap0_1, .slice a0_2 len0_2 cap0_2]] w fun e w' => e = .returned (.bool true) ∧ Below w.heap.size w w' := by
 obtain ⟨l0_1, rfl, hr0_1, hm0_1, hw0_1, hc0_1⟩ := ReadsInt.ofRowC w0_1
 obtain ⟨l0_2, rfl, hr0_2, hm0_2, hw0_2, hc0_2⟩ := ReadsInt.ofRowC w0_2
 obtain ⟨k, h⟩ := P a0_0 l0_1 l0_2 w0_0 hm0_1 hw0_1 hm0_2 hw0_2
 refine (laws_FnExactMatrixOf.calls k a0_0 _ _ l0_1 _ _ l0_2 true rfl w (Kd.C_of_reads (d := (0 : Int)) (h1 := fun _ => rfl) hr0_1) hc0_1 (Kd.C_of_reads (d := (0 : Int)) (h1 := fun _ => rfl) hr0_2) hc0_2 h).mono ?_
 rintro e w' ⟨rfl, hd⟩
 exact ⟨rfl, hd⟩

end Go.Proofs.Ytjdannndpfkadaa.Pr
