/- Printed by a program of this session out of the translation: what these functions of the program compute, under the conditions that each theorem names. -/
import Derived.Test.YteoipomgldioeaaKC01
import Derived.Test.YteoipomgldioeaaKC02
import Derived.Test.YteoipomgldioeaaKNodePoly2
import Derived.Test.YteoipomgldioeaaKNodePoly1
namespace Go.Proofs.Yteoipomgldioeaa.Pr
open Go.RowKit Go.Proofs.YteoipomgldioeaaW.PrintWords Go.Proofs.YteoipomgldioeaaW.PrintLast Go.Proofs.YteoipomgldioeaaW.PrintMore
attribute [local go_sem] max2_int min2_int max_two min_two max_three min_three max_four min_four   -- for this text's walks alone
set_option linter.unusedVariables false
set_option linter.unusedSimpArgs false

/-! ### laws_FnExactNodePoly: function 5 -/
mutual
def laws_FnExactNodePoly.j0 : Nat → List Int → Int → List Int → Int → Bool → Int → List Int → List Int → Int → List Int → List Int → Option (Bool)
 | 0, _, _, _, _, _, _, _, _, _, _, _ => none
 | k + 1, x4, x5, x7, x8, x40, x368000, x368001, x368002, x388000, x388001, x388002 => if x40 = true then (some false) else ((laws_toRule.f k x368000 x368001 x368002).bind fun bt393 => ((laws_eqRule.f k x388000 x388001 x388002 bt393.1 bt393.2.1 bt393.2.2).bind fun t400 => (if t400 = true then ((laws_markRule.f k x388000 x388001 x388002 1).bind fun bt401 => (if bt401.1 < 0 then (laws_FnExactNodePoly.j1 k x4 x5 x7 true x368000 x368001 x368002) else ((laws_eqInt64S.f k x7 x4).bind fun t404 => (if t404 = true then (laws_FnExactNodePoly.j1 k x4 x5 x7 (x8 != x5) x368000 x368001 x368002) else (laws_FnExactNodePoly.j1 k x4 x5 x7 true x368000 x368001 x368002))))) else (some false))))
def laws_FnExactNodePoly.j1 : Nat → List Int → Int → List Int → Bool → Int → List Int → List Int → Option (Bool)
 | 0, _, _, _, _, _, _, _ => none
 | k + 1, x4, x5, x7, x61, x368000, x368001, x368002 => if x61 = true then (some false) else ((laws_markInt64S.f k x7 1).bind fun bt405 => ((laws_heldInt64S.f k bt405.2 1).bind fun t407 => (if t407 < 0 then (some false) else (if t407 = bt405.1 then ((laws_toRule.f k x368000 x368001 x368002).bind fun bt408 => ((impl_NodePoly.f k bt408.1 bt408.2.1 bt408.2.2).bind fun bt415 => ((laws_eqInt64S.f k bt415.1 x4).bind fun t419 => (if t419 = true then (laws_FnExactNodePoly.j2 k bt405.2 bt405.1 (bt415.2 != x5)) else (laws_FnExactNodePoly.j2 k bt405.2 bt405.1 true))))) else (some false)))))
def laws_FnExactNodePoly.j2 : Nat → List Int → Int → Bool → Option (Bool)
 | 0, _, _, _ => none
 | k + 1, x7, x10, x87 => if x87 = true then (some false) else ((laws_heldInt64S.f k x7 1).bind fun t420 => (if t420 < 0 then (some false) else (if t420 = x10 then (some true) else (some false))))
end
def laws_FnExactNodePoly.f (k : Nat) (a0_0 : Int) (l0_1 : List Int) (l0_2 : List Int) : Option (Bool) := (laws_szRule.f a0_0 l0_1 l0_2 1048576).bind fun t368 => (if t368 < 0 then (some true) else ((laws_toRule.f k a0_0 l0_1 l0_2).bind fun bt369 => ((spec_NodePoly.f k bt369.1 bt369.2.1 bt369.2.2).bind fun bt376 => ((laws_toRule.f k a0_0 l0_1 l0_2).bind fun bt380 => ((impl_NodePoly.f k bt380.1 bt380.2.1 bt380.2.2).bind fun bt388 => ((laws_eqInt64S.f k bt388.1 bt376.1).bind fun t392 => (if t392 = true then (laws_FnExactNodePoly.j0 k bt376.1 bt376.2 bt388.1 bt388.2 (bt388.2 != bt376.2) a0_0 l0_1 l0_2 bt380.1 bt380.2.1 bt380.2.2) else (laws_FnExactNodePoly.j0 k bt376.1 bt376.2 bt388.1 bt388.2 true a0_0 l0_1 l0_2 bt380.1 bt380.2.1 bt380.2.2))))))))
theorem laws_FnExactNodePoly.mono_l : ∀ k, (∀ y0 y1 y2 y3 y4 y5 y6 y7 y8 y9 y10, LeO (laws_FnExactNodePoly.j0 k y0 y1 y2 y3 y4 y5 y6 y7 y8 y9 y10) (laws_FnExactNodePoly.j0 (k + 1) y0 y1 y2 y3 y4 y5 y6 y7 y8 y9 y10)) ∧ (∀ y0 y1 y2 y3 y4 y5 y6, LeO (laws_FnExactNodePoly.j1 k y0 y1 y2 y3 y4 y5 y6) (laws_FnExactNodePoly.j1 (k + 1) y0 y1 y2 y3 y4 y5 y6)) ∧ (∀ y0 y1 y2, LeO (laws_FnExactNodePoly.j2 k y0 y1 y2) (laws_FnExactNodePoly.j2 (k + 1) y0 y1 y2))
 | 0 => ⟨fun _ _ _ _ _ _ _ _ _ _ _ r h => by simp [laws_FnExactNodePoly.j0] at h, fun _ _ _ _ _ _ _ r h => by simp [laws_FnExactNodePoly.j1] at h, fun _ _ _ r h => by simp [laws_FnExactNodePoly.j2] at h⟩
 | k + 1 => by
  obtain ⟨ih0, ih1, ih2⟩ := laws_FnExactNodePoly.mono_l k
  refine ⟨?_, ?_, ?_⟩
  ·intro y0 y1 y2 y3 y4 y5 y6 y7 y8 y9 y10
   unfold laws_FnExactNodePoly.j0
   repeat' first
   | (with_reducible exact ih0 _ _ _ _ _ _ _ _ _ _ _)
   | (with_reducible exact ih1 _ _ _ _ _ _ _)
   | (with_reducible exact ih2 _ _ _)
   | (with_reducible exact impl_NodePoly.mono _ _ _ _)
   | (with_reducible exact laws_eqInt64S.mono _ _ _)
   | (with_reducible exact laws_eqRule.mono _ _ _ _ _ _ _)
   | (with_reducible exact laws_heldInt64S.mono _ _ _)
   | (with_reducible exact laws_markInt64S.mono _ _ _)
   | (with_reducible exact laws_markRule.mono _ _ _ _ _)
   | (with_reducible exact laws_toRule.mono _ _ _ _)
   | (with_reducible exact spec_NodePoly.mono _ _ _ _)
   | (with_reducible exact LeO.refl _)
   | (with_reducible exact LeO.none _)
   | (with_reducible refine LeO.ite ?_ ?_)
   | (with_reducible refine LeO.bind ?_ (fun _ => ?_))
   | exact ih0 _ _ _ _ _ _ _ _ _ _ _
   | exact ih1 _ _ _ _ _ _ _
   | exact ih2 _ _ _
   | exact impl_NodePoly.mono _ _ _ _
   | exact laws_eqInt64S.mono _ _ _
   | exact laws_eqRule.mono _ _ _ _ _ _ _
   | exact laws_heldInt64S.mono _ _ _
   | exact laws_markInt64S.mono _ _ _
   | exact laws_markRule.mono _ _ _ _ _
   | exact laws_toRule.mono _ _ _ _
   | exact spec_NodePoly.mono _ _ _ _
   | exact LeO.none _
   | refine LeO.ite ?_ ?_
   | refine LeO.bind ?_ (fun _ => ?_)
  ·intro y0 y1 y2 y3 y4 y5 y6
   unfold laws_FnExactNodePoly.j1
   repeat' first
   | (with_reducible exact ih0 _ _ _ _ _ _ _ _ _ _ _)
   | (with_reducible exact ih1 _ _ _ _ _ _ _)
   | (with_reducible exact ih2 _ _ _)
   | (with_reducible exact impl_NodePoly.mono _ _ _ _)
   | (with_reducible exact laws_eqInt64S.mono _ _ _)
   | (with_reducible exact laws_eqRule.mono _ _ _ _ _ _ _)
   | (with_reducible exact laws_heldInt64S.mono _ _ _)
   | (with_reducible exact laws_markInt64S.mono _ _ _)
   | (with_reducible exact laws_markRule.mono _ _ _ _ _)
   | (with_reducible exact laws_toRule.mono _ _ _ _)
   | (with_reducible exact spec_NodePoly.mono _ _ _ _)
   | (with_reducible exact LeO.refl _)
   | (with_reducible exact LeO.none _)
   | (with_reducible refine LeO.ite ?_ ?_)
   | (with_reducible refine LeO.bind ?_ (fun _ => ?_))
   | exact ih0 _ _ _ _ _ _ _ _ _ _ _
   | exact ih1 _ _ _ _ _ _ _
   | exact ih2 _ _ _
   | exact impl_NodePoly.mono _ _ _ _
   | exact laws_eqInt64S.mono _ _ _
   | exact laws_eqRule.mono _ _ _ _ _ _ _
   | exact laws_heldInt64S.mono _ _ _
   | exact laws_markInt64S.mono _ _ _
   | exact laws_markRule.mono _ _ _ _ _
   | exact laws_toRule.mono _ _ _ _
   | exact spec_NodePoly.mono _ _ _ _
   | exact LeO.none _
   | refine LeO.ite ?_ ?_
   | refine LeO.bind ?_ (fun _ => ?_)
  ·intro y0 y1 y2
   unfold laws_FnExactNodePoly.j2
   repeat' first
   | (with_reducible exact ih0 _ _ _ _ _ _ _ _ _ _ _)
   | (with_reducible exact ih1 _ _ _ _ _ _ _)
   | (with_reducible exact ih2 _ _ _)
   | (with_reducible exact impl_NodePoly.mono _ _ _ _)
   | (with_reducible exact laws_eqInt64S.mono _ _ _)
   | (with_reducible exact laws_eqRule.mono _ _ _ _ _ _ _)
   | (with_reducible exact laws_heldInt64S.mono _ _ _)
   | (with_reducible exact laws_markInt64S.mono _ _ _)
   | (with_reducible exact laws_markRule.mono _ _ _ _ _)
   | (with_reducible exact laws_toRule.mono _ _ _ _)
   | (with_reducible exact spec_NodePoly.mono _ _ _ _)
   | (with_reducible exact LeO.refl _)
   | (with_reducible exact LeO.none _)
   | (with_reducible refine LeO.ite ?_ ?_)
   | (with_reducible refine LeO.bind ?_ (fun _ => ?_))
   | exact ih0 _ _ _ _ _ _ _ _ _ _ _
   | exact ih1 _ _ _ _ _ _ _
   | exact ih2 _ _ _
   | exact impl_NodePoly.mono _ _ _ _
   | exact laws_eqInt64S.mono _ _ _
   | exact laws_eqRule.mono _ _ _ _ _ _ _
   | exact laws_heldInt64S.mono _ _ _
   | exact laws_markInt64S.mono _ _ _
   | exact laws_markRule.mono _ _ _ _ _
   | exact laws_toRule.mono _ _ _ _
   | exact spec_NodePoly.mono _ _ _ _
   | exact LeO.none _
   | refine LeO.ite ?_ ?_
   | refine LeO.bind ?_ (fun _ => ?_)
theorem laws_FnExactNodePoly.mono : ∀ a0 a1 a2 k, LeO (laws_FnExactNodePoly.f k a0 a1 a2) (laws_FnExactNodePoly.f (k + 1) a0 a1 a2) := by
 intro a0 a1 a2 k
 obtain ⟨ih0, ih1, ih2⟩ := laws_FnExactNodePoly.mono_l k
 unfold laws_FnExactNodePoly.f
 repeat' first
   | (with_reducible exact ih0 _ _ _ _ _ _ _ _ _ _ _)
   | (with_reducible exact ih1 _ _ _ _ _ _ _)
   | (with_reducible exact ih2 _ _ _)
   | (with_reducible exact impl_NodePoly.mono _ _ _ _)
   | (with_reducible exact laws_eqInt64S.mono _ _ _)
   | (with_reducible exact laws_eqRule.mono _ _ _ _ _ _ _)
   | (with_reducible exact laws_heldInt64S.mono _ _ _)
   | (with_reducible exact laws_markInt64S.mono _ _ _)
   | (with_reducible exact laws_markRule.mono _ _ _ _ _)
   | (with_reducible exact laws_toRule.mono _ _ _ _)
   | (with_reducible exact spec_NodePoly.mono _ _ _ _)
   | (with_reducible exact LeO.refl _)
   | (with_reducible exact LeO.none _)
   | (with_reducible refine LeO.ite ?_ ?_)
   | (with_reducible refine LeO.bind ?_ (fun _ => ?_))
   | exact ih0 _ _ _ _ _ _ _ _ _ _ _
   | exact ih1 _ _ _ _ _ _ _
   | exact ih2 _ _ _
   | exact impl_NodePoly.mono _ _ _ _
   | exact laws_eqInt64S.mono _ _ _
   | exact laws_eqRule.mono _ _ _ _ _ _ _
   | exact laws_heldInt64S.mono _ _ _
   | exact laws_markInt64S.mono _ _ _
   | exact laws_markRule.mono _ _ _ _ _
   | exact laws_toRule.mono _ _ _ _
   | exact spec_NodePoly.mono _ _ _ _
   | exact LeO.none _
   | refine LeO.ite ?_ ?_
   | refine LeO.bind ?_ (fun _ => ?_)
set_option maxHeartbeats 8000000 in
set_option maxRecDepth 100000 in
theorem laws_FnExactNodePoly.calls (k : Nat) (a0_0 : Int) (A0_1 : Option Addr) (c0_1 : Nat) (l0_1 : List Int) (A0_2 : Option Addr) (c0_2 : Nat) (l0_2 : List Int) (r : Bool) (hr_ : r = true) (w : World) (hr0_1 : Kd.C (Kd.int .i64) w A0_1 l0_1.length l0_1) (hc0_1 : l0_1.length ≤ c0_1) (hr0_2 : Kd.C (Kd.int .i64) w A0_2 l0_2.length l0_2) (hc0_2 : l0_2.length ≤ c0_2) (h : laws_FnExactNodePoly.f k a0_0 l0_1 l0_2 = some r) :
  Calls Try.prog 5 #[.agg #[.int .i64 a0_0, .slice A0_1 l0_1.length c0_1, .slice A0_2 l0_2.length c0_2]] w fun e w' => e = .returned (.bool r) ∧ Below w.heap.size w w' := by
 have hu24 := Try.underlying24
 have hu26 := Try.underlying26
 have HRT := zA hr_
 clear hr_
 have HR0_1 := zA hr0_1
 have HC0_1 := zA hc0_1
 clear hr0_1 hc0_1
 have HR0_2 := zA hr0_2
 have HC0_2 := zA hc0_2
 clear hr0_2 hc0_2
 have HB := zA (Below.refl w.heap.size w)
 have H : ((laws_szRule.f a0_0 l0_1 l0_2 1048576).bind fun t368 => (if t368 < 0 then (some true) else ((laws_toRule.f k a0_0 l0_1 l0_2).bind fun bt369 => ((spec_NodePoly.f k bt369.1 bt369.2.1 bt369.2.2).bind fun bt376 => ((laws_toRule.f k a0_0 l0_1 l0_2).bind fun bt380 => ((impl_NodePoly.f k bt380.1 bt380.2.1 bt380.2.2).bind fun bt388 => ((laws_eqInt64S.f k bt388.1 bt376.1).bind fun t392 => (if t392 = true then (laws_FnExactNodePoly.j0 k bt376.1 bt376.2 bt388.1 bt388.2 (bt388.2 != bt376.2) a0_0 l0_1 l0_2 bt380.1 bt380.2.1 bt380.2.2) else (laws_FnExactNodePoly.j0 k bt376.1 bt376.2 bt388.1 bt388.2 true a0_0 l0_1 l0_2 bt380.1 bt380.2.1 bt380.2.2))))))))) = some r := h
 clear h
 replace H := Option.bind_eq_some_iff.mp H
 obtain ⟨t368, A20, H⟩ := H
 replace H : (if t368 < 0 then (some true) else ((laws_toRule.f k a0_0 l0_1 l0_2).bind fun bt369 => ((spec_NodePoly.f k bt369.1 bt369.2.1 bt369.2.2).bind fun bt376 => ((laws_toRule.f k a0_0 l0_1 l0_2).bind fun bt380 => ((impl_NodePoly.f k bt380.1 bt380.2.1 bt380.2.2).bind fun bt388 => ((laws_eqInt64S.f k bt388.1 bt376.1).bind fun t392 => (if t392 = true then (laws_FnExactNodePoly.j0 k bt376.1 bt376.2 bt388.1 bt388.2 (bt388.2 != bt376.2) a0_0 l0_1 l0_2 bt380.1 bt380.2.1 bt380.2.2) else (laws_FnExactNodePoly.j0 k bt376.1 bt376.2 bt388.1 bt388.2 true a0_0 l0_1 l0_2 bt380.1 bt380.2.1 bt380.2.2)))))))) = some r := H
 have A2 := zA A20
 clear A20
 by_cases c3 : t368 < 0
 ·rw [if_pos c3] at H
  have c3b0 : decide (t368 < 0) = true := decide_eq_true c3
  clear c3
  obtain rfl := Option.some.inj H
  go_enter Try.func5, Try.ntmps5
  go_wp2_with (first | ((with_reducible refine gate_dst (N := 1) rfl ?_); refine box_event ?hg (N := 1) ?hd (cs := #[.int .i64 a0_0, .slice A0_1 l0_1.length c0_1, .slice A0_2 l0_2.length c0_2]) (t := 24) ?hr ?_; (case hd => rfl); (case hg => rfl); (case hr => first | (go_simp; done) | (go_simp; rfl)); intro gb367 hg w4 hbox hb; have n0_ := xH HB hb; have n1_ := zA (hbox); have n2_ := zA ((by rw [hg]; exact (below_size (uH HB.out)) : w.heap.size ≤ gb367)); have n3_ := zA ((by rw [hg]; exact (below_size (uH HB.out)) : w.heap.size ≤ gb367)); clear HB; have HB := n0_; have BK367 := n1_; have GW367 := n2_; have GE367 := n3_; have := geI GE367; clear n0_ n1_ n2_ n3_ hb hbox hg; have hcz5_0 : w4.cell? ⟨gb367, 0, none⟩ = some (.int .i64 a0_0) := (blk_cell BK367.out 0).trans rfl; have hcz5_1 : w4.cell? ⟨gb367, 1, none⟩ = some (.slice A0_1 l0_1.length c0_1) := (blk_cell BK367.out 1).trans rfl; have hcz5_2 : w4.cell? ⟨gb367, 2, none⟩ = some (.slice A0_2 l0_2.length c0_2) := (blk_cell BK367.out 2).trans rfl; have hfz5_0 := blk_frozen BK367.out 0; have hfz5_1 := blk_frozen BK367.out 1; have hfz5_2 := blk_frozen BK367.out 2) | ((with_reducible refine gate_callee (f := 13) rfl ?_); refine goesL_ (some 16) rfl rfl Try.func13 (by kernel_rfl) rfl #[.agg #[.int .i64 a0_0, .slice A0_1 l0_1.length c0_1, .slice A0_2 l0_2.length c0_2], .int .i64 1048576] rfl (by (try simp only [la, lb, lc]); first | done | rfl | (simp only [ld, le]; rfl)) ?_; (with_reducible refine (laws_szRule.calls a0_0 _ _ l0_1 _ _ l0_2 1048576 t368 _ ?side1 ?side2 ?side3 ?side4 A2.out).mono ?_); (case side1 => exact uC ((Kd.C_below HR0_1.out HB.out))); (case side2 => exact HC0_1.out); (case side3 => exact uC ((Kd.C_below HR0_2.out HB.out))); (case side4 => exact HC0_2.out); rintro e w6 ⟨rfl, hb⟩; refine ⟨_, rfl, ?_⟩; have n0_ := xB BK367 hb; have n1_ := xH HB hb; clear BK367 HB; have BK367 := n0_; have HB := n1_; clear n0_ n1_; (try clear hb); (try clear hb2); (try clear hk); (try clear hi)))
  go_ret
  exact ⟨by first | rfl | (simp [errW_none, errW_some] <;> rfl) | (simp [*, errW_none, errW_some] <;> rfl), uH HB.out⟩
 ·rw [if_neg c3] at H
  have c3b0 : decide (t368 < 0) = false := decide_eq_false c3
  clear c3
  replace H := Option.bind_eq_some_iff.mp H
  obtain ⟨⟨t369, t370, t373⟩, A70, H⟩ := H
  replace H : ((spec_NodePoly.f k t369 t370 t373).bind fun bt376 => ((laws_toRule.f k a0_0 l0_1 l0_2).bind fun bt380 => ((impl_NodePoly.f k bt380.1 bt380.2.1 bt380.2.2).bind fun bt388 => ((laws_eqInt64S.f k bt388.1 bt376.1).bind fun t392 => (if t392 = true then (laws_FnExactNodePoly.j0 k bt376.1 bt376.2 bt388.1 bt388.2 (bt388.2 != bt376.2) a0_0 l0_1 l0_2 bt380.1 bt380.2.1 bt380.2.2) else (laws_FnExactNodePoly.j0 k bt376.1 bt376.2 bt388.1 bt388.2 true a0_0 l0_1 l0_2 bt380.1 bt380.2.1 bt380.2.2)))))) = some r := H
  have A7 := zA A70
  clear A70
  replace H := Option.bind_eq_some_iff.mp H
  obtain ⟨⟨t376, t379⟩, A80, H⟩ := H
  replace H : ((laws_toRule.f k a0_0 l0_1 l0_2).bind fun bt380 => ((impl_NodePoly.f k bt380.1 bt380.2.1 bt380.2.2).bind fun bt388 => ((laws_eqInt64S.f k bt388.1 t376).bind fun t392 => (if t392 = true then (laws_FnExactNodePoly.j0 k t376 t379 bt388.1 bt388.2 (bt388.2 != t379) a0_0 l0_1 l0_2 bt380.1 bt380.2.1 bt380.2.2) else (laws_FnExactNodePoly.j0 k t376 t379 bt388.1 bt388.2 true a0_0 l0_1 l0_2 bt380.1 bt380.2.1 bt380.2.2))))) = some r := H
  have A8 := zA A80
  clear A80
  replace H := Option.bind_eq_some_iff.mp H
  obtain ⟨⟨t380, t381, t384⟩, A90, H⟩ := H
  replace H : ((impl_NodePoly.f k t380 t381 t384).bind fun bt388 => ((laws_eqInt64S.f k bt388.1 t376).bind fun t392 => (if t392 = true then (laws_FnExactNodePoly.j0 k t376 t379 bt388.1 bt388.2 (bt388.2 != t379) a0_0 l0_1 l0_2 t380 t381 t384) else (laws_FnExactNodePoly.j0 k t376 t379 bt388.1 bt388.2 true a0_0 l0_1 l0_2 t380 t381 t384)))) = some r := H
  have A9 := zA A90
  clear A90
  replace H := Option.bind_eq_some_iff.mp H
  obtain ⟨⟨t388, t391⟩, A100, H⟩ := H
  replace H : ((laws_eqInt64S.f k t388 t376).bind fun t392 => (if t392 = true then (laws_FnExactNodePoly.j0 k t376 t379 t388 t391 (t391 != t379) a0_0 l0_1 l0_2 t380 t381 t384) else (laws_FnExactNodePoly.j0 k t376 t379 t388 t391 true a0_0 l0_1 l0_2 t380 t381 t384))) = some r := H
  have A10 := zA A100
  clear A100
  have HC11 := zA H
  clear H
  go_enter Try.func5, Try.ntmps5
  go_upto_region 8 with (first | ((with_reducible refine gate_dst (N := 1) rfl ?_); refine box_event ?hg (N := 1) ?hd (cs := #[.int .i64 a0_0, .slice A0_1 l0_1.length c0_1, .slice A0_2 l0_2.length c0_2]) (t := 24) ?hr ?_; (case hd => rfl); (case hg => rfl); (case hr => first | (go_simp; done) | (go_simp; rfl)); intro gb367 hg w12 hbox hb; have n0_ := xH HB hb; have n1_ := zA (hbox); have n2_ := zA ((by rw [hg]; exact (below_size (uH HB.out)) : w.heap.size ≤ gb367)); have n3_ := zA ((by rw [hg]; exact (below_size (uH HB.out)) : w.heap.size ≤ gb367)); clear HB; have HB := n0_; have BK367 := n1_; have GW367 := n2_; have GE367 := n3_; have := geI GE367; clear n0_ n1_ n2_ n3_ hb hbox hg; have hcz13_0 : w12.cell? ⟨gb367, 0, none⟩ = some (.int .i64 a0_0) := (blk_cell BK367.out 0).trans rfl; have hcz13_1 : w12.cell? ⟨gb367, 1, none⟩ = some (.slice A0_1 l0_1.length c0_1) := (blk_cell BK367.out 1).trans rfl; have hcz13_2 : w12.cell? ⟨gb367, 2, none⟩ = some (.slice A0_2 l0_2.length c0_2) := (blk_cell BK367.out 2).trans rfl; have hfz13_0 := blk_frozen BK367.out 0; have hfz13_1 := blk_frozen BK367.out 1; have hfz13_2 := blk_frozen BK367.out 2) | ((with_reducible refine gate_callee (f := 13) rfl ?_); refine goesL_ (some 16) rfl rfl Try.func13 (by kernel_rfl) rfl #[.agg #[.int .i64 a0_0, .slice A0_1 l0_1.length c0_1, .slice A0_2 l0_2.length c0_2], .int .i64 1048576] rfl (by (try simp only [la, lb, lc]); first | done | rfl | (simp only [ld, le]; rfl)) ?_; (with_reducible refine (laws_szRule.calls a0_0 _ _ l0_1 _ _ l0_2 1048576 t368 _ ?side1 ?side2 ?side3 ?side4 A2.out).mono ?_); (case side1 => exact uC ((Kd.C_below HR0_1.out HB.out))); (case side2 => exact HC0_1.out); (case side3 => exact uC ((Kd.C_below HR0_2.out HB.out))); (case side4 => exact HC0_2.out); rintro e w14 ⟨rfl, hb⟩; refine ⟨_, rfl, ?_⟩; have n0_ := xB BK367 hb; have n1_ := xH HB hb; clear BK367 HB; have BK367 := n0_; have HB := n1_; clear n0_ n1_; (try clear hb); (try clear hb2); (try clear hk); (try clear hi); have hcz15_0 : w14.cell? ⟨gb367, 0, none⟩ = some (.int .i64 a0_0) := (blk_cell BK367.out 0).trans rfl; have hcz15_1 : w14.cell? ⟨gb367, 1, none⟩ = some (.slice A0_1 l0_1.length c0_1) := (blk_cell BK367.out 1).trans rfl; have hcz15_2 : w14.cell? ⟨gb367, 2, none⟩ = some (.slice A0_2 l0_2.length c0_2) := (blk_cell BK367.out 2).trans rfl; have hfz15_0 := blk_frozen BK367.out 0; have hfz15_1 := blk_frozen BK367.out 1; have hfz15_2 := blk_frozen BK367.out 2) | ((with_reducible refine gate_callee (f := 15) rfl ?_); refine goesL_ (some 21) rfl rfl Try.func15 (by kernel_rfl) rfl #[.agg #[.int .i64 a0_0, .slice A0_1 l0_1.length c0_1, .slice A0_2 l0_2.length c0_2]] rfl (by (try simp only [la, lb, lc]); first | done | rfl | (simp only [ld, le]; rfl)) ?_; (with_reducible refine (laws_toRule.calls k a0_0 _ _ l0_1 _ _ l0_2 t369 t370 t373 _ ?side1 ?side2 ?side3 ?side4 A7.out).mono ?_); (case side1 => exact uC ((Kd.C_below HR0_1.out HB.out))); (case side2 => exact HC0_1.out); (case side3 => exact uC ((Kd.C_below HR0_2.out HB.out))); (case side4 => exact HC0_2.out); rintro e w16 ⟨v371, v374, rfl, ho0, ho1, hb⟩; refine ⟨_, rfl, ?_⟩; have n0_ := zA (Kd.R_lower ho0 (below_size (uH HB.out))); have n1_ := zA (Kd.R_lower ho1 (below_size (uH HB.out))); have n2_ := xB BK367 hb; have n3_ := xH HB hb; clear BK367 HB; have HO372 := n0_; have HO375 := n1_; have BK367 := n2_; have HB := n3_; clear n0_ n1_ n2_ n3_; (try clear hb); (try clear hb2); (try clear hk); (try clear hi); (try clear ho0); (try clear ho1); obtain ⟨Ao17, co17, eo17⟩ := Kd.R_slice HO372.out; subst eo17; obtain ⟨Ao18, co18, eo18⟩ := Kd.R_slice HO375.out; subst eo18) | ((with_reducible refine gate_callee (f := 24) rfl ?_); refine goesL_ (some 22) rfl rfl Try.func24 (by kernel_rfl) rfl #[.agg #[.int .i64 t369, .slice Ao17 t370.length co17, .slice Ao18 t373.length co18]] rfl (by (try simp only [la, lb, lc]); first | done | rfl | (simp only [ld, le]; rfl)) ?_; (with_reducible refine (spec_NodePoly.calls k t369 _ _ t370 _ _ t373 t376 t379 _ ?side1 ?side2 ?side3 ?side4 A8.out).mono ?_); (case side1 => exact uC ((Kd.R_reads' HO372.out).2.2)); (case side2 => exact (Kd.R_reads' HO372.out).2.1); (case side3 => exact uC ((Kd.R_reads' HO375.out).2.2)); (case side4 => exact (Kd.R_reads' HO375.out).2.1); rintro e w19 ⟨v377, rfl, ho0, hb⟩; refine ⟨_, rfl, ?_⟩; have n0_ := zA (Kd.R_elder' (uR HO372.out) (Kd.R_base ho0) hb); have n1_ := zA (Kd.R_elder' (uR HO375.out) (Kd.R_base ho0) hb); have n2_ := zA (Kd.R_lower (Kd.R_new' (Kd.R_new' ho0 (Kd.R_lt (uR HO372.out))) (Kd.R_lt (uR HO375.out))) (below_size (uH HB.out))); have n3_ := xB BK367 hb; have n4_ := xH HB hb; clear HO372 HO375 BK367 HB; have HO372 := n0_; have HO375 := n1_; have HO378 := n2_; have BK367 := n3_; have HB := n4_; clear n0_ n1_ n2_ n3_ n4_; (try clear hb); (try clear hb2); (try clear hk); (try clear hi); (try clear ho0); have hcz20_0 : w19.cell? ⟨gb367, 0, none⟩ = some (.int .i64 a0_0) := (blk_cell BK367.out 0).trans rfl; have hcz20_1 : w19.cell? ⟨gb367, 1, none⟩ = some (.slice A0_1 l0_1.length c0_1) := (blk_cell BK367.out 1).trans rfl; have hcz20_2 : w19.cell? ⟨gb367, 2, none⟩ = some (.slice A0_2 l0_2.length c0_2) := (blk_cell BK367.out 2).trans rfl; have hfz20_0 := blk_frozen BK367.out 0; have hfz20_1 := blk_frozen BK367.out 1; have hfz20_2 := blk_frozen BK367.out 2) | ((with_reducible refine gate_callee (f := 15) rfl ?_); refine goesL_ (some 26) rfl rfl Try.func15 (by kernel_rfl) rfl #[.agg #[.int .i64 a0_0, .slice A0_1 l0_1.length c0_1, .slice A0_2 l0_2.length c0_2]] rfl (by (try simp only [la, lb, lc]); first | done | rfl | (simp only [ld, le]; rfl)) ?_; (with_reducible refine (laws_toRule.calls k a0_0 _ _ l0_1 _ _ l0_2 t380 t381 t384 _ ?side1 ?side2 ?side3 ?side4 A9.out).mono ?_); (case side1 => exact uC ((Kd.C_below HR0_1.out HB.out))); (case side2 => exact HC0_1.out); (case side3 => exact uC ((Kd.C_below HR0_2.out HB.out))); (case side4 => exact HC0_2.out); rintro e w21 ⟨v382, v385, rfl, ho0, ho1, hb⟩; refine ⟨_, rfl, ?_⟩; have n0_ := zA (Kd.R_mono (Kd.R_told (Kd.R_told (Kd.R_old (uR HO372.out) hb) (Kd.R_base ho0)) (Kd.R_base ho1)) (fun _ h_ => h_.1)); have n1_ := zA (Kd.R_mono (Kd.R_told (Kd.R_told (Kd.R_old (uR HO375.out) hb) (Kd.R_base ho0)) (Kd.R_base ho1)) (fun _ h_ => h_.1)); have n2_ := zA (Kd.R_mono (Kd.R_told (Kd.R_told (Kd.R_old (uR HO378.out) hb) (Kd.R_base ho0)) (Kd.R_base ho1)) (fun _ h_ => h_.1)); have n3_ := zA (Kd.R_lower (Kd.R_new' (Kd.R_new' (Kd.R_new' ho0 (Kd.R_lt (uR HO372.out))) (Kd.R_lt (uR HO375.out))) (Kd.R_lt (uR HO378.out))) (below_size (uH HB.out))); have n4_ := zA (Kd.R_lower (Kd.R_new' (Kd.R_new' (Kd.R_new' ho1 (Kd.R_lt (uR HO372.out))) (Kd.R_lt (uR HO375.out))) (Kd.R_lt (uR HO378.out))) (below_size (uH HB.out))); have n5_ := xB BK367 hb; have n6_ := xH HB hb; clear HO372 HO375 HO378 BK367 HB; have HO372 := n0_; have HO375 := n1_; have HO378 := n2_; have HO383 := n3_; have HO386 := n4_; have BK367 := n5_; have HB := n6_; clear n0_ n1_ n2_ n3_ n4_ n5_ n6_; (try clear hb); (try clear hb2); (try clear hk); (try clear hi); (try clear ho0); (try clear ho1)) | ((with_reducible refine gate_dst (N := 6) rfl ?_); refine box_event ?hg (N := 6) ?hd (cs := #[.int .i64 0, .slice none 0 0, .slice none 0 0]) (t := 26) ?hr ?_; (case hd => rfl); (case hg => rfl); (case hr => first | (go_simp; done) | (go_simp; rfl)); intro gb387 hg w22 hbox hb; have n0_ := xR HO372 hb; have n1_ := xR HO375 hb; have n2_ := xR HO378 hb; have n3_ := xR HO383 hb; have n4_ := xR HO386 hb; have n5_ := xB BK367 hb; have n6_ := xH HB hb; have n7_ := zA (hbox); have n8_ := zA ((by rw [hg]; exact (below_size (uH HB.out)) : w.heap.size ≤ gb387)); have n9_ := zA ((by rw [hg]; exact (below_size (uH HB.out)) : w.heap.size ≤ gb387)); have n10_ := zA ((by rw [hg]; exact neL BK367 : gb367 ≠ gb387)); have n11_ := zA ((by rw [hg]; exact neG BK367 : gb387 ≠ gb367)); clear HO372 HO375 HO378 HO383 HO386 BK367 HB; have HO372 := n0_; have HO375 := n1_; have HO378 := n2_; have HO383 := n3_; have HO386 := n4_; have BK367 := n5_; have HB := n6_; have BK387 := n7_; have GW387 := n8_; have GE387 := n9_; have := geI GE387; have NB367_387 := n10_; have NB387_367 := n11_; clear n0_ n1_ n2_ n3_ n4_ n5_ n6_ n7_ n8_ n9_ n10_ n11_ hb hbox hg; have hnb23 := NB387_367.out; have hnc23 := NB367_387.out; have hcz24_0 : w22.cell? ⟨gb387, 0, none⟩ = some (.int .i64 0) := (blk_cell BK387.out 0).trans rfl; have hcz24_1 : w22.cell? ⟨gb387, 1, none⟩ = some (.slice none 0 0) := (blk_cell BK387.out 1).trans rfl; have hcz24_2 : w22.cell? ⟨gb387, 2, none⟩ = some (.slice none 0 0) := (blk_cell BK387.out 2).trans rfl; have hfz24_0 := blk_frozen BK387.out 0; have hfz24_1 := blk_frozen BK387.out 1; have hfz24_2 := blk_frozen BK387.out 2; obtain ⟨Ao25, co25, eo25⟩ := Kd.R_slice HO383.out; subst eo25; obtain ⟨Ao26, co26, eo26⟩ := Kd.R_slice HO386.out; subst eo26) | ((with_reducible refine gate_callee (f := 25) rfl ?_); refine goesL_ (some 29) rfl rfl Try.func25 (by kernel_rfl) rfl #[.agg #[.int .i64 t380, .slice Ao25 t381.length co25, .slice Ao26 t384.length co26]] rfl (by (try simp only [la, lb, lc]); first | done | rfl | (simp only [ld, le]; rfl)) ?_; (with_reducible refine (impl_NodePoly.calls k t380 _ _ t381 _ _ t384 t388 t391 _ ?side1 ?side2 ?side3 ?side4 A10.out).mono ?_); (case side1 => refine (Kd.R_reads' (e := 2) (base := w.heap.size) (ok := fun k_ => (((some k_ ≠ (.slice Ao26 t384.length co26 : Value).ownBlock ∧ some k_ ≠ (.slice Ao17 t370.length co17 : Value).ownBlock) ∧ some k_ ≠ (.slice Ao18 t373.length co18 : Value).ownBlock) ∧ some k_ ≠ (v377 : Value).ownBlock)) (n := t381.length) (c := co25) ?_).2.2; exact (uR ((Kd.R_mono (Kd.R_far (p := ⟨gb387, 2, none⟩) (Kd.R_far (p := ⟨gb387, 1, none⟩) (Kd.R_far (p := ⟨gb387, 0, none⟩) (Kd.R_types HO383.out BK387.out (by decide)) (fun _ hk => hk.2) (.int .i64 t380)) (fun _ hk => hk.2) (.slice Ao25 t381.length co25)) (fun _ hk => hk.2) (.slice Ao26 t384.length co26)) (fun _ h_ => h_.1))))); (case side2 => exact (Kd.R_reads' HO383.out).2.1); (case side3 => refine (Kd.R_reads' (e := 2) (base := w.heap.size) (ok := fun k_ => (((some k_ ≠ (.slice Ao25 t381.length co25 : Value).ownBlock ∧ some k_ ≠ (.slice Ao17 t370.length co17 : Value).ownBlock) ∧ some k_ ≠ (.slice Ao18 t373.length co18 : Value).ownBlock) ∧ some k_ ≠ (v377 : Value).ownBlock)) (n := t384.length) (c := co26) ?_).2.2; exact (uR ((Kd.R_mono (Kd.R_far (p := ⟨gb387, 2, none⟩) (Kd.R_far (p := ⟨gb387, 1, none⟩) (Kd.R_far (p := ⟨gb387, 0, none⟩) (Kd.R_types HO386.out BK387.out (by decide)) (fun _ hk => hk.2) (.int .i64 t380)) (fun _ hk => hk.2) (.slice Ao25 t381.length co25)) (fun _ hk => hk.2) (.slice Ao26 t384.length co26)) (fun _ h_ => h_.1))))); (case side4 => exact (Kd.R_reads' HO386.out).2.1); rintro e w27 ⟨v389, rfl, ho0, hb⟩; refine ⟨_, rfl, ?_⟩; have n0_ := zA (Kd.R_elder' (uR ((Kd.R_mono (Kd.R_far (p := ⟨gb387, 2, none⟩) (Kd.R_far (p := ⟨gb387, 1, none⟩) (Kd.R_far (p := ⟨gb387, 0, none⟩) (Kd.R_types HO372.out BK387.out (by decide)) (fun _ hk => hk.2) (.int .i64 t380)) (fun _ hk => hk.2) (.slice Ao25 t381.length co25)) (fun _ hk => hk.2) (.slice Ao26 t384.length co26)) (fun _ h_ => h_.1)))) (Kd.R_base ho0) hb); have n1_ := zA (Kd.R_elder' (uR ((Kd.R_mono (Kd.R_far (p := ⟨gb387, 2, none⟩) (Kd.R_far (p := ⟨gb387, 1, none⟩) (Kd.R_far (p := ⟨gb387, 0, none⟩) (Kd.R_types HO375.out BK387.out (by decide)) (fun _ hk => hk.2) (.int .i64 t380)) (fun _ hk => hk.2) (.slice Ao25 t381.length co25)) (fun _ hk => hk.2) (.slice Ao26 t384.length co26)) (fun _ h_ => h_.1)))) (Kd.R_base ho0) hb); have n2_ := zA (Kd.R_elder' (uR ((Kd.R_mono (Kd.R_far (p := ⟨gb387, 2, none⟩) (Kd.R_far (p := ⟨gb387, 1, none⟩) (Kd.R_far (p := ⟨gb387, 0, none⟩) (Kd.R_types HO378.out BK387.out (by decide)) (fun _ hk => hk.2) (.int .i64 t380)) (fun _ hk => hk.2) (.slice Ao25 t381.length co25)) (fun _ hk => hk.2) (.slice Ao26 t384.length co26)) (fun _ h_ => h_.1)))) (Kd.R_base ho0) hb); have n3_ := zA (Kd.R_elder' (uR ((Kd.R_mono (Kd.R_far (p := ⟨gb387, 2, none⟩) (Kd.R_far (p := ⟨gb387, 1, none⟩) (Kd.R_far (p := ⟨gb387, 0, none⟩) (Kd.R_types HO383.out BK387.out (by decide)) (fun _ hk => hk.2) (.int .i64 t380)) (fun _ hk => hk.2) (.slice Ao25 t381.length co25)) (fun _ hk => hk.2) (.slice Ao26 t384.length co26)) (fun _ h_ => h_.1)))) (Kd.R_base ho0) hb); have n4_ := zA (Kd.R_elder' (uR ((Kd.R_mono (Kd.R_far (p := ⟨gb387, 2, none⟩) (Kd.R_far (p := ⟨gb387, 1, none⟩) (Kd.R_far (p := ⟨gb387, 0, none⟩) (Kd.R_types HO386.out BK387.out (by decide)) (fun _ hk => hk.2) (.int .i64 t380)) (fun _ hk => hk.2) (.slice Ao25 t381.length co25)) (fun _ hk => hk.2) (.slice Ao26 t384.length co26)) (fun _ h_ => h_.1)))) (Kd.R_base ho0) hb); have n5_ := zA (Kd.R_lower (Kd.R_new' (Kd.R_new' (Kd.R_new' (Kd.R_new' (Kd.R_new' ho0 (Kd.R_lt (uR ((Kd.R_mono (Kd.R_far (p := ⟨gb387, 2, none⟩) (Kd.R_far (p := ⟨gb387, 1, none⟩) (Kd.R_far (p := ⟨gb387, 0, none⟩) (Kd.R_types HO372.out BK387.out (by decide)) (fun _ hk => hk.2) (.int .i64 t380)) (fun _ hk => hk.2) (.slice Ao25 t381.length co25)) (fun _ hk => hk.2) (.slice Ao26 t384.length co26)) (fun _ h_ => h_.1)))))) (Kd.R_lt (uR ((Kd.R_mono (Kd.R_far (p := ⟨gb387, 2, none⟩) (Kd.R_far (p := ⟨gb387, 1, none⟩) (Kd.R_far (p := ⟨gb387, 0, none⟩) (Kd.R_types HO375.out BK387.out (by decide)) (fun _ hk => hk.2) (.int .i64 t380)) (fun _ hk => hk.2) (.slice Ao25 t381.length co25)) (fun _ hk => hk.2) (.slice Ao26 t384.length co26)) (fun _ h_ => h_.1)))))) (Kd.R_lt (uR ((Kd.R_mono (Kd.R_far (p := ⟨gb387, 2, none⟩) (Kd.R_far (p := ⟨gb387, 1, none⟩) (Kd.R_far (p := ⟨gb387, 0, none⟩) (Kd.R_types HO378.out BK387.out (by decide)) (fun _ hk => hk.2) (.int .i64 t380)) (fun _ hk => hk.2) (.slice Ao25 t381.length co25)) (fun _ hk => hk.2) (.slice Ao26 t384.length co26)) (fun _ h_ => h_.1)))))) (Kd.R_lt (uR ((Kd.R_mono (Kd.R_far (p := ⟨gb387, 2, none⟩) (Kd.R_far (p := ⟨gb387, 1, none⟩) (Kd.R_far (p := ⟨gb387, 0, none⟩) (Kd.R_types HO383.out BK387.out (by decide)) (fun _ hk => hk.2) (.int .i64 t380)) (fun _ hk => hk.2) (.slice Ao25 t381.length co25)) (fun _ hk => hk.2) (.slice Ao26 t384.length co26)) (fun _ h_ => h_.1)))))) (Kd.R_lt (uR ((Kd.R_mono (Kd.R_far (p := ⟨gb387, 2, none⟩) (Kd.R_far (p := ⟨gb387, 1, none⟩) (Kd.R_far (p := ⟨gb387, 0, none⟩) (Kd.R_types HO386.out BK387.out (by decide)) (fun _ hk => hk.2) (.int .i64 t380)) (fun _ hk => hk.2) (.slice Ao25 t381.length co25)) (fun _ hk => hk.2) (.slice Ao26 t384.length co26)) (fun _ h_ => h_.1)))))) (below_size (uH HB.out))); have n6_ := zA (blk_below (g := gb367) (o := .cells #[.int .i64 a0_0, .slice A0_1 l0_1.length c0_1, .slice A0_2 l0_2.length c0_2] 24 (0, 0)) (by (with_reducible repeat (first | refine blk_drewN ?_ _ | refine blk_drew ?_ | refine blk_alloc ?_ _)); refine blk_far ?_ NB367_387.out _; (with_reducible repeat (first | refine blk_drewN ?_ _ | refine blk_drew ?_ | refine blk_alloc ?_ _)); refine blk_far ?_ NB367_387.out _; (with_reducible repeat (first | refine blk_drewN ?_ _ | refine blk_drew ?_ | refine blk_alloc ?_ _)); refine blk_far ?_ NB367_387.out _; (with_reducible repeat (first | refine blk_drewN ?_ _ | refine blk_drew ?_ | refine blk_alloc ?_ _)); exact BK367.out) hb); have n7_ := zA (blk_below (g := gb387) (o := .cells #[.int .i64 t380, .slice Ao25 t381.length co25, .slice Ao26 t384.length co26] 26 (0, 0)) (by (with_reducible repeat (first | refine blk_drewN ?_ _ | refine blk_drew ?_ | refine blk_alloc ?_ _)); refine blk_put (cs := #[.int .i64 t380, .slice Ao25 t381.length co25, .slice none 0 0]) ?_ 2 _ rfl; (with_reducible repeat (first | refine blk_drewN ?_ _ | refine blk_drew ?_ | refine blk_alloc ?_ _)); refine blk_put (cs := #[.int .i64 t380, .slice none 0 0, .slice none 0 0]) ?_ 1 _ rfl; (with_reducible repeat (first | refine blk_drewN ?_ _ | refine blk_drew ?_ | refine blk_alloc ?_ _)); refine blk_put (cs := #[.int .i64 0, .slice none 0 0, .slice none 0 0]) ?_ 0 _ rfl; (with_reducible repeat (first | refine blk_drewN ?_ _ | refine blk_drew ?_ | refine blk_alloc ?_ _)); exact BK387.out) hb); have n8_ := xH HB hb; clear HO372 HO375 HO378 HO383 HO386 BK367 BK387 HB; have HO372 := n0_; have HO375 := n1_; have HO378 := n2_; have HO383 := n3_; have HO386 := n4_; have HO390 := n5_; have BK367 := n6_; have BK387 := n7_; have HB := n8_; clear n0_ n1_ n2_ n3_ n4_ n5_ n6_ n7_ n8_; (try clear hb); (try clear hb2); (try clear hk); (try clear hi); (try clear ho0)))
  (try simp only [Act.put, ls, lz, ln])
  go_cut [40] (fun v40 wc => ∃ (kq : Nat) (x40_10 : Bool), v40 = .bool x40_10 ∧ Aside0 (laws_FnExactNodePoly.j0 kq t376 t379 t388 t391 x40_10 a0_0 l0_1 l0_2 t380 t381 t384 = some r) ∧ Aside0 (kq ≤ k) ∧ Aside0 (Kd.R (Kd.int .i64) 2 wc w.heap.size (fun k_ => some k_ ≠ (v389 : Value).ownBlock ∧ some k_ ≠ ((.slice Ao25 t381.length co25) : Value).ownBlock ∧ some k_ ≠ ((.slice Ao26 t384.length co26) : Value).ownBlock) v377 t376) ∧ Aside0 (Kd.R (Kd.int .i64) 2 wc w.heap.size (fun k_ => some k_ ≠ (v377 : Value).ownBlock ∧ some k_ ≠ ((.slice Ao25 t381.length co25) : Value).ownBlock ∧ some k_ ≠ ((.slice Ao26 t384.length co26) : Value).ownBlock) v389 t388) ∧ Aside0 (Kd.R (Kd.int .i64) 2 wc w.heap.size (fun k_ => some k_ ≠ (v377 : Value).ownBlock ∧ some k_ ≠ (v389 : Value).ownBlock ∧ some k_ ≠ ((.slice Ao26 t384.length co26) : Value).ownBlock) (.slice Ao25 t381.length co25) t381) ∧ Aside0 (Kd.R (Kd.int .i64) 2 wc w.heap.size (fun k_ => some k_ ≠ (v377 : Value).ownBlock ∧ some k_ ≠ (v389 : Value).ownBlock ∧ some k_ ≠ ((.slice Ao25 t381.length co25) : Value).ownBlock) (.slice Ao26 t384.length co26) t384) ∧ Aside0 (wc.heap[gb367]? = some (.cells #[.int .i64 a0_0, (.slice A0_1 l0_1.length c0_1), (.slice A0_2 l0_2.length c0_2)] 24 (0, 0))) ∧ Aside0 (wc.heap[gb387]? = some (.cells #[.int .i64 t380, (.slice Ao25 t381.length co25), (.slice Ao26 t384.length co26)] 26 (0, 0))) ∧ Aside0 (Below w.heap.size w wc))
  case first =>
   have H := HC11.out
   clear HC11
   replace H := Option.bind_eq_some_iff.mp H
   obtain ⟨t392, A280, H⟩ := H
   replace H : (if t392 = true then (laws_FnExactNodePoly.j0 k t376 t379 t388 t391 (t391 != t379) a0_0 l0_1 l0_2 t380 t381 t384) else (laws_FnExactNodePoly.j0 k t376 t379 t388 t391 true a0_0 l0_1 l0_2 t380 t381 t384)) = some r := H
   have A28 := zA A280
   clear A280
   by_cases c29 : t392 = true
   ·subst c29
    have H1 : (laws_FnExactNodePoly.j0 k t376 t379 t388 t391 (t391 != t379) a0_0 l0_1 l0_2 t380 t381 t384) = some r := by rw [if_pos rfl] at H; exact H
    clear H
    have H := H1
    clear H1
    have H' := zA H
    clear H
    obtain ⟨Ao30, co30, eo30⟩ := Kd.R_slice HO390.out
    subst eo30
    obtain ⟨Ao31, co31, eo31⟩ := Kd.R_slice HO378.out
    subst eo31
    go_wp2_with (first | ((with_reducible refine gate_callee (f := 23) rfl ?_); refine goesL_ (some 34) rfl rfl Try.func23 (by kernel_rfl) rfl #[.slice Ao30 t388.length co30, .slice Ao31 t376.length co31] rfl (by (try simp only [la, lb, lc]); first | done | rfl | (simp only [ld, le]; rfl)) ?_; (with_reducible refine (laws_eqInt64S.calls k _ _ t388 _ _ t376 true _ ?side1 ?side2 ?side3 ?side4 A28.out).mono ?_); (case side1 => exact uC ((Kd.R_reads' HO390.out).2.2)); (case side2 => exact (Kd.R_reads' HO390.out).2.1); (case side3 => exact uC ((Kd.R_reads' HO378.out).2.2)); (case side4 => exact (Kd.R_reads' HO378.out).2.1); rintro e w' ⟨rfl, ⟨nd, rfl⟩⟩; refine ⟨_, rfl, ?_⟩))
    go_meet
    case rel => exact ⟨_, ((t391 != t379)), (by first | rfl | (simp; done) | (simp [*]; done)), H', ⟨by first | omega | exact Nat.le_refl _⟩, ⟨uR (Kd.R_mono HO378.out (fun _ hk => ⟨hk.2, ⟨hk.1.1.2, hk.1.2⟩⟩))⟩, ⟨uR (Kd.R_mono HO390.out (fun _ hk => ⟨hk.1.1.2, ⟨hk.1.2, hk.2⟩⟩))⟩, ⟨uR (Kd.R_mono HO383.out (fun _ hk => ⟨hk.1.2, ⟨hk.2, hk.1.1.1.1⟩⟩))⟩, ⟨uR (Kd.R_mono HO386.out (fun _ hk => ⟨hk.1.2, ⟨hk.2, hk.1.1.1.1⟩⟩))⟩, ⟨uB BK367.out⟩, ⟨uB BK387.out⟩, ⟨uH HB.out⟩⟩
   ·replace c29 := Bool.eq_false_iff.mpr c29
    subst c29
    have H1 : (laws_FnExactNodePoly.j0 k t376 t379 t388 t391 true a0_0 l0_1 l0_2 t380 t381 t384) = some r := by rw [if_neg (show ¬ (false = true) by decide)] at H; exact H
    clear H
    have H := H1
    clear H1
    have H' := zA H
    clear H
    obtain ⟨Ao32, co32, eo32⟩ := Kd.R_slice HO390.out
    subst eo32
    obtain ⟨Ao33, co33, eo33⟩ := Kd.R_slice HO378.out
    subst eo33
    go_wp2_with (first | ((with_reducible refine gate_callee (f := 23) rfl ?_); refine goesL_ (some 34) rfl rfl Try.func23 (by kernel_rfl) rfl #[.slice Ao32 t388.length co32, .slice Ao33 t376.length co33] rfl (by (try simp only [la, lb, lc]); first | done | rfl | (simp only [ld, le]; rfl)) ?_; (with_reducible refine (laws_eqInt64S.calls k _ _ t388 _ _ t376 false _ ?side1 ?side2 ?side3 ?side4 A28.out).mono ?_); (case side1 => exact uC ((Kd.R_reads' HO390.out).2.2)); (case side2 => exact (Kd.R_reads' HO390.out).2.1); (case side3 => exact uC ((Kd.R_reads' HO378.out).2.2)); (case side4 => exact (Kd.R_reads' HO378.out).2.1); rintro e w' ⟨rfl, ⟨nd, rfl⟩⟩; refine ⟨_, rfl, ?_⟩))
    go_meet
    case rel => exact ⟨_, (true), (by first | rfl | (simp; done) | (simp [*]; done)), H', ⟨by first | omega | exact Nat.le_refl _⟩, ⟨uR (Kd.R_mono HO378.out (fun _ hk => ⟨hk.2, ⟨hk.1.1.2, hk.1.2⟩⟩))⟩, ⟨uR (Kd.R_mono HO390.out (fun _ hk => ⟨hk.1.1.2, ⟨hk.1.2, hk.2⟩⟩))⟩, ⟨uR (Kd.R_mono HO383.out (fun _ hk => ⟨hk.1.2, ⟨hk.2, hk.1.1.1.1⟩⟩))⟩, ⟨uR (Kd.R_mono HO386.out (fun _ hk => ⟨hk.1.2, ⟨hk.2, hk.1.1.1.1⟩⟩))⟩, ⟨uB BK367.out⟩, ⟨uB BK387.out⟩, ⟨uH HB.out⟩⟩
  case rest =>
   clear HC11
   try clear c1
   try clear c2
   try clear p2
   try clear c3
   try clear c3b0
   try clear c5
   try clear c13
   try clear c15
   try clear c23
   try clear c24
   try clear c25
   try clear c29
   try clear hcz13_0
   try clear hcz13_1
   try clear hcz13_2
   try clear hcz15_0
   try clear hcz15_1
   try clear hcz15_2
   try clear hcz20_0
   try clear hcz20_1
   try clear hcz20_2
   try clear hcz24_0
   try clear hcz24_1
   try clear hcz24_2
   try clear hcz5_0
   try clear hcz5_1
   try clear hcz5_2
   try clear hfz13_0
   try clear hfz13_1
   try clear hfz13_2
   try clear hfz15_0
   try clear hfz15_1
   try clear hfz15_2
   try clear hfz20_0
   try clear hfz20_1
   try clear hfz20_2
   try clear hfz24_0
   try clear hfz24_1
   try clear hfz24_2
   try clear hfz5_0
   try clear hfz5_1
   try clear hfz5_2
   obtain ⟨kq, x40_10, rfl, HA, HJ10, HO_4, HO_7, HO_388001, HO_388002, BK367, BK387, HB⟩ := hcut
   cases kq with
   | zero => exact absurd HA.out (by simp [laws_FnExactNodePoly.j0])
   | succ kj10 =>
    have H := HA.out
    clear HA
    simp only [laws_FnExactNodePoly.j0] at H
    by_cases c34 : x40_10 = true
    ·subst c34
     have H1 : (some false) = some r := by rw [if_pos rfl] at H; exact H
     clear H
     have H := H1
     clear H1
     rw [HRT.out] at H
     exact absurd H (by simp)
    ·replace c34 := Bool.eq_false_iff.mpr c34
     subst c34
     have H1 : ((laws_toRule.f kj10 a0_0 l0_1 l0_2).bind fun bt393 => ((laws_eqRule.f kj10 t380 t381 t384 bt393.1 bt393.2.1 bt393.2.2).bind fun t400 => (if t400 = true then ((laws_markRule.f kj10 t380 t381 t384 1).bind fun bt401 => (if bt401.1 < 0 then (laws_FnExactNodePoly.j1 kj10 t376 t379 t388 true a0_0 l0_1 l0_2) else ((laws_eqInt64S.f kj10 t388 t376).bind fun t404 => (if t404 = true then (laws_FnExactNodePoly.j1 kj10 t376 t379 t388 (t391 != t379) a0_0 l0_1 l0_2) else (laws_FnExactNodePoly.j1 kj10 t376 t379 t388 true a0_0 l0_1 l0_2))))) else (some false)))) = some r := by rw [if_neg (show ¬ (false = true) by decide)] at H; exact H
     clear H
     have H := H1
     clear H1
     replace H := Option.bind_eq_some_iff.mp H
     obtain ⟨⟨t393, t394, t397⟩, A350, H⟩ := H
     replace H : ((laws_eqRule.f kj10 t380 t381 t384 t393 t394 t397).bind fun t400 => (if t400 = true then ((laws_markRule.f kj10 t380 t381 t384 1).bind fun bt401 => (if bt401.1 < 0 then (laws_FnExactNodePoly.j1 kj10 t376 t379 t388 true a0_0 l0_1 l0_2) else ((laws_eqInt64S.f kj10 t388 t376).bind fun t404 => (if t404 = true then (laws_FnExactNodePoly.j1 kj10 t376 t379 t388 (t391 != t379) a0_0 l0_1 l0_2) else (laws_FnExactNodePoly.j1 kj10 t376 t379 t388 true a0_0 l0_1 l0_2))))) else (some false))) = some r := H
     have A35 := zA A350
     clear A350
     replace H := Option.bind_eq_some_iff.mp H
     obtain ⟨t400, A360, H⟩ := H
     replace H : (if t400 = true then ((laws_markRule.f kj10 t380 t381 t384 1).bind fun bt401 => (if bt401.1 < 0 then (laws_FnExactNodePoly.j1 kj10 t376 t379 t388 true a0_0 l0_1 l0_2) else ((laws_eqInt64S.f kj10 t388 t376).bind fun t404 => (if t404 = true then (laws_FnExactNodePoly.j1 kj10 t376 t379 t388 (t391 != t379) a0_0 l0_1 l0_2) else (laws_FnExactNodePoly.j1 kj10 t376 t379 t388 true a0_0 l0_1 l0_2))))) else (some false)) = some r := H
     have A36 := zA A360
     clear A360
     by_cases c37 : t400 = true
     ·subst c37
      have H1 : ((laws_markRule.f kj10 t380 t381 t384 1).bind fun bt401 => (if bt401.1 < 0 then (laws_FnExactNodePoly.j1 kj10 t376 t379 t388 true a0_0 l0_1 l0_2) else ((laws_eqInt64S.f kj10 t388 t376).bind fun t404 => (if t404 = true then (laws_FnExactNodePoly.j1 kj10 t376 t379 t388 (t391 != t379) a0_0 l0_1 l0_2) else (laws_FnExactNodePoly.j1 kj10 t376 t379 t388 true a0_0 l0_1 l0_2))))) = some r := by rw [if_pos rfl] at H; exact H
      clear H
      have H := H1
      clear H1
      replace H := Option.bind_eq_some_iff.mp H
      obtain ⟨⟨t401, t402, t403⟩, A380, H⟩ := H
      replace H : (if t401 < 0 then (laws_FnExactNodePoly.j1 kj10 t376 t379 t388 true a0_0 l0_1 l0_2) else ((laws_eqInt64S.f kj10 t388 t376).bind fun t404 => (if t404 = true then (laws_FnExactNodePoly.j1 kj10 t376 t379 t388 (t391 != t379) a0_0 l0_1 l0_2) else (laws_FnExactNodePoly.j1 kj10 t376 t379 t388 true a0_0 l0_1 l0_2)))) = some r := H
      have A38 := zA A380
      clear A380
      have HC39 := zA H
      clear H
      try go_wp2
      have n0_ := zA (Kd.R_drew HO_4.out)
      have n1_ := zA (Kd.R_drew HO_7.out)
      have n2_ := zA (Kd.R_drew HO_388001.out)
      have n3_ := zA (Kd.R_drew HO_388002.out)
      have n4_ := zA (blk_drew BK367.out)
      have n5_ := zA (blk_drew BK387.out)
      have n6_ := zA (below_drew1 HB.out)
      clear HO_4 HO_7 HO_388001 HO_388002 BK367 BK387 HB
      have HO_4 := n0_; have HO_7 := n1_; have HO_388001 := n2_; have HO_388002 := n3_; have BK367 := n4_; have BK387 := n5_; have HB := n6_
      clear n0_ n1_ n2_ n3_ n4_ n5_ n6_
      refine start_ (n := 5) (S := fun w' => w'.cell? ⟨gb387, 0, none⟩ = some (.int .i64 t380) ∧ w'.cell? ⟨gb387, 1, none⟩ = some (.slice Ao25 t381.length co25) ∧ w'.cell? ⟨gb387, 2, none⟩ = some (.slice Ao26 t384.length co26) ∧ w'.cell? ⟨gb367, 0, none⟩ = some (.int .i64 a0_0) ∧ w'.cell? ⟨gb367, 1, none⟩ = some (.slice A0_1 l0_1.length c0_1) ∧ w'.cell? ⟨gb367, 2, none⟩ = some (.slice A0_2 l0_2.length c0_2)) (ds := []) #[false, false, false, false, false] (by kernel_rfl) rfl rfl ⟨(blk_cell BK387.out 0).trans rfl, (blk_cell BK387.out 1).trans rfl, (blk_cell BK387.out 2).trans rfl, (blk_cell BK367.out 0).trans rfl, (blk_cell BK367.out 1).trans rfl, (blk_cell BK367.out 2).trans rfl⟩ (fun hHeld => ?_)
      generalize wc.drew = w40 at HO_4 HO_7 HO_388001 HO_388002 BK367 BK387 HB hHeld ⊢
      refine take_ (i := 0) (N := some 41) (v := ?_) (a' := ?_) #[true, false, false, false, false] rfl rfl (by kernel_rfl) (fun _ _ _ h => h) (Or.inl ⟨by rfl, ?_⟩) hHeld ?_ ?_
      rotate_left
      ·rintro w' ⟨s0, s1, s2, s3, s4, s5⟩
       go_simp
       with_reducible rfl
      rotate_left
      ·simp only [Act.put, ls, lz, ln, i64_w, i32_w]
       rfl
      refine take_ (i := 1) (N := some 42) (v := ?_) (a' := ?_) #[true, true, false, false, false] rfl rfl (by kernel_rfl) (fun _ _ _ h => h) (Or.inl ⟨by rfl, ?_⟩) hHeld ?_ ?_
      rotate_left
      ·rintro w' ⟨s0, s1, s2, s3, s4, s5⟩
       go_simp
       with_reducible rfl
      rotate_left
      ·simp only [Act.put, ls, lz, ln, i64_w, i32_w]
       rfl
      refine one_ (i := 2) (N := some 43) #[true, true, true, false, false] rfl rfl (by kernel_rfl) (by decide) (fun K hK => ?_)
      refine goes_ Try.func15 (by kernel_rfl) rfl #[.agg #[.int .i64 a0_0, .slice A0_1 l0_1.length c0_1, .slice A0_2 l0_2.length c0_2]] (by rfl) rfl rfl (by (try simp only [la, lb, lc]); first | done | rfl | (simp only [ld, le]; rfl)) ?_
      with_reducible refine (laws_toRule.calls kj10 a0_0 _ _ l0_1 _ _ l0_2 t393 t394 t397 _ ?side1 ?side2 ?side3 ?side4 A35.out).mono ?_
      (case side1 => exact uC ((Kd.C_below HR0_1.out HB.out)))
      (case side2 => exact HC0_1.out)
      (case side3 => exact uC ((Kd.C_below HR0_2.out HB.out)))
      (case side4 => exact HC0_2.out)
      rintro e w41 ⟨v395, v398, rfl, ho0, ho1, hb⟩
      refine ⟨_, rfl, ?_⟩
      have n0_ := zA (Kd.R_mono (Kd.R_told (Kd.R_told (Kd.R_old (uR HO_4.out) hb) (Kd.R_base ho0)) (Kd.R_base ho1)) (fun _ h_ => h_.1))
      have n1_ := zA (Kd.R_mono (Kd.R_told (Kd.R_told (Kd.R_old (uR HO_7.out) hb) (Kd.R_base ho0)) (Kd.R_base ho1)) (fun _ h_ => h_.1))
      have n2_ := zA (Kd.R_mono (Kd.R_told (Kd.R_told (Kd.R_old (uR HO_388001.out) hb) (Kd.R_base ho0)) (Kd.R_base ho1)) (fun _ h_ => h_.1))
      have n3_ := zA (Kd.R_mono (Kd.R_told (Kd.R_told (Kd.R_old (uR HO_388002.out) hb) (Kd.R_base ho0)) (Kd.R_base ho1)) (fun _ h_ => h_.1))
      have n4_ := zA (Kd.R_lower (Kd.R_new' (Kd.R_new' (Kd.R_new' (Kd.R_new' ho0 (Kd.R_lt (uR HO_4.out))) (Kd.R_lt (uR HO_7.out))) (Kd.R_lt (uR HO_388001.out))) (Kd.R_lt (uR HO_388002.out))) (below_size (uH HB.out)))
      have n5_ := zA (Kd.R_lower (Kd.R_new' (Kd.R_new' (Kd.R_new' (Kd.R_new' ho1 (Kd.R_lt (uR HO_4.out))) (Kd.R_lt (uR HO_7.out))) (Kd.R_lt (uR HO_388001.out))) (Kd.R_lt (uR HO_388002.out))) (below_size (uH HB.out)))
      have n6_ := xB BK367 hb
      have n7_ := xB BK387 hb
      have n8_ := xH HB hb
      clear HO_4 HO_7 HO_388001 HO_388002 BK367 BK387 HB
      have HO_4 := n0_; have HO_7 := n1_; have HO_388001 := n2_; have HO_388002 := n3_; have HO396 := n4_; have HO399 := n5_; have BK367 := n6_; have BK387 := n7_; have HB := n8_
      clear n0_ n1_ n2_ n3_ n4_ n5_ n6_ n7_ n8_
      (try clear hb); (try clear hb2); (try clear hk); (try clear hi); (try clear ho0); (try clear ho1)
      obtain ⟨Ao42, co42, eo42⟩ := Kd.R_slice HO396.out
      (first | subst eo42 | (injection eo42 with f1_ f2_ f3_; have f4_ := f1_.symm; have f5_ := f3_.symm; clear f1_ f2_ f3_; subst f4_; subst f5_))
      obtain ⟨Ao43, co43, eo43⟩ := Kd.R_slice HO399.out
      (first | subst eo43 | (injection eo43 with f1_ f2_ f3_; have f4_ := f1_.symm; have f5_ := f3_.symm; clear f1_ f2_ f3_; subst f4_; subst f5_))
      refine hK.out _ _ ⟨(blk_cell BK387.out 0).trans rfl, (blk_cell BK387.out 1).trans rfl, (blk_cell BK387.out 2).trans rfl, (blk_cell BK367.out 0).trans rfl, (blk_cell BK367.out 1).trans rfl, (blk_cell BK367.out 2).trans rfl⟩ (fun hHeld => ?_)
      clear hK K
      refine norm_ (a' := ?_) ?_ ?_
      rotate_left
      ·show Act.put _ (some 43) _ = _
       simp only [Act.put, ls, lz, ln, i64_w, i32_w]
       rfl
      refine one_ (i := 3) (N := some 44) #[true, true, true, true, false] rfl rfl (by kernel_rfl) (by decide) (fun K hK => ?_)
      refine goes_ Try.func17 (by kernel_rfl) rfl #[.agg #[.int .i64 t380, .slice Ao25 t381.length co25, .slice Ao26 t384.length co26], .agg #[.int .i64 t393, .slice Ao42 t394.length co42, .slice Ao43 t397.length co43]] (by rfl) rfl rfl (by (try simp only [la, lb, lc]); first | done | rfl | (simp only [ld, le]; rfl)) ?_
      with_reducible refine (laws_eqRule.calls kj10 t380 _ _ t381 _ _ t384 t393 _ _ t394 _ _ t397 true _ ?side1 ?side2 ?side3 ?side4 ?side5 ?side6 ?side7 ?side8 A36.out).mono ?_
      (case side1 => exact uC ((Kd.R_reads' HO_388001.out).2.2))
      (case side2 => exact (Kd.R_reads' HO_388001.out).2.1)
      (case side3 => exact uC ((Kd.R_reads' HO_388002.out).2.2))
      (case side4 => exact (Kd.R_reads' HO_388002.out).2.1)
      (case side5 => exact uC ((Kd.R_reads' HO396.out).2.2))
      (case side6 => exact (Kd.R_reads' HO396.out).2.1)
      (case side7 => exact uC ((Kd.R_reads' HO399.out).2.2))
      (case side8 => exact (Kd.R_reads' HO399.out).2.1)
      rintro e w44 ⟨rfl, hb⟩
      refine ⟨_, rfl, ?_⟩
      have n0_ := xR HO_4 hb
      have n1_ := xR HO_7 hb
      have n2_ := xR HO_388001 hb
      have n3_ := xR HO_388002 hb
      have n4_ := xR HO396 hb
      have n5_ := xR HO399 hb
      have n6_ := xB BK367 hb
      have n7_ := xB BK387 hb
      have n8_ := xH HB hb
      clear HO_4 HO_7 HO_388001 HO_388002 HO396 HO399 BK367 BK387 HB
      have HO_4 := n0_; have HO_7 := n1_; have HO_388001 := n2_; have HO_388002 := n3_; have HO396 := n4_; have HO399 := n5_; have BK367 := n6_; have BK387 := n7_; have HB := n8_
      clear n0_ n1_ n2_ n3_ n4_ n5_ n6_ n7_ n8_
      (try clear hb); (try clear hb2); (try clear hk); (try clear hi)
      refine hK.out _ _ ⟨(blk_cell BK387.out 0).trans rfl, (blk_cell BK387.out 1).trans rfl, (blk_cell BK387.out 2).trans rfl, (blk_cell BK367.out 0).trans rfl, (blk_cell BK367.out 1).trans rfl, (blk_cell BK367.out 2).trans rfl⟩ (fun hHeld => ?_)
      clear hK K
      refine norm_ (a' := ?_) ?_ ?_
      rotate_left
      ·show Act.put _ (some 44) _ = _
       simp only [Act.put, ls, lz, ln, i64_w, i32_w]
       rfl
      refine pure_ (i := 4) (N := some 45) (v := ?_) (a' := ?_) #[true, true, true, true, true] rfl rfl (by kernel_rfl) (fun _ _ _ h => h) (Or.inl ⟨by rfl, ?_⟩) ?_ ?_
      rotate_left
      ·intro w'
       go_simp
       with_reducible rfl
      rotate_left
      ·simp only [Act.put, ls, lz, ln, i64_w, i32_w]
       rfl
      refine done_ (by kernel_rfl) ?_
      have hnb45 := NB387_367.out; have hnc45 := NB367_387.out
      have hcz46_0 : w44.cell? ⟨gb387, 0, none⟩ = some (.int .i64 t380) := (blk_cell BK387.out 0).trans rfl
      have hcz46_1 : w44.cell? ⟨gb387, 1, none⟩ = some (.slice Ao25 t381.length co25) := (blk_cell BK387.out 1).trans rfl
      have hcz46_2 : w44.cell? ⟨gb387, 2, none⟩ = some (.slice Ao26 t384.length co26) := (blk_cell BK387.out 2).trans rfl
      have hfz46_0 := blk_frozen BK387.out 0
      have hfz46_1 := blk_frozen BK387.out 1
      have hfz46_2 := blk_frozen BK387.out 2
      go_upto_region 14 with (first | ((with_reducible refine gate_callee (f := 18) rfl ?_); refine goesL_ (some 48) rfl rfl Try.func18 (by kernel_rfl) rfl #[.agg #[.int .i64 t380, .slice Ao25 t381.length co25, .slice Ao26 t384.length co26], .int .i64 1] rfl (by (try simp only [la, lb, lc]); first | done | rfl | (simp only [ld, le]; rfl)) ?_; (with_reducible refine (laws_markRule.calls kj10 t380 (fun k_ => some k_ = (.slice Ao25 t381.length co25 : Value).ownBlock) (.slice Ao25 t381.length co25) t381 (fun k_ => some k_ = (.slice Ao26 t384.length co26 : Value).ownBlock) (.slice Ao26 t384.length co26) t384 1 t401 t402 t403 w _ ?side1 ?side2 ?side3 ?side4 ?side5 A38.out).mono ?_); (case side1 => repeat (first | (with_reducible first | exact HB.out | apply below_alloc | apply pw_below_drewN | apply below_drew1 | refine below_set ?_ GE367.out | refine below_set ?_ GE387.out) | exact HB.out)); (case side2 => exact Kd.R_tight rfl HO_388001.out); (case side3 => exact fun k_ e_ => (HO_388001.out.1 k_ e_.symm).1.1.2.2); (case side4 => exact Kd.R_tight rfl HO_388002.out); (case side5 => exact fun k_ e_ => (HO_388002.out.1 k_ e_.symm).1.1.2.2); rintro e w47 ⟨rfl, hy0, hy1, hb, hkp⟩; refine ⟨_, rfl, ?_⟩; have n0_ := zA (Kd.R_mono (ok' := fun k_ => some k_ ≠ (v389 : Value).ownBlock ∧ some k_ ≠ (.slice Ao25 t381.length co25 : Value).ownBlock ∧ some k_ ≠ (.slice Ao26 t384.length co26 : Value).ownBlock ∧ some k_ ≠ (.slice Ao42 t394.length co42 : Value).ownBlock ∧ some k_ ≠ (.slice Ao43 t397.length co43 : Value).ownBlock) (Kd.R_keptB (HO_4.out) hkp (fun k_ hk_ hs_ => Or.elim hs_ (fun e_ => (hk_.1.1.2.1) e_) (fun e_ => (hk_.1.1.2.2) e_))) (fun k_ hk_ => ⟨hk_.1.1.1.1, hk_.1.1.1.2.1, hk_.1.1.1.2.2, hk_.1.1.2, hk_.1.2⟩)); have n1_ := zA (Kd.R_mono (ok' := fun k_ => some k_ ≠ (v377 : Value).ownBlock ∧ some k_ ≠ (.slice Ao25 t381.length co25 : Value).ownBlock ∧ some k_ ≠ (.slice Ao26 t384.length co26 : Value).ownBlock ∧ some k_ ≠ (.slice Ao42 t394.length co42 : Value).ownBlock ∧ some k_ ≠ (.slice Ao43 t397.length co43 : Value).ownBlock) (Kd.R_keptB (HO_7.out) hkp (fun k_ hk_ hs_ => Or.elim hs_ (fun e_ => (hk_.1.1.2.1) e_) (fun e_ => (hk_.1.1.2.2) e_))) (fun k_ hk_ => ⟨hk_.1.1.1.1, hk_.1.1.1.2.1, hk_.1.1.1.2.2, hk_.1.1.2, hk_.1.2⟩)); have n2_ := zA (Kd.R_reok rfl hy0 (fun k_ e_ => HO_388001.out.1 k_ e_)); have n3_ := zA (Kd.R_reok rfl hy1 (fun k_ e_ => HO_388002.out.1 k_ e_)); have n4_ := zA (blk_kept (uB BK367.out) hkp (fun hs_ => Or.elim hs_ (fun e_ => (fun e_ => (Kd.R_ne HO_388001.out BK367.out (by decide)) e_) e_) (fun e_ => (fun e_ => (Kd.R_ne HO_388002.out BK367.out (by decide)) e_) e_))); have n5_ := zA (blk_kept (uB BK387.out) hkp (fun hs_ => Or.elim hs_ (fun e_ => (fun e_ => (Kd.R_ne HO_388001.out BK387.out (by decide)) e_) e_) (fun e_ => (fun e_ => (Kd.R_ne HO_388002.out BK387.out (by decide)) e_) e_))); have n6_ := zA (Kd.R_mono (ok' := fun k_ => some k_ ≠ (v377 : Value).ownBlock ∧ some k_ ≠ (v389 : Value).ownBlock ∧ some k_ ≠ (.slice Ao25 t381.length co25 : Value).ownBlock ∧ some k_ ≠ (.slice Ao26 t384.length co26 : Value).ownBlock ∧ some k_ ≠ (.slice Ao43 t397.length co43 : Value).ownBlock) (Kd.R_keptB (HO396.out) hkp (fun k_ hk_ hs_ => Or.elim hs_ (fun e_ => (hk_.1.2) e_) (fun e_ => (hk_.2) e_))) (fun k_ hk_ => ⟨hk_.1.1.1.1.2, hk_.1.1.1.2, hk_.1.1.2, hk_.1.2, hk_.1.1.1.1.1⟩)); have n7_ := zA (Kd.R_mono (ok' := fun k_ => some k_ ≠ (v377 : Value).ownBlock ∧ some k_ ≠ (v389 : Value).ownBlock ∧ some k_ ≠ (.slice Ao25 t381.length co25 : Value).ownBlock ∧ some k_ ≠ (.slice Ao26 t384.length co26 : Value).ownBlock ∧ some k_ ≠ (.slice Ao42 t394.length co42 : Value).ownBlock) (Kd.R_keptB (HO399.out) hkp (fun k_ hk_ hs_ => Or.elim hs_ (fun e_ => (hk_.1.2) e_) (fun e_ => (hk_.2) e_))) (fun k_ hk_ => ⟨hk_.1.1.1.1.2, hk_.1.1.1.2, hk_.1.1.2, hk_.1.2, hk_.1.1.1.1.1⟩)); have n8_ := zA (hb); clear HO_4 HO_7 HO_388001 HO_388002 BK367 BK387 HO396 HO399 HB; have HO_4 := n0_; have HO_7 := n1_; have HO_388001 := n2_; have HO_388002 := n3_; have BK367 := n4_; have BK387 := n5_; have HO396 := n6_; have HO399 := n7_; have HB := n8_; clear n0_ n1_ n2_ n3_ n4_ n5_ n6_ n7_ n8_; (try clear hb); (try clear hkp); (try clear hy0); (try clear hy1)))
      (try simp only [Act.put, ls, lz, ln])
      go_cut [61] (fun v61 wc => ∃ (kq : Nat) (x61_38 : Bool), v61 = .bool x61_38 ∧ Aside0 (laws_FnExactNodePoly.j1 kq t376 t379 t388 x61_38 a0_0 l0_1 l0_2 = some r) ∧ Aside0 (kq ≤ kj10) ∧ Aside0 (Kd.R (Kd.int .i64) 2 wc w.heap.size (fun k_ => some k_ ≠ (v389 : Value).ownBlock ∧ some k_ ≠ ((.slice Ao25 t381.length co25) : Value).ownBlock ∧ some k_ ≠ ((.slice Ao26 t384.length co26) : Value).ownBlock) v377 t376) ∧ Aside0 (Kd.R (Kd.int .i64) 2 wc w.heap.size (fun k_ => some k_ ≠ (v377 : Value).ownBlock ∧ some k_ ≠ ((.slice Ao25 t381.length co25) : Value).ownBlock ∧ some k_ ≠ ((.slice Ao26 t384.length co26) : Value).ownBlock) v389 t388) ∧ Aside0 (Kd.R (Kd.int .i64) 2 wc w.heap.size (fun k_ => some k_ ≠ (v377 : Value).ownBlock ∧ some k_ ≠ (v389 : Value).ownBlock ∧ some k_ ≠ ((.slice Ao26 t384.length co26) : Value).ownBlock) (.slice Ao25 t381.length co25) t402) ∧ Aside0 (Kd.R (Kd.int .i64) 2 wc w.heap.size (fun k_ => some k_ ≠ (v377 : Value).ownBlock ∧ some k_ ≠ (v389 : Value).ownBlock ∧ some k_ ≠ ((.slice Ao25 t381.length co25) : Value).ownBlock) (.slice Ao26 t384.length co26) t403) ∧ Aside0 (wc.heap[gb367]? = some (.cells #[.int .i64 a0_0, (.slice A0_1 l0_1.length c0_1), (.slice A0_2 l0_2.length c0_2)] 24 (0, 0))) ∧ Aside0 (wc.heap[gb387]? = some (.cells #[.int .i64 t380, (.slice Ao25 t381.length co25), (.slice Ao26 t384.length co26)] 26 (0, 0))) ∧ Aside0 (Below w.heap.size w wc))
      case first =>
       have H := HC39.out
       clear HC39
       by_cases c48 : t401 < 0
       ·rw [if_pos c48] at H
        have c48b0 : decide (t401 < 0) = true := decide_eq_true c48
        clear c48
        (first | rw [c48b0] | (simp only [i64_w, i32_w]; rw [c48b0]) | skip)
        have H' := zA H
        clear H
        go_wp2
        go_meet
        case rel => exact ⟨_, (true), (by first | rfl | (simp; done) | (simp [*]; done)), H', ⟨by have := HJ10.out; first | omega | exact Nat.le_refl _⟩, ⟨uR (Kd.R_mono HO_4.out (fun _ hk => ⟨hk.1, ⟨hk.2.1, hk.2.2.1⟩⟩))⟩, ⟨uR (Kd.R_mono HO_7.out (fun _ hk => ⟨hk.1, ⟨hk.2.1, hk.2.2.1⟩⟩))⟩, ⟨uR (Kd.R_mono HO_388001.out (fun _ hk => ⟨hk.1.1.1, ⟨hk.1.1.2.1, hk.1.1.2.2⟩⟩))⟩, ⟨uR (Kd.R_mono HO_388002.out (fun _ hk => ⟨hk.1.1.1, ⟨hk.1.1.2.1, hk.1.1.2.2⟩⟩))⟩, ⟨uB BK367.out⟩, ⟨uB BK387.out⟩, ⟨uH HB.out⟩⟩
       ·rw [if_neg c48] at H
        have c48b0 : decide (t401 < 0) = false := decide_eq_false c48
        clear c48
        (first | rw [c48b0] | (simp only [i64_w, i32_w]; rw [c48b0]) | skip)
        replace H := Option.bind_eq_some_iff.mp H
        obtain ⟨t404, A490, H⟩ := H
        replace H : (if t404 = true then (laws_FnExactNodePoly.j1 kj10 t376 t379 t388 (t391 != t379) a0_0 l0_1 l0_2) else (laws_FnExactNodePoly.j1 kj10 t376 t379 t388 true a0_0 l0_1 l0_2)) = some r := H
        have A49 := zA A490
        clear A490
        by_cases c50 : t404 = true
        ·subst c50
         have H1 : (laws_FnExactNodePoly.j1 kj10 t376 t379 t388 (t391 != t379) a0_0 l0_1 l0_2) = some r := by rw [if_pos rfl] at H; exact H
         clear H
         have H := H1
         clear H1
         have H' := zA H
         clear H
         obtain ⟨Ao51, co51, eo51⟩ := Kd.R_slice HO_7.out
         subst eo51
         obtain ⟨Ao52, co52, eo52⟩ := Kd.R_slice HO_4.out
         subst eo52
         go_wp2_with (first | (go_at_call 23; (with_reducible refine (laws_eqInt64S.calls kj10 _ _ t388 _ _ t376 true _ ?side1 ?side2 ?side3 ?side4 A49.out).mono ?_); (case side1 => exact uC ((Kd.R_reads' HO_7.out).2.2)); (case side2 => exact (Kd.R_reads' HO_7.out).2.1); (case side3 => exact uC ((Kd.R_reads' HO_4.out).2.2)); (case side4 => exact (Kd.R_reads' HO_4.out).2.1); rintro e w' ⟨rfl, ⟨nd, rfl⟩⟩))
         go_meet
         case rel => exact ⟨_, ((t391 != t379)), (by first | rfl | (simp; done) | (simp [*]; done)), H', ⟨by have := HJ10.out; first | omega | exact Nat.le_refl _⟩, ⟨uR (Kd.R_mono HO_4.out (fun _ hk => ⟨hk.1, ⟨hk.2.1, hk.2.2.1⟩⟩))⟩, ⟨uR (Kd.R_mono HO_7.out (fun _ hk => ⟨hk.1, ⟨hk.2.1, hk.2.2.1⟩⟩))⟩, ⟨uR (Kd.R_mono HO_388001.out (fun _ hk => ⟨hk.1.1.1, ⟨hk.1.1.2.1, hk.1.1.2.2⟩⟩))⟩, ⟨uR (Kd.R_mono HO_388002.out (fun _ hk => ⟨hk.1.1.1, ⟨hk.1.1.2.1, hk.1.1.2.2⟩⟩))⟩, ⟨uB BK367.out⟩, ⟨uB BK387.out⟩, ⟨uH HB.out⟩⟩
        ·replace c50 := Bool.eq_false_iff.mpr c50
         subst c50
         have H1 : (laws_FnExactNodePoly.j1 kj10 t376 t379 t388 true a0_0 l0_1 l0_2) = some r := by rw [if_neg (show ¬ (false = true) by decide)] at H; exact H
         clear H
         have H := H1
         clear H1
         have H' := zA H
         clear H
         obtain ⟨Ao53, co53, eo53⟩ := Kd.R_slice HO_7.out
         subst eo53
         obtain ⟨Ao54, co54, eo54⟩ := Kd.R_slice HO_4.out
         subst eo54
         go_wp2_with (first | (go_at_call 23; (with_reducible refine (laws_eqInt64S.calls kj10 _ _ t388 _ _ t376 false _ ?side1 ?side2 ?side3 ?side4 A49.out).mono ?_); (case side1 => exact uC ((Kd.R_reads' HO_7.out).2.2)); (case side2 => exact (Kd.R_reads' HO_7.out).2.1); (case side3 => exact uC ((Kd.R_reads' HO_4.out).2.2)); (case side4 => exact (Kd.R_reads' HO_4.out).2.1); rintro e w' ⟨rfl, ⟨nd, rfl⟩⟩))
         go_meet
         case rel => exact ⟨_, (true), (by first | rfl | (simp; done) | (simp [*]; done)), H', ⟨by have := HJ10.out; first | omega | exact Nat.le_refl _⟩, ⟨uR (Kd.R_mono HO_4.out (fun _ hk => ⟨hk.1, ⟨hk.2.1, hk.2.2.1⟩⟩))⟩, ⟨uR (Kd.R_mono HO_7.out (fun _ hk => ⟨hk.1, ⟨hk.2.1, hk.2.2.1⟩⟩))⟩, ⟨uR (Kd.R_mono HO_388001.out (fun _ hk => ⟨hk.1.1.1, ⟨hk.1.1.2.1, hk.1.1.2.2⟩⟩))⟩, ⟨uR (Kd.R_mono HO_388002.out (fun _ hk => ⟨hk.1.1.1, ⟨hk.1.1.2.1, hk.1.1.2.2⟩⟩))⟩, ⟨uB BK367.out⟩, ⟨uB BK387.out⟩, ⟨uH HB.out⟩⟩
      case rest =>
       clear HC39
       try clear c1
       try clear c2
       try clear p2
       try clear c3
       try clear c3b0
       try clear c4
       try clear c5
       try clear c13
       try clear c15
       try clear c17
       try clear c18
       try clear c23
       try clear c24
       try clear c25
       try clear c29
       try clear c34
       try clear c37
       try clear c45
       try clear c48
       try clear c48b0
       try clear c50
       try clear hcz13_0
       try clear hcz13_1
       try clear hcz13_2
       try clear hcz15_0
       try clear hcz15_1
       try clear hcz15_2
       try clear hcz20_0
       try clear hcz20_1
       try clear hcz20_2
       try clear hcz24_0
       try clear hcz24_1
       try clear hcz24_2
       try clear hcz46_0
       try clear hcz46_1
       try clear hcz46_2
       try clear hcz5_0
       try clear hcz5_1
       try clear hcz5_2
       try clear hfz13_0
       try clear hfz13_1
       try clear hfz13_2
       try clear hfz15_0
       try clear hfz15_1
       try clear hfz15_2
       try clear hfz20_0
       try clear hfz20_1
       try clear hfz20_2
       try clear hfz24_0
       try clear hfz24_1
       try clear hfz24_2
       try clear hfz46_0
       try clear hfz46_1
       try clear hfz46_2
       try clear hfz5_0
       try clear hfz5_1
       try clear hfz5_2
       try clear p2
       obtain ⟨kq, x61_38, rfl, HA, HJ38, HO_4, HO_7, HO_388001, HO_388002, BK367, BK387, HB⟩ := hcut
       have hl388001_38 := (Kd.R_reads' HO_388001.out).1
       rw [hl388001_38] at HO_388001
       (try simp only [hl388001_38])
       (try simp only [hl388001_38] at BK367)
       (try simp only [hl388001_38] at BK387)
       (try simp only [hl388001_38] at HO_4)
       (try simp only [hl388001_38] at HO_7)
       (try simp only [hl388001_38] at HO_388002)
       have hl388002_38 := (Kd.R_reads' HO_388002.out).1
       rw [hl388002_38] at HO_388002
       (try simp only [hl388002_38])
       (try simp only [hl388002_38] at BK367)
       (try simp only [hl388002_38] at BK387)
       (try simp only [hl388002_38] at HO_4)
       (try simp only [hl388002_38] at HO_7)
       (try simp only [hl388002_38] at HO_388001)
       cases kq with
       | zero => exact absurd HA.out (by simp [laws_FnExactNodePoly.j1])
       | succ kj38 =>
        have H := HA.out
        clear HA
        simp only [laws_FnExactNodePoly.j1] at H
        by_cases c55 : x61_38 = true
        ·subst c55
         have H1 : (some false) = some r := by rw [if_pos rfl] at H; exact H
         clear H
         have H := H1
         clear H1
         rw [HRT.out] at H
         exact absurd H (by simp)
        ·replace c55 := Bool.eq_false_iff.mpr c55
         subst c55
         have H1 : ((laws_markInt64S.f kj38 t388 1).bind fun bt405 => ((laws_heldInt64S.f kj38 bt405.2 1).bind fun t407 => (if t407 < 0 then (some false) else (if t407 = bt405.1 then ((laws_toRule.f kj38 a0_0 l0_1 l0_2).bind fun bt408 => ((impl_NodePoly.f kj38 bt408.1 bt408.2.1 bt408.2.2).bind fun bt415 => ((laws_eqInt64S.f kj38 bt415.1 t376).bind fun t419 => (if t419 = true then (laws_FnExactNodePoly.j2 kj38 bt405.2 bt405.1 (bt415.2 != t379)) else (laws_FnExactNodePoly.j2 kj38 bt405.2 bt405.1 true))))) else (some false))))) = some r := by rw [if_neg (show ¬ (false = true) by decide)] at H; exact H
         clear H
         have H := H1
         clear H1
         replace H := Option.bind_eq_some_iff.mp H
         obtain ⟨⟨t405, t406⟩, A560, H⟩ := H
         replace H : ((laws_heldInt64S.f kj38 t406 1).bind fun t407 => (if t407 < 0 then (some false) else (if t407 = t405 then ((laws_toRule.f kj38 a0_0 l0_1 l0_2).bind fun bt408 => ((impl_NodePoly.f kj38 bt408.1 bt408.2.1 bt408.2.2).bind fun bt415 => ((laws_eqInt64S.f kj38 bt415.1 t376).bind fun t419 => (if t419 = true then (laws_FnExactNodePoly.j2 kj38 t406 t405 (bt415.2 != t379)) else (laws_FnExactNodePoly.j2 kj38 t406 t405 true))))) else (some false)))) = some r := H
         have A56 := zA A560
         clear A560
         replace H := Option.bind_eq_some_iff.mp H
         obtain ⟨t407, A570, H⟩ := H
         replace H : (if t407 < 0 then (some false) else (if t407 = t405 then ((laws_toRule.f kj38 a0_0 l0_1 l0_2).bind fun bt408 => ((impl_NodePoly.f kj38 bt408.1 bt408.2.1 bt408.2.2).bind fun bt415 => ((laws_eqInt64S.f kj38 bt415.1 t376).bind fun t419 => (if t419 = true then (laws_FnExactNodePoly.j2 kj38 t406 t405 (bt415.2 != t379)) else (laws_FnExactNodePoly.j2 kj38 t406 t405 true))))) else (some false))) = some r := H
         have A57 := zA A570
         clear A570
         by_cases c58 : t407 < 0
         ·rw [if_pos c58] at H
          have c58b0 : decide (t407 < 0) = true := decide_eq_true c58
          clear c58
          rw [HRT.out] at H
          exact absurd H (by simp)
         ·rw [if_neg c58] at H
          have c58b0 : decide (t407 < 0) = false := decide_eq_false c58
          clear c58
          by_cases c59 : t407 = t405
          ·rw [if_pos c59] at H
           have c59b0 : (t407 == t405) = true := beq_iff_eq.mpr c59
           have c59b1 : (t407 != t405) = false := bne_eq_false_iff_eq.mpr c59
           clear c59
           replace H := Option.bind_eq_some_iff.mp H
           obtain ⟨⟨t408, t409, t412⟩, A600, H⟩ := H
           replace H : ((impl_NodePoly.f kj38 t408 t409 t412).bind fun bt415 => ((laws_eqInt64S.f kj38 bt415.1 t376).bind fun t419 => (if t419 = true then (laws_FnExactNodePoly.j2 kj38 t406 t405 (bt415.2 != t379)) else (laws_FnExactNodePoly.j2 kj38 t406 t405 true)))) = some r := H
           have A60 := zA A600
           clear A600
           replace H := Option.bind_eq_some_iff.mp H
           obtain ⟨⟨t415, t418⟩, A610, H⟩ := H
           replace H : ((laws_eqInt64S.f kj38 t415 t376).bind fun t419 => (if t419 = true then (laws_FnExactNodePoly.j2 kj38 t406 t405 (t418 != t379)) else (laws_FnExactNodePoly.j2 kj38 t406 t405 true))) = some r := H
           have A61 := zA A610
           clear A610
           have HC62 := zA H
           clear H
           obtain ⟨Ao63, co63, eo63⟩ := Kd.R_slice HO_7.out
           subst eo63
           go_upto_region 25 with (first | ((with_reducible refine gate_callee (f := 26) rfl ?_); refine goesL_ (some 64) rfl rfl Try.func26 (by kernel_rfl) rfl #[.slice Ao63 t388.length co63, .int .i64 1] rfl (by (try simp only [la, lb, lc]); first | done | rfl | (simp only [ld, le]; rfl)) ?_; (with_reducible refine (laws_markInt64S.calls kj38 (fun k_ => some k_ = (.slice Ao63 t388.length co63 : Value).ownBlock) (.slice Ao63 t388.length co63) t388 1 t405 t406 w _ ?side1 ?side2 A56.out).mono ?_); (case side1 => repeat (first | (with_reducible first | exact HB.out | apply below_alloc | apply pw_below_drewN | apply below_drew1 | refine below_set ?_ GE367.out | refine below_set ?_ GE387.out) | exact HB.out)); (case side2 => exact Kd.R_tight rfl HO_7.out); rintro e w64 ⟨rfl, hy0, hb, hkp⟩; refine ⟨_, rfl, ?_⟩; have n0_ := zA (Kd.R_mono (ok' := fun k_ => some k_ ≠ (.slice Ao63 t388.length co63 : Value).ownBlock ∧ some k_ ≠ (.slice Ao25 t402.length co25 : Value).ownBlock ∧ some k_ ≠ (.slice Ao26 t403.length co26 : Value).ownBlock) (Kd.R_keptB (HO_4.out) hkp (fun k_ hk_ hs_ => (hk_.1) hs_)) (fun k_ hk_ => ⟨hk_.1.1, hk_.1.2.1, hk_.1.2.2⟩)); have n1_ := zA (Kd.R_reok rfl hy0 (fun k_ e_ => HO_7.out.1 k_ e_)); have n2_ := zA (Kd.R_mono (ok' := fun k_ => some k_ ≠ (v377 : Value).ownBlock ∧ some k_ ≠ (.slice Ao63 t388.length co63 : Value).ownBlock ∧ some k_ ≠ (.slice Ao26 t403.length co26 : Value).ownBlock) (Kd.R_keptB (HO_388001.out) hkp (fun k_ hk_ hs_ => (hk_.2.1) hs_)) (fun k_ hk_ => ⟨hk_.1.1, hk_.1.2.1, hk_.1.2.2⟩)); have n3_ := zA (Kd.R_mono (ok' := fun k_ => some k_ ≠ (v377 : Value).ownBlock ∧ some k_ ≠ (.slice Ao63 t388.length co63 : Value).ownBlock ∧ some k_ ≠ (.slice Ao25 t402.length co25 : Value).ownBlock) (Kd.R_keptB (HO_388002.out) hkp (fun k_ hk_ hs_ => (hk_.2.1) hs_)) (fun k_ hk_ => ⟨hk_.1.1, hk_.1.2.1, hk_.1.2.2⟩)); have n4_ := zA (blk_kept (uB BK367.out) hkp (fun hs_ => (fun e_ => (Kd.R_ne HO_7.out BK367.out (by decide)) e_) hs_)); have n5_ := zA (blk_kept (uB BK387.out) hkp (fun hs_ => (fun e_ => (Kd.R_ne HO_7.out BK387.out (by decide)) e_) hs_)); have n6_ := zA (hb); clear HO_4 HO_7 HO_388001 HO_388002 BK367 BK387 HB; have HO_4 := n0_; have HO_7 := n1_; have HO_388001 := n2_; have HO_388002 := n3_; have BK367 := n4_; have BK387 := n5_; have HB := n6_; clear n0_ n1_ n2_ n3_ n4_ n5_ n6_; (try clear hb); (try clear hkp); (try clear hy0)) | ((with_reducible refine gate_callee (f := 27) rfl ?_); refine goesL_ (some 67) rfl rfl Try.func27 (by kernel_rfl) rfl #[.slice Ao63 t406.length co63, .int .i64 1] rfl (by (try simp only [la, lb, lc]); first | done | (rw [show t406.length = t388.length from (Kd.R_reads' HO_7.out).1.symm] <;> rfl) | rfl | (simp only [ld, le]; rfl)) ?_; (with_reducible refine (laws_heldInt64S.calls kj38 _ _ t406 1 t407 _ ?side1 ?side2 A57.out).mono ?_); (case side1 => exact uC ((Kd.R_reads' HO_7.out).2.2)); (case side2 => rw [show t406.length = t388.length from (Kd.R_reads' HO_7.out).1.symm]; exact (Kd.R_reads' HO_7.out).2.1); rintro e w' ⟨rfl, ⟨nd, rfl⟩⟩; refine ⟨_, rfl, ?_⟩; have hnb65 := NB367_387.out; have hnc65 := NB387_367.out; have hcz66_0 : w64.cell? ⟨gb367, 0, none⟩ = some (.int .i64 a0_0) := (blk_cell BK367.out 0).trans rfl; have hcz66_1 : w64.cell? ⟨gb367, 1, none⟩ = some (.slice A0_1 l0_1.length c0_1) := (blk_cell BK367.out 1).trans rfl; have hcz66_2 : w64.cell? ⟨gb367, 2, none⟩ = some (.slice A0_2 l0_2.length c0_2) := (blk_cell BK367.out 2).trans rfl; have hfz66_0 := blk_frozen BK367.out 0; have hfz66_1 := blk_frozen BK367.out 1; have hfz66_2 := blk_frozen BK367.out 2) | ((with_reducible refine gate_callee (f := 15) rfl ?_); refine goesL_ (some 75) rfl rfl Try.func15 (by kernel_rfl) rfl #[.agg #[.int .i64 a0_0, .slice A0_1 l0_1.length c0_1, .slice A0_2 l0_2.length c0_2]] rfl (by (try simp only [la, lb, lc]); first | done | rfl | (simp only [ld, le]; rfl)) ?_; (with_reducible refine (laws_toRule.calls kj38 a0_0 _ _ l0_1 _ _ l0_2 t408 t409 t412 _ ?side1 ?side2 ?side3 ?side4 A60.out).mono ?_); (case side1 => repeat (first | exact (Kd.C_below HR0_1.out (uH HB.out)) | (with_reducible refine Kd.C_alloc ?_ _) | (with_reducible refine Kd.C_drewN ?_ _) | (with_reducible refine Kd.C_drew ?_))); (case side2 => exact HC0_1.out); (case side3 => repeat (first | exact (Kd.C_below HR0_2.out (uH HB.out)) | (with_reducible refine Kd.C_alloc ?_ _) | (with_reducible refine Kd.C_drewN ?_ _) | (with_reducible refine Kd.C_drew ?_))); (case side4 => exact HC0_2.out); rintro e w67 ⟨v410, v413, rfl, ho0, ho1, hb⟩; refine ⟨_, rfl, ?_⟩; have n0_ := zA (Kd.R_mono (Kd.R_told (Kd.R_told (Kd.R_old (uR HO_4.out) hb) (Kd.R_base ho0)) (Kd.R_base ho1)) (fun _ h_ => h_.1)); have n1_ := zA (Kd.R_mono (Kd.R_told (Kd.R_told (Kd.R_old (uR HO_7.out) hb) (Kd.R_base ho0)) (Kd.R_base ho1)) (fun _ h_ => h_.1)); have n2_ := zA (Kd.R_mono (Kd.R_told (Kd.R_told (Kd.R_old (uR HO_388001.out) hb) (Kd.R_base ho0)) (Kd.R_base ho1)) (fun _ h_ => h_.1)); have n3_ := zA (Kd.R_mono (Kd.R_told (Kd.R_told (Kd.R_old (uR HO_388002.out) hb) (Kd.R_base ho0)) (Kd.R_base ho1)) (fun _ h_ => h_.1)); have n4_ := zA (Kd.R_lower (Kd.R_new' (Kd.R_new' (Kd.R_new' (Kd.R_new' ho0 (Kd.R_lt (uR HO_4.out))) (Kd.R_lt (uR HO_7.out))) (Kd.R_lt (uR HO_388001.out))) (Kd.R_lt (uR HO_388002.out))) (below_size (uH HB.out))); have n5_ := zA (Kd.R_lower (Kd.R_new' (Kd.R_new' (Kd.R_new' (Kd.R_new' ho1 (Kd.R_lt (uR HO_4.out))) (Kd.R_lt (uR HO_7.out))) (Kd.R_lt (uR HO_388001.out))) (Kd.R_lt (uR HO_388002.out))) (below_size (uH HB.out))); have n6_ := xB BK367 hb; have n7_ := xB BK387 hb; have n8_ := xH HB hb; clear HO_4 HO_7 HO_388001 HO_388002 BK367 BK387 HB; have HO_4 := n0_; have HO_7 := n1_; have HO_388001 := n2_; have HO_388002 := n3_; have HO411 := n4_; have HO414 := n5_; have BK367 := n6_; have BK387 := n7_; have HB := n8_; clear n0_ n1_ n2_ n3_ n4_ n5_ n6_ n7_ n8_; (try clear hb); (try clear hb2); (try clear hk); (try clear hi); (try clear ho0); (try clear ho1); obtain ⟨Ao68, co68, eo68⟩ := Kd.R_slice HO411.out; subst eo68; obtain ⟨Ao69, co69, eo69⟩ := Kd.R_slice HO414.out; subst eo69) | ((with_reducible refine gate_callee (f := 25) rfl ?_); refine goesL_ (some 76) rfl rfl Try.func25 (by kernel_rfl) rfl #[.agg #[.int .i64 t408, .slice Ao68 t409.length co68, .slice Ao69 t412.length co69]] rfl (by (try simp only [la, lb, lc]); first | done | rfl | (simp only [ld, le]; rfl)) ?_; (with_reducible refine (impl_NodePoly.calls kj38 t408 _ _ t409 _ _ t412 t415 t418 _ ?side1 ?side2 ?side3 ?side4 A61.out).mono ?_); (case side1 => exact uC ((Kd.R_reads' HO411.out).2.2)); (case side2 => exact (Kd.R_reads' HO411.out).2.1); (case side3 => exact uC ((Kd.R_reads' HO414.out).2.2)); (case side4 => exact (Kd.R_reads' HO414.out).2.1); rintro e w70 ⟨v416, rfl, ho0, hb⟩; refine ⟨_, rfl, ?_⟩; have n0_ := zA (Kd.R_elder' (uR HO_4.out) (Kd.R_base ho0) hb); have n1_ := zA (Kd.R_elder' (uR HO_7.out) (Kd.R_base ho0) hb); have n2_ := zA (Kd.R_elder' (uR HO_388001.out) (Kd.R_base ho0) hb); have n3_ := zA (Kd.R_elder' (uR HO_388002.out) (Kd.R_base ho0) hb); have n4_ := zA (Kd.R_elder' (uR HO411.out) (Kd.R_base ho0) hb); have n5_ := zA (Kd.R_elder' (uR HO414.out) (Kd.R_base ho0) hb); have n6_ := zA (Kd.R_lower (Kd.R_new' (Kd.R_new' (Kd.R_new' (Kd.R_new' (Kd.R_new' (Kd.R_new' ho0 (Kd.R_lt (uR HO_4.out))) (Kd.R_lt (uR HO_7.out))) (Kd.R_lt (uR HO_388001.out))) (Kd.R_lt (uR HO_388002.out))) (Kd.R_lt (uR HO411.out))) (Kd.R_lt (uR HO414.out))) (below_size (uH HB.out))); have n7_ := xB BK367 hb; have n8_ := xB BK387 hb; have n9_ := xH HB hb; clear HO_4 HO_7 HO_388001 HO_388002 HO411 HO414 BK367 BK387 HB; have HO_4 := n0_; have HO_7 := n1_; have HO_388001 := n2_; have HO_388002 := n3_; have HO411 := n4_; have HO414 := n5_; have HO417 := n6_; have BK367 := n7_; have BK387 := n8_; have HB := n9_; clear n0_ n1_ n2_ n3_ n4_ n5_ n6_ n7_ n8_ n9_; (try clear hb); (try clear hb2); (try clear hk); (try clear hi); (try clear ho0)))
           (try simp only [Act.put, ls, lz, ln])
           go_cut [87] (fun v87 wc => ∃ (kq : Nat) (x87_61 : Bool), v87 = .bool x87_61 ∧ Aside0 (laws_FnExactNodePoly.j2 kq t406 t405 x87_61 = some r) ∧ Aside0 (kq ≤ kj38) ∧ Aside0 (Kd.R (Kd.int .i64) 2 wc w.heap.size (fun k_ => some k_ ≠ ((.slice Ao25 t402.length co25) : Value).ownBlock ∧ some k_ ≠ ((.slice Ao26 t403.length co26) : Value).ownBlock) (.slice Ao63 t388.length co63) t406) ∧ Aside0 (Kd.R (Kd.int .i64) 2 wc w.heap.size (fun k_ => some k_ ≠ ((.slice Ao63 t388.length co63) : Value).ownBlock ∧ some k_ ≠ ((.slice Ao26 t403.length co26) : Value).ownBlock) (.slice Ao25 t402.length co25) t402) ∧ Aside0 (Kd.R (Kd.int .i64) 2 wc w.heap.size (fun k_ => some k_ ≠ ((.slice Ao63 t388.length co63) : Value).ownBlock ∧ some k_ ≠ ((.slice Ao25 t402.length co25) : Value).ownBlock) (.slice Ao26 t403.length co26) t403) ∧ Aside0 (wc.heap[gb367]? = some (.cells #[.int .i64 a0_0, (.slice A0_1 l0_1.length c0_1), (.slice A0_2 l0_2.length c0_2)] 24 (0, 0))) ∧ Aside0 (wc.heap[gb387]? = some (.cells #[.int .i64 t380, (.slice Ao25 t402.length co25), (.slice Ao26 t403.length co26)] 26 (0, 0))) ∧ Aside0 (Below w.heap.size w wc))
           case first =>
            have H := HC62.out
            clear HC62
            replace H := Option.bind_eq_some_iff.mp H
            obtain ⟨t419, A710, H⟩ := H
            replace H : (if t419 = true then (laws_FnExactNodePoly.j2 kj38 t406 t405 (t418 != t379)) else (laws_FnExactNodePoly.j2 kj38 t406 t405 true)) = some r := H
            have A71 := zA A710
            clear A710
            by_cases c72 : t419 = true
            ·subst c72
             have H1 : (laws_FnExactNodePoly.j2 kj38 t406 t405 (t418 != t379)) = some r := by rw [if_pos rfl] at H; exact H
             clear H
             have H := H1
             clear H1
             have H' := zA H
             clear H
             obtain ⟨Ao73, co73, eo73⟩ := Kd.R_slice HO417.out
             subst eo73
             obtain ⟨Ao74, co74, eo74⟩ := Kd.R_slice HO_4.out
             subst eo74
             go_wp2_with (first | ((with_reducible refine gate_callee (f := 23) rfl ?_); refine goesL_ (some 81) rfl rfl Try.func23 (by kernel_rfl) rfl #[.slice Ao73 t415.length co73, .slice Ao74 t376.length co74] rfl (by (try simp only [la, lb, lc]); first | done | rfl | (simp only [ld, le]; rfl)) ?_; (with_reducible refine (laws_eqInt64S.calls kj38 _ _ t415 _ _ t376 true _ ?side1 ?side2 ?side3 ?side4 A71.out).mono ?_); (case side1 => exact uC ((Kd.R_reads' HO417.out).2.2)); (case side2 => exact (Kd.R_reads' HO417.out).2.1); (case side3 => exact uC ((Kd.R_reads' HO_4.out).2.2)); (case side4 => exact (Kd.R_reads' HO_4.out).2.1); rintro e w' ⟨rfl, ⟨nd, rfl⟩⟩; refine ⟨_, rfl, ?_⟩))
             go_meet
             case rel => exact ⟨_, ((t418 != t379)), (by first | rfl | (simp; done) | (simp [*]; done)), H', ⟨by have := HJ10.out; have := HJ38.out; first | omega | exact Nat.le_refl _⟩, ⟨by (try simp only [hl388001_38]); (try simp only [hl388002_38]); (with_reducible repeat (first | apply Kd.R_alloc | apply Kd.R_drewN | apply Kd.R_drew)); exact Kd.R_mono HO_7.out (fun _ hk => ⟨hk.1.1.1.2.1, hk.1.1.1.2.2⟩)⟩, ⟨by (try simp only [hl388001_38]); (try simp only [hl388002_38]); (with_reducible repeat (first | apply Kd.R_alloc | apply Kd.R_drewN | apply Kd.R_drew)); exact Kd.R_mono HO_388001.out (fun _ hk => ⟨hk.1.1.1.2.1, hk.1.1.1.2.2⟩)⟩, ⟨by (try simp only [hl388001_38]); (try simp only [hl388002_38]); (with_reducible repeat (first | apply Kd.R_alloc | apply Kd.R_drewN | apply Kd.R_drew)); exact Kd.R_mono HO_388002.out (fun _ hk => ⟨hk.1.1.1.2.1, hk.1.1.1.2.2⟩)⟩, ⟨by (try simp only [hl388001_38]); (try simp only [hl388002_38]); (with_reducible repeat (first | refine blk_drewN ?_ _ | refine blk_drew ?_ | refine blk_alloc ?_ _)); exact BK367.out⟩, ⟨by (try simp only [hl388001_38]); (try simp only [hl388002_38]); (with_reducible repeat (first | refine blk_drewN ?_ _ | refine blk_drew ?_ | refine blk_alloc ?_ _)); exact BK387.out⟩, ⟨uH HB.out⟩⟩
            ·replace c72 := Bool.eq_false_iff.mpr c72
             subst c72
             have H1 : (laws_FnExactNodePoly.j2 kj38 t406 t405 true) = some r := by rw [if_neg (show ¬ (false = true) by decide)] at H; exact H
             clear H
             have H := H1
             clear H1
             have H' := zA H
             clear H
             obtain ⟨Ao75, co75, eo75⟩ := Kd.R_slice HO417.out
             subst eo75
             obtain ⟨Ao76, co76, eo76⟩ := Kd.R_slice HO_4.out
             subst eo76
             go_wp2_with (first | ((with_reducible refine gate_callee (f := 23) rfl ?_); refine goesL_ (some 81) rfl rfl Try.func23 (by kernel_rfl) rfl #[.slice Ao75 t415.length co75, .slice Ao76 t376.length co76] rfl (by (try simp only [la, lb, lc]); first | done | rfl | (simp only [ld, le]; rfl)) ?_; (with_reducible refine (laws_eqInt64S.calls kj38 _ _ t415 _ _ t376 false _ ?side1 ?side2 ?side3 ?side4 A71.out).mono ?_); (case side1 => exact uC ((Kd.R_reads' HO417.out).2.2)); (case side2 => exact (Kd.R_reads' HO417.out).2.1); (case side3 => exact uC ((Kd.R_reads' HO_4.out).2.2)); (case side4 => exact (Kd.R_reads' HO_4.out).2.1); rintro e w' ⟨rfl, ⟨nd, rfl⟩⟩; refine ⟨_, rfl, ?_⟩))
             go_meet
             case rel => exact ⟨_, (true), (by first | rfl | (simp; done) | (simp [*]; done)), H', ⟨by have := HJ10.out; have := HJ38.out; first | omega | exact Nat.le_refl _⟩, ⟨by (try simp only [hl388001_38]); (try simp only [hl388002_38]); (with_reducible repeat (first | apply Kd.R_alloc | apply Kd.R_drewN | apply Kd.R_drew)); exact Kd.R_mono HO_7.out (fun _ hk => ⟨hk.1.1.1.2.1, hk.1.1.1.2.2⟩)⟩, ⟨by (try simp only [hl388001_38]); (try simp only [hl388002_38]); (with_reducible repeat (first | apply Kd.R_alloc | apply Kd.R_drewN | apply Kd.R_drew)); exact Kd.R_mono HO_388001.out (fun _ hk => ⟨hk.1.1.1.2.1, hk.1.1.1.2.2⟩)⟩, ⟨by (try simp only [hl388001_38]); (try simp only [hl388002_38]); (with_reducible repeat (first | apply Kd.R_alloc | apply Kd.R_drewN | apply Kd.R_drew)); exact Kd.R_mono HO_388002.out (fun _ hk => ⟨hk.1.1.1.2.1, hk.1.1.1.2.2⟩)⟩, ⟨by (try simp only [hl388001_38]); (try simp only [hl388002_38]); (with_reducible repeat (first | refine blk_drewN ?_ _ | refine blk_drew ?_ | refine blk_alloc ?_ _)); exact BK367.out⟩, ⟨by (try simp only [hl388001_38]); (try simp only [hl388002_38]); (with_reducible repeat (first | refine blk_drewN ?_ _ | refine blk_drew ?_ | refine blk_alloc ?_ _)); exact BK387.out⟩, ⟨uH HB.out⟩⟩
           case rest =>
            clear HC62
            try clear c1
            try clear c2
            try clear p2
            try clear c3
            try clear c3b0
            try clear c4
            try clear c5
            try clear c6
            try clear c7
            try clear c13
            try clear c15
            try clear c17
            try clear c18
            try clear c23
            try clear c24
            try clear c25
            try clear c26
            try clear c27
            try clear c29
            try clear c34
            try clear c37
            try clear c45
            try clear c48
            try clear c48b0
            try clear c50
            try clear c55
            try clear c58
            try clear c58b0
            try clear c59
            try clear c59b0
            try clear c59b1
            try clear c65
            try clear c72
            try clear hcz13_0
            try clear hcz13_1
            try clear hcz13_2
            try clear hcz15_0
            try clear hcz15_1
            try clear hcz15_2
            try clear hcz20_0
            try clear hcz20_1
            try clear hcz20_2
            try clear hcz24_0
            try clear hcz24_1
            try clear hcz24_2
            try clear hcz46_0
            try clear hcz46_1
            try clear hcz46_2
            try clear hcz5_0
            try clear hcz5_1
            try clear hcz5_2
            try clear hcz66_0
            try clear hcz66_1
            try clear hcz66_2
            try clear hfz13_0
            try clear hfz13_1
            try clear hfz13_2
            try clear hfz15_0
            try clear hfz15_1
            try clear hfz15_2
            try clear hfz20_0
            try clear hfz20_1
            try clear hfz20_2
            try clear hfz24_0
            try clear hfz24_1
            try clear hfz24_2
            try clear hfz46_0
            try clear hfz46_1
            try clear hfz46_2
            try clear hfz5_0
            try clear hfz5_1
            try clear hfz5_2
            try clear hfz66_0
            try clear hfz66_1
            try clear hfz66_2
            try clear p2
            obtain ⟨kq, x87_61, rfl, HA, HJ61, HO_7, HO_388001, HO_388002, BK367, BK387, HB⟩ := hcut
            have hl7_61 := (Kd.R_reads' HO_7.out).1
            rw [hl7_61] at HO_7
            (try simp only [hl7_61])
            (try simp only [hl7_61] at BK367)
            (try simp only [hl7_61] at BK387)
            (try simp only [hl7_61] at HO_388001)
            (try simp only [hl7_61] at HO_388002)
            cases kq with
            | zero => exact absurd HA.out (by simp [laws_FnExactNodePoly.j2])
            | succ kj61 =>
             have H := HA.out
             clear HA
             simp only [laws_FnExactNodePoly.j2] at H
             by_cases c77 : x87_61 = true
             ·subst c77
              have H1 : (some false) = some r := by rw [if_pos rfl] at H; exact H
              clear H
              have H := H1
              clear H1
              rw [HRT.out] at H
              exact absurd H (by simp)
             ·replace c77 := Bool.eq_false_iff.mpr c77
              subst c77
              have H1 : ((laws_heldInt64S.f kj61 t406 1).bind fun t420 => (if t420 < 0 then (some false) else (if t420 = t405 then (some true) else (some false)))) = some r := by rw [if_neg (show ¬ (false = true) by decide)] at H; exact H
              clear H
              have H := H1
              clear H1
              replace H := Option.bind_eq_some_iff.mp H
              obtain ⟨t420, A780, H⟩ := H
              replace H : (if t420 < 0 then (some false) else (if t420 = t405 then (some true) else (some false))) = some r := H
              have A78 := zA A780
              clear A780
              by_cases c79 : t420 < 0
              ·rw [if_pos c79] at H
               have c79b0 : decide (t420 < 0) = true := decide_eq_true c79
               clear c79
               rw [HRT.out] at H
               exact absurd H (by simp)
              ·rw [if_neg c79] at H
               have c79b0 : decide (t420 < 0) = false := decide_eq_false c79
               clear c79
               by_cases c80 : t420 = t405
               ·rw [if_pos c80] at H
                have c80b0 : (t420 == t405) = true := beq_iff_eq.mpr c80
                have c80b1 : (t420 != t405) = false := bne_eq_false_iff_eq.mpr c80
                clear c80
                obtain rfl := Option.some.inj H
                go_wp2_with (first | ((with_reducible refine gate_callee (f := 27) rfl ?_); refine goesL_ (some 90) rfl rfl Try.func27 (by kernel_rfl) rfl #[.slice Ao63 t406.length co63, .int .i64 1] rfl (by (try simp only [la, lb, lc]); first | done | rfl | (simp only [ld, le]; rfl)) ?_; (with_reducible refine (laws_heldInt64S.calls kj61 _ _ t406 1 t420 _ ?side1 ?side2 A78.out).mono ?_); (case side1 => exact uC ((Kd.R_reads' HO_7.out).2.2)); (case side2 => exact (Kd.R_reads' HO_7.out).2.1); rintro e w' ⟨rfl, ⟨nd, rfl⟩⟩; refine ⟨_, rfl, ?_⟩))
                go_ret
                exact ⟨by first | rfl | (simp [errW_none, errW_some] <;> rfl) | (simp [*, errW_none, errW_some] <;> rfl), uH HB.out⟩
               ·rw [if_neg c80] at H
                have c80b0 : (t420 == t405) = false := beq_eq_false_iff_ne.mpr c80
                have c80b1 : (t420 != t405) = true := bne_iff_ne.mpr c80
                rw [HRT.out] at H
                exact absurd H (by simp)
          ·rw [if_neg c59] at H
           have c59b0 : (t407 == t405) = false := beq_eq_false_iff_ne.mpr c59
           have c59b1 : (t407 != t405) = true := bne_iff_ne.mpr c59
           rw [HRT.out] at H
           exact absurd H (by simp)
     ·replace c37 := Bool.eq_false_iff.mpr c37
      subst c37
      have H1 : (some false) = some r := by rw [if_neg (show ¬ (false = true) by decide)] at H; exact H
      clear H
      have H := H1
      clear H1
      rw [HRT.out] at H
      exact absurd H (by simp)

/-- THE ONE PURE STATEMENT of laws_FnExactNodePoly: yours. -/
def laws_FnExactNodePoly.Pure : Prop := ∀ (a0_0 : Int) (l0_1 : List Int) (l0_2 : List Int), (Lit.int .i64 a0_0).wf = true → l0_1.length ≤ maxLen → (∀ x ∈ l0_1, (Lit.int .i64 x).wf = true) → l0_2.length ≤ maxLen → (∀ x ∈ l0_2, (Lit.int .i64 x).wf = true) → ∃ k, laws_FnExactNodePoly.f k a0_0 l0_1 l0_2 = some true
theorem laws_FnExactNodePoly.walk (P : laws_FnExactNodePoly.Pure) (a0_0 : Int) (a0_1 : Option Addr) (len0_1 cap0_1 : Nat) (z0_1 : List Int) (a0_2 : Option Addr) (len0_2 cap0_2 : Nat) (z0_2 : List Int) (w : World) (w0_0 : (Lit.int .i64 a0_0).wf = true) (w0_1 : (a0_1 = none ∧ len0_1 = 0 ∧ cap0_1 = 0 ∧ z0_1 = []) ∨ ∃ x, a0_1 = some x ∧ len0_1 ≤ cap0_1 ∧ cap0_1 ≤ maxLen ∧ z0_1.length = cap0_1 ∧ (∀ i, i < z0_1.length → w.cell? (x.add i) = some (.int .i64 (z0_1.getD i 0))) ∧ ∀ n ∈ z0_1, (Lit.int .i64 n).wf = true) (w0_2 : (a0_2 = none ∧ len0_2 = 0 ∧ cap0_2 = 0 ∧ z0_2 = []) ∨ ∃ x, a0_2 = some x ∧ len0_2 ≤ cap0_2 ∧ cap0_2 ≤ maxLen ∧ z0_2.length = cap0_2 ∧ (∀ i, i < z0_2.length → w.cell? (x.add i) = some (.int .i64 (z0_2.getD i 0))) ∧ ∀ n ∈ z0_2, (Lit.int .i64 n).wf = true) :
  Calls Try.prog 5 #[.agg #[.int .i64 a0_0, .slice a0_1 len0_1 cap0_1, .slice a0_2 len0_2 cap0_2]] w fun e w' => e = .returned (.bool true) ∧ Below w.heap.size w w' := by
 obtain ⟨l0_1, rfl, hr0_1, hm0_1, hw0_1, hc0_1⟩ := ReadsInt.ofRowC w0_1
 obtain ⟨l0_2, rfl, hr0_2, hm0_2, hw0_2, hc0_2⟩ := ReadsInt.ofRowC w0_2
 obtain ⟨k, h⟩ := P a0_0 l0_1 l0_2 w0_0 hm0_1 hw0_1 hm0_2 hw0_2
 refine (laws_FnExactNodePoly.calls k a0_0 _ _ l0_1 _ _ l0_2 true rfl w (Kd.C_of_reads (d := (0 : Int)) (h1 := fun _ => rfl) hr0_1) hc0_1 (Kd.C_of_reads (d := (0 : Int)) (h1 := fun _ => rfl) hr0_2) hc0_2 h).mono ?_
 rintro e w' ⟨rfl, hd⟩
 exact ⟨rfl, hd⟩

end Go.Proofs.Yteoipomgldioeaa.Pr
