/- Printed by a program of this session out of the translation: what these functions of the program compute, under the conditions that each theorem names. -/
import Derived.Test.YtgneldhhlfjjaaaKC01
import Derived.Test.YtgneldhhlfjjaaaKC02
import Derived.Test.YtgneldhhlfjjaaaKCutJacobi1
namespace Go.Proofs.Ytgneldhhlfjjaaa.Pr
open Go.RowKit Go.Proofs.YtgneldhhlfjjaaaW.PrintWords Go.Proofs.YtgneldhhlfjjaaaW.PrintLast Go.Proofs.YtgneldhhlfjjaaaW.PrintMore
attribute [local go_sem] max2_int min2_int max_two min_two max_three min_three max_four min_four   -- for this text's walks alone
set_option linter.unusedVariables false
set_option linter.unusedSimpArgs false

/-! ### laws_FnExactCutJacobi: function 4 -/
mutual
def laws_FnExactCutJacobi.j0 : Nat → Int → Int → Int → Bool → Int → List Int → List Int → Int → List Int → List Int → Int → List Int → List Int → Int → List Int → List Int → Option (Bool)
 | 0, _, _, _, _, _, _, _, _, _, _, _, _, _, _, _, _ => none
 | k + 1, x1, x7, x10, x44, x308000, x308001, x308002, x325000, x325001, x325002, x333000, x333001, x333002, x342000, x342001, x342002 => if x44 = true then (some false) else ((laws_toJacobi.f k x308000 x308001 x308002).bind fun bt343 => ((laws_eqJacobi.f k x333000 x333001 x333002 bt343.1 bt343.2.1 bt343.2.2).bind fun t350 => (if t350 = true then ((laws_markJacobi.f k x333000 x333001 x333002 1).bind fun bt351 => (if bt351.1 < 0 then (laws_FnExactCutJacobi.j1 k x1 x7 true x308000 x308001 x308002 x325000 x325001 x325002 x342000 x342001 x342002) else ((laws_eqJacobi.f k x342000 x342001 x342002 x325000 x325001 x325002).bind fun t354 => (if t354 = true then (laws_FnExactCutJacobi.j1 k x1 x7 (x10 != x7) x308000 x308001 x308002 x325000 x325001 x325002 x342000 x342001 x342002) else (laws_FnExactCutJacobi.j1 k x1 x7 true x308000 x308001 x308002 x325000 x325001 x325002 x342000 x342001 x342002))))) else (some false))))
def laws_FnExactCutJacobi.j1 : Nat → Int → Int → Bool → Int → List Int → List Int → Int → List Int → List Int → Int → List Int → List Int → Option (Bool)
 | 0, _, _, _, _, _, _, _, _, _, _, _, _ => none
 | k + 1, x1, x7, x65, x308000, x308001, x308002, x325000, x325001, x325002, x342000, x342001, x342002 => if x65 = true then (some false) else ((laws_markJacobi.f k x342000 x342001 x342002 1).bind fun bt355 => ((laws_heldJacobi.f k x342000 bt355.2.1 bt355.2.2 1).bind fun t358 => (if t358 < 0 then (some false) else (if t358 = bt355.1 then ((laws_toJacobi.f k x308000 x308001 x308002).bind fun bt359 => ((impl_CutJacobi.f k bt359.1 bt359.2.1 bt359.2.2 x1).bind fun bt366 => ((laws_eqJacobi.f k bt366.1 bt366.2.1 bt366.2.2.1 x325000 x325001 x325002).bind fun t375 => (if t375 = true then (laws_FnExactCutJacobi.j2 k bt355.1 (bt366.2.2.2 != x7) x342000 bt355.2.1 bt355.2.2) else (laws_FnExactCutJacobi.j2 k bt355.1 true x342000 bt355.2.1 bt355.2.2))))) else (some false)))))
def laws_FnExactCutJacobi.j2 : Nat → Int → Bool → Int → List Int → List Int → Option (Bool)
 | 0, _, _, _, _, _ => none
 | k + 1, x12, x92, x342000, x342001, x342002 => if x92 = true then (some false) else ((laws_heldJacobi.f k x342000 x342001 x342002 1).bind fun t376 => (if t376 < 0 then (some false) else (if t376 = x12 then (some true) else (some false))))
end
def laws_FnExactCutJacobi.f (k : Nat) (a0_0 : Int) (l0_1 : List Int) (l0_2 : List Int) (a1 : Int) : Option (Bool) := (laws_szJacobi.f a0_0 l0_1 l0_2 1048576).bind fun t308 => (if t308 < 0 then (some true) else ((laws_toJacobi.f k a0_0 l0_1 l0_2).bind fun bt309 => ((spec_CutJacobi.f k bt309.1 bt309.2.1 bt309.2.2 a1).bind fun bt316 => ((laws_toJacobi.f k a0_0 l0_1 l0_2).bind fun bt325 => ((impl_CutJacobi.f k bt325.1 bt325.2.1 bt325.2.2 a1).bind fun bt333 => ((laws_eqJacobi.f k bt333.1 bt333.2.1 bt333.2.2.1 bt316.1 bt316.2.1 bt316.2.2.1).bind fun t342 => (if t342 = true then (laws_FnExactCutJacobi.j0 k a1 bt316.2.2.2 bt333.2.2.2 (bt333.2.2.2 != bt316.2.2.2) a0_0 l0_1 l0_2 bt316.1 bt316.2.1 bt316.2.2.1 bt325.1 bt325.2.1 bt325.2.2 bt333.1 bt333.2.1 bt333.2.2.1) else (laws_FnExactCutJacobi.j0 k a1 bt316.2.2.2 bt333.2.2.2 true a0_0 l0_1 l0_2 bt316.1 bt316.2.1 bt316.2.2.1 bt325.1 bt325.2.1 bt325.2.2 bt333.1 bt333.2.1 bt333.2.2.1))))))))
theorem laws_FnExactCutJacobi.mono_l : ∀ k, (∀ y0 y1 y2 y3 y4 y5 y6 y7 y8 y9 y10 y11 y12 y13 y14 y15, LeO (laws_FnExactCutJacobi.j0 k y0 y1 y2 y3 y4 y5 y6 y7 y8 y9 y10 y11 y12 y13 y14 y15) (laws_FnExactCutJacobi.j0 (k + 1) y0 y1 y2 y3 y4 y5 y6 y7 y8 y9 y10 y11 y12 y13 y14 y15)) ∧ (∀ y0 y1 y2 y3 y4 y5 y6 y7 y8 y9 y10 y11, LeO (laws_FnExactCutJacobi.j1 k y0 y1 y2 y3 y4 y5 y6 y7 y8 y9 y10 y11) (laws_FnExactCutJacobi.j1 (k + 1) y0 y1 y2 y3 y4 y5 y6 y7 y8 y9 y10 y11)) ∧ (∀ y0 y1 y2 y3 y4, LeO (laws_FnExactCutJacobi.j2 k y0 y1 y2 y3 y4) (laws_FnExactCutJacobi.j2 (k + 1) y0 y1 y2 y3 y4))
 | 0 => ⟨fun _ _ _ _ _ _ _ _ _ _ _ _ _ _ _ _ r h => by simp [laws_FnExactCutJacobi.j0] at h, fun _ _ _ _ _ _ _ _ _ _ _ _ r h => by simp [laws_FnExactCutJacobi.j1] at h, fun _ _ _ _ _ r h => by simp [laws_FnExactCutJacobi.j2] at h⟩
 | k + 1 => by
  obtain ⟨ih0, ih1, ih2⟩ := laws_FnExactCutJacobi.mono_l k
  refine ⟨?_, ?_, ?_⟩
  ·intro y0 y1 y2 y3 y4 y5 y6 y7 y8 y9 y10 y11 y12 y13 y14 y15
   unfold laws_FnExactCutJacobi.j0
   repeat' first
   | (with_reducible exact ih0 _ _ _ _ _ _ _ _ _ _ _ _ _ _ _ _)
   | (with_reducible exact ih1 _ _ _ _ _ _ _ _ _ _ _ _)
   | (with_reducible exact ih2 _ _ _ _ _)
   | (with_reducible exact impl_CutJacobi.mono _ _ _ _ _)
   | (with_reducible exact laws_eqJacobi.mono _ _ _ _ _ _ _)
   | (with_reducible exact laws_heldJacobi.mono _ _ _ _ _)
   | (with_reducible exact laws_markJacobi.mono _ _ _ _ _)
   | (with_reducible exact laws_toJacobi.mono _ _ _ _)
   | (with_reducible exact spec_CutJacobi.mono _ _ _ _ _)
   | (with_reducible exact LeO.refl _)
   | (with_reducible exact LeO.none _)
   | (with_reducible refine LeO.ite ?_ ?_)
   | (with_reducible refine LeO.bind ?_ (fun _ => ?_))
   | exact ih0 _ _ _ _ _ _ _ _ _ _ _ _ _ _ _ _
   | exact ih1 _ _ _ _ _ _ _ _ _ _ _ _
   | exact ih2 _ _ _ _ _
   | exact impl_CutJacobi.mono _ _ _ _ _
   | exact laws_eqJacobi.mono _ _ _ _ _ _ _
   | exact laws_heldJacobi.mono _ _ _ _ _
   | exact laws_markJacobi.mono _ _ _ _ _
   | exact laws_toJacobi.mono _ _ _ _
   | exact spec_CutJacobi.mono _ _ _ _ _
   | exact LeO.none _
   | refine LeO.ite ?_ ?_
   | refine LeO.bind ?_ (fun _ => ?_)
  ·intro y0 y1 y2 y3 y4 y5 y6 y7 y8 y9 y10 y11
   unfold laws_FnExactCutJacobi.j1
   repeat' first
   | (with_reducible exact ih0 _ _ _ _ _ _ _ _ _ _ _ _ _ _ _ _)
   | (with_reducible exact ih1 _ _ _ _ _ _ _ _ _ _ _ _)
   | (with_reducible exact ih2 _ _ _ _ _)
   | (with_reducible exact impl_CutJacobi.mono _ _ _ _ _)
   | (with_reducible exact laws_eqJacobi.mono _ _ _ _ _ _ _)
   | (with_reducible exact laws_heldJacobi.mono _ _ _ _ _)
   | (with_reducible exact laws_markJacobi.mono _ _ _ _ _)
   | (with_reducible exact laws_toJacobi.mono _ _ _ _)
   | (with_reducible exact spec_CutJacobi.mono _ _ _ _ _)
   | (with_reducible exact LeO.refl _)
   | (with_reducible exact LeO.none _)
   | (with_reducible refine LeO.ite ?_ ?_)
   | (with_reducible refine LeO.bind ?_ (fun _ => ?_))
   | exact ih0 _ _ _ _ _ _ _ _ _ _ _ _ _ _ _ _
   | exact ih1 _ _ _ _ _ _ _ _ _ _ _ _
   | exact ih2 _ _ _ _ _
   | exact impl_CutJacobi.mono _ _ _ _ _
   | exact laws_eqJacobi.mono _ _ _ _ _ _ _
   | exact laws_heldJacobi.mono _ _ _ _ _
   | exact laws_markJacobi.mono _ _ _ _ _
   | exact laws_toJacobi.mono _ _ _ _
   | exact spec_CutJacobi.mono _ _ _ _ _
   | exact LeO.none _
   | refine LeO.ite ?_ ?_
   | refine LeO.bind ?_ (fun _ => ?_)
  ·intro y0 y1 y2 y3 y4
   unfold laws_FnExactCutJacobi.j2
   repeat' first
   | (with_reducible exact ih0 _ _ _ _ _ _ _ _ _ _ _ _ _ _ _ _)
   | (with_reducible exact ih1 _ _ _ _ _ _ _ _ _ _ _ _)
   | (with_reducible exact ih2 _ _ _ _ _)
   | (with_reducible exact impl_CutJacobi.mono _ _ _ _ _)
   | (with_reducible exact laws_eqJacobi.mono _ _ _ _ _ _ _)
   | (with_reducible exact laws_heldJacobi.mono _ _ _ _ _)
   | (with_reducible exact laws_markJacobi.mono _ _ _ _ _)
   | (with_reducible exact laws_toJacobi.mono _ _ _ _)
   | (with_reducible exact spec_CutJacobi.mono _ _ _ _ _)
   | (with_reducible exact LeO.refl _)
   | (with_reducible exact LeO.none _)
   | (with_reducible refine LeO.ite ?_ ?_)
   | (with_reducible refine LeO.bind ?_ (fun _ => ?_))
   | exact ih0 _ _ _ _ _ _ _ _ _ _ _ _ _ _ _ _
   | exact ih1 _ _ _ _ _ _ _ _ _ _ _ _
   | exact ih2 _ _ _ _ _
   | exact impl_CutJacobi.mono _ _ _ _ _
   | exact laws_eqJacobi.mono _ _ _ _ _ _ _
   | exact laws_heldJacobi.mono _ _ _ _ _
   | exact laws_markJacobi.mono _ _ _ _ _
   | exact laws_toJacobi.mono _ _ _ _
   | exact spec_CutJacobi.mono _ _ _ _ _
   | exact LeO.none _
   | refine LeO.ite ?_ ?_
   | refine LeO.bind ?_ (fun _ => ?_)
theorem laws_FnExactCutJacobi.mono : ∀ a0 a1 a2 a3 k, LeO (laws_FnExactCutJacobi.f k a0 a1 a2 a3) (laws_FnExactCutJacobi.f (k + 1) a0 a1 a2 a3) := by
 intro a0 a1 a2 a3 k
 obtain ⟨ih0, ih1, ih2⟩ := laws_FnExactCutJacobi.mono_l k
 unfold laws_FnExactCutJacobi.f
 repeat' first
   | (with_reducible exact ih0 _ _ _ _ _ _ _ _ _ _ _ _ _ _ _ _)
   | (with_reducible exact ih1 _ _ _ _ _ _ _ _ _ _ _ _)
   | (with_reducible exact ih2 _ _ _ _ _)
   | (with_reducible exact impl_CutJacobi.mono _ _ _ _ _)
   | (with_reducible exact laws_eqJacobi.mono _ _ _ _ _ _ _)
   | (with_reducible exact laws_heldJacobi.mono _ _ _ _ _)
   | (with_reducible exact laws_markJacobi.mono _ _ _ _ _)
   | (with_reducible exact laws_toJacobi.mono _ _ _ _)
   | (with_reducible exact spec_CutJacobi.mono _ _ _ _ _)
   | (with_reducible exact LeO.refl _)
   | (with_reducible exact LeO.none _)
   | (with_reducible refine LeO.ite ?_ ?_)
   | (with_reducible refine LeO.bind ?_ (fun _ => ?_))
   | exact ih0 _ _ _ _ _ _ _ _ _ _ _ _ _ _ _ _
   | exact ih1 _ _ _ _ _ _ _ _ _ _ _ _
   | exact ih2 _ _ _ _ _
   | exact impl_CutJacobi.mono _ _ _ _ _
   | exact laws_eqJacobi.mono _ _ _ _ _ _ _
   | exact laws_heldJacobi.mono _ _ _ _ _
   | exact laws_markJacobi.mono _ _ _ _ _
   | exact laws_toJacobi.mono _ _ _ _
   | exact spec_CutJacobi.mono _ _ _ _ _
   | exact LeO.none _
   | refine LeO.ite ?_ ?_
   | refine LeO.bind ?_ (fun _ => ?_)
set_option maxHeartbeats 8000000 in
set_option maxRecDepth 100000 in
theorem laws_FnExactCutJacobi.calls (k : Nat) (a0_0 : Int) (A0_1 : Option Addr) (c0_1 : Nat) (l0_1 : List Int) (A0_2 : Option Addr) (c0_2 : Nat) (l0_2 : List Int) (a1 : Int) (r : Bool) (hr_ : r = true) (w : World) (hr0_1 : Kd.C (Kd.int .i64) w A0_1 l0_1.length l0_1) (hc0_1 : l0_1.length ≤ c0_1) (hr0_2 : Kd.C (Kd.int .i64) w A0_2 l0_2.length l0_2) (hc0_2 : l0_2.length ≤ c0_2) (h : laws_FnExactCutJacobi.f k a0_0 l0_1 l0_2 a1 = some r) :
  Calls Try.prog 4 #[.agg #[.int .i64 a0_0, .slice A0_1 l0_1.length c0_1, .slice A0_2 l0_2.length c0_2], .int .i64 a1] w fun e w' => e = .returned (.bool r) ∧ Below w.heap.size w w' := by
 have hu24 := Try.underlying24
 have hu26 := Try.underlying26
 have HRT := zA hr_
 clear hr_
 have HR0_1 := zA hr0_1
 have HC0_1 := zA hc0_1
 clear hr0_1 hc0_1
 have HR0_2 := zA hr0_2
 have HC0_2 := zA hc0_2
 clear hr0_2 hc0_2
 have HB := zA (Below.refl w.heap.size w)
 have H : ((laws_szJacobi.f a0_0 l0_1 l0_2 1048576).bind fun t308 => (if t308 < 0 then (some true) else ((laws_toJacobi.f k a0_0 l0_1 l0_2).bind fun bt309 => ((spec_CutJacobi.f k bt309.1 bt309.2.1 bt309.2.2 a1).bind fun bt316 => ((laws_toJacobi.f k a0_0 l0_1 l0_2).bind fun bt325 => ((impl_CutJacobi.f k bt325.1 bt325.2.1 bt325.2.2 a1).bind fun bt333 => ((laws_eqJacobi.f k bt333.1 bt333.2.1 bt333.2.2.1 bt316.1 bt316.2.1 bt316.2.2.1).bind fun t342 => (if t342 = true then (laws_FnExactCutJacobi.j0 k a1 bt316.2.2.2 bt333.2.2.2 (bt333.2.2.2 != bt316.2.2.2) a0_0 l0_1 l0_2 bt316.1 bt316.2.1 bt316.2.2.1 bt325.1 bt325.2.1 bt325.2.2 bt333.1 bt333.2.1 bt333.2.2.1) else (laws_FnExactCutJacobi.j0 k a1 bt316.2.2.2 bt333.2.2.2 true a0_0 l0_1 l0_2 bt316.1 bt316.2.1 bt316.2.2.1 bt325.1 bt325.2.1 bt325.2.2 bt333.1 bt333.2.1 bt333.2.2.1))))))))) = some r := h
 clear h
 replace H := Option.bind_eq_some_iff.mp H
 obtain ⟨t308, A30, H⟩ := H
 replace H : (if t308 < 0 then (some true) else ((laws_toJacobi.f k a0_0 l0_1 l0_2).bind fun bt309 => ((spec_CutJacobi.f k bt309.1 bt309.2.1 bt309.2.2 a1).bind fun bt316 => ((laws_toJacobi.f k a0_0 l0_1 l0_2).bind fun bt325 => ((impl_CutJacobi.f k bt325.1 bt325.2.1 bt325.2.2 a1).bind fun bt333 => ((laws_eqJacobi.f k bt333.1 bt333.2.1 bt333.2.2.1 bt316.1 bt316.2.1 bt316.2.2.1).bind fun t342 => (if t342 = true then (laws_FnExactCutJacobi.j0 k a1 bt316.2.2.2 bt333.2.2.2 (bt333.2.2.2 != bt316.2.2.2) a0_0 l0_1 l0_2 bt316.1 bt316.2.1 bt316.2.2.1 bt325.1 bt325.2.1 bt325.2.2 bt333.1 bt333.2.1 bt333.2.2.1) else (laws_FnExactCutJacobi.j0 k a1 bt316.2.2.2 bt333.2.2.2 true a0_0 l0_1 l0_2 bt316.1 bt316.2.1 bt316.2.2.1 bt325.1 bt325.2.1 bt325.2.2 bt333.1 bt333.2.1 bt333.2.2.1)))))))) = some r := H
 have A3 := zA A30
 clear A30
 by_cases c4 : t308 < 0
 ·rw [if_pos c4] at H
  have c4b0 : decide (t308 < 0) = true := decide_eq_true c4
  clear c4
  obtain rfl := Option.some.inj H
  go_enter Try.func4, Try.ntmps4
  go_wp2_with (first | ((with_reducible refine gate_dst (N := 2) rfl ?_); refine box_event ?hg (N := 2) ?hd (cs := #[.int .i64 a0_0, .slice A0_1 l0_1.length c0_1, .slice A0_2 l0_2.length c0_2]) (t := 24) ?hr ?_; (case hd => rfl); (case hg => rfl); (case hr => first | (go_simp; done) | (go_simp; rfl)); intro gb307 hg w5 hbox hb; have n0_ := xH HB hb; have n1_ := zA (hbox); have n2_ := zA ((by rw [hg]; exact (below_size (uH HB.out)) : w.heap.size ≤ gb307)); have n3_ := zA ((by rw [hg]; exact (below_size (uH HB.out)) : w.heap.size ≤ gb307)); clear HB; have HB := n0_; have BK307 := n1_; have GW307 := n2_; have GE307 := n3_; have := geI GE307; clear n0_ n1_ n2_ n3_ hb hbox hg; have hcz6_0 : w5.cell? ⟨gb307, 0, none⟩ = some (.int .i64 a0_0) := (blk_cell BK307.out 0).trans rfl; have hcz6_1 : w5.cell? ⟨gb307, 1, none⟩ = some (.slice A0_1 l0_1.length c0_1) := (blk_cell BK307.out 1).trans rfl; have hcz6_2 : w5.cell? ⟨gb307, 2, none⟩ = some (.slice A0_2 l0_2.length c0_2) := (blk_cell BK307.out 2).trans rfl; have hfz6_0 := blk_frozen BK307.out 0; have hfz6_1 := blk_frozen BK307.out 1; have hfz6_2 := blk_frozen BK307.out 2) | ((with_reducible refine gate_callee (f := 15) rfl ?_); refine goesL_ (some 18) rfl rfl Try.func15 (by kernel_rfl) rfl #[.agg #[.int .i64 a0_0, .slice A0_1 l0_1.length c0_1, .slice A0_2 l0_2.length c0_2], .int .i64 1048576] rfl (by (try simp only [List.map_toArray, List.map_cons, List.map_nil]); first | done | rfl | (simp only [List.length_drop, List.length_take]; rfl)) ?_; (with_reducible refine (laws_szJacobi.calls a0_0 _ _ l0_1 _ _ l0_2 1048576 t308 _ ?side1 ?side2 ?side3 ?side4 A3.out).mono ?_); (case side1 => exact uC ((Kd.C_below HR0_1.out HB.out))); (case side2 => exact HC0_1.out); (case side3 => exact uC ((Kd.C_below HR0_2.out HB.out))); (case side4 => exact HC0_2.out); rintro e w7 ⟨rfl, hb⟩; refine ⟨_, rfl, ?_⟩; have n0_ := xB BK307 hb; have n1_ := xH HB hb; clear BK307 HB; have BK307 := n0_; have HB := n1_; clear n0_ n1_; (try clear hb); (try clear hb2); (try clear hk); (try clear hi)))
  go_ret
  exact ⟨by first | rfl | (simp [errW_none, errW_some] <;> rfl) | (simp [*, errW_none, errW_some] <;> rfl), uH HB.out⟩
 ·rw [if_neg c4] at H
  have c4b0 : decide (t308 < 0) = false := decide_eq_false c4
  clear c4
  replace H := Option.bind_eq_some_iff.mp H
  obtain ⟨⟨t309, t310, t313⟩, A80, H⟩ := H
  replace H : ((spec_CutJacobi.f k t309 t310 t313 a1).bind fun bt316 => ((laws_toJacobi.f k a0_0 l0_1 l0_2).bind fun bt325 => ((impl_CutJacobi.f k bt325.1 bt325.2.1 bt325.2.2 a1).bind fun bt333 => ((laws_eqJacobi.f k bt333.1 bt333.2.1 bt333.2.2.1 bt316.1 bt316.2.1 bt316.2.2.1).bind fun t342 => (if t342 = true then (laws_FnExactCutJacobi.j0 k a1 bt316.2.2.2 bt333.2.2.2 (bt333.2.2.2 != bt316.2.2.2) a0_0 l0_1 l0_2 bt316.1 bt316.2.1 bt316.2.2.1 bt325.1 bt325.2.1 bt325.2.2 bt333.1 bt333.2.1 bt333.2.2.1) else (laws_FnExactCutJacobi.j0 k a1 bt316.2.2.2 bt333.2.2.2 true a0_0 l0_1 l0_2 bt316.1 bt316.2.1 bt316.2.2.1 bt325.1 bt325.2.1 bt325.2.2 bt333.1 bt333.2.1 bt333.2.2.1)))))) = some r := H
  have A8 := zA A80
  clear A80
  replace H := Option.bind_eq_some_iff.mp H
  obtain ⟨⟨t316, t317, t320, t323⟩, A90, H⟩ := H
  replace H : ((laws_toJacobi.f k a0_0 l0_1 l0_2).bind fun bt325 => ((impl_CutJacobi.f k bt325.1 bt325.2.1 bt325.2.2 a1).bind fun bt333 => ((laws_eqJacobi.f k bt333.1 bt333.2.1 bt333.2.2.1 t316 t317 t320).bind fun t342 => (if t342 = true then (laws_FnExactCutJacobi.j0 k a1 t323 bt333.2.2.2 (bt333.2.2.2 != t323) a0_0 l0_1 l0_2 t316 t317 t320 bt325.1 bt325.2.1 bt325.2.2 bt333.1 bt333.2.1 bt333.2.2.1) else (laws_FnExactCutJacobi.j0 k a1 t323 bt333.2.2.2 true a0_0 l0_1 l0_2 t316 t317 t320 bt325.1 bt325.2.1 bt325.2.2 bt333.1 bt333.2.1 bt333.2.2.1))))) = some r := H
  have A9 := zA A90
  clear A90
  replace H := Option.bind_eq_some_iff.mp H
  obtain ⟨⟨t325, t326, t329⟩, A100, H⟩ := H
  replace H : ((impl_CutJacobi.f k t325 t326 t329 a1).bind fun bt333 => ((laws_eqJacobi.f k bt333.1 bt333.2.1 bt333.2.2.1 t316 t317 t320).bind fun t342 => (if t342 = true then (laws_FnExactCutJacobi.j0 k a1 t323 bt333.2.2.2 (bt333.2.2.2 != t323) a0_0 l0_1 l0_2 t316 t317 t320 t325 t326 t329 bt333.1 bt333.2.1 bt333.2.2.1) else (laws_FnExactCutJacobi.j0 k a1 t323 bt333.2.2.2 true a0_0 l0_1 l0_2 t316 t317 t320 t325 t326 t329 bt333.1 bt333.2.1 bt333.2.2.1)))) = some r := H
  have A10 := zA A100
  clear A100
  replace H := Option.bind_eq_some_iff.mp H
  obtain ⟨⟨t333, t334, t337, t340⟩, A110, H⟩ := H
  replace H : ((laws_eqJacobi.f k t333 t334 t337 t316 t317 t320).bind fun t342 => (if t342 = true then (laws_FnExactCutJacobi.j0 k a1 t323 t340 (t340 != t323) a0_0 l0_1 l0_2 t316 t317 t320 t325 t326 t329 t333 t334 t337) else (laws_FnExactCutJacobi.j0 k a1 t323 t340 true a0_0 l0_1 l0_2 t316 t317 t320 t325 t326 t329 t333 t334 t337))) = some r := H
  have A11 := zA A110
  clear A110
  have HC12 := zA H
  clear H
  go_enter Try.func4, Try.ntmps4
  go_upto_region 8 with (first | ((with_reducible refine gate_dst (N := 2) rfl ?_); refine box_event ?hg (N := 2) ?hd (cs := #[.int .i64 a0_0, .slice A0_1 l0_1.length c0_1, .slice A0_2 l0_2.length c0_2]) (t := 24) ?hr ?_; (case hd => rfl); (case hg => rfl); (case hr => first | (go_simp; done) | (go_simp; rfl)); intro gb307 hg w13 hbox hb; have n0_ := xH HB hb; have n1_ := zA (hbox); have n2_ := zA ((by rw [hg]; exact (below_size (uH HB.out)) : w.heap.size ≤ gb307)); have n3_ := zA ((by rw [hg]; exact (below_size (uH HB.out)) : w.heap.size ≤ gb307)); clear HB; have HB := n0_; have BK307 := n1_; have GW307 := n2_; have GE307 := n3_; have := geI GE307; clear n0_ n1_ n2_ n3_ hb hbox hg; have hcz14_0 : w13.cell? ⟨gb307, 0, none⟩ = some (.int .i64 a0_0) := (blk_cell BK307.out 0).trans rfl; have hcz14_1 : w13.cell? ⟨gb307, 1, none⟩ = some (.slice A0_1 l0_1.length c0_1) := (blk_cell BK307.out 1).trans rfl; have hcz14_2 : w13.cell? ⟨gb307, 2, none⟩ = some (.slice A0_2 l0_2.length c0_2) := (blk_cell BK307.out 2).trans rfl; have hfz14_0 := blk_frozen BK307.out 0; have hfz14_1 := blk_frozen BK307.out 1; have hfz14_2 := blk_frozen BK307.out 2) | ((with_reducible refine gate_callee (f := 15) rfl ?_); refine goesL_ (some 18) rfl rfl Try.func15 (by kernel_rfl) rfl #[.agg #[.int .i64 a0_0, .slice A0_1 l0_1.length c0_1, .slice A0_2 l0_2.length c0_2], .int .i64 1048576] rfl (by (try simp only [List.map_toArray, List.map_cons, List.map_nil]); first | done | rfl | (simp only [List.length_drop, List.length_take]; rfl)) ?_; (with_reducible refine (laws_szJacobi.calls a0_0 _ _ l0_1 _ _ l0_2 1048576 t308 _ ?side1 ?side2 ?side3 ?side4 A3.out).mono ?_); (case side1 => exact uC ((Kd.C_below HR0_1.out HB.out))); (case side2 => exact HC0_1.out); (case side3 => exact uC ((Kd.C_below HR0_2.out HB.out))); (case side4 => exact HC0_2.out); rintro e w15 ⟨rfl, hb⟩; refine ⟨_, rfl, ?_⟩; have n0_ := xB BK307 hb; have n1_ := xH HB hb; clear BK307 HB; have BK307 := n0_; have HB := n1_; clear n0_ n1_; (try clear hb); (try clear hb2); (try clear hk); (try clear hi); have hcz16_0 : w15.cell? ⟨gb307, 0, none⟩ = some (.int .i64 a0_0) := (blk_cell BK307.out 0).trans rfl; have hcz16_1 : w15.cell? ⟨gb307, 1, none⟩ = some (.slice A0_1 l0_1.length c0_1) := (blk_cell BK307.out 1).trans rfl; have hcz16_2 : w15.cell? ⟨gb307, 2, none⟩ = some (.slice A0_2 l0_2.length c0_2) := (blk_cell BK307.out 2).trans rfl; have hfz16_0 := blk_frozen BK307.out 0; have hfz16_1 := blk_frozen BK307.out 1; have hfz16_2 := blk_frozen BK307.out 2) | ((with_reducible refine gate_callee (f := 17) rfl ?_); refine goesL_ (some 23) rfl rfl Try.func17 (by kernel_rfl) rfl #[.agg #[.int .i64 a0_0, .slice A0_1 l0_1.length c0_1, .slice A0_2 l0_2.length c0_2]] rfl (by (try simp only [List.map_toArray, List.map_cons, List.map_nil]); first | done | rfl | (simp only [List.length_drop, List.length_take]; rfl)) ?_; (with_reducible refine (laws_toJacobi.calls k a0_0 _ _ l0_1 _ _ l0_2 t309 t310 t313 _ ?side1 ?side2 ?side3 ?side4 A8.out).mono ?_); (case side1 => exact uC ((Kd.C_below HR0_1.out HB.out))); (case side2 => exact HC0_1.out); (case side3 => exact uC ((Kd.C_below HR0_2.out HB.out))); (case side4 => exact HC0_2.out); rintro e w17 ⟨v311, v314, rfl, ho0, ho1, hb⟩; refine ⟨_, rfl, ?_⟩; have n0_ := zA (Kd.R_lower ho0 (below_size (uH HB.out))); have n1_ := zA (Kd.R_lower ho1 (below_size (uH HB.out))); have n2_ := xB BK307 hb; have n3_ := xH HB hb; clear BK307 HB; have HO312 := n0_; have HO315 := n1_; have BK307 := n2_; have HB := n3_; clear n0_ n1_ n2_ n3_; (try clear hb); (try clear hb2); (try clear hk); (try clear hi); (try clear ho0); (try clear ho1); obtain ⟨Ao18, co18, eo18⟩ := Kd.R_slice HO312.out; subst eo18; obtain ⟨Ao19, co19, eo19⟩ := Kd.R_slice HO315.out; subst eo19) | ((with_reducible refine gate_callee (f := 22) rfl ?_); refine goesL_ (some 25) rfl rfl Try.func22 (by kernel_rfl) rfl #[.agg #[.int .i64 t309, .slice Ao18 t310.length co18, .slice Ao19 t313.length co19], .int .i64 a1] rfl (by (try simp only [List.map_toArray, List.map_cons, List.map_nil]); first | done | rfl | (simp only [List.length_drop, List.length_take]; rfl)) ?_; (with_reducible refine (spec_CutJacobi.calls k t309 _ _ t310 _ _ t313 a1 t316 t317 t320 t323 _ ?side1 ?side2 ?side3 ?side4 A9.out).mono ?_); (case side1 => exact uC ((Kd.R_reads' HO312.out).2.2)); (case side2 => exact (Kd.R_reads' HO312.out).2.1); (case side3 => exact uC ((Kd.R_reads' HO315.out).2.2)); (case side4 => exact (Kd.R_reads' HO315.out).2.1); rintro e w20 ⟨v318, v321, rfl, ho0, ho1, hb⟩; refine ⟨_, rfl, ?_⟩; have n0_ := zA (Kd.R_mono (Kd.R_told (Kd.R_told (Kd.R_old (uR HO312.out) hb) (Kd.R_base ho0)) (Kd.R_base ho1)) (fun _ h_ => h_.1)); have n1_ := zA (Kd.R_mono (Kd.R_told (Kd.R_told (Kd.R_old (uR HO315.out) hb) (Kd.R_base ho0)) (Kd.R_base ho1)) (fun _ h_ => h_.1)); have n2_ := zA (Kd.R_lower (Kd.R_new' (Kd.R_new' ho0 (Kd.R_lt (uR HO312.out))) (Kd.R_lt (uR HO315.out))) (below_size (uH HB.out))); have n3_ := zA (Kd.R_lower (Kd.R_new' (Kd.R_new' ho1 (Kd.R_lt (uR HO312.out))) (Kd.R_lt (uR HO315.out))) (below_size (uH HB.out))); have n4_ := xB BK307 hb; have n5_ := xH HB hb; clear HO312 HO315 BK307 HB; have HO312 := n0_; have HO315 := n1_; have HO319 := n2_; have HO322 := n3_; have BK307 := n4_; have HB := n5_; clear n0_ n1_ n2_ n3_ n4_ n5_; (try clear hb); (try clear hb2); (try clear hk); (try clear hi); (try clear ho0); (try clear ho1)) | ((with_reducible refine gate_dst (N := 6) rfl ?_); refine box_event ?hg (N := 6) ?hd (cs := #[.int .i64 0, .slice none 0 0, .slice none 0 0]) (t := 26) ?hr ?_; (case hd => rfl); (case hg => rfl); (case hr => first | (go_simp; done) | (go_simp; rfl)); intro gb324 hg w21 hbox hb; have n0_ := xR HO312 hb; have n1_ := xR HO315 hb; have n2_ := xR HO319 hb; have n3_ := xR HO322 hb; have n4_ := xB BK307 hb; have n5_ := xH HB hb; have n6_ := zA (hbox); have n7_ := zA ((by rw [hg]; exact (below_size (uH HB.out)) : w.heap.size ≤ gb324)); have n8_ := zA ((by rw [hg]; exact (below_size (uH HB.out)) : w.heap.size ≤ gb324)); have n9_ := zA ((by rw [hg]; exact neL BK307 : gb307 ≠ gb324)); have n10_ := zA ((by rw [hg]; exact neG BK307 : gb324 ≠ gb307)); clear HO312 HO315 HO319 HO322 BK307 HB; have HO312 := n0_; have HO315 := n1_; have HO319 := n2_; have HO322 := n3_; have BK307 := n4_; have HB := n5_; have BK324 := n6_; have GW324 := n7_; have GE324 := n8_; have := geI GE324; have NB307_324 := n9_; have NB324_307 := n10_; clear n0_ n1_ n2_ n3_ n4_ n5_ n6_ n7_ n8_ n9_ n10_ hb hbox hg; have hnb22 := NB324_307.out; have hnc22 := NB307_324.out; have hcz23_0 : w21.cell? ⟨gb324, 0, none⟩ = some (.int .i64 0) := (blk_cell BK324.out 0).trans rfl; have hcz23_1 : w21.cell? ⟨gb324, 1, none⟩ = some (.slice none 0 0) := (blk_cell BK324.out 1).trans rfl; have hcz23_2 : w21.cell? ⟨gb324, 2, none⟩ = some (.slice none 0 0) := (blk_cell BK324.out 2).trans rfl; have hfz23_0 := blk_frozen BK324.out 0; have hfz23_1 := blk_frozen BK324.out 1; have hfz23_2 := blk_frozen BK324.out 2; obtain ⟨Ao24, co24, eo24⟩ := Kd.R_slice HO319.out; subst eo24; obtain ⟨Ao25, co25, eo25⟩ := Kd.R_slice HO322.out; subst eo25; have hcz26_0 : w21.cell? ⟨gb307, 0, none⟩ = some (.int .i64 a0_0) := (blk_cell BK307.out 0).trans rfl; have hcz26_1 : w21.cell? ⟨gb307, 1, none⟩ = some (.slice A0_1 l0_1.length c0_1) := (blk_cell BK307.out 1).trans rfl; have hcz26_2 : w21.cell? ⟨gb307, 2, none⟩ = some (.slice A0_2 l0_2.length c0_2) := (blk_cell BK307.out 2).trans rfl; have hfz26_0 := blk_frozen BK307.out 0; have hfz26_1 := blk_frozen BK307.out 1; have hfz26_2 := blk_frozen BK307.out 2) | ((with_reducible refine gate_callee (f := 17) rfl ?_); refine goesL_ (some 29) rfl rfl Try.func17 (by kernel_rfl) rfl #[.agg #[.int .i64 a0_0, .slice A0_1 l0_1.length c0_1, .slice A0_2 l0_2.length c0_2]] rfl (by (try simp only [List.map_toArray, List.map_cons, List.map_nil]); first | done | rfl | (simp only [List.length_drop, List.length_take]; rfl)) ?_; (with_reducible refine (laws_toJacobi.calls k a0_0 _ _ l0_1 _ _ l0_2 t325 t326 t329 _ ?side1 ?side2 ?side3 ?side4 A10.out).mono ?_); (case side1 => exact Kd.C_below HR0_1.out (uH HB.out)); (case side2 => exact HC0_1.out); (case side3 => exact Kd.C_below HR0_2.out (uH HB.out)); (case side4 => exact HC0_2.out); rintro e w27 ⟨v327, v330, rfl, ho0, ho1, hb⟩; refine ⟨_, rfl, ?_⟩; have n0_ := zA (Kd.R_mono (Kd.R_told (Kd.R_told (Kd.R_old (uR ((Kd.R_mono (Kd.R_far (p := ⟨gb324, 2, none⟩) (Kd.R_far (p := ⟨gb324, 1, none⟩) (Kd.R_far (p := ⟨gb324, 0, none⟩) (Kd.R_types HO312.out BK324.out (by decide)) (fun _ hk => hk.2) (.int .i64 t316)) (fun _ hk => hk.2) (.slice Ao24 t317.length co24)) (fun _ hk => hk.2) (.slice Ao25 t320.length co25)) (fun _ h_ => h_.1)))) hb) (Kd.R_base ho0)) (Kd.R_base ho1)) (fun _ h_ => h_.1)); have n1_ := zA (Kd.R_mono (Kd.R_told (Kd.R_told (Kd.R_old (uR ((Kd.R_mono (Kd.R_far (p := ⟨gb324, 2, none⟩) (Kd.R_far (p := ⟨gb324, 1, none⟩) (Kd.R_far (p := ⟨gb324, 0, none⟩) (Kd.R_types HO315.out BK324.out (by decide)) (fun _ hk => hk.2) (.int .i64 t316)) (fun _ hk => hk.2) (.slice Ao24 t317.length co24)) (fun _ hk => hk.2) (.slice Ao25 t320.length co25)) (fun _ h_ => h_.1)))) hb) (Kd.R_base ho0)) (Kd.R_base ho1)) (fun _ h_ => h_.1)); have n2_ := zA (Kd.R_mono (Kd.R_told (Kd.R_told (Kd.R_old (uR ((Kd.R_mono (Kd.R_far (p := ⟨gb324, 2, none⟩) (Kd.R_far (p := ⟨gb324, 1, none⟩) (Kd.R_far (p := ⟨gb324, 0, none⟩) (Kd.R_types HO319.out BK324.out (by decide)) (fun _ hk => hk.2) (.int .i64 t316)) (fun _ hk => hk.2) (.slice Ao24 t317.length co24)) (fun _ hk => hk.2) (.slice Ao25 t320.length co25)) (fun _ h_ => h_.1)))) hb) (Kd.R_base ho0)) (Kd.R_base ho1)) (fun _ h_ => h_.1)); have n3_ := zA (Kd.R_mono (Kd.R_told (Kd.R_told (Kd.R_old (uR ((Kd.R_mono (Kd.R_far (p := ⟨gb324, 2, none⟩) (Kd.R_far (p := ⟨gb324, 1, none⟩) (Kd.R_far (p := ⟨gb324, 0, none⟩) (Kd.R_types HO322.out BK324.out (by decide)) (fun _ hk => hk.2) (.int .i64 t316)) (fun _ hk => hk.2) (.slice Ao24 t317.length co24)) (fun _ hk => hk.2) (.slice Ao25 t320.length co25)) (fun _ h_ => h_.1)))) hb) (Kd.R_base ho0)) (Kd.R_base ho1)) (fun _ h_ => h_.1)); have n4_ := zA (Kd.R_lower (Kd.R_new' (Kd.R_new' (Kd.R_new' (Kd.R_new' ho0 (Kd.R_lt (uR ((Kd.R_mono (Kd.R_far (p := ⟨gb324, 2, none⟩) (Kd.R_far (p := ⟨gb324, 1, none⟩) (Kd.R_far (p := ⟨gb324, 0, none⟩) (Kd.R_types HO312.out BK324.out (by decide)) (fun _ hk => hk.2) (.int .i64 t316)) (fun _ hk => hk.2) (.slice Ao24 t317.length co24)) (fun _ hk => hk.2) (.slice Ao25 t320.length co25)) (fun _ h_ => h_.1)))))) (Kd.R_lt (uR ((Kd.R_mono (Kd.R_far (p := ⟨gb324, 2, none⟩) (Kd.R_far (p := ⟨gb324, 1, none⟩) (Kd.R_far (p := ⟨gb324, 0, none⟩) (Kd.R_types HO315.out BK324.out (by decide)) (fun _ hk => hk.2) (.int .i64 t316)) (fun _ hk => hk.2) (.slice Ao24 t317.length co24)) (fun _ hk => hk.2) (.slice Ao25 t320.length co25)) (fun _ h_ => h_.1)))))) (Kd.R_lt (uR ((Kd.R_mono (Kd.R_far (p := ⟨gb324, 2, none⟩) (Kd.R_far (p := ⟨gb324, 1, none⟩) (Kd.R_far (p := ⟨gb324, 0, none⟩) (Kd.R_types HO319.out BK324.out (by decide)) (fun _ hk => hk.2) (.int .i64 t316)) (fun _ hk => hk.2) (.slice Ao24 t317.length co24)) (fun _ hk => hk.2) (.slice Ao25 t320.length co25)) (fun _ h_ => h_.1)))))) (Kd.R_lt (uR ((Kd.R_mono (Kd.R_far (p := ⟨gb324, 2, none⟩) (Kd.R_far (p := ⟨gb324, 1, none⟩) (Kd.R_far (p := ⟨gb324, 0, none⟩) (Kd.R_types HO322.out BK324.out (by decide)) (fun _ hk => hk.2) (.int .i64 t316)) (fun _ hk => hk.2) (.slice Ao24 t317.length co24)) (fun _ hk => hk.2) (.slice Ao25 t320.length co25)) (fun _ h_ => h_.1)))))) (below_size (uH HB.out))); have n5_ := zA (Kd.R_lower (Kd.R_new' (Kd.R_new' (Kd.R_new' (Kd.R_new' ho1 (Kd.R_lt (uR ((Kd.R_mono (Kd.R_far (p := ⟨gb324, 2, none⟩) (Kd.R_far (p := ⟨gb324, 1, none⟩) (Kd.R_far (p := ⟨gb324, 0, none⟩) (Kd.R_types HO312.out BK324.out (by decide)) (fun _ hk => hk.2) (.int .i64 t316)) (fun _ hk => hk.2) (.slice Ao24 t317.length co24)) (fun _ hk => hk.2) (.slice Ao25 t320.length co25)) (fun _ h_ => h_.1)))))) (Kd.R_lt (uR ((Kd.R_mono (Kd.R_far (p := ⟨gb324, 2, none⟩) (Kd.R_far (p := ⟨gb324, 1, none⟩) (Kd.R_far (p := ⟨gb324, 0, none⟩) (Kd.R_types HO315.out BK324.out (by decide)) (fun _ hk => hk.2) (.int .i64 t316)) (fun _ hk => hk.2) (.slice Ao24 t317.length co24)) (fun _ hk => hk.2) (.slice Ao25 t320.length co25)) (fun _ h_ => h_.1)))))) (Kd.R_lt (uR ((Kd.R_mono (Kd.R_far (p := ⟨gb324, 2, none⟩) (Kd.R_far (p := ⟨gb324, 1, none⟩) (Kd.R_far (p := ⟨gb324, 0, none⟩) (Kd.R_types HO319.out BK324.out (by decide)) (fun _ hk => hk.2) (.int .i64 t316)) (fun _ hk => hk.2) (.slice Ao24 t317.length co24)) (fun _ hk => hk.2) (.slice Ao25 t320.length co25)) (fun _ h_ => h_.1)))))) (Kd.R_lt (uR ((Kd.R_mono (Kd.R_far (p := ⟨gb324, 2, none⟩) (Kd.R_far (p := ⟨gb324, 1, none⟩) (Kd.R_far (p := ⟨gb324, 0, none⟩) (Kd.R_types HO322.out BK324.out (by decide)) (fun _ hk => hk.2) (.int .i64 t316)) (fun _ hk => hk.2) (.slice Ao24 t317.length co24)) (fun _ hk => hk.2) (.slice Ao25 t320.length co25)) (fun _ h_ => h_.1)))))) (below_size (uH HB.out))); have n6_ := zA (blk_below (g := gb307) (o := .cells #[.int .i64 a0_0, .slice A0_1 l0_1.length c0_1, .slice A0_2 l0_2.length c0_2] 24 (0, 0)) (by (with_reducible repeat (first | refine blk_drewN ?_ _ | refine blk_drew ?_ | refine blk_alloc ?_ _)); refine blk_far ?_ NB307_324.out _; (with_reducible repeat (first | refine blk_drewN ?_ _ | refine blk_drew ?_ | refine blk_alloc ?_ _)); refine blk_far ?_ NB307_324.out _; (with_reducible repeat (first | refine blk_drewN ?_ _ | refine blk_drew ?_ | refine blk_alloc ?_ _)); refine blk_far ?_ NB307_324.out _; (with_reducible repeat (first | refine blk_drewN ?_ _ | refine blk_drew ?_ | refine blk_alloc ?_ _)); exact BK307.out) hb); have n7_ := zA (blk_below (g := gb324) (o := .cells #[.int .i64 t316, .slice Ao24 t317.length co24, .slice Ao25 t320.length co25] 26 (0, 0)) (by (with_reducible repeat (first | refine blk_drewN ?_ _ | refine blk_drew ?_ | refine blk_alloc ?_ _)); refine blk_put (cs := #[.int .i64 t316, .slice Ao24 t317.length co24, .slice none 0 0]) ?_ 2 _ rfl; (with_reducible repeat (first | refine blk_drewN ?_ _ | refine blk_drew ?_ | refine blk_alloc ?_ _)); refine blk_put (cs := #[.int .i64 t316, .slice none 0 0, .slice none 0 0]) ?_ 1 _ rfl; (with_reducible repeat (first | refine blk_drewN ?_ _ | refine blk_drew ?_ | refine blk_alloc ?_ _)); refine blk_put (cs := #[.int .i64 0, .slice none 0 0, .slice none 0 0]) ?_ 0 _ rfl; (with_reducible repeat (first | refine blk_drewN ?_ _ | refine blk_drew ?_ | refine blk_alloc ?_ _)); exact BK324.out) hb); have n8_ := xH HB hb; clear HO312 HO315 HO319 HO322 BK307 BK324 HB; have HO312 := n0_; have HO315 := n1_; have HO319 := n2_; have HO322 := n3_; have HO328 := n4_; have HO331 := n5_; have BK307 := n6_; have BK324 := n7_; have HB := n8_; clear n0_ n1_ n2_ n3_ n4_ n5_ n6_ n7_ n8_; (try clear hb); (try clear hb2); (try clear hk); (try clear hi); (try clear ho0); (try clear ho1)) | ((with_reducible refine gate_dst (N := 8) rfl ?_); refine box_event ?hg (N := 8) ?hd (cs := #[.int .i64 0, .slice none 0 0, .slice none 0 0]) (t := 26) ?hr ?_; (case hd => rfl); (case hg => rfl); (case hr => first | (go_simp; done) | (go_simp; rfl)); intro gb332 hg w28 hbox hb; have n0_ := xR HO312 hb; have n1_ := xR HO315 hb; have n2_ := xR HO319 hb; have n3_ := xR HO322 hb; have n4_ := xR HO328 hb; have n5_ := xR HO331 hb; have n6_ := xB BK307 hb; have n7_ := xB BK324 hb; have n8_ := xH HB hb; have n9_ := zA (hbox); have n10_ := zA ((by rw [hg]; exact (below_size (uH HB.out)) : w.heap.size ≤ gb332)); have n11_ := zA ((by rw [hg]; exact (below_size (uH HB.out)) : w.heap.size ≤ gb332)); have n12_ := zA ((by rw [hg]; exact neL BK307 : gb307 ≠ gb332)); have n13_ := zA ((by rw [hg]; exact neG BK307 : gb332 ≠ gb307)); have n14_ := zA ((by rw [hg]; exact neL BK324 : gb324 ≠ gb332)); have n15_ := zA ((by rw [hg]; exact neG BK324 : gb332 ≠ gb324)); clear HO312 HO315 HO319 HO322 HO328 HO331 BK307 BK324 HB; have HO312 := n0_; have HO315 := n1_; have HO319 := n2_; have HO322 := n3_; have HO328 := n4_; have HO331 := n5_; have BK307 := n6_; have BK324 := n7_; have HB := n8_; have BK332 := n9_; have GW332 := n10_; have GE332 := n11_; have := geI GE332; have NB307_332 := n12_; have NB332_307 := n13_; have NB324_332 := n14_; have NB332_324 := n15_; clear n0_ n1_ n2_ n3_ n4_ n5_ n6_ n7_ n8_ n9_ n10_ n11_ n12_ n13_ n14_ n15_ hb hbox hg; have hnb29 := NB332_307.out; have hnc29 := NB307_332.out; have hnb30 := NB332_324.out; have hnc30 := NB324_332.out; have hcz31_0 : w28.cell? ⟨gb332, 0, none⟩ = some (.int .i64 0) := (blk_cell BK332.out 0).trans rfl; have hcz31_1 : w28.cell? ⟨gb332, 1, none⟩ = some (.slice none 0 0) := (blk_cell BK332.out 1).trans rfl; have hcz31_2 : w28.cell? ⟨gb332, 2, none⟩ = some (.slice none 0 0) := (blk_cell BK332.out 2).trans rfl; have hfz31_0 := blk_frozen BK332.out 0; have hfz31_1 := blk_frozen BK332.out 1; have hfz31_2 := blk_frozen BK332.out 2; obtain ⟨Ao32, co32, eo32⟩ := Kd.R_slice HO328.out; subst eo32; obtain ⟨Ao33, co33, eo33⟩ := Kd.R_slice HO331.out; subst eo33) | ((with_reducible refine gate_callee (f := 23) rfl ?_); refine goesL_ (some 33) rfl rfl Try.func23 (by kernel_rfl) rfl #[.agg #[.int .i64 t325, .slice Ao32 t326.length co32, .slice Ao33 t329.length co33], .int .i64 a1] rfl (by (try simp only [List.map_toArray, List.map_cons, List.map_nil]); first | done | rfl | (simp only [List.length_drop, List.length_take]; rfl)) ?_; (with_reducible refine (impl_CutJacobi.calls k t325 _ _ t326 _ _ t329 a1 t333 t334 t337 t340 _ ?side1 ?side2 ?side3 ?side4 A11.out).mono ?_); (case side1 => refine (Kd.R_reads' (e := 2) (base := w.heap.size) (ok := fun k_ => ((((some k_ ≠ (.slice Ao33 t329.length co33 : Value).ownBlock ∧ some k_ ≠ (.slice Ao18 t310.length co18 : Value).ownBlock) ∧ some k_ ≠ (.slice Ao19 t313.length co19 : Value).ownBlock) ∧ some k_ ≠ (.slice Ao24 t317.length co24 : Value).ownBlock) ∧ some k_ ≠ (.slice Ao25 t320.length co25 : Value).ownBlock)) (n := t326.length) (c := co32) ?_).2.2; exact (uR ((Kd.R_mono (Kd.R_far (p := ⟨gb332, 2, none⟩) (Kd.R_far (p := ⟨gb332, 1, none⟩) (Kd.R_far (p := ⟨gb332, 0, none⟩) (Kd.R_types HO328.out BK332.out (by decide)) (fun _ hk => hk.2) (.int .i64 t325)) (fun _ hk => hk.2) (.slice Ao32 t326.length co32)) (fun _ hk => hk.2) (.slice Ao33 t329.length co33)) (fun _ h_ => h_.1))))); (case side2 => exact (Kd.R_reads' HO328.out).2.1); (case side3 => refine (Kd.R_reads' (e := 2) (base := w.heap.size) (ok := fun k_ => ((((some k_ ≠ (.slice Ao32 t326.length co32 : Value).ownBlock ∧ some k_ ≠ (.slice Ao18 t310.length co18 : Value).ownBlock) ∧ some k_ ≠ (.slice Ao19 t313.length co19 : Value).ownBlock) ∧ some k_ ≠ (.slice Ao24 t317.length co24 : Value).ownBlock) ∧ some k_ ≠ (.slice Ao25 t320.length co25 : Value).ownBlock)) (n := t329.length) (c := co33) ?_).2.2; exact (uR ((Kd.R_mono (Kd.R_far (p := ⟨gb332, 2, none⟩) (Kd.R_far (p := ⟨gb332, 1, none⟩) (Kd.R_far (p := ⟨gb332, 0, none⟩) (Kd.R_types HO331.out BK332.out (by decide)) (fun _ hk => hk.2) (.int .i64 t325)) (fun _ hk => hk.2) (.slice Ao32 t326.length co32)) (fun _ hk => hk.2) (.slice Ao33 t329.length co33)) (fun _ h_ => h_.1))))); (case side4 => exact (Kd.R_reads' HO331.out).2.1); rintro e w34 ⟨v335, v338, rfl, ho0, ho1, hb⟩; refine ⟨_, rfl, ?_⟩; have n0_ := zA (Kd.R_mono (Kd.R_told (Kd.R_told (Kd.R_old (uR ((Kd.R_mono (Kd.R_far (p := ⟨gb332, 2, none⟩) (Kd.R_far (p := ⟨gb332, 1, none⟩) (Kd.R_far (p := ⟨gb332, 0, none⟩) (Kd.R_types HO312.out BK332.out (by decide)) (fun _ hk => hk.2) (.int .i64 t325)) (fun _ hk => hk.2) (.slice Ao32 t326.length co32)) (fun _ hk => hk.2) (.slice Ao33 t329.length co33)) (fun _ h_ => h_.1)))) hb) (Kd.R_base ho0)) (Kd.R_base ho1)) (fun _ h_ => h_.1)); have n1_ := zA (Kd.R_mono (Kd.R_told (Kd.R_told (Kd.R_old (uR ((Kd.R_mono (Kd.R_far (p := ⟨gb332, 2, none⟩) (Kd.R_far (p := ⟨gb332, 1, none⟩) (Kd.R_far (p := ⟨gb332, 0, none⟩) (Kd.R_types HO315.out BK332.out (by decide)) (fun _ hk => hk.2) (.int .i64 t325)) (fun _ hk => hk.2) (.slice Ao32 t326.length co32)) (fun _ hk => hk.2) (.slice Ao33 t329.length co33)) (fun _ h_ => h_.1)))) hb) (Kd.R_base ho0)) (Kd.R_base ho1)) (fun _ h_ => h_.1)); have n2_ := zA (Kd.R_mono (Kd.R_told (Kd.R_told (Kd.R_old (uR ((Kd.R_mono (Kd.R_far (p := ⟨gb332, 2, none⟩) (Kd.R_far (p := ⟨gb332, 1, none⟩) (Kd.R_far (p := ⟨gb332, 0, none⟩) (Kd.R_types HO319.out BK332.out (by decide)) (fun _ hk => hk.2) (.int .i64 t325)) (fun _ hk => hk.2) (.slice Ao32 t326.length co32)) (fun _ hk => hk.2) (.slice Ao33 t329.length co33)) (fun _ h_ => h_.1)))) hb) (Kd.R_base ho0)) (Kd.R_base ho1)) (fun _ h_ => h_.1)); have n3_ := zA (Kd.R_mono (Kd.R_told (Kd.R_told (Kd.R_old (uR ((Kd.R_mono (Kd.R_far (p := ⟨gb332, 2, none⟩) (Kd.R_far (p := ⟨gb332, 1, none⟩) (Kd.R_far (p := ⟨gb332, 0, none⟩) (Kd.R_types HO322.out BK332.out (by decide)) (fun _ hk => hk.2) (.int .i64 t325)) (fun _ hk => hk.2) (.slice Ao32 t326.length co32)) (fun _ hk => hk.2) (.slice Ao33 t329.length co33)) (fun _ h_ => h_.1)))) hb) (Kd.R_base ho0)) (Kd.R_base ho1)) (fun _ h_ => h_.1)); have n4_ := zA (Kd.R_mono (Kd.R_told (Kd.R_told (Kd.R_old (uR ((Kd.R_mono (Kd.R_far (p := ⟨gb332, 2, none⟩) (Kd.R_far (p := ⟨gb332, 1, none⟩) (Kd.R_far (p := ⟨gb332, 0, none⟩) (Kd.R_types HO328.out BK332.out (by decide)) (fun _ hk => hk.2) (.int .i64 t325)) (fun _ hk => hk.2) (.slice Ao32 t326.length co32)) (fun _ hk => hk.2) (.slice Ao33 t329.length co33)) (fun _ h_ => h_.1)))) hb) (Kd.R_base ho0)) (Kd.R_base ho1)) (fun _ h_ => h_.1)); have n5_ := zA (Kd.R_mono (Kd.R_told (Kd.R_told (Kd.R_old (uR ((Kd.R_mono (Kd.R_far (p := ⟨gb332, 2, none⟩) (Kd.R_far (p := ⟨gb332, 1, none⟩) (Kd.R_far (p := ⟨gb332, 0, none⟩) (Kd.R_types HO331.out BK332.out (by decide)) (fun _ hk => hk.2) (.int .i64 t325)) (fun _ hk => hk.2) (.slice Ao32 t326.length co32)) (fun _ hk => hk.2) (.slice Ao33 t329.length co33)) (fun _ h_ => h_.1)))) hb) (Kd.R_base ho0)) (Kd.R_base ho1)) (fun _ h_ => h_.1)); have n6_ := zA (Kd.R_lower (Kd.R_new' (Kd.R_new' (Kd.R_new' (Kd.R_new' (Kd.R_new' (Kd.R_new' ho0 (Kd.R_lt (uR ((Kd.R_mono (Kd.R_far (p := ⟨gb332, 2, none⟩) (Kd.R_far (p := ⟨gb332, 1, none⟩) (Kd.R_far (p := ⟨gb332, 0, none⟩) (Kd.R_types HO312.out BK332.out (by decide)) (fun _ hk => hk.2) (.int .i64 t325)) (fun _ hk => hk.2) (.slice Ao32 t326.length co32)) (fun _ hk => hk.2) (.slice Ao33 t329.length co33)) (fun _ h_ => h_.1)))))) (Kd.R_lt (uR ((Kd.R_mono (Kd.R_far (p := ⟨gb332, 2, none⟩) (Kd.R_far (p := ⟨gb332, 1, none⟩) (Kd.R_far (p := ⟨gb332, 0, none⟩) (Kd.R_types HO315.out BK332.out (by decide)) (fun _ hk => hk.2) (.int .i64 t325)) (fun _ hk => hk.2) (.slice Ao32 t326.length co32)) (fun _ hk => hk.2) (.slice Ao33 t329.length co33)) (fun _ h_ => h_.1)))))) (Kd.R_lt (uR ((Kd.R_mono (Kd.R_far (p := ⟨gb332, 2, none⟩) (Kd.R_far (p := ⟨gb332, 1, none⟩) (Kd.R_far (p := ⟨gb332, 0, none⟩) (Kd.R_types HO319.out BK332.out (by decide)) (fun _ hk => hk.2) (.int .i64 t325)) (fun _ hk => hk.2) (.slice Ao32 t326.length co32)) (fun _ hk => hk.2) (.slice Ao33 t329.length co33)) (fun _ h_ => h_.1)))))) (Kd.R_lt (uR ((Kd.R_mono (Kd.R_far (p := ⟨gb332, 2, none⟩) (Kd.R_far (p := ⟨gb332, 1, none⟩) (Kd.R_far (p := ⟨gb332, 0, none⟩) (Kd.R_types HO322.out BK332.out (by decide)) (fun _ hk => hk.2) (.int .i64 t325)) (fun _ hk => hk.2) (.slice Ao32 t326.length co32)) (fun _ hk => hk.2) (.slice Ao33 t329.length co33)) (fun _ h_ => h_.1)))))) (Kd.R_lt (uR ((Kd.R_mono (Kd.R_far (p := ⟨gb332, 2, none⟩) (Kd.R_far (p := ⟨gb332, 1, none⟩) (Kd.R_far (p := ⟨gb332, 0, none⟩) (Kd.R_types HO328.out BK332.out (by decide)) (fun _ hk => hk.2) (.int .i64 t325)) (fun _ hk => hk.2) (.slice Ao32 t326.length co32)) (fun _ hk => hk.2) (.slice Ao33 t329.length co33)) (fun _ h_ => h_.1)))))) (Kd.R_lt (uR ((Kd.R_mono (Kd.R_far (p := ⟨gb332, 2, none⟩) (Kd.R_far (p := ⟨gb332, 1, none⟩) (Kd.R_far (p := ⟨gb332, 0, none⟩) (Kd.R_types HO331.out BK332.out (by decide)) (fun _ hk => hk.2) (.int .i64 t325)) (fun _ hk => hk.2) (.slice Ao32 t326.length co32)) (fun _ hk => hk.2) (.slice Ao33 t329.length co33)) (fun _ h_ => h_.1)))))) (below_size (uH HB.out))); have n7_ := zA (Kd.R_lower (Kd.R_new' (Kd.R_new' (Kd.R_new' (Kd.R_new' (Kd.R_new' (Kd.R_new' ho1 (Kd.R_lt (uR ((Kd.R_mono (Kd.R_far (p := ⟨gb332, 2, none⟩) (Kd.R_far (p := ⟨gb332, 1, none⟩) (Kd.R_far (p := ⟨gb332, 0, none⟩) (Kd.R_types HO312.out BK332.out (by decide)) (fun _ hk => hk.2) (.int .i64 t325)) (fun _ hk => hk.2) (.slice Ao32 t326.length co32)) (fun _ hk => hk.2) (.slice Ao33 t329.length co33)) (fun _ h_ => h_.1)))))) (Kd.R_lt (uR ((Kd.R_mono (Kd.R_far (p := ⟨gb332, 2, none⟩) (Kd.R_far (p := ⟨gb332, 1, none⟩) (Kd.R_far (p := ⟨gb332, 0, none⟩) (Kd.R_types HO315.out BK332.out (by decide)) (fun _ hk => hk.2) (.int .i64 t325)) (fun _ hk => hk.2) (.slice Ao32 t326.length co32)) (fun _ hk => hk.2) (.slice Ao33 t329.length co33)) (fun _ h_ => h_.1)))))) (Kd.R_lt (uR ((Kd.R_mono (Kd.R_far (p := ⟨gb332, 2, none⟩) (Kd.R_far (p := ⟨gb332, 1, none⟩) (Kd.R_far (p := ⟨gb332, 0, none⟩) (Kd.R_types HO319.out BK332.out (by decide)) (fun _ hk => hk.2) (.int .i64 t325)) (fun _ hk => hk.2) (.slice Ao32 t326.length co32)) (fun _ hk => hk.2) (.slice Ao33 t329.length co33)) (fun _ h_ => h_.1)))))) (Kd.R_lt (uR ((Kd.R_mono (Kd.R_far (p := ⟨gb332, 2, none⟩) (Kd.R_far (p := ⟨gb332, 1, none⟩) (Kd.R_far (p := ⟨gb332, 0, none⟩) (Kd.R_types HO322.out BK332.out (by decide)) (fun _ hk => hk.2) (.int .i64 t325)) (fun _ hk => hk.2) (.slice Ao32 t326.length co32)) (fun _ hk => hk.2) (.slice Ao33 t329.length co33)) (fun _ h_ => h_.1)))))) (Kd.R_lt (uR ((Kd.R_mono (Kd.R_far (p := ⟨gb332, 2, none⟩) (Kd.R_far (p := ⟨gb332, 1, none⟩) (Kd.R_far (p := ⟨gb332, 0, none⟩) (Kd.R_types HO328.out BK332.out (by decide)) (fun _ hk => hk.2) (.int .i64 t325)) (fun _ hk => hk.2) (.slice Ao32 t326.length co32)) (fun _ hk => hk.2) (.slice Ao33 t329.length co33)) (fun _ h_ => h_.1)))))) (Kd.R_lt (uR ((Kd.R_mono (Kd.R_far (p := ⟨gb332, 2, none⟩) (Kd.R_far (p := ⟨gb332, 1, none⟩) (Kd.R_far (p := ⟨gb332, 0, none⟩) (Kd.R_types HO331.out BK332.out (by decide)) (fun _ hk => hk.2) (.int .i64 t325)) (fun _ hk => hk.2) (.slice Ao32 t326.length co32)) (fun _ hk => hk.2) (.slice Ao33 t329.length co33)) (fun _ h_ => h_.1)))))) (below_size (uH HB.out))); have n8_ := zA (blk_below (g := gb307) (o := .cells #[.int .i64 a0_0, .slice A0_1 l0_1.length c0_1, .slice A0_2 l0_2.length c0_2] 24 (0, 0)) (by (with_reducible repeat (first | refine blk_drewN ?_ _ | refine blk_drew ?_ | refine blk_alloc ?_ _)); refine blk_far ?_ NB307_332.out _; (with_reducible repeat (first | refine blk_drewN ?_ _ | refine blk_drew ?_ | refine blk_alloc ?_ _)); refine blk_far ?_ NB307_332.out _; (with_reducible repeat (first | refine blk_drewN ?_ _ | refine blk_drew ?_ | refine blk_alloc ?_ _)); refine blk_far ?_ NB307_332.out _; (with_reducible repeat (first | refine blk_drewN ?_ _ | refine blk_drew ?_ | refine blk_alloc ?_ _)); exact BK307.out) hb); have n9_ := zA (blk_below (g := gb324) (o := .cells #[.int .i64 t316, .slice Ao24 t317.length co24, .slice Ao25 t320.length co25] 26 (0, 0)) (by (with_reducible repeat (first | refine blk_drewN ?_ _ | refine blk_drew ?_ | refine blk_alloc ?_ _)); refine blk_far ?_ NB324_332.out _; (with_reducible repeat (first | refine blk_drewN ?_ _ | refine blk_drew ?_ | refine blk_alloc ?_ _)); refine blk_far ?_ NB324_332.out _; (with_reducible repeat (first | refine blk_drewN ?_ _ | refine blk_drew ?_ | refine blk_alloc ?_ _)); refine blk_far ?_ NB324_332.out _; (with_reducible repeat (first | refine blk_drewN ?_ _ | refine blk_drew ?_ | refine blk_alloc ?_ _)); exact BK324.out) hb); have n10_ := zA (blk_below (g := gb332) (o := .cells #[.int .i64 t325, .slice Ao32 t326.length co32, .slice Ao33 t329.length co33] 26 (0, 0)) (by (with_reducible repeat (first | refine blk_drewN ?_ _ | refine blk_drew ?_ | refine blk_alloc ?_ _)); refine blk_put (cs := #[.int .i64 t325, .slice Ao32 t326.length co32, .slice none 0 0]) ?_ 2 _ rfl; (with_reducible repeat (first | refine blk_drewN ?_ _ | refine blk_drew ?_ | refine blk_alloc ?_ _)); refine blk_put (cs := #[.int .i64 t325, .slice none 0 0, .slice none 0 0]) ?_ 1 _ rfl; (with_reducible repeat (first | refine blk_drewN ?_ _ | refine blk_drew ?_ | refine blk_alloc ?_ _)); refine blk_put (cs := #[.int .i64 0, .slice none 0 0, .slice none 0 0]) ?_ 0 _ rfl; (with_reducible repeat (first | refine blk_drewN ?_ _ | refine blk_drew ?_ | refine blk_alloc ?_ _)); exact BK332.out) hb); have n11_ := xH HB hb; clear HO312 HO315 HO319 HO322 HO328 HO331 BK307 BK324 BK332 HB; have HO312 := n0_; have HO315 := n1_; have HO319 := n2_; have HO322 := n3_; have HO328 := n4_; have HO331 := n5_; have HO336 := n6_; have HO339 := n7_; have BK307 := n8_; have BK324 := n9_; have BK332 := n10_; have HB := n11_; clear n0_ n1_ n2_ n3_ n4_ n5_ n6_ n7_ n8_ n9_ n10_ n11_; (try clear hb); (try clear hb2); (try clear hk); (try clear hi); (try clear ho0); (try clear ho1)) | ((with_reducible refine gate_dst (N := 9) rfl ?_); refine box_event ?hg (N := 9) ?hd (cs := #[.int .i64 0, .slice none 0 0, .slice none 0 0]) (t := 26) ?hr ?_; (case hd => rfl); (case hg => rfl); (case hr => first | (go_simp; done) | (go_simp; rfl)); intro gb341 hg w35 hbox hb; have n0_ := xR HO312 hb; have n1_ := xR HO315 hb; have n2_ := xR HO319 hb; have n3_ := xR HO322 hb; have n4_ := xR HO328 hb; have n5_ := xR HO331 hb; have n6_ := xR HO336 hb; have n7_ := xR HO339 hb; have n8_ := xB BK307 hb; have n9_ := xB BK324 hb; have n10_ := xB BK332 hb; have n11_ := xH HB hb; have n12_ := zA (hbox); have n13_ := zA ((by rw [hg]; exact (below_size (uH HB.out)) : w.heap.size ≤ gb341)); have n14_ := zA ((by rw [hg]; exact (below_size (uH HB.out)) : w.heap.size ≤ gb341)); have n15_ := zA ((by rw [hg]; exact neL BK307 : gb307 ≠ gb341)); have n16_ := zA ((by rw [hg]; exact neG BK307 : gb341 ≠ gb307)); have n17_ := zA ((by rw [hg]; exact neL BK324 : gb324 ≠ gb341)); have n18_ := zA ((by rw [hg]; exact neG BK324 : gb341 ≠ gb324)); have n19_ := zA ((by rw [hg]; exact neL BK332 : gb332 ≠ gb341)); have n20_ := zA ((by rw [hg]; exact neG BK332 : gb341 ≠ gb332)); clear HO312 HO315 HO319 HO322 HO328 HO331 HO336 HO339 BK307 BK324 BK332 HB; have HO312 := n0_; have HO315 := n1_; have HO319 := n2_; have HO322 := n3_; have HO328 := n4_; have HO331 := n5_; have HO336 := n6_; have HO339 := n7_; have BK307 := n8_; have BK324 := n9_; have BK332 := n10_; have HB := n11_; have BK341 := n12_; have GW341 := n13_; have GE341 := n14_; have := geI GE341; have NB307_341 := n15_; have NB341_307 := n16_; have NB324_341 := n17_; have NB341_324 := n18_; have NB332_341 := n19_; have NB341_332 := n20_; clear n0_ n1_ n2_ n3_ n4_ n5_ n6_ n7_ n8_ n9_ n10_ n11_ n12_ n13_ n14_ n15_ n16_ n17_ n18_ n19_ n20_ hb hbox hg; have hnb36 := NB341_307.out; have hnc36 := NB307_341.out; have hnb37 := NB341_324.out; have hnc37 := NB324_341.out; have hnb38 := NB341_332.out; have hnc38 := NB332_341.out; have hcz39_0 : w35.cell? ⟨gb341, 0, none⟩ = some (.int .i64 0) := (blk_cell BK341.out 0).trans rfl; have hcz39_1 : w35.cell? ⟨gb341, 1, none⟩ = some (.slice none 0 0) := (blk_cell BK341.out 1).trans rfl; have hcz39_2 : w35.cell? ⟨gb341, 2, none⟩ = some (.slice none 0 0) := (blk_cell BK341.out 2).trans rfl; have hfz39_0 := blk_frozen BK341.out 0; have hfz39_1 := blk_frozen BK341.out 1; have hfz39_2 := blk_frozen BK341.out 2; obtain ⟨Ao40, co40, eo40⟩ := Kd.R_slice HO336.out; subst eo40; obtain ⟨Ao41, co41, eo41⟩ := Kd.R_slice HO339.out; subst eo41))
  (try simp only [Act.put, List.setIfInBounds_toArray, List.set_cons_zero, List.set_cons_succ])
  go_cut [44] (fun v44 wc => ∃ (kq : Nat) (x44_11 : Bool), v44 = .bool x44_11 ∧ Aside0 (laws_FnExactCutJacobi.j0 kq a1 t323 t340 x44_11 a0_0 l0_1 l0_2 t316 t317 t320 t325 t326 t329 t333 t334 t337 = some r) ∧ Aside0 (kq ≤ k) ∧ Aside0 (Kd.R (Kd.int .i64) 2 wc w.heap.size (fun k_ => some k_ ≠ ((.slice Ao25 t320.length co25) : Value).ownBlock ∧ some k_ ≠ ((.slice Ao32 t326.length co32) : Value).ownBlock ∧ some k_ ≠ ((.slice Ao33 t329.length co33) : Value).ownBlock ∧ some k_ ≠ ((.slice Ao40 t334.length co40) : Value).ownBlock ∧ some k_ ≠ ((.slice Ao41 t337.length co41) : Value).ownBlock) (.slice Ao24 t317.length co24) t317) ∧ Aside0 (Kd.R (Kd.int .i64) 2 wc w.heap.size (fun k_ => some k_ ≠ ((.slice Ao24 t317.length co24) : Value).ownBlock ∧ some k_ ≠ ((.slice Ao32 t326.length co32) : Value).ownBlock ∧ some k_ ≠ ((.slice Ao33 t329.length co33) : Value).ownBlock ∧ some k_ ≠ ((.slice Ao40 t334.length co40) : Value).ownBlock ∧ some k_ ≠ ((.slice Ao41 t337.length co41) : Value).ownBlock) (.slice Ao25 t320.length co25) t320) ∧ Aside0 (Kd.R (Kd.int .i64) 2 wc w.heap.size (fun k_ => some k_ ≠ ((.slice Ao24 t317.length co24) : Value).ownBlock ∧ some k_ ≠ ((.slice Ao25 t320.length co25) : Value).ownBlock ∧ some k_ ≠ ((.slice Ao33 t329.length co33) : Value).ownBlock ∧ some k_ ≠ ((.slice Ao40 t334.length co40) : Value).ownBlock ∧ some k_ ≠ ((.slice Ao41 t337.length co41) : Value).ownBlock) (.slice Ao32 t326.length co32) t326) ∧ Aside0 (Kd.R (Kd.int .i64) 2 wc w.heap.size (fun k_ => some k_ ≠ ((.slice Ao24 t317.length co24) : Value).ownBlock ∧ some k_ ≠ ((.slice Ao25 t320.length co25) : Value).ownBlock ∧ some k_ ≠ ((.slice Ao32 t326.length co32) : Value).ownBlock ∧ some k_ ≠ ((.slice Ao40 t334.length co40) : Value).ownBlock ∧ some k_ ≠ ((.slice Ao41 t337.length co41) : Value).ownBlock) (.slice Ao33 t329.length co33) t329) ∧ Aside0 (Kd.R (Kd.int .i64) 2 wc w.heap.size (fun k_ => some k_ ≠ ((.slice Ao24 t317.length co24) : Value).ownBlock ∧ some k_ ≠ ((.slice Ao25 t320.length co25) : Value).ownBlock ∧ some k_ ≠ ((.slice Ao32 t326.length co32) : Value).ownBlock ∧ some k_ ≠ ((.slice Ao33 t329.length co33) : Value).ownBlock ∧ some k_ ≠ ((.slice Ao41 t337.length co41) : Value).ownBlock) (.slice Ao40 t334.length co40) t334) ∧ Aside0 (Kd.R (Kd.int .i64) 2 wc w.heap.size (fun k_ => some k_ ≠ ((.slice Ao24 t317.length co24) : Value).ownBlock ∧ some k_ ≠ ((.slice Ao25 t320.length co25) : Value).ownBlock ∧ some k_ ≠ ((.slice Ao32 t326.length co32) : Value).ownBlock ∧ some k_ ≠ ((.slice Ao33 t329.length co33) : Value).ownBlock ∧ some k_ ≠ ((.slice Ao40 t334.length co40) : Value).ownBlock) (.slice Ao41 t337.length co41) t337) ∧ Aside0 (wc.heap[gb307]? = some (.cells #[.int .i64 a0_0, (.slice A0_1 l0_1.length c0_1), (.slice A0_2 l0_2.length c0_2)] 24 (0, 0))) ∧ Aside0 (wc.heap[gb324]? = some (.cells #[.int .i64 t316, (.slice Ao24 t317.length co24), (.slice Ao25 t320.length co25)] 26 (0, 0))) ∧ Aside0 (wc.heap[gb332]? = some (.cells #[.int .i64 t325, (.slice Ao32 t326.length co32), (.slice Ao33 t329.length co33)] 26 (0, 0))) ∧ Aside0 (wc.heap[gb341]? = some (.cells #[.int .i64 t333, (.slice Ao40 t334.length co40), (.slice Ao41 t337.length co41)] 26 (0, 0))) ∧ Aside0 (Below w.heap.size w wc))
  case first =>
   have H := HC12.out
   clear HC12
   replace H := Option.bind_eq_some_iff.mp H
   obtain ⟨t342, A420, H⟩ := H
   replace H : (if t342 = true then (laws_FnExactCutJacobi.j0 k a1 t323 t340 (t340 != t323) a0_0 l0_1 l0_2 t316 t317 t320 t325 t326 t329 t333 t334 t337) else (laws_FnExactCutJacobi.j0 k a1 t323 t340 true a0_0 l0_1 l0_2 t316 t317 t320 t325 t326 t329 t333 t334 t337)) = some r := H
   have A42 := zA A420
   clear A420
   by_cases c43 : t342 = true
   ·subst c43
    have H1 : (laws_FnExactCutJacobi.j0 k a1 t323 t340 (t340 != t323) a0_0 l0_1 l0_2 t316 t317 t320 t325 t326 t329 t333 t334 t337) = some r := by rw [if_pos rfl] at H; exact H
    clear H
    have H := H1
    clear H1
    have H' := zA H
    clear H
    have hnb44 := NB341_307.out; have hnc44 := NB307_341.out; have hnb45 := NB341_324.out; have hnc45 := NB324_341.out; have hnb46 := NB341_332.out; have hnc46 := NB332_341.out
    have hcz47_0 : w35.cell? ⟨gb341, 0, none⟩ = some (.int .i64 0) := (blk_cell BK341.out 0).trans rfl
    have hcz47_1 : w35.cell? ⟨gb341, 1, none⟩ = some (.slice none 0 0) := (blk_cell BK341.out 1).trans rfl
    have hcz47_2 : w35.cell? ⟨gb341, 2, none⟩ = some (.slice none 0 0) := (blk_cell BK341.out 2).trans rfl
    have hfz47_0 := blk_frozen BK341.out 0
    have hfz47_1 := blk_frozen BK341.out 1
    have hfz47_2 := blk_frozen BK341.out 2
    have hnb48 := NB324_307.out; have hnc48 := NB307_324.out; have hnb49 := NB324_332.out; have hnc49 := NB332_324.out
    have hcz50_0 : w35.cell? ⟨gb324, 0, none⟩ = some (.int .i64 t316) := (blk_cell BK324.out 0).trans rfl
    have hcz50_1 : w35.cell? ⟨gb324, 1, none⟩ = some (.slice Ao24 t317.length co24) := (blk_cell BK324.out 1).trans rfl
    have hcz50_2 : w35.cell? ⟨gb324, 2, none⟩ = some (.slice Ao25 t320.length co25) := (blk_cell BK324.out 2).trans rfl
    have hfz50_0 := blk_frozen BK324.out 0
    have hfz50_1 := blk_frozen BK324.out 1
    have hfz50_2 := blk_frozen BK324.out 2
    go_wp2_with (first | ((with_reducible refine gate_callee (f := 19) rfl ?_); refine goesL_ (some 38) rfl rfl Try.func19 (by kernel_rfl) rfl #[.agg #[.int .i64 t333, .slice Ao40 t334.length co40, .slice Ao41 t337.length co41], .agg #[.int .i64 t316, .slice Ao24 t317.length co24, .slice Ao25 t320.length co25]] rfl (by (try simp only [List.map_toArray, List.map_cons, List.map_nil]); first | done | rfl | (simp only [List.length_drop, List.length_take]; rfl)) ?_; (with_reducible refine (laws_eqJacobi.calls k t333 _ _ t334 _ _ t337 t316 _ _ t317 _ _ t320 true _ ?side1 ?side2 ?side3 ?side4 ?side5 ?side6 ?side7 ?side8 A42.out).mono ?_); (case side1 => refine (Kd.R_reads' (e := 2) (base := w.heap.size) (ok := fun k_ => ((((((some k_ ≠ (.slice Ao41 t337.length co41 : Value).ownBlock ∧ some k_ ≠ (.slice Ao18 t310.length co18 : Value).ownBlock) ∧ some k_ ≠ (.slice Ao19 t313.length co19 : Value).ownBlock) ∧ some k_ ≠ (.slice Ao24 t317.length co24 : Value).ownBlock) ∧ some k_ ≠ (.slice Ao25 t320.length co25 : Value).ownBlock) ∧ some k_ ≠ (.slice Ao32 t326.length co32 : Value).ownBlock) ∧ some k_ ≠ (.slice Ao33 t329.length co33 : Value).ownBlock)) (n := t334.length) (c := co40) ?_).2.2; exact (uR ((Kd.R_mono (Kd.R_far (p := ⟨gb341, 2, none⟩) (Kd.R_far (p := ⟨gb341, 1, none⟩) (Kd.R_far (p := ⟨gb341, 0, none⟩) (Kd.R_types HO336.out BK341.out (by decide)) (fun _ hk => hk.2) (.int .i64 t333)) (fun _ hk => hk.2) (.slice Ao40 t334.length co40)) (fun _ hk => hk.2) (.slice Ao41 t337.length co41)) (fun _ h_ => h_.1))))); (case side2 => exact (Kd.R_reads' HO336.out).2.1); (case side3 => refine (Kd.R_reads' (e := 2) (base := w.heap.size) (ok := fun k_ => ((((((some k_ ≠ (.slice Ao40 t334.length co40 : Value).ownBlock ∧ some k_ ≠ (.slice Ao18 t310.length co18 : Value).ownBlock) ∧ some k_ ≠ (.slice Ao19 t313.length co19 : Value).ownBlock) ∧ some k_ ≠ (.slice Ao24 t317.length co24 : Value).ownBlock) ∧ some k_ ≠ (.slice Ao25 t320.length co25 : Value).ownBlock) ∧ some k_ ≠ (.slice Ao32 t326.length co32 : Value).ownBlock) ∧ some k_ ≠ (.slice Ao33 t329.length co33 : Value).ownBlock)) (n := t337.length) (c := co41) ?_).2.2; exact (uR ((Kd.R_mono (Kd.R_far (p := ⟨gb341, 2, none⟩) (Kd.R_far (p := ⟨gb341, 1, none⟩) (Kd.R_far (p := ⟨gb341, 0, none⟩) (Kd.R_types HO339.out BK341.out (by decide)) (fun _ hk => hk.2) (.int .i64 t333)) (fun _ hk => hk.2) (.slice Ao40 t334.length co40)) (fun _ hk => hk.2) (.slice Ao41 t337.length co41)) (fun _ h_ => h_.1))))); (case side4 => exact (Kd.R_reads' HO339.out).2.1); (case side5 => refine (Kd.R_reads' (e := 2) (base := w.heap.size) (ok := fun k_ => ((((((some k_ ≠ (.slice Ao25 t320.length co25 : Value).ownBlock ∧ some k_ ≠ (.slice Ao18 t310.length co18 : Value).ownBlock) ∧ some k_ ≠ (.slice Ao19 t313.length co19 : Value).ownBlock) ∧ some k_ ≠ (.slice Ao32 t326.length co32 : Value).ownBlock) ∧ some k_ ≠ (.slice Ao33 t329.length co33 : Value).ownBlock) ∧ some k_ ≠ (.slice Ao40 t334.length co40 : Value).ownBlock) ∧ some k_ ≠ (.slice Ao41 t337.length co41 : Value).ownBlock)) (n := t317.length) (c := co24) ?_).2.2; exact (uR ((Kd.R_mono (Kd.R_far (p := ⟨gb341, 2, none⟩) (Kd.R_far (p := ⟨gb341, 1, none⟩) (Kd.R_far (p := ⟨gb341, 0, none⟩) (Kd.R_types HO319.out BK341.out (by decide)) (fun _ hk => hk.2) (.int .i64 t333)) (fun _ hk => hk.2) (.slice Ao40 t334.length co40)) (fun _ hk => hk.2) (.slice Ao41 t337.length co41)) (fun _ h_ => h_.1))))); (case side6 => exact (Kd.R_reads' HO319.out).2.1); (case side7 => refine (Kd.R_reads' (e := 2) (base := w.heap.size) (ok := fun k_ => ((((((some k_ ≠ (.slice Ao24 t317.length co24 : Value).ownBlock ∧ some k_ ≠ (.slice Ao18 t310.length co18 : Value).ownBlock) ∧ some k_ ≠ (.slice Ao19 t313.length co19 : Value).ownBlock) ∧ some k_ ≠ (.slice Ao32 t326.length co32 : Value).ownBlock) ∧ some k_ ≠ (.slice Ao33 t329.length co33 : Value).ownBlock) ∧ some k_ ≠ (.slice Ao40 t334.length co40 : Value).ownBlock) ∧ some k_ ≠ (.slice Ao41 t337.length co41 : Value).ownBlock)) (n := t320.length) (c := co25) ?_).2.2; exact (uR ((Kd.R_mono (Kd.R_far (p := ⟨gb341, 2, none⟩) (Kd.R_far (p := ⟨gb341, 1, none⟩) (Kd.R_far (p := ⟨gb341, 0, none⟩) (Kd.R_types HO322.out BK341.out (by decide)) (fun _ hk => hk.2) (.int .i64 t333)) (fun _ hk => hk.2) (.slice Ao40 t334.length co40)) (fun _ hk => hk.2) (.slice Ao41 t337.length co41)) (fun _ h_ => h_.1))))); (case side8 => exact (Kd.R_reads' HO322.out).2.1); rintro e w51 ⟨rfl, hb⟩; refine ⟨_, rfl, ?_⟩; have n0_ := zA (Kd.R_below (uR ((Kd.R_mono (Kd.R_far (p := ⟨gb341, 2, none⟩) (Kd.R_far (p := ⟨gb341, 1, none⟩) (Kd.R_far (p := ⟨gb341, 0, none⟩) (Kd.R_types HO312.out BK341.out (by decide)) (fun _ hk => hk.2) (.int .i64 t333)) (fun _ hk => hk.2) (.slice Ao40 t334.length co40)) (fun _ hk => hk.2) (.slice Ao41 t337.length co41)) (fun _ h_ => h_.1)))) hb); have n1_ := zA (Kd.R_below (uR ((Kd.R_mono (Kd.R_far (p := ⟨gb341, 2, none⟩) (Kd.R_far (p := ⟨gb341, 1, none⟩) (Kd.R_far (p := ⟨gb341, 0, none⟩) (Kd.R_types HO315.out BK341.out (by decide)) (fun _ hk => hk.2) (.int .i64 t333)) (fun _ hk => hk.2) (.slice Ao40 t334.length co40)) (fun _ hk => hk.2) (.slice Ao41 t337.length co41)) (fun _ h_ => h_.1)))) hb); have n2_ := zA (Kd.R_below (uR ((Kd.R_mono (Kd.R_far (p := ⟨gb341, 2, none⟩) (Kd.R_far (p := ⟨gb341, 1, none⟩) (Kd.R_far (p := ⟨gb341, 0, none⟩) (Kd.R_types HO319.out BK341.out (by decide)) (fun _ hk => hk.2) (.int .i64 t333)) (fun _ hk => hk.2) (.slice Ao40 t334.length co40)) (fun _ hk => hk.2) (.slice Ao41 t337.length co41)) (fun _ h_ => h_.1)))) hb); have n3_ := zA (Kd.R_below (uR ((Kd.R_mono (Kd.R_far (p := ⟨gb341, 2, none⟩) (Kd.R_far (p := ⟨gb341, 1, none⟩) (Kd.R_far (p := ⟨gb341, 0, none⟩) (Kd.R_types HO322.out BK341.out (by decide)) (fun _ hk => hk.2) (.int .i64 t333)) (fun _ hk => hk.2) (.slice Ao40 t334.length co40)) (fun _ hk => hk.2) (.slice Ao41 t337.length co41)) (fun _ h_ => h_.1)))) hb); have n4_ := zA (Kd.R_below (uR ((Kd.R_mono (Kd.R_far (p := ⟨gb341, 2, none⟩) (Kd.R_far (p := ⟨gb341, 1, none⟩) (Kd.R_far (p := ⟨gb341, 0, none⟩) (Kd.R_types HO328.out BK341.out (by decide)) (fun _ hk => hk.2) (.int .i64 t333)) (fun _ hk => hk.2) (.slice Ao40 t334.length co40)) (fun _ hk => hk.2) (.slice Ao41 t337.length co41)) (fun _ h_ => h_.1)))) hb); have n5_ := zA (Kd.R_below (uR ((Kd.R_mono (Kd.R_far (p := ⟨gb341, 2, none⟩) (Kd.R_far (p := ⟨gb341, 1, none⟩) (Kd.R_far (p := ⟨gb341, 0, none⟩) (Kd.R_types HO331.out BK341.out (by decide)) (fun _ hk => hk.2) (.int .i64 t333)) (fun _ hk => hk.2) (.slice Ao40 t334.length co40)) (fun _ hk => hk.2) (.slice Ao41 t337.length co41)) (fun _ h_ => h_.1)))) hb); have n6_ := zA (Kd.R_below (uR ((Kd.R_mono (Kd.R_far (p := ⟨gb341, 2, none⟩) (Kd.R_far (p := ⟨gb341, 1, none⟩) (Kd.R_far (p := ⟨gb341, 0, none⟩) (Kd.R_types HO336.out BK341.out (by decide)) (fun _ hk => hk.2) (.int .i64 t333)) (fun _ hk => hk.2) (.slice Ao40 t334.length co40)) (fun _ hk => hk.2) (.slice Ao41 t337.length co41)) (fun _ h_ => h_.1)))) hb); have n7_ := zA (Kd.R_below (uR ((Kd.R_mono (Kd.R_far (p := ⟨gb341, 2, none⟩) (Kd.R_far (p := ⟨gb341, 1, none⟩) (Kd.R_far (p := ⟨gb341, 0, none⟩) (Kd.R_types HO339.out BK341.out (by decide)) (fun _ hk => hk.2) (.int .i64 t333)) (fun _ hk => hk.2) (.slice Ao40 t334.length co40)) (fun _ hk => hk.2) (.slice Ao41 t337.length co41)) (fun _ h_ => h_.1)))) hb); have n8_ := zA (blk_below (g := gb307) (o := .cells #[.int .i64 a0_0, .slice A0_1 l0_1.length c0_1, .slice A0_2 l0_2.length c0_2] 24 (0, 0)) (by (with_reducible repeat (first | refine blk_drewN ?_ _ | refine blk_drew ?_ | refine blk_alloc ?_ _)); refine blk_far ?_ NB307_341.out _; (with_reducible repeat (first | refine blk_drewN ?_ _ | refine blk_drew ?_ | refine blk_alloc ?_ _)); refine blk_far ?_ NB307_341.out _; (with_reducible repeat (first | refine blk_drewN ?_ _ | refine blk_drew ?_ | refine blk_alloc ?_ _)); refine blk_far ?_ NB307_341.out _; (with_reducible repeat (first | refine blk_drewN ?_ _ | refine blk_drew ?_ | refine blk_alloc ?_ _)); exact BK307.out) hb); have n9_ := zA (blk_below (g := gb324) (o := .cells #[.int .i64 t316, .slice Ao24 t317.length co24, .slice Ao25 t320.length co25] 26 (0, 0)) (by (with_reducible repeat (first | refine blk_drewN ?_ _ | refine blk_drew ?_ | refine blk_alloc ?_ _)); refine blk_far ?_ NB324_341.out _; (with_reducible repeat (first | refine blk_drewN ?_ _ | refine blk_drew ?_ | refine blk_alloc ?_ _)); refine blk_far ?_ NB324_341.out _; (with_reducible repeat (first | refine blk_drewN ?_ _ | refine blk_drew ?_ | refine blk_alloc ?_ _)); refine blk_far ?_ NB324_341.out _; (with_reducible repeat (first | refine blk_drewN ?_ _ | refine blk_drew ?_ | refine blk_alloc ?_ _)); exact BK324.out) hb); have n10_ := zA (blk_below (g := gb332) (o := .cells #[.int .i64 t325, .slice Ao32 t326.length co32, .slice Ao33 t329.length co33] 26 (0, 0)) (by (with_reducible repeat (first | refine blk_drewN ?_ _ | refine blk_drew ?_ | refine blk_alloc ?_ _)); refine blk_far ?_ NB332_341.out _; (with_reducible repeat (first | refine blk_drewN ?_ _ | refine blk_drew ?_ | refine blk_alloc ?_ _)); refine blk_far ?_ NB332_341.out _; (with_reducible repeat (first | refine blk_drewN ?_ _ | refine blk_drew ?_ | refine blk_alloc ?_ _)); refine blk_far ?_ NB332_341.out _; (with_reducible repeat (first | refine blk_drewN ?_ _ | refine blk_drew ?_ | refine blk_alloc ?_ _)); exact BK332.out) hb); have n11_ := zA (blk_below (g := gb341) (o := .cells #[.int .i64 t333, .slice Ao40 t334.length co40, .slice Ao41 t337.length co41] 26 (0, 0)) (by (with_reducible repeat (first | refine blk_drewN ?_ _ | refine blk_drew ?_ | refine blk_alloc ?_ _)); refine blk_put (cs := #[.int .i64 t333, .slice Ao40 t334.length co40, .slice none 0 0]) ?_ 2 _ rfl; (with_reducible repeat (first | refine blk_drewN ?_ _ | refine blk_drew ?_ | refine blk_alloc ?_ _)); refine blk_put (cs := #[.int .i64 t333, .slice none 0 0, .slice none 0 0]) ?_ 1 _ rfl; (with_reducible repeat (first | refine blk_drewN ?_ _ | refine blk_drew ?_ | refine blk_alloc ?_ _)); refine blk_put (cs := #[.int .i64 0, .slice none 0 0, .slice none 0 0]) ?_ 0 _ rfl; (with_reducible repeat (first | refine blk_drewN ?_ _ | refine blk_drew ?_ | refine blk_alloc ?_ _)); exact BK341.out) hb); have n12_ := xH HB hb; clear HO312 HO315 HO319 HO322 HO328 HO331 HO336 HO339 BK307 BK324 BK332 BK341 HB; have HO312 := n0_; have HO315 := n1_; have HO319 := n2_; have HO322 := n3_; have HO328 := n4_; have HO331 := n5_; have HO336 := n6_; have HO339 := n7_; have BK307 := n8_; have BK324 := n9_; have BK332 := n10_; have BK341 := n11_; have HB := n12_; clear n0_ n1_ n2_ n3_ n4_ n5_ n6_ n7_ n8_ n9_ n10_ n11_ n12_; (try clear hb); (try clear hb2); (try clear hk); (try clear hi)))
    go_meet
    case rel => exact ⟨_, ((t340 != t323)), (by first | rfl | (simp; done) | (simp [*]; done)), H', ⟨by first | omega | exact Nat.le_refl _⟩, ⟨uR (Kd.R_mono HO319.out (fun _ hk => ⟨hk.1.1.1.1.1.1, ⟨hk.1.1.1.2, ⟨hk.1.1.2, ⟨hk.1.2, hk.2⟩⟩⟩⟩))⟩, ⟨uR (Kd.R_mono HO322.out (fun _ hk => ⟨hk.1.1.1.1.1.1, ⟨hk.1.1.1.2, ⟨hk.1.1.2, ⟨hk.1.2, hk.2⟩⟩⟩⟩))⟩, ⟨uR (Kd.R_mono HO328.out (fun _ hk => ⟨hk.1.1.1.2, ⟨hk.1.1.2, ⟨hk.1.1.1.1.1.1, ⟨hk.1.2, hk.2⟩⟩⟩⟩))⟩, ⟨uR (Kd.R_mono HO331.out (fun _ hk => ⟨hk.1.1.1.2, ⟨hk.1.1.2, ⟨hk.1.1.1.1.1.1, ⟨hk.1.2, hk.2⟩⟩⟩⟩))⟩, ⟨uR (Kd.R_mono HO336.out (fun _ hk => ⟨hk.1.1.1.2, ⟨hk.1.1.2, ⟨hk.1.2, ⟨hk.2, hk.1.1.1.1.1.1⟩⟩⟩⟩))⟩, ⟨uR (Kd.R_mono HO339.out (fun _ hk => ⟨hk.1.1.1.2, ⟨hk.1.1.2, ⟨hk.1.2, ⟨hk.2, hk.1.1.1.1.1.1⟩⟩⟩⟩))⟩, ⟨uB BK307.out⟩, ⟨uB BK324.out⟩, ⟨uB BK332.out⟩, ⟨uB BK341.out⟩, ⟨uH HB.out⟩⟩
   ·replace c43 := Bool.eq_false_iff.mpr c43
    subst c43
    have H1 : (laws_FnExactCutJacobi.j0 k a1 t323 t340 true a0_0 l0_1 l0_2 t316 t317 t320 t325 t326 t329 t333 t334 t337) = some r := by rw [if_neg (show ¬ (false = true) by decide)] at H; exact H
    clear H
    have H := H1
    clear H1
    have H' := zA H
    clear H
    have hnb52 := NB341_307.out; have hnc52 := NB307_341.out; have hnb53 := NB341_324.out; have hnc53 := NB324_341.out; have hnb54 := NB341_332.out; have hnc54 := NB332_341.out
    have hcz55_0 : w35.cell? ⟨gb341, 0, none⟩ = some (.int .i64 0) := (blk_cell BK341.out 0).trans rfl
    have hcz55_1 : w35.cell? ⟨gb341, 1, none⟩ = some (.slice none 0 0) := (blk_cell BK341.out 1).trans rfl
    have hcz55_2 : w35.cell? ⟨gb341, 2, none⟩ = some (.slice none 0 0) := (blk_cell BK341.out 2).trans rfl
    have hfz55_0 := blk_frozen BK341.out 0
    have hfz55_1 := blk_frozen BK341.out 1
    have hfz55_2 := blk_frozen BK341.out 2
    have hnb56 := NB324_307.out; have hnc56 := NB307_324.out; have hnb57 := NB324_332.out; have hnc57 := NB332_324.out
    have hcz58_0 : w35.cell? ⟨gb324, 0, none⟩ = some (.int .i64 t316) := (blk_cell BK324.out 0).trans rfl
    have hcz58_1 : w35.cell? ⟨gb324, 1, none⟩ = some (.slice Ao24 t317.length co24) := (blk_cell BK324.out 1).trans rfl
    have hcz58_2 : w35.cell? ⟨gb324, 2, none⟩ = some (.slice Ao25 t320.length co25) := (blk_cell BK324.out 2).trans rfl
    have hfz58_0 := blk_frozen BK324.out 0
    have hfz58_1 := blk_frozen BK324.out 1
    have hfz58_2 := blk_frozen BK324.out 2
    go_wp2_with (first | ((with_reducible refine gate_callee (f := 19) rfl ?_); refine goesL_ (some 38) rfl rfl Try.func19 (by kernel_rfl) rfl #[.agg #[.int .i64 t333, .slice Ao40 t334.length co40, .slice Ao41 t337.length co41], .agg #[.int .i64 t316, .slice Ao24 t317.length co24, .slice Ao25 t320.length co25]] rfl (by (try simp only [List.map_toArray, List.map_cons, List.map_nil]); first | done | rfl | (simp only [List.length_drop, List.length_take]; rfl)) ?_; (with_reducible refine (laws_eqJacobi.calls k t333 _ _ t334 _ _ t337 t316 _ _ t317 _ _ t320 false _ ?side1 ?side2 ?side3 ?side4 ?side5 ?side6 ?side7 ?side8 A42.out).mono ?_); (case side1 => refine (Kd.R_reads' (e := 2) (base := w.heap.size) (ok := fun k_ => ((((((some k_ ≠ (.slice Ao41 t337.length co41 : Value).ownBlock ∧ some k_ ≠ (.slice Ao18 t310.length co18 : Value).ownBlock) ∧ some k_ ≠ (.slice Ao19 t313.length co19 : Value).ownBlock) ∧ some k_ ≠ (.slice Ao24 t317.length co24 : Value).ownBlock) ∧ some k_ ≠ (.slice Ao25 t320.length co25 : Value).ownBlock) ∧ some k_ ≠ (.slice Ao32 t326.length co32 : Value).ownBlock) ∧ some k_ ≠ (.slice Ao33 t329.length co33 : Value).ownBlock)) (n := t334.length) (c := co40) ?_).2.2; exact (uR ((Kd.R_mono (Kd.R_far (p := ⟨gb341, 2, none⟩) (Kd.R_far (p := ⟨gb341, 1, none⟩) (Kd.R_far (p := ⟨gb341, 0, none⟩) (Kd.R_types HO336.out BK341.out (by decide)) (fun _ hk => hk.2) (.int .i64 t333)) (fun _ hk => hk.2) (.slice Ao40 t334.length co40)) (fun _ hk => hk.2) (.slice Ao41 t337.length co41)) (fun _ h_ => h_.1))))); (case side2 => exact (Kd.R_reads' HO336.out).2.1); (case side3 => refine (Kd.R_reads' (e := 2) (base := w.heap.size) (ok := fun k_ => ((((((some k_ ≠ (.slice Ao40 t334.length co40 : Value).ownBlock ∧ some k_ ≠ (.slice Ao18 t310.length co18 : Value).ownBlock) ∧ some k_ ≠ (.slice Ao19 t313.length co19 : Value).ownBlock) ∧ some k_ ≠ (.slice Ao24 t317.length co24 : Value).ownBlock) ∧ some k_ ≠ (.slice Ao25 t320.length co25 : Value).ownBlock) ∧ some k_ ≠ (.slice Ao32 t326.length co32 : Value).ownBlock) ∧ some k_ ≠ (.slice Ao33 t329.length co33 : Value).ownBlock)) (n := t337.length) (c := co41) ?_).2.2; exact (uR ((Kd.R_mono (Kd.R_far (p := ⟨gb341, 2, none⟩) (Kd.R_far (p := ⟨gb341, 1, none⟩) (Kd.R_far (p := ⟨gb341, 0, none⟩) (Kd.R_types HO339.out BK341.out (by decide)) (fun _ hk => hk.2) (.int .i64 t333)) (fun _ hk => hk.2) (.slice Ao40 t334.length co40)) (fun _ hk => hk.2) (.slice Ao41 t337.length co41)) (fun _ h_ => h_.1))))); (case side4 => exact (Kd.R_reads' HO339.out).2.1); (case side5 => refine (Kd.R_reads' (e := 2) (base := w.heap.size) (ok := fun k_ => ((((((some k_ ≠ (.slice Ao25 t320.length co25 : Value).ownBlock ∧ some k_ ≠ (.slice Ao18 t310.length co18 : Value).ownBlock) ∧ some k_ ≠ (.slice Ao19 t313.length co19 : Value).ownBlock) ∧ some k_ ≠ (.slice Ao32 t326.length co32 : Value).ownBlock) ∧ some k_ ≠ (.slice Ao33 t329.length co33 : Value).ownBlock) ∧ some k_ ≠ (.slice Ao40 t334.length co40 : Value).ownBlock) ∧ some k_ ≠ (.slice Ao41 t337.length co41 : Value).ownBlock)) (n := t317.length) (c := co24) ?_).2.2; exact (uR ((Kd.R_mono (Kd.R_far (p := ⟨gb341, 2, none⟩) (Kd.R_far (p := ⟨gb341, 1, none⟩) (Kd.R_far (p := ⟨gb341, 0, none⟩) (Kd.R_types HO319.out BK341.out (by decide)) (fun _ hk => hk.2) (.int .i64 t333)) (fun _ hk => hk.2) (.slice Ao40 t334.length co40)) (fun _ hk => hk.2) (.slice Ao41 t337.length co41)) (fun _ h_ => h_.1))))); (case side6 => exact (Kd.R_reads' HO319.out).2.1); (case side7 => refine (Kd.R_reads' (e := 2) (base := w.heap.size) (ok := fun k_ => ((((((some k_ ≠ (.slice Ao24 t317.length co24 : Value).ownBlock ∧ some k_ ≠ (.slice Ao18 t310.length co18 : Value).ownBlock) ∧ some k_ ≠ (.slice Ao19 t313.length co19 : Value).ownBlock) ∧ some k_ ≠ (.slice Ao32 t326.length co32 : Value).ownBlock) ∧ some k_ ≠ (.slice Ao33 t329.length co33 : Value).ownBlock) ∧ some k_ ≠ (.slice Ao40 t334.length co40 : Value).ownBlock) ∧ some k_ ≠ (.slice Ao41 t337.length co41 : Value).ownBlock)) (n := t320.length) (c := co25) ?_).2.2; exact (uR ((Kd.R_mono (Kd.R_far (p := ⟨gb341, 2, none⟩) (Kd.R_far (p := ⟨gb341, 1, none⟩) (Kd.R_far (p := ⟨gb341, 0, none⟩) (Kd.R_types HO322.out BK341.out (by decide)) (fun _ hk => hk.2) (.int .i64 t333)) (fun _ hk => hk.2) (.slice Ao40 t334.length co40)) (fun _ hk => hk.2) (.slice Ao41 t337.length co41)) (fun _ h_ => h_.1))))); (case side8 => exact (Kd.R_reads' HO322.out).2.1); rintro e w59 ⟨rfl, hb⟩; refine ⟨_, rfl, ?_⟩; have n0_ := zA (Kd.R_below (uR ((Kd.R_mono (Kd.R_far (p := ⟨gb341, 2, none⟩) (Kd.R_far (p := ⟨gb341, 1, none⟩) (Kd.R_far (p := ⟨gb341, 0, none⟩) (Kd.R_types HO312.out BK341.out (by decide)) (fun _ hk => hk.2) (.int .i64 t333)) (fun _ hk => hk.2) (.slice Ao40 t334.length co40)) (fun _ hk => hk.2) (.slice Ao41 t337.length co41)) (fun _ h_ => h_.1)))) hb); have n1_ := zA (Kd.R_below (uR ((Kd.R_mono (Kd.R_far (p := ⟨gb341, 2, none⟩) (Kd.R_far (p := ⟨gb341, 1, none⟩) (Kd.R_far (p := ⟨gb341, 0, none⟩) (Kd.R_types HO315.out BK341.out (by decide)) (fun _ hk => hk.2) (.int .i64 t333)) (fun _ hk => hk.2) (.slice Ao40 t334.length co40)) (fun _ hk => hk.2) (.slice Ao41 t337.length co41)) (fun _ h_ => h_.1)))) hb); have n2_ := zA (Kd.R_below (uR ((Kd.R_mono (Kd.R_far (p := ⟨gb341, 2, none⟩) (Kd.R_far (p := ⟨gb341, 1, none⟩) (Kd.R_far (p := ⟨gb341, 0, none⟩) (Kd.R_types HO319.out BK341.out (by decide)) (fun _ hk => hk.2) (.int .i64 t333)) (fun _ hk => hk.2) (.slice Ao40 t334.length co40)) (fun _ hk => hk.2) (.slice Ao41 t337.length co41)) (fun _ h_ => h_.1)))) hb); have n3_ := zA (Kd.R_below (uR ((Kd.R_mono (Kd.R_far (p := ⟨gb341, 2, none⟩) (Kd.R_far (p := ⟨gb341, 1, none⟩) (Kd.R_far (p := ⟨gb341, 0, none⟩) (Kd.R_types HO322.out BK341.out (by decide)) (fun _ hk => hk.2) (.int .i64 t333)) (fun _ hk => hk.2) (.slice Ao40 t334.length co40)) (fun _ hk => hk.2) (.slice Ao41 t337.length co41)) (fun _ h_ => h_.1)))) hb); have n4_ := zA (Kd.R_below (uR ((Kd.R_mono (Kd.R_far (p := ⟨gb341, 2, none⟩) (Kd.R_far (p := ⟨gb341, 1, none⟩) (Kd.R_far (p := ⟨gb341, 0, none⟩) (Kd.R_types HO328.out BK341.out (by decide)) (fun _ hk => hk.2) (.int .i64 t333)) (fun _ hk => hk.2) (.slice Ao40 t334.length co40)) (fun _ hk => hk.2) (.slice Ao41 t337.length co41)) (fun _ h_ => h_.1)))) hb); have n5_ := zA (Kd.R_below (uR ((Kd.R_mono (Kd.R_far (p := ⟨gb341, 2, none⟩) (Kd.R_far (p := ⟨gb341, 1, none⟩) (Kd.R_far (p := ⟨gb341, 0, none⟩) (Kd.R_types HO331.out BK341.out (by decide)) (fun _ hk => hk.2) (.int .i64 t333)) (fun _ hk => hk.2) (.slice Ao40 t334.length co40)) (fun _ hk => hk.2) (.slice Ao41 t337.length co41)) (fun _ h_ => h_.1)))) hb); have n6_ := zA (Kd.R_below (uR ((Kd.R_mono (Kd.R_far (p := ⟨gb341, 2, none⟩) (Kd.R_far (p := ⟨gb341, 1, none⟩) (Kd.R_far (p := ⟨gb341, 0, none⟩) (Kd.R_types HO336.out BK341.out (by decide)) (fun _ hk => hk.2) (.int .i64 t333)) (fun _ hk => hk.2) (.slice Ao40 t334.length co40)) (fun _ hk => hk.2) (.slice Ao41 t337.length co41)) (fun _ h_ => h_.1)))) hb); have n7_ := zA (Kd.R_below (uR ((Kd.R_mono (Kd.R_far (p := ⟨gb341, 2, none⟩) (Kd.R_far (p := ⟨gb341, 1, none⟩) (Kd.R_far (p := ⟨gb341, 0, none⟩) (Kd.R_types HO339.out BK341.out (by decide)) (fun _ hk => hk.2) (.int .i64 t333)) (fun _ hk => hk.2) (.slice Ao40 t334.length co40)) (fun _ hk => hk.2) (.slice Ao41 t337.length co41)) (fun _ h_ => h_.1)))) hb); have n8_ := zA (blk_below (g := gb307) (o := .cells #[.int .i64 a0_0, .slice A0_1 l0_1.length c0_1, .slice A0_2 l0_2.length c0_2] 24 (0, 0)) (by (with_reducible repeat (first | refine blk_drewN ?_ _ | refine blk_drew ?_ | refine blk_alloc ?_ _)); refine blk_far ?_ NB307_341.out _; (with_reducible repeat (first | refine blk_drewN ?_ _ | refine blk_drew ?_ | refine blk_alloc ?_ _)); refine blk_far ?_ NB307_341.out _; (with_reducible repeat (first | refine blk_drewN ?_ _ | refine blk_drew ?_ | refine blk_alloc ?_ _)); refine blk_far ?_ NB307_341.out _; (with_reducible repeat (first | refine blk_drewN ?_ _ | refine blk_drew ?_ | refine blk_alloc ?_ _)); exact BK307.out) hb); have n9_ := zA (blk_below (g := gb324) (o := .cells #[.int .i64 t316, .slice Ao24 t317.length co24, .slice Ao25 t320.length co25] 26 (0, 0)) (by (with_reducible repeat (first | refine blk_drewN ?_ _ | refine blk_drew ?_ | refine blk_alloc ?_ _)); refine blk_far ?_ NB324_341.out _; (with_reducible repeat (first | refine blk_drewN ?_ _ | refine blk_drew ?_ | refine blk_alloc ?_ _)); refine blk_far ?_ NB324_341.out _; (with_reducible repeat (first | refine blk_drewN ?_ _ | refine blk_drew ?_ | refine blk_alloc ?_ _)); refine blk_far ?_ NB324_341.out _; (with_reducible repeat (first | refine blk_drewN ?_ _ | refine blk_drew ?_ | refine blk_alloc ?_ _)); exact BK324.out) hb); have n10_ := zA (blk_below (g := gb332) (o := .cells #[.int .i64 t325, .slice Ao32 t326.length co32, .slice Ao33 t329.length co33] 26 (0, 0)) (by (with_reducible repeat (first | refine blk_drewN ?_ _ | refine blk_drew ?_ | refine blk_alloc ?_ _)); refine blk_far ?_ NB332_341.out _; (with_reducible repeat (first | refine blk_drewN ?_ _ | refine blk_drew ?_ | refine blk_alloc ?_ _)); refine blk_far ?_ NB332_341.out _; (with_reducible repeat (first | refine blk_drewN ?_ _ | refine blk_drew ?_ | refine blk_alloc ?_ _)); refine blk_far ?_ NB332_341.out _; (with_reducible repeat (first | refine blk_drewN ?_ _ | refine blk_drew ?_ | refine blk_alloc ?_ _)); exact BK332.out) hb); have n11_ := zA (blk_below (g := gb341) (o := .cells #[.int .i64 t333, .slice Ao40 t334.length co40, .slice Ao41 t337.length co41] 26 (0, 0)) (by (with_reducible repeat (first | refine blk_drewN ?_ _ | refine blk_drew ?_ | refine blk_alloc ?_ _)); refine blk_put (cs := #[.int .i64 t333, .slice Ao40 t334.length co40, .slice none 0 0]) ?_ 2 _ rfl; (with_reducible repeat (first | refine blk_drewN ?_ _ | refine blk_drew ?_ | refine blk_alloc ?_ _)); refine blk_put (cs := #[.int .i64 t333, .slice none 0 0, .slice none 0 0]) ?_ 1 _ rfl; (with_reducible repeat (first | refine blk_drewN ?_ _ | refine blk_drew ?_ | refine blk_alloc ?_ _)); refine blk_put (cs := #[.int .i64 0, .slice none 0 0, .slice none 0 0]) ?_ 0 _ rfl; (with_reducible repeat (first | refine blk_drewN ?_ _ | refine blk_drew ?_ | refine blk_alloc ?_ _)); exact BK341.out) hb); have n12_ := xH HB hb; clear HO312 HO315 HO319 HO322 HO328 HO331 HO336 HO339 BK307 BK324 BK332 BK341 HB; have HO312 := n0_; have HO315 := n1_; have HO319 := n2_; have HO322 := n3_; have HO328 := n4_; have HO331 := n5_; have HO336 := n6_; have HO339 := n7_; have BK307 := n8_; have BK324 := n9_; have BK332 := n10_; have BK341 := n11_; have HB := n12_; clear n0_ n1_ n2_ n3_ n4_ n5_ n6_ n7_ n8_ n9_ n10_ n11_ n12_; (try clear hb); (try clear hb2); (try clear hk); (try clear hi)))
    go_meet
    case rel => exact ⟨_, (true), (by first | rfl | (simp; done) | (simp [*]; done)), H', ⟨by first | omega | exact Nat.le_refl _⟩, ⟨uR (Kd.R_mono HO319.out (fun _ hk => ⟨hk.1.1.1.1.1.1, ⟨hk.1.1.1.2, ⟨hk.1.1.2, ⟨hk.1.2, hk.2⟩⟩⟩⟩))⟩, ⟨uR (Kd.R_mono HO322.out (fun _ hk => ⟨hk.1.1.1.1.1.1, ⟨hk.1.1.1.2, ⟨hk.1.1.2, ⟨hk.1.2, hk.2⟩⟩⟩⟩))⟩, ⟨uR (Kd.R_mono HO328.out (fun _ hk => ⟨hk.1.1.1.2, ⟨hk.1.1.2, ⟨hk.1.1.1.1.1.1, ⟨hk.1.2, hk.2⟩⟩⟩⟩))⟩, ⟨uR (Kd.R_mono HO331.out (fun _ hk => ⟨hk.1.1.1.2, ⟨hk.1.1.2, ⟨hk.1.1.1.1.1.1, ⟨hk.1.2, hk.2⟩⟩⟩⟩))⟩, ⟨uR (Kd.R_mono HO336.out (fun _ hk => ⟨hk.1.1.1.2, ⟨hk.1.1.2, ⟨hk.1.2, ⟨hk.2, hk.1.1.1.1.1.1⟩⟩⟩⟩))⟩, ⟨uR (Kd.R_mono HO339.out (fun _ hk => ⟨hk.1.1.1.2, ⟨hk.1.1.2, ⟨hk.1.2, ⟨hk.2, hk.1.1.1.1.1.1⟩⟩⟩⟩))⟩, ⟨uB BK307.out⟩, ⟨uB BK324.out⟩, ⟨uB BK332.out⟩, ⟨uB BK341.out⟩, ⟨uH HB.out⟩⟩
  case rest =>
   clear HC12
   try clear c1
   try clear c2
   try clear p2
   try clear c3
   try clear c4
   try clear c4b0
   try clear c5
   try clear c15
   try clear c17
   try clear c19
   try clear c22
   try clear c23
   try clear c29
   try clear c30
   try clear c36
   try clear c37
   try clear c38
   try clear c43
   try clear c44
   try clear c45
   try clear c46
   try clear c48
   try clear c49
   try clear c52
   try clear c53
   try clear c54
   try clear c56
   try clear c57
   try clear hcz14_0
   try clear hcz14_1
   try clear hcz14_2
   try clear hcz16_0
   try clear hcz16_1
   try clear hcz16_2
   try clear hcz23_0
   try clear hcz23_1
   try clear hcz23_2
   try clear hcz26_0
   try clear hcz26_1
   try clear hcz26_2
   try clear hcz31_0
   try clear hcz31_1
   try clear hcz31_2
   try clear hcz39_0
   try clear hcz39_1
   try clear hcz39_2
   try clear hcz47_0
   try clear hcz47_1
   try clear hcz47_2
   try clear hcz50_0
   try clear hcz50_1
   try clear hcz50_2
   try clear hcz55_0
   try clear hcz55_1
   try clear hcz55_2
   try clear hcz58_0
   try clear hcz58_1
   try clear hcz58_2
   try clear hcz6_0
   try clear hcz6_1
   try clear hcz6_2
   try clear hfz14_0
   try clear hfz14_1
   try clear hfz14_2
   try clear hfz16_0
   try clear hfz16_1
   try clear hfz16_2
   try clear hfz23_0
   try clear hfz23_1
   try clear hfz23_2
   try clear hfz26_0
   try clear hfz26_1
   try clear hfz26_2
   try clear hfz31_0
   try clear hfz31_1
   try clear hfz31_2
   try clear hfz39_0
   try clear hfz39_1
   try clear hfz39_2
   try clear hfz47_0
   try clear hfz47_1
   try clear hfz47_2
   try clear hfz50_0
   try clear hfz50_1
   try clear hfz50_2
   try clear hfz55_0
   try clear hfz55_1
   try clear hfz55_2
   try clear hfz58_0
   try clear hfz58_1
   try clear hfz58_2
   try clear hfz6_0
   try clear hfz6_1
   try clear hfz6_2
   obtain ⟨kq, x44_11, rfl, HA, HJ11, HO_325001, HO_325002, HO_333001, HO_333002, HO_342001, HO_342002, BK307, BK324, BK332, BK341, HB⟩ := hcut
   cases kq with
   | zero => exact absurd HA.out (by simp [laws_FnExactCutJacobi.j0])
   | succ kj11 =>
    have H := HA.out
    clear HA
    simp only [laws_FnExactCutJacobi.j0] at H
    by_cases c60 : x44_11 = true
    ·subst c60
     have H1 : (some false) = some r := by rw [if_pos rfl] at H; exact H
     clear H
     have H := H1
     clear H1
     rw [HRT.out] at H
     exact absurd H (by simp)
    ·replace c60 := Bool.eq_false_iff.mpr c60
     subst c60
     have H1 : ((laws_toJacobi.f kj11 a0_0 l0_1 l0_2).bind fun bt343 => ((laws_eqJacobi.f kj11 t325 t326 t329 bt343.1 bt343.2.1 bt343.2.2).bind fun t350 => (if t350 = true then ((laws_markJacobi.f kj11 t325 t326 t329 1).bind fun bt351 => (if bt351.1 < 0 then (laws_FnExactCutJacobi.j1 kj11 a1 t323 true a0_0 l0_1 l0_2 t316 t317 t320 t333 t334 t337) else ((laws_eqJacobi.f kj11 t333 t334 t337 t316 t317 t320).bind fun t354 => (if t354 = true then (laws_FnExactCutJacobi.j1 kj11 a1 t323 (t340 != t323) a0_0 l0_1 l0_2 t316 t317 t320 t333 t334 t337) else (laws_FnExactCutJacobi.j1 kj11 a1 t323 true a0_0 l0_1 l0_2 t316 t317 t320 t333 t334 t337))))) else (some false)))) = some r := by rw [if_neg (show ¬ (false = true) by decide)] at H; exact H
     clear H
     have H := H1
     clear H1
     replace H := Option.bind_eq_some_iff.mp H
     obtain ⟨⟨t343, t344, t347⟩, A610, H⟩ := H
     replace H : ((laws_eqJacobi.f kj11 t325 t326 t329 t343 t344 t347).bind fun t350 => (if t350 = true then ((laws_markJacobi.f kj11 t325 t326 t329 1).bind fun bt351 => (if bt351.1 < 0 then (laws_FnExactCutJacobi.j1 kj11 a1 t323 true a0_0 l0_1 l0_2 t316 t317 t320 t333 t334 t337) else ((laws_eqJacobi.f kj11 t333 t334 t337 t316 t317 t320).bind fun t354 => (if t354 = true then (laws_FnExactCutJacobi.j1 kj11 a1 t323 (t340 != t323) a0_0 l0_1 l0_2 t316 t317 t320 t333 t334 t337) else (laws_FnExactCutJacobi.j1 kj11 a1 t323 true a0_0 l0_1 l0_2 t316 t317 t320 t333 t334 t337))))) else (some false))) = some r := H
     have A61 := zA A610
     clear A610
     replace H := Option.bind_eq_some_iff.mp H
     obtain ⟨t350, A620, H⟩ := H
     replace H : (if t350 = true then ((laws_markJacobi.f kj11 t325 t326 t329 1).bind fun bt351 => (if bt351.1 < 0 then (laws_FnExactCutJacobi.j1 kj11 a1 t323 true a0_0 l0_1 l0_2 t316 t317 t320 t333 t334 t337) else ((laws_eqJacobi.f kj11 t333 t334 t337 t316 t317 t320).bind fun t354 => (if t354 = true then (laws_FnExactCutJacobi.j1 kj11 a1 t323 (t340 != t323) a0_0 l0_1 l0_2 t316 t317 t320 t333 t334 t337) else (laws_FnExactCutJacobi.j1 kj11 a1 t323 true a0_0 l0_1 l0_2 t316 t317 t320 t333 t334 t337))))) else (some false)) = some r := H
     have A62 := zA A620
     clear A620
     by_cases c63 : t350 = true
     ·subst c63
      have H1 : ((laws_markJacobi.f kj11 t325 t326 t329 1).bind fun bt351 => (if bt351.1 < 0 then (laws_FnExactCutJacobi.j1 kj11 a1 t323 true a0_0 l0_1 l0_2 t316 t317 t320 t333 t334 t337) else ((laws_eqJacobi.f kj11 t333 t334 t337 t316 t317 t320).bind fun t354 => (if t354 = true then (laws_FnExactCutJacobi.j1 kj11 a1 t323 (t340 != t323) a0_0 l0_1 l0_2 t316 t317 t320 t333 t334 t337) else (laws_FnExactCutJacobi.j1 kj11 a1 t323 true a0_0 l0_1 l0_2 t316 t317 t320 t333 t334 t337))))) = some r := by rw [if_pos rfl] at H; exact H
      clear H
      have H := H1
      clear H1
      replace H := Option.bind_eq_some_iff.mp H
      obtain ⟨⟨t351, t352, t353⟩, A640, H⟩ := H
      replace H : (if t351 < 0 then (laws_FnExactCutJacobi.j1 kj11 a1 t323 true a0_0 l0_1 l0_2 t316 t317 t320 t333 t334 t337) else ((laws_eqJacobi.f kj11 t333 t334 t337 t316 t317 t320).bind fun t354 => (if t354 = true then (laws_FnExactCutJacobi.j1 kj11 a1 t323 (t340 != t323) a0_0 l0_1 l0_2 t316 t317 t320 t333 t334 t337) else (laws_FnExactCutJacobi.j1 kj11 a1 t323 true a0_0 l0_1 l0_2 t316 t317 t320 t333 t334 t337)))) = some r := H
      have A64 := zA A640
      clear A640
      have HC65 := zA H
      clear H
      try go_wp2
      have n0_ := zA (Kd.R_drew HO_325001.out)
      have n1_ := zA (Kd.R_drew HO_325002.out)
      have n2_ := zA (Kd.R_drew HO_333001.out)
      have n3_ := zA (Kd.R_drew HO_333002.out)
      have n4_ := zA (Kd.R_drew HO_342001.out)
      have n5_ := zA (Kd.R_drew HO_342002.out)
      have n6_ := zA (blk_drew BK307.out)
      have n7_ := zA (blk_drew BK324.out)
      have n8_ := zA (blk_drew BK332.out)
      have n9_ := zA (blk_drew BK341.out)
      have n10_ := zA (below_drew1 HB.out)
      clear HO_325001 HO_325002 HO_333001 HO_333002 HO_342001 HO_342002 BK307 BK324 BK332 BK341 HB
      have HO_325001 := n0_; have HO_325002 := n1_; have HO_333001 := n2_; have HO_333002 := n3_; have HO_342001 := n4_; have HO_342002 := n5_; have BK307 := n6_; have BK324 := n7_; have BK332 := n8_; have BK341 := n9_; have HB := n10_
      clear n0_ n1_ n2_ n3_ n4_ n5_ n6_ n7_ n8_ n9_ n10_
      refine start_ (n := 5) (S := fun w' => w'.cell? ⟨gb332, 0, none⟩ = some (.int .i64 t325) ∧ w'.cell? ⟨gb332, 1, none⟩ = some (.slice Ao32 t326.length co32) ∧ w'.cell? ⟨gb332, 2, none⟩ = some (.slice Ao33 t329.length co33) ∧ w'.cell? ⟨gb307, 0, none⟩ = some (.int .i64 a0_0) ∧ w'.cell? ⟨gb307, 1, none⟩ = some (.slice A0_1 l0_1.length c0_1) ∧ w'.cell? ⟨gb307, 2, none⟩ = some (.slice A0_2 l0_2.length c0_2)) (ds := []) #[false, false, false, false, false] (by kernel_rfl) rfl rfl ⟨(blk_cell BK332.out 0).trans rfl, (blk_cell BK332.out 1).trans rfl, (blk_cell BK332.out 2).trans rfl, (blk_cell BK307.out 0).trans rfl, (blk_cell BK307.out 1).trans rfl, (blk_cell BK307.out 2).trans rfl⟩ (fun hHeld => ?_)
      generalize wc.drew = w66 at HO_325001 HO_325002 HO_333001 HO_333002 HO_342001 HO_342002 BK307 BK324 BK332 BK341 HB hHeld ⊢
      refine take_ (i := 0) (N := some 45) (v := ?_) (a' := ?_) #[true, false, false, false, false] rfl rfl (by kernel_rfl) (fun _ _ _ h => h) (Or.inl ⟨by rfl, ?_⟩) hHeld ?_ ?_
      rotate_left
      ·rintro w' ⟨s0, s1, s2, s3, s4, s5⟩
       go_simp
       with_reducible rfl
      rotate_left
      ·simp only [Act.put, List.setIfInBounds_toArray, List.set_cons_zero, List.set_cons_succ, i64_w, i32_w]
       rfl
      refine take_ (i := 1) (N := some 46) (v := ?_) (a' := ?_) #[true, true, false, false, false] rfl rfl (by kernel_rfl) (fun _ _ _ h => h) (Or.inl ⟨by rfl, ?_⟩) hHeld ?_ ?_
      rotate_left
      ·rintro w' ⟨s0, s1, s2, s3, s4, s5⟩
       go_simp
       with_reducible rfl
      rotate_left
      ·simp only [Act.put, List.setIfInBounds_toArray, List.set_cons_zero, List.set_cons_succ, i64_w, i32_w]
       rfl
      refine one_ (i := 2) (N := some 47) #[true, true, true, false, false] rfl rfl (by kernel_rfl) (by decide) (fun K hK => ?_)
      refine goes_ Try.func17 (by kernel_rfl) rfl #[.agg #[.int .i64 a0_0, .slice A0_1 l0_1.length c0_1, .slice A0_2 l0_2.length c0_2]] (by rfl) rfl rfl (by (try simp only [List.map_toArray, List.map_cons, List.map_nil]); first | done | rfl | (simp only [List.length_drop, List.length_take]; rfl)) ?_
      with_reducible refine (laws_toJacobi.calls kj11 a0_0 _ _ l0_1 _ _ l0_2 t343 t344 t347 _ ?side1 ?side2 ?side3 ?side4 A61.out).mono ?_
      (case side1 => exact uC ((Kd.C_below HR0_1.out HB.out)))
      (case side2 => exact HC0_1.out)
      (case side3 => exact uC ((Kd.C_below HR0_2.out HB.out)))
      (case side4 => exact HC0_2.out)
      rintro e w67 ⟨v345, v348, rfl, ho0, ho1, hb⟩
      refine ⟨_, rfl, ?_⟩
      have n0_ := zA (Kd.R_mono (Kd.R_told (Kd.R_told (Kd.R_old (uR HO_325001.out) hb) (Kd.R_base ho0)) (Kd.R_base ho1)) (fun _ h_ => h_.1))
      have n1_ := zA (Kd.R_mono (Kd.R_told (Kd.R_told (Kd.R_old (uR HO_325002.out) hb) (Kd.R_base ho0)) (Kd.R_base ho1)) (fun _ h_ => h_.1))
      have n2_ := zA (Kd.R_mono (Kd.R_told (Kd.R_told (Kd.R_old (uR HO_333001.out) hb) (Kd.R_base ho0)) (Kd.R_base ho1)) (fun _ h_ => h_.1))
      have n3_ := zA (Kd.R_mono (Kd.R_told (Kd.R_told (Kd.R_old (uR HO_333002.out) hb) (Kd.R_base ho0)) (Kd.R_base ho1)) (fun _ h_ => h_.1))
      have n4_ := zA (Kd.R_mono (Kd.R_told (Kd.R_told (Kd.R_old (uR HO_342001.out) hb) (Kd.R_base ho0)) (Kd.R_base ho1)) (fun _ h_ => h_.1))
      have n5_ := zA (Kd.R_mono (Kd.R_told (Kd.R_told (Kd.R_old (uR HO_342002.out) hb) (Kd.R_base ho0)) (Kd.R_base ho1)) (fun _ h_ => h_.1))
      have n6_ := zA (Kd.R_lower (Kd.R_new' (Kd.R_new' (Kd.R_new' (Kd.R_new' (Kd.R_new' (Kd.R_new' ho0 (Kd.R_lt (uR HO_325001.out))) (Kd.R_lt (uR HO_325002.out))) (Kd.R_lt (uR HO_333001.out))) (Kd.R_lt (uR HO_333002.out))) (Kd.R_lt (uR HO_342001.out))) (Kd.R_lt (uR HO_342002.out))) (below_size (uH HB.out)))
      have n7_ := zA (Kd.R_lower (Kd.R_new' (Kd.R_new' (Kd.R_new' (Kd.R_new' (Kd.R_new' (Kd.R_new' ho1 (Kd.R_lt (uR HO_325001.out))) (Kd.R_lt (uR HO_325002.out))) (Kd.R_lt (uR HO_333001.out))) (Kd.R_lt (uR HO_333002.out))) (Kd.R_lt (uR HO_342001.out))) (Kd.R_lt (uR HO_342002.out))) (below_size (uH HB.out)))
      have n8_ := xB BK307 hb
      have n9_ := xB BK324 hb
      have n10_ := xB BK332 hb
      have n11_ := xB BK341 hb
      have n12_ := xH HB hb
      clear HO_325001 HO_325002 HO_333001 HO_333002 HO_342001 HO_342002 BK307 BK324 BK332 BK341 HB
      have HO_325001 := n0_; have HO_325002 := n1_; have HO_333001 := n2_; have HO_333002 := n3_; have HO_342001 := n4_; have HO_342002 := n5_; have HO346 := n6_; have HO349 := n7_; have BK307 := n8_; have BK324 := n9_; have BK332 := n10_; have BK341 := n11_; have HB := n12_
      clear n0_ n1_ n2_ n3_ n4_ n5_ n6_ n7_ n8_ n9_ n10_ n11_ n12_
      (try clear hb); (try clear hb2); (try clear hk); (try clear hi); (try clear ho0); (try clear ho1)
      obtain ⟨Ao68, co68, eo68⟩ := Kd.R_slice HO346.out
      (first | subst eo68 | (injection eo68 with f1_ f2_ f3_; have f4_ := f1_.symm; have f5_ := f3_.symm; clear f1_ f2_ f3_; subst f4_; subst f5_))
      obtain ⟨Ao69, co69, eo69⟩ := Kd.R_slice HO349.out
      (first | subst eo69 | (injection eo69 with f1_ f2_ f3_; have f4_ := f1_.symm; have f5_ := f3_.symm; clear f1_ f2_ f3_; subst f4_; subst f5_))
      refine hK.out _ _ ⟨(blk_cell BK332.out 0).trans rfl, (blk_cell BK332.out 1).trans rfl, (blk_cell BK332.out 2).trans rfl, (blk_cell BK307.out 0).trans rfl, (blk_cell BK307.out 1).trans rfl, (blk_cell BK307.out 2).trans rfl⟩ (fun hHeld => ?_)
      clear hK K
      refine norm_ (a' := ?_) ?_ ?_
      rotate_left
      ·show Act.put _ (some 47) _ = _
       simp only [Act.put, List.setIfInBounds_toArray, List.set_cons_zero, List.set_cons_succ, i64_w, i32_w]
       rfl
      refine one_ (i := 3) (N := some 48) #[true, true, true, true, false] rfl rfl (by kernel_rfl) (by decide) (fun K hK => ?_)
      refine goes_ Try.func19 (by kernel_rfl) rfl #[.agg #[.int .i64 t325, .slice Ao32 t326.length co32, .slice Ao33 t329.length co33], .agg #[.int .i64 t343, .slice Ao68 t344.length co68, .slice Ao69 t347.length co69]] (by rfl) rfl rfl (by (try simp only [List.map_toArray, List.map_cons, List.map_nil]); first | done | rfl | (simp only [List.length_drop, List.length_take]; rfl)) ?_
      with_reducible refine (laws_eqJacobi.calls kj11 t325 _ _ t326 _ _ t329 t343 _ _ t344 _ _ t347 true _ ?side1 ?side2 ?side3 ?side4 ?side5 ?side6 ?side7 ?side8 A62.out).mono ?_
      (case side1 => exact uC ((Kd.R_reads' HO_333001.out).2.2))
      (case side2 => exact (Kd.R_reads' HO_333001.out).2.1)
      (case side3 => exact uC ((Kd.R_reads' HO_333002.out).2.2))
      (case side4 => exact (Kd.R_reads' HO_333002.out).2.1)
      (case side5 => exact uC ((Kd.R_reads' HO346.out).2.2))
      (case side6 => exact (Kd.R_reads' HO346.out).2.1)
      (case side7 => exact uC ((Kd.R_reads' HO349.out).2.2))
      (case side8 => exact (Kd.R_reads' HO349.out).2.1)
      rintro e w70 ⟨rfl, hb⟩
      refine ⟨_, rfl, ?_⟩
      have n0_ := xR HO_325001 hb
      have n1_ := xR HO_325002 hb
      have n2_ := xR HO_333001 hb
      have n3_ := xR HO_333002 hb
      have n4_ := xR HO_342001 hb
      have n5_ := xR HO_342002 hb
      have n6_ := xR HO346 hb
      have n7_ := xR HO349 hb
      have n8_ := xB BK307 hb
      have n9_ := xB BK324 hb
      have n10_ := xB BK332 hb
      have n11_ := xB BK341 hb
      have n12_ := xH HB hb
      clear HO_325001 HO_325002 HO_333001 HO_333002 HO_342001 HO_342002 HO346 HO349 BK307 BK324 BK332 BK341 HB
      have HO_325001 := n0_; have HO_325002 := n1_; have HO_333001 := n2_; have HO_333002 := n3_; have HO_342001 := n4_; have HO_342002 := n5_; have HO346 := n6_; have HO349 := n7_; have BK307 := n8_; have BK324 := n9_; have BK332 := n10_; have BK341 := n11_; have HB := n12_
      clear n0_ n1_ n2_ n3_ n4_ n5_ n6_ n7_ n8_ n9_ n10_ n11_ n12_
      (try clear hb); (try clear hb2); (try clear hk); (try clear hi)
      refine hK.out _ _ ⟨(blk_cell BK332.out 0).trans rfl, (blk_cell BK332.out 1).trans rfl, (blk_cell BK332.out 2).trans rfl, (blk_cell BK307.out 0).trans rfl, (blk_cell BK307.out 1).trans rfl, (blk_cell BK307.out 2).trans rfl⟩ (fun hHeld => ?_)
      clear hK K
      refine norm_ (a' := ?_) ?_ ?_
      rotate_left
      ·show Act.put _ (some 48) _ = _
       simp only [Act.put, List.setIfInBounds_toArray, List.set_cons_zero, List.set_cons_succ, i64_w, i32_w]
       rfl
      refine pure_ (i := 4) (N := some 49) (v := ?_) (a' := ?_) #[true, true, true, true, true] rfl rfl (by kernel_rfl) (fun _ _ _ h => h) (Or.inl ⟨by rfl, ?_⟩) ?_ ?_
      rotate_left
      ·intro w'
       go_simp
       with_reducible rfl
      rotate_left
      ·simp only [Act.put, List.setIfInBounds_toArray, List.set_cons_zero, List.set_cons_succ, i64_w, i32_w]
       rfl
      refine done_ (by kernel_rfl) ?_
      have hnb71 := NB332_307.out; have hnc71 := NB307_332.out; have hnb72 := NB332_324.out; have hnc72 := NB324_332.out; have hnb73 := NB332_341.out; have hnc73 := NB341_332.out
      have hcz74_0 : w70.cell? ⟨gb332, 0, none⟩ = some (.int .i64 t325) := (blk_cell BK332.out 0).trans rfl
      have hcz74_1 : w70.cell? ⟨gb332, 1, none⟩ = some (.slice Ao32 t326.length co32) := (blk_cell BK332.out 1).trans rfl
      have hcz74_2 : w70.cell? ⟨gb332, 2, none⟩ = some (.slice Ao33 t329.length co33) := (blk_cell BK332.out 2).trans rfl
      have hfz74_0 := blk_frozen BK332.out 0
      have hfz74_1 := blk_frozen BK332.out 1
      have hfz74_2 := blk_frozen BK332.out 2
      go_upto_region 14 with (first | ((with_reducible refine gate_callee (f := 20) rfl ?_); refine goesL_ (some 52) rfl rfl Try.func20 (by kernel_rfl) rfl #[.agg #[.int .i64 t325, .slice Ao32 t326.length co32, .slice Ao33 t329.length co33], .int .i64 1] rfl (by (try simp only [List.map_toArray, List.map_cons, List.map_nil]); first | done | rfl | (simp only [List.length_drop, List.length_take]; rfl)) ?_; (with_reducible refine (laws_markJacobi.calls kj11 t325 (fun k_ => some k_ = (.slice Ao32 t326.length co32 : Value).ownBlock) (.slice Ao32 t326.length co32) t326 (fun k_ => some k_ = (.slice Ao33 t329.length co33 : Value).ownBlock) (.slice Ao33 t329.length co33) t329 1 t351 t352 t353 w _ ?side1 ?side2 ?side3 ?side4 ?side5 A64.out).mono ?_); (case side1 => repeat (first | (with_reducible first | exact HB.out | apply below_alloc | apply pw_below_drewN | apply below_drew1 | refine below_set ?_ GE307.out | refine below_set ?_ GE324.out | refine below_set ?_ GE332.out | refine below_set ?_ GE341.out) | exact HB.out)); (case side2 => exact Kd.R_tight rfl HO_333001.out); (case side3 => exact fun k_ e_ => (HO_333001.out.1 k_ e_.symm).1.1.2.2.1); (case side4 => exact Kd.R_tight rfl HO_333002.out); (case side5 => exact fun k_ e_ => (HO_333002.out.1 k_ e_.symm).1.1.2.2.1); rintro e w75 ⟨rfl, hy0, hy1, hb, hkp⟩; refine ⟨_, rfl, ?_⟩; have n0_ := zA (Kd.R_mono (ok' := fun k_ => some k_ ≠ (.slice Ao25 t320.length co25 : Value).ownBlock ∧ some k_ ≠ (.slice Ao32 t326.length co32 : Value).ownBlock ∧ some k_ ≠ (.slice Ao33 t329.length co33 : Value).ownBlock ∧ some k_ ≠ (.slice Ao40 t334.length co40 : Value).ownBlock ∧ some k_ ≠ (.slice Ao41 t337.length co41 : Value).ownBlock ∧ some k_ ≠ (.slice Ao68 t344.length co68 : Value).ownBlock ∧ some k_ ≠ (.slice Ao69 t347.length co69 : Value).ownBlock) (Kd.R_keptB (HO_325001.out) hkp (fun k_ hk_ hs_ => Or.elim hs_ (fun e_ => (hk_.1.1.2.1) e_) (fun e_ => (hk_.1.1.2.2.1) e_))) (fun k_ hk_ => ⟨hk_.1.1.1.1, hk_.1.1.1.2.1, hk_.1.1.1.2.2.1, hk_.1.1.1.2.2.2.1, hk_.1.1.1.2.2.2.2, hk_.1.1.2, hk_.1.2⟩)); have n1_ := zA (Kd.R_mono (ok' := fun k_ => some k_ ≠ (.slice Ao24 t317.length co24 : Value).ownBlock ∧ some k_ ≠ (.slice Ao32 t326.length co32 : Value).ownBlock ∧ some k_ ≠ (.slice Ao33 t329.length co33 : Value).ownBlock ∧ some k_ ≠ (.slice Ao40 t334.length co40 : Value).ownBlock ∧ some k_ ≠ (.slice Ao41 t337.length co41 : Value).ownBlock ∧ some k_ ≠ (.slice Ao68 t344.length co68 : Value).ownBlock ∧ some k_ ≠ (.slice Ao69 t347.length co69 : Value).ownBlock) (Kd.R_keptB (HO_325002.out) hkp (fun k_ hk_ hs_ => Or.elim hs_ (fun e_ => (hk_.1.1.2.1) e_) (fun e_ => (hk_.1.1.2.2.1) e_))) (fun k_ hk_ => ⟨hk_.1.1.1.1, hk_.1.1.1.2.1, hk_.1.1.1.2.2.1, hk_.1.1.1.2.2.2.1, hk_.1.1.1.2.2.2.2, hk_.1.1.2, hk_.1.2⟩)); have n2_ := zA (Kd.R_reok rfl hy0 (fun k_ e_ => HO_333001.out.1 k_ e_)); have n3_ := zA (Kd.R_reok rfl hy1 (fun k_ e_ => HO_333002.out.1 k_ e_)); have n4_ := zA (Kd.R_mono (ok' := fun k_ => some k_ ≠ (.slice Ao24 t317.length co24 : Value).ownBlock ∧ some k_ ≠ (.slice Ao25 t320.length co25 : Value).ownBlock ∧ some k_ ≠ (.slice Ao32 t326.length co32 : Value).ownBlock ∧ some k_ ≠ (.slice Ao33 t329.length co33 : Value).ownBlock ∧ some k_ ≠ (.slice Ao41 t337.length co41 : Value).ownBlock ∧ some k_ ≠ (.slice Ao68 t344.length co68 : Value).ownBlock ∧ some k_ ≠ (.slice Ao69 t347.length co69 : Value).ownBlock) (Kd.R_keptB (HO_342001.out) hkp (fun k_ hk_ hs_ => Or.elim hs_ (fun e_ => (hk_.1.1.2.2.1) e_) (fun e_ => (hk_.1.1.2.2.2.1) e_))) (fun k_ hk_ => ⟨hk_.1.1.1.1, hk_.1.1.1.2.1, hk_.1.1.1.2.2.1, hk_.1.1.1.2.2.2.1, hk_.1.1.1.2.2.2.2, hk_.1.1.2, hk_.1.2⟩)); have n5_ := zA (Kd.R_mono (ok' := fun k_ => some k_ ≠ (.slice Ao24 t317.length co24 : Value).ownBlock ∧ some k_ ≠ (.slice Ao25 t320.length co25 : Value).ownBlock ∧ some k_ ≠ (.slice Ao32 t326.length co32 : Value).ownBlock ∧ some k_ ≠ (.slice Ao33 t329.length co33 : Value).ownBlock ∧ some k_ ≠ (.slice Ao40 t334.length co40 : Value).ownBlock ∧ some k_ ≠ (.slice Ao68 t344.length co68 : Value).ownBlock ∧ some k_ ≠ (.slice Ao69 t347.length co69 : Value).ownBlock) (Kd.R_keptB (HO_342002.out) hkp (fun k_ hk_ hs_ => Or.elim hs_ (fun e_ => (hk_.1.1.2.2.1) e_) (fun e_ => (hk_.1.1.2.2.2.1) e_))) (fun k_ hk_ => ⟨hk_.1.1.1.1, hk_.1.1.1.2.1, hk_.1.1.1.2.2.1, hk_.1.1.1.2.2.2.1, hk_.1.1.1.2.2.2.2, hk_.1.1.2, hk_.1.2⟩)); have n6_ := zA (blk_kept (uB BK307.out) hkp (fun hs_ => Or.elim hs_ (fun e_ => (fun e_ => (Kd.R_ne HO_333001.out BK307.out (by decide)) e_) e_) (fun e_ => (fun e_ => (Kd.R_ne HO_333002.out BK307.out (by decide)) e_) e_))); have n7_ := zA (blk_kept (uB BK324.out) hkp (fun hs_ => Or.elim hs_ (fun e_ => (fun e_ => (Kd.R_ne HO_333001.out BK324.out (by decide)) e_) e_) (fun e_ => (fun e_ => (Kd.R_ne HO_333002.out BK324.out (by decide)) e_) e_))); have n8_ := zA (blk_kept (uB BK332.out) hkp (fun hs_ => Or.elim hs_ (fun e_ => (fun e_ => (Kd.R_ne HO_333001.out BK332.out (by decide)) e_) e_) (fun e_ => (fun e_ => (Kd.R_ne HO_333002.out BK332.out (by decide)) e_) e_))); have n9_ := zA (blk_kept (uB BK341.out) hkp (fun hs_ => Or.elim hs_ (fun e_ => (fun e_ => (Kd.R_ne HO_333001.out BK341.out (by decide)) e_) e_) (fun e_ => (fun e_ => (Kd.R_ne HO_333002.out BK341.out (by decide)) e_) e_))); have n10_ := zA (Kd.R_mono (ok' := fun k_ => some k_ ≠ (.slice Ao24 t317.length co24 : Value).ownBlock ∧ some k_ ≠ (.slice Ao25 t320.length co25 : Value).ownBlock ∧ some k_ ≠ (.slice Ao32 t326.length co32 : Value).ownBlock ∧ some k_ ≠ (.slice Ao33 t329.length co33 : Value).ownBlock ∧ some k_ ≠ (.slice Ao40 t334.length co40 : Value).ownBlock ∧ some k_ ≠ (.slice Ao41 t337.length co41 : Value).ownBlock ∧ some k_ ≠ (.slice Ao69 t347.length co69 : Value).ownBlock) (Kd.R_keptB (HO346.out) hkp (fun k_ hk_ hs_ => Or.elim hs_ (fun e_ => (hk_.1.1.1.2) e_) (fun e_ => (hk_.1.1.2) e_))) (fun k_ hk_ => ⟨hk_.1.1.1.1.1.1.2, hk_.1.1.1.1.1.2, hk_.1.1.1.1.2, hk_.1.1.1.2, hk_.1.1.2, hk_.1.2, hk_.1.1.1.1.1.1.1⟩)); have n11_ := zA (Kd.R_mono (ok' := fun k_ => some k_ ≠ (.slice Ao24 t317.length co24 : Value).ownBlock ∧ some k_ ≠ (.slice Ao25 t320.length co25 : Value).ownBlock ∧ some k_ ≠ (.slice Ao32 t326.length co32 : Value).ownBlock ∧ some k_ ≠ (.slice Ao33 t329.length co33 : Value).ownBlock ∧ some k_ ≠ (.slice Ao40 t334.length co40 : Value).ownBlock ∧ some k_ ≠ (.slice Ao41 t337.length co41 : Value).ownBlock ∧ some k_ ≠ (.slice Ao68 t344.length co68 : Value).ownBlock) (Kd.R_keptB (HO349.out) hkp (fun k_ hk_ hs_ => Or.elim hs_ (fun e_ => (hk_.1.1.1.2) e_) (fun e_ => (hk_.1.1.2) e_))) (fun k_ hk_ => ⟨hk_.1.1.1.1.1.1.2, hk_.1.1.1.1.1.2, hk_.1.1.1.1.2, hk_.1.1.1.2, hk_.1.1.2, hk_.1.2, hk_.1.1.1.1.1.1.1⟩)); have n12_ := zA (hb); clear HO_325001 HO_325002 HO_333001 HO_333002 HO_342001 HO_342002 BK307 BK324 BK332 BK341 HO346 HO349 HB; have HO_325001 := n0_; have HO_325002 := n1_; have HO_333001 := n2_; have HO_333002 := n3_; have HO_342001 := n4_; have HO_342002 := n5_; have BK307 := n6_; have BK324 := n7_; have BK332 := n8_; have BK341 := n9_; have HO346 := n10_; have HO349 := n11_; have HB := n12_; clear n0_ n1_ n2_ n3_ n4_ n5_ n6_ n7_ n8_ n9_ n10_ n11_ n12_; (try clear hb); (try clear hkp); (try clear hy0); (try clear hy1)))
      (try simp only [Act.put, List.setIfInBounds_toArray, List.set_cons_zero, List.set_cons_succ])
      go_cut [65] (fun v65 wc => ∃ (kq : Nat) (x65_64 : Bool), v65 = .bool x65_64 ∧ Aside0 (laws_FnExactCutJacobi.j1 kq a1 t323 x65_64 a0_0 l0_1 l0_2 t316 t317 t320 t333 t334 t337 = some r) ∧ Aside0 (kq ≤ kj11) ∧ Aside0 (Kd.R (Kd.int .i64) 2 wc w.heap.size (fun k_ => some k_ ≠ ((.slice Ao25 t320.length co25) : Value).ownBlock ∧ some k_ ≠ ((.slice Ao32 t326.length co32) : Value).ownBlock ∧ some k_ ≠ ((.slice Ao33 t329.length co33) : Value).ownBlock ∧ some k_ ≠ ((.slice Ao40 t334.length co40) : Value).ownBlock ∧ some k_ ≠ ((.slice Ao41 t337.length co41) : Value).ownBlock) (.slice Ao24 t317.length co24) t317) ∧ Aside0 (Kd.R (Kd.int .i64) 2 wc w.heap.size (fun k_ => some k_ ≠ ((.slice Ao24 t317.length co24) : Value).ownBlock ∧ some k_ ≠ ((.slice Ao32 t326.length co32) : Value).ownBlock ∧ some k_ ≠ ((.slice Ao33 t329.length co33) : Value).ownBlock ∧ some k_ ≠ ((.slice Ao40 t334.length co40) : Value).ownBlock ∧ some k_ ≠ ((.slice Ao41 t337.length co41) : Value).ownBlock) (.slice Ao25 t320.length co25) t320) ∧ Aside0 (Kd.R (Kd.int .i64) 2 wc w.heap.size (fun k_ => some k_ ≠ ((.slice Ao24 t317.length co24) : Value).ownBlock ∧ some k_ ≠ ((.slice Ao25 t320.length co25) : Value).ownBlock ∧ some k_ ≠ ((.slice Ao33 t329.length co33) : Value).ownBlock ∧ some k_ ≠ ((.slice Ao40 t334.length co40) : Value).ownBlock ∧ some k_ ≠ ((.slice Ao41 t337.length co41) : Value).ownBlock) (.slice Ao32 t326.length co32) t352) ∧ Aside0 (Kd.R (Kd.int .i64) 2 wc w.heap.size (fun k_ => some k_ ≠ ((.slice Ao24 t317.length co24) : Value).ownBlock ∧ some k_ ≠ ((.slice Ao25 t320.length co25) : Value).ownBlock ∧ some k_ ≠ ((.slice Ao32 t326.length co32) : Value).ownBlock ∧ some k_ ≠ ((.slice Ao40 t334.length co40) : Value).ownBlock ∧ some k_ ≠ ((.slice Ao41 t337.length co41) : Value).ownBlock) (.slice Ao33 t329.length co33) t353) ∧ Aside0 (Kd.R (Kd.int .i64) 2 wc w.heap.size (fun k_ => some k_ ≠ ((.slice Ao24 t317.length co24) : Value).ownBlock ∧ some k_ ≠ ((.slice Ao25 t320.length co25) : Value).ownBlock ∧ some k_ ≠ ((.slice Ao32 t326.length co32) : Value).ownBlock ∧ some k_ ≠ ((.slice Ao33 t329.length co33) : Value).ownBlock ∧ some k_ ≠ ((.slice Ao41 t337.length co41) : Value).ownBlock) (.slice Ao40 t334.length co40) t334) ∧ Aside0 (Kd.R (Kd.int .i64) 2 wc w.heap.size (fun k_ => some k_ ≠ ((.slice Ao24 t317.length co24) : Value).ownBlock ∧ some k_ ≠ ((.slice Ao25 t320.length co25) : Value).ownBlock ∧ some k_ ≠ ((.slice Ao32 t326.length co32) : Value).ownBlock ∧ some k_ ≠ ((.slice Ao33 t329.length co33) : Value).ownBlock ∧ some k_ ≠ ((.slice Ao40 t334.length co40) : Value).ownBlock) (.slice Ao41 t337.length co41) t337) ∧ Aside0 (wc.heap[gb307]? = some (.cells #[.int .i64 a0_0, (.slice A0_1 l0_1.length c0_1), (.slice A0_2 l0_2.length c0_2)] 24 (0, 0))) ∧ Aside0 (wc.heap[gb324]? = some (.cells #[.int .i64 t316, (.slice Ao24 t317.length co24), (.slice Ao25 t320.length co25)] 26 (0, 0))) ∧ Aside0 (wc.heap[gb332]? = some (.cells #[.int .i64 t325, (.slice Ao32 t326.length co32), (.slice Ao33 t329.length co33)] 26 (0, 0))) ∧ Aside0 (wc.heap[gb341]? = some (.cells #[.int .i64 t333, (.slice Ao40 t334.length co40), (.slice Ao41 t337.length co41)] 26 (0, 0))) ∧ Aside0 (Below w.heap.size w wc))
      case first =>
       have H := HC65.out
       clear HC65
       by_cases c76 : t351 < 0
       ·rw [if_pos c76] at H
        have c76b0 : decide (t351 < 0) = true := decide_eq_true c76
        clear c76
        (first | rw [c76b0] | (simp only [i64_w, i32_w]; rw [c76b0]) | skip)
        have H' := zA H
        clear H
        go_wp2
        go_meet
        case rel => exact ⟨_, (true), (by first | rfl | (simp; done) | (simp [*]; done)), H', ⟨by have := HJ11.out; first | omega | exact Nat.le_refl _⟩, ⟨uR (Kd.R_mono HO_325001.out (fun _ hk => ⟨hk.1, ⟨hk.2.1, ⟨hk.2.2.1, ⟨hk.2.2.2.1, hk.2.2.2.2.1⟩⟩⟩⟩))⟩, ⟨uR (Kd.R_mono HO_325002.out (fun _ hk => ⟨hk.1, ⟨hk.2.1, ⟨hk.2.2.1, ⟨hk.2.2.2.1, hk.2.2.2.2.1⟩⟩⟩⟩))⟩, ⟨uR (Kd.R_mono HO_333001.out (fun _ hk => ⟨hk.1.1.1, ⟨hk.1.1.2.1, ⟨hk.1.1.2.2.1, ⟨hk.1.1.2.2.2.1, hk.1.1.2.2.2.2⟩⟩⟩⟩))⟩, ⟨uR (Kd.R_mono HO_333002.out (fun _ hk => ⟨hk.1.1.1, ⟨hk.1.1.2.1, ⟨hk.1.1.2.2.1, ⟨hk.1.1.2.2.2.1, hk.1.1.2.2.2.2⟩⟩⟩⟩))⟩, ⟨uR (Kd.R_mono HO_342001.out (fun _ hk => ⟨hk.1, ⟨hk.2.1, ⟨hk.2.2.1, ⟨hk.2.2.2.1, hk.2.2.2.2.1⟩⟩⟩⟩))⟩, ⟨uR (Kd.R_mono HO_342002.out (fun _ hk => ⟨hk.1, ⟨hk.2.1, ⟨hk.2.2.1, ⟨hk.2.2.2.1, hk.2.2.2.2.1⟩⟩⟩⟩))⟩, ⟨uB BK307.out⟩, ⟨uB BK324.out⟩, ⟨uB BK332.out⟩, ⟨uB BK341.out⟩, ⟨uH HB.out⟩⟩
       ·rw [if_neg c76] at H
        have c76b0 : decide (t351 < 0) = false := decide_eq_false c76
        clear c76
        (first | rw [c76b0] | (simp only [i64_w, i32_w]; rw [c76b0]) | skip)
        replace H := Option.bind_eq_some_iff.mp H
        obtain ⟨t354, A770, H⟩ := H
        replace H : (if t354 = true then (laws_FnExactCutJacobi.j1 kj11 a1 t323 (t340 != t323) a0_0 l0_1 l0_2 t316 t317 t320 t333 t334 t337) else (laws_FnExactCutJacobi.j1 kj11 a1 t323 true a0_0 l0_1 l0_2 t316 t317 t320 t333 t334 t337)) = some r := H
        have A77 := zA A770
        clear A770
        by_cases c78 : t354 = true
        ·subst c78
         have H1 : (laws_FnExactCutJacobi.j1 kj11 a1 t323 (t340 != t323) a0_0 l0_1 l0_2 t316 t317 t320 t333 t334 t337) = some r := by rw [if_pos rfl] at H; exact H
         clear H
         have H := H1
         clear H1
         have H' := zA H
         clear H
         have hnb79 := NB341_307.out; have hnc79 := NB307_341.out; have hnb80 := NB341_324.out; have hnc80 := NB324_341.out; have hnb81 := NB341_332.out; have hnc81 := NB332_341.out
         have hcz82_0 : w75.cell? ⟨gb341, 0, none⟩ = some (.int .i64 t333) := (blk_cell BK341.out 0).trans rfl
         have hcz82_1 : w75.cell? ⟨gb341, 1, none⟩ = some (.slice Ao40 t334.length co40) := (blk_cell BK341.out 1).trans rfl
         have hcz82_2 : w75.cell? ⟨gb341, 2, none⟩ = some (.slice Ao41 t337.length co41) := (blk_cell BK341.out 2).trans rfl
         have hfz82_0 := blk_frozen BK341.out 0
         have hfz82_1 := blk_frozen BK341.out 1
         have hfz82_2 := blk_frozen BK341.out 2
         have hnb83 := NB324_307.out; have hnc83 := NB307_324.out; have hnb84 := NB324_332.out; have hnc84 := NB332_324.out
         have hcz85_0 : w75.cell? ⟨gb324, 0, none⟩ = some (.int .i64 t316) := (blk_cell BK324.out 0).trans rfl
         have hcz85_1 : w75.cell? ⟨gb324, 1, none⟩ = some (.slice Ao24 t317.length co24) := (blk_cell BK324.out 1).trans rfl
         have hcz85_2 : w75.cell? ⟨gb324, 2, none⟩ = some (.slice Ao25 t320.length co25) := (blk_cell BK324.out 2).trans rfl
         have hfz85_0 := blk_frozen BK324.out 0
         have hfz85_1 := blk_frozen BK324.out 1
         have hfz85_2 := blk_frozen BK324.out 2
         go_wp2_with (first | (go_at_call 19; (with_reducible refine (laws_eqJacobi.calls kj11 t333 _ _ t334 _ _ t337 t316 _ _ t317 _ _ t320 true _ ?side1 ?side2 ?side3 ?side4 ?side5 ?side6 ?side7 ?side8 A77.out).mono ?_); (case side1 => exact uC ((Kd.R_reads' HO_342001.out).2.2)); (case side2 => exact (Kd.R_reads' HO_342001.out).2.1); (case side3 => exact uC ((Kd.R_reads' HO_342002.out).2.2)); (case side4 => exact (Kd.R_reads' HO_342002.out).2.1); (case side5 => exact uC ((Kd.R_reads' HO_325001.out).2.2)); (case side6 => exact (Kd.R_reads' HO_325001.out).2.1); (case side7 => exact uC ((Kd.R_reads' HO_325002.out).2.2)); (case side8 => exact (Kd.R_reads' HO_325002.out).2.1); rintro e w86 ⟨rfl, hb⟩; have n0_ := xR HO_325001 hb; have n1_ := xR HO_325002 hb; have n2_ := xR HO_333001 hb; have n3_ := xR HO_333002 hb; have n4_ := xR HO_342001 hb; have n5_ := xR HO_342002 hb; have n6_ := xR HO346 hb; have n7_ := xR HO349 hb; have n8_ := xB BK307 hb; have n9_ := xB BK324 hb; have n10_ := xB BK332 hb; have n11_ := xB BK341 hb; have n12_ := xH HB hb; clear HO_325001 HO_325002 HO_333001 HO_333002 HO_342001 HO_342002 HO346 HO349 BK307 BK324 BK332 BK341 HB; have HO_325001 := n0_; have HO_325002 := n1_; have HO_333001 := n2_; have HO_333002 := n3_; have HO_342001 := n4_; have HO_342002 := n5_; have HO346 := n6_; have HO349 := n7_; have BK307 := n8_; have BK324 := n9_; have BK332 := n10_; have BK341 := n11_; have HB := n12_; clear n0_ n1_ n2_ n3_ n4_ n5_ n6_ n7_ n8_ n9_ n10_ n11_ n12_; (try clear hb); (try clear hb2); (try clear hk); (try clear hi)))
         go_meet
         case rel => exact ⟨_, ((t340 != t323)), (by first | rfl | (simp; done) | (simp [*]; done)), H', ⟨by have := HJ11.out; first | omega | exact Nat.le_refl _⟩, ⟨uR (Kd.R_mono HO_325001.out (fun _ hk => ⟨hk.1, ⟨hk.2.1, ⟨hk.2.2.1, ⟨hk.2.2.2.1, hk.2.2.2.2.1⟩⟩⟩⟩))⟩, ⟨uR (Kd.R_mono HO_325002.out (fun _ hk => ⟨hk.1, ⟨hk.2.1, ⟨hk.2.2.1, ⟨hk.2.2.2.1, hk.2.2.2.2.1⟩⟩⟩⟩))⟩, ⟨uR (Kd.R_mono HO_333001.out (fun _ hk => ⟨hk.1.1.1, ⟨hk.1.1.2.1, ⟨hk.1.1.2.2.1, ⟨hk.1.1.2.2.2.1, hk.1.1.2.2.2.2⟩⟩⟩⟩))⟩, ⟨uR (Kd.R_mono HO_333002.out (fun _ hk => ⟨hk.1.1.1, ⟨hk.1.1.2.1, ⟨hk.1.1.2.2.1, ⟨hk.1.1.2.2.2.1, hk.1.1.2.2.2.2⟩⟩⟩⟩))⟩, ⟨uR (Kd.R_mono HO_342001.out (fun _ hk => ⟨hk.1, ⟨hk.2.1, ⟨hk.2.2.1, ⟨hk.2.2.2.1, hk.2.2.2.2.1⟩⟩⟩⟩))⟩, ⟨uR (Kd.R_mono HO_342002.out (fun _ hk => ⟨hk.1, ⟨hk.2.1, ⟨hk.2.2.1, ⟨hk.2.2.2.1, hk.2.2.2.2.1⟩⟩⟩⟩))⟩, ⟨uB BK307.out⟩, ⟨uB BK324.out⟩, ⟨uB BK332.out⟩, ⟨uB BK341.out⟩, ⟨uH HB.out⟩⟩
        ·replace c78 := Bool.eq_false_iff.mpr c78
         subst c78
         have H1 : (laws_FnExactCutJacobi.j1 kj11 a1 t323 true a0_0 l0_1 l0_2 t316 t317 t320 t333 t334 t337) = some r := by rw [if_neg (show ¬ (false = true) by decide)] at H; exact H
         clear H
         have H := H1
         clear H1
         have H' := zA H
         clear H
         have hnb87 := NB341_307.out; have hnc87 := NB307_341.out; have hnb88 := NB341_324.out; have hnc88 := NB324_341.out; have hnb89 := NB341_332.out; have hnc89 := NB332_341.out
         have hcz90_0 : w75.cell? ⟨gb341, 0, none⟩ = some (.int .i64 t333) := (blk_cell BK341.out 0).trans rfl
         have hcz90_1 : w75.cell? ⟨gb341, 1, none⟩ = some (.slice Ao40 t334.length co40) := (blk_cell BK341.out 1).trans rfl
         have hcz90_2 : w75.cell? ⟨gb341, 2, none⟩ = some (.slice Ao41 t337.length co41) := (blk_cell BK341.out 2).trans rfl
         have hfz90_0 := blk_frozen BK341.out 0
         have hfz90_1 := blk_frozen BK341.out 1
         have hfz90_2 := blk_frozen BK341.out 2
         have hnb91 := NB324_307.out; have hnc91 := NB307_324.out; have hnb92 := NB324_332.out; have hnc92 := NB332_324.out
         have hcz93_0 : w75.cell? ⟨gb324, 0, none⟩ = some (.int .i64 t316) := (blk_cell BK324.out 0).trans rfl
         have hcz93_1 : w75.cell? ⟨gb324, 1, none⟩ = some (.slice Ao24 t317.length co24) := (blk_cell BK324.out 1).trans rfl
         have hcz93_2 : w75.cell? ⟨gb324, 2, none⟩ = some (.slice Ao25 t320.length co25) := (blk_cell BK324.out 2).trans rfl
         have hfz93_0 := blk_frozen BK324.out 0
         have hfz93_1 := blk_frozen BK324.out 1
         have hfz93_2 := blk_frozen BK324.out 2
         go_wp2_with (first | (go_at_call 19; (with_reducible refine (laws_eqJacobi.calls kj11 t333 _ _ t334 _ _ t337 t316 _ _ t317 _ _ t320 false _ ?side1 ?side2 ?side3 ?side4 ?side5 ?side6 ?side7 ?side8 A77.out).mono ?_); (case side1 => exact uC ((Kd.R_reads' HO_342001.out).2.2)); (case side2 => exact (Kd.R_reads' HO_342001.out).2.1); (case side3 => exact uC ((Kd.R_reads' HO_342002.out).2.2)); (case side4 => exact (Kd.R_reads' HO_342002.out).2.1); (case side5 => exact uC ((Kd.R_reads' HO_325001.out).2.2)); (case side6 => exact (Kd.R_reads' HO_325001.out).2.1); (case side7 => exact uC ((Kd.R_reads' HO_325002.out).2.2)); (case side8 => exact (Kd.R_reads' HO_325002.out).2.1); rintro e w94 ⟨rfl, hb⟩; have n0_ := xR HO_325001 hb; have n1_ := xR HO_325002 hb; have n2_ := xR HO_333001 hb; have n3_ := xR HO_333002 hb; have n4_ := xR HO_342001 hb; have n5_ := xR HO_342002 hb; have n6_ := xR HO346 hb; have n7_ := xR HO349 hb; have n8_ := xB BK307 hb; have n9_ := xB BK324 hb; have n10_ := xB BK332 hb; have n11_ := xB BK341 hb; have n12_ := xH HB hb; clear HO_325001 HO_325002 HO_333001 HO_333002 HO_342001 HO_342002 HO346 HO349 BK307 BK324 BK332 BK341 HB; have HO_325001 := n0_; have HO_325002 := n1_; have HO_333001 := n2_; have HO_333002 := n3_; have HO_342001 := n4_; have HO_342002 := n5_; have HO346 := n6_; have HO349 := n7_; have BK307 := n8_; have BK324 := n9_; have BK332 := n10_; have BK341 := n11_; have HB := n12_; clear n0_ n1_ n2_ n3_ n4_ n5_ n6_ n7_ n8_ n9_ n10_ n11_ n12_; (try clear hb); (try clear hb2); (try clear hk); (try clear hi)))
         go_meet
         case rel => exact ⟨_, (true), (by first | rfl | (simp; done) | (simp [*]; done)), H', ⟨by have := HJ11.out; first | omega | exact Nat.le_refl _⟩, ⟨uR (Kd.R_mono HO_325001.out (fun _ hk => ⟨hk.1, ⟨hk.2.1, ⟨hk.2.2.1, ⟨hk.2.2.2.1, hk.2.2.2.2.1⟩⟩⟩⟩))⟩, ⟨uR (Kd.R_mono HO_325002.out (fun _ hk => ⟨hk.1, ⟨hk.2.1, ⟨hk.2.2.1, ⟨hk.2.2.2.1, hk.2.2.2.2.1⟩⟩⟩⟩))⟩, ⟨uR (Kd.R_mono HO_333001.out (fun _ hk => ⟨hk.1.1.1, ⟨hk.1.1.2.1, ⟨hk.1.1.2.2.1, ⟨hk.1.1.2.2.2.1, hk.1.1.2.2.2.2⟩⟩⟩⟩))⟩, ⟨uR (Kd.R_mono HO_333002.out (fun _ hk => ⟨hk.1.1.1, ⟨hk.1.1.2.1, ⟨hk.1.1.2.2.1, ⟨hk.1.1.2.2.2.1, hk.1.1.2.2.2.2⟩⟩⟩⟩))⟩, ⟨uR (Kd.R_mono HO_342001.out (fun _ hk => ⟨hk.1, ⟨hk.2.1, ⟨hk.2.2.1, ⟨hk.2.2.2.1, hk.2.2.2.2.1⟩⟩⟩⟩))⟩, ⟨uR (Kd.R_mono HO_342002.out (fun _ hk => ⟨hk.1, ⟨hk.2.1, ⟨hk.2.2.1, ⟨hk.2.2.2.1, hk.2.2.2.2.1⟩⟩⟩⟩))⟩, ⟨uB BK307.out⟩, ⟨uB BK324.out⟩, ⟨uB BK332.out⟩, ⟨uB BK341.out⟩, ⟨uH HB.out⟩⟩
      case rest =>
       clear HC65
       try clear c1
       try clear c2
       try clear p2
       try clear c3
       try clear c4
       try clear c4b0
       try clear c5
       try clear c6
       try clear c7
       try clear c8
       try clear c9
       try clear c15
       try clear c17
       try clear c19
       try clear c20
       try clear c22
       try clear c23
       try clear c29
       try clear c30
       try clear c36
       try clear c37
       try clear c38
       try clear c43
       try clear c44
       try clear c45
       try clear c46
       try clear c48
       try clear c49
       try clear c52
       try clear c53
       try clear c54
       try clear c56
       try clear c57
       try clear c60
       try clear c63
       try clear c71
       try clear c72
       try clear c73
       try clear c76
       try clear c76b0
       try clear c78
       try clear c79
       try clear c80
       try clear c81
       try clear c83
       try clear c84
       try clear c87
       try clear c88
       try clear c89
       try clear c91
       try clear c92
       try clear hcz14_0
       try clear hcz14_1
       try clear hcz14_2
       try clear hcz16_0
       try clear hcz16_1
       try clear hcz16_2
       try clear hcz23_0
       try clear hcz23_1
       try clear hcz23_2
       try clear hcz26_0
       try clear hcz26_1
       try clear hcz26_2
       try clear hcz31_0
       try clear hcz31_1
       try clear hcz31_2
       try clear hcz39_0
       try clear hcz39_1
       try clear hcz39_2
       try clear hcz47_0
       try clear hcz47_1
       try clear hcz47_2
       try clear hcz50_0
       try clear hcz50_1
       try clear hcz50_2
       try clear hcz55_0
       try clear hcz55_1
       try clear hcz55_2
       try clear hcz58_0
       try clear hcz58_1
       try clear hcz58_2
       try clear hcz6_0
       try clear hcz6_1
       try clear hcz6_2
       try clear hcz74_0
       try clear hcz74_1
       try clear hcz74_2
       try clear hcz82_0
       try clear hcz82_1
       try clear hcz82_2
       try clear hcz85_0
       try clear hcz85_1
       try clear hcz85_2
       try clear hcz90_0
       try clear hcz90_1
       try clear hcz90_2
       try clear hcz93_0
       try clear hcz93_1
       try clear hcz93_2
       try clear hfz14_0
       try clear hfz14_1
       try clear hfz14_2
       try clear hfz16_0
       try clear hfz16_1
       try clear hfz16_2
       try clear hfz23_0
       try clear hfz23_1
       try clear hfz23_2
       try clear hfz26_0
       try clear hfz26_1
       try clear hfz26_2
       try clear hfz31_0
       try clear hfz31_1
       try clear hfz31_2
       try clear hfz39_0
       try clear hfz39_1
       try clear hfz39_2
       try clear hfz47_0
       try clear hfz47_1
       try clear hfz47_2
       try clear hfz50_0
       try clear hfz50_1
       try clear hfz50_2
       try clear hfz55_0
       try clear hfz55_1
       try clear hfz55_2
       try clear hfz58_0
       try clear hfz58_1
       try clear hfz58_2
       try clear hfz6_0
       try clear hfz6_1
       try clear hfz6_2
       try clear hfz74_0
       try clear hfz74_1
       try clear hfz74_2
       try clear hfz82_0
       try clear hfz82_1
       try clear hfz82_2
       try clear hfz85_0
       try clear hfz85_1
       try clear hfz85_2
       try clear hfz90_0
       try clear hfz90_1
       try clear hfz90_2
       try clear hfz93_0
       try clear hfz93_1
       try clear hfz93_2
       try clear p2
       obtain ⟨kq, x65_64, rfl, HA, HJ64, HO_325001, HO_325002, HO_333001, HO_333002, HO_342001, HO_342002, BK307, BK324, BK332, BK341, HB⟩ := hcut
       have hl333001_64 := (Kd.R_reads' HO_333001.out).1
       rw [hl333001_64] at HO_333001
       (try simp only [hl333001_64])
       (try simp only [hl333001_64] at BK307)
       (try simp only [hl333001_64] at BK324)
       (try simp only [hl333001_64] at BK332)
       (try simp only [hl333001_64] at BK341)
       (try simp only [hl333001_64] at HO_325001)
       (try simp only [hl333001_64] at HO_325002)
       (try simp only [hl333001_64] at HO_333002)
       (try simp only [hl333001_64] at HO_342001)
       (try simp only [hl333001_64] at HO_342002)
       have hl333002_64 := (Kd.R_reads' HO_333002.out).1
       rw [hl333002_64] at HO_333002
       (try simp only [hl333002_64])
       (try simp only [hl333002_64] at BK307)
       (try simp only [hl333002_64] at BK324)
       (try simp only [hl333002_64] at BK332)
       (try simp only [hl333002_64] at BK341)
       (try simp only [hl333002_64] at HO_325001)
       (try simp only [hl333002_64] at HO_325002)
       (try simp only [hl333002_64] at HO_333001)
       (try simp only [hl333002_64] at HO_342001)
       (try simp only [hl333002_64] at HO_342002)
       cases kq with
       | zero => exact absurd HA.out (by simp [laws_FnExactCutJacobi.j1])
       | succ kj64 =>
        have H := HA.out
        clear HA
        simp only [laws_FnExactCutJacobi.j1] at H
        by_cases c95 : x65_64 = true
        ·subst c95
         have H1 : (some false) = some r := by rw [if_pos rfl] at H; exact H
         clear H
         have H := H1
         clear H1
         rw [HRT.out] at H
         exact absurd H (by simp)
        ·replace c95 := Bool.eq_false_iff.mpr c95
         subst c95
         have H1 : ((laws_markJacobi.f kj64 t333 t334 t337 1).bind fun bt355 => ((laws_heldJacobi.f kj64 t333 bt355.2.1 bt355.2.2 1).bind fun t358 => (if t358 < 0 then (some false) else (if t358 = bt355.1 then ((laws_toJacobi.f kj64 a0_0 l0_1 l0_2).bind fun bt359 => ((impl_CutJacobi.f kj64 bt359.1 bt359.2.1 bt359.2.2 a1).bind fun bt366 => ((laws_eqJacobi.f kj64 bt366.1 bt366.2.1 bt366.2.2.1 t316 t317 t320).bind fun t375 => (if t375 = true then (laws_FnExactCutJacobi.j2 kj64 bt355.1 (bt366.2.2.2 != t323) t333 bt355.2.1 bt355.2.2) else (laws_FnExactCutJacobi.j2 kj64 bt355.1 true t333 bt355.2.1 bt355.2.2))))) else (some false))))) = some r := by rw [if_neg (show ¬ (false = true) by decide)] at H; exact H
         clear H
         have H := H1
         clear H1
         replace H := Option.bind_eq_some_iff.mp H
         obtain ⟨⟨t355, t356, t357⟩, A960, H⟩ := H
         replace H : ((laws_heldJacobi.f kj64 t333 t356 t357 1).bind fun t358 => (if t358 < 0 then (some false) else (if t358 = t355 then ((laws_toJacobi.f kj64 a0_0 l0_1 l0_2).bind fun bt359 => ((impl_CutJacobi.f kj64 bt359.1 bt359.2.1 bt359.2.2 a1).bind fun bt366 => ((laws_eqJacobi.f kj64 bt366.1 bt366.2.1 bt366.2.2.1 t316 t317 t320).bind fun t375 => (if t375 = true then (laws_FnExactCutJacobi.j2 kj64 t355 (bt366.2.2.2 != t323) t333 t356 t357) else (laws_FnExactCutJacobi.j2 kj64 t355 true t333 t356 t357))))) else (some false)))) = some r := H
         have A96 := zA A960
         clear A960
         replace H := Option.bind_eq_some_iff.mp H
         obtain ⟨t358, A970, H⟩ := H
         replace H : (if t358 < 0 then (some false) else (if t358 = t355 then ((laws_toJacobi.f kj64 a0_0 l0_1 l0_2).bind fun bt359 => ((impl_CutJacobi.f kj64 bt359.1 bt359.2.1 bt359.2.2 a1).bind fun bt366 => ((laws_eqJacobi.f kj64 bt366.1 bt366.2.1 bt366.2.2.1 t316 t317 t320).bind fun t375 => (if t375 = true then (laws_FnExactCutJacobi.j2 kj64 t355 (bt366.2.2.2 != t323) t333 t356 t357) else (laws_FnExactCutJacobi.j2 kj64 t355 true t333 t356 t357))))) else (some false))) = some r := H
         have A97 := zA A970
         clear A970
         by_cases c98 : t358 < 0
         ·rw [if_pos c98] at H
          have c98b0 : decide (t358 < 0) = true := decide_eq_true c98
          clear c98
          rw [HRT.out] at H
          exact absurd H (by simp)
         ·rw [if_neg c98] at H
          have c98b0 : decide (t358 < 0) = false := decide_eq_false c98
          clear c98
          by_cases c99 : t358 = t355
          ·rw [if_pos c99] at H
           have c99b0 : (t358 == t355) = true := beq_iff_eq.mpr c99
           have c99b1 : (t358 != t355) = false := bne_eq_false_iff_eq.mpr c99
           clear c99
           replace H := Option.bind_eq_some_iff.mp H
           obtain ⟨⟨t359, t360, t363⟩, A1000, H⟩ := H
           replace H : ((impl_CutJacobi.f kj64 t359 t360 t363 a1).bind fun bt366 => ((laws_eqJacobi.f kj64 bt366.1 bt366.2.1 bt366.2.2.1 t316 t317 t320).bind fun t375 => (if t375 = true then (laws_FnExactCutJacobi.j2 kj64 t355 (bt366.2.2.2 != t323) t333 t356 t357) else (laws_FnExactCutJacobi.j2 kj64 t355 true t333 t356 t357)))) = some r := H
           have A100 := zA A1000
           clear A1000
           replace H := Option.bind_eq_some_iff.mp H
           obtain ⟨⟨t366, t367, t370, t373⟩, A1010, H⟩ := H
           replace H : ((laws_eqJacobi.f kj64 t366 t367 t370 t316 t317 t320).bind fun t375 => (if t375 = true then (laws_FnExactCutJacobi.j2 kj64 t355 (t373 != t323) t333 t356 t357) else (laws_FnExactCutJacobi.j2 kj64 t355 true t333 t356 t357))) = some r := H
           have A101 := zA A1010
           clear A1010
           have HC102 := zA H
           clear H
           have hnb103 := NB341_307.out; have hnc103 := NB307_341.out; have hnb104 := NB341_324.out; have hnc104 := NB324_341.out; have hnb105 := NB341_332.out; have hnc105 := NB332_341.out
           have hcz106_0 : wc.cell? ⟨gb341, 0, none⟩ = some (.int .i64 t333) := (blk_cell BK341.out 0).trans rfl
           have hcz106_1 : wc.cell? ⟨gb341, 1, none⟩ = some (.slice Ao40 t334.length co40) := (blk_cell BK341.out 1).trans rfl
           have hcz106_2 : wc.cell? ⟨gb341, 2, none⟩ = some (.slice Ao41 t337.length co41) := (blk_cell BK341.out 2).trans rfl
           have hfz106_0 := blk_frozen BK341.out 0
           have hfz106_1 := blk_frozen BK341.out 1
           have hfz106_2 := blk_frozen BK341.out 2
           go_upto_region 25 with (first | ((with_reducible refine gate_callee (f := 20) rfl ?_); refine goesL_ (some 68) rfl rfl Try.func20 (by kernel_rfl) rfl #[.agg #[.int .i64 t333, .slice Ao40 t334.length co40, .slice Ao41 t337.length co41], .int .i64 1] rfl (by (try simp only [List.map_toArray, List.map_cons, List.map_nil]); first | done | rfl | (simp only [List.length_drop, List.length_take]; rfl)) ?_; (with_reducible refine (laws_markJacobi.calls kj64 t333 (fun k_ => some k_ = (.slice Ao40 t334.length co40 : Value).ownBlock) (.slice Ao40 t334.length co40) t334 (fun k_ => some k_ = (.slice Ao41 t337.length co41 : Value).ownBlock) (.slice Ao41 t337.length co41) t337 1 t355 t356 t357 w _ ?side1 ?side2 ?side3 ?side4 ?side5 A96.out).mono ?_); (case side1 => repeat (first | (with_reducible first | exact HB.out | apply below_alloc | apply pw_below_drewN | apply below_drew1 | refine below_set ?_ GE307.out | refine below_set ?_ GE324.out | refine below_set ?_ GE332.out | refine below_set ?_ GE341.out) | exact HB.out)); (case side2 => exact Kd.R_tight rfl HO_342001.out); (case side3 => exact fun k_ e_ => (HO_342001.out.1 k_ e_.symm).2.2.2.2); (case side4 => exact Kd.R_tight rfl HO_342002.out); (case side5 => exact fun k_ e_ => (HO_342002.out.1 k_ e_.symm).2.2.2.2); rintro e w107 ⟨rfl, hy0, hy1, hb, hkp⟩; refine ⟨_, rfl, ?_⟩; have n0_ := zA (Kd.R_mono (ok' := fun k_ => some k_ ≠ (.slice Ao25 t320.length co25 : Value).ownBlock ∧ some k_ ≠ (.slice Ao32 t352.length co32 : Value).ownBlock ∧ some k_ ≠ (.slice Ao33 t353.length co33 : Value).ownBlock ∧ some k_ ≠ (.slice Ao40 t334.length co40 : Value).ownBlock ∧ some k_ ≠ (.slice Ao41 t337.length co41 : Value).ownBlock) (Kd.R_keptB (HO_325001.out) hkp (fun k_ hk_ hs_ => Or.elim hs_ (fun e_ => (hk_.2.2.2.1) e_) (fun e_ => (hk_.2.2.2.2) e_))) (fun k_ hk_ => ⟨hk_.1.1, hk_.1.2.1, hk_.1.2.2.1, hk_.1.2.2.2.1, hk_.1.2.2.2.2⟩)); have n1_ := zA (Kd.R_mono (ok' := fun k_ => some k_ ≠ (.slice Ao24 t317.length co24 : Value).ownBlock ∧ some k_ ≠ (.slice Ao32 t352.length co32 : Value).ownBlock ∧ some k_ ≠ (.slice Ao33 t353.length co33 : Value).ownBlock ∧ some k_ ≠ (.slice Ao40 t334.length co40 : Value).ownBlock ∧ some k_ ≠ (.slice Ao41 t337.length co41 : Value).ownBlock) (Kd.R_keptB (HO_325002.out) hkp (fun k_ hk_ hs_ => Or.elim hs_ (fun e_ => (hk_.2.2.2.1) e_) (fun e_ => (hk_.2.2.2.2) e_))) (fun k_ hk_ => ⟨hk_.1.1, hk_.1.2.1, hk_.1.2.2.1, hk_.1.2.2.2.1, hk_.1.2.2.2.2⟩)); have n2_ := zA (Kd.R_mono (ok' := fun k_ => some k_ ≠ (.slice Ao24 t317.length co24 : Value).ownBlock ∧ some k_ ≠ (.slice Ao25 t320.length co25 : Value).ownBlock ∧ some k_ ≠ (.slice Ao33 t353.length co33 : Value).ownBlock ∧ some k_ ≠ (.slice Ao40 t334.length co40 : Value).ownBlock ∧ some k_ ≠ (.slice Ao41 t337.length co41 : Value).ownBlock) (Kd.R_keptB (HO_333001.out) hkp (fun k_ hk_ hs_ => Or.elim hs_ (fun e_ => (hk_.2.2.2.1) e_) (fun e_ => (hk_.2.2.2.2) e_))) (fun k_ hk_ => ⟨hk_.1.1, hk_.1.2.1, hk_.1.2.2.1, hk_.1.2.2.2.1, hk_.1.2.2.2.2⟩)); have n3_ := zA (Kd.R_mono (ok' := fun k_ => some k_ ≠ (.slice Ao24 t317.length co24 : Value).ownBlock ∧ some k_ ≠ (.slice Ao25 t320.length co25 : Value).ownBlock ∧ some k_ ≠ (.slice Ao32 t352.length co32 : Value).ownBlock ∧ some k_ ≠ (.slice Ao40 t334.length co40 : Value).ownBlock ∧ some k_ ≠ (.slice Ao41 t337.length co41 : Value).ownBlock) (Kd.R_keptB (HO_333002.out) hkp (fun k_ hk_ hs_ => Or.elim hs_ (fun e_ => (hk_.2.2.2.1) e_) (fun e_ => (hk_.2.2.2.2) e_))) (fun k_ hk_ => ⟨hk_.1.1, hk_.1.2.1, hk_.1.2.2.1, hk_.1.2.2.2.1, hk_.1.2.2.2.2⟩)); have n4_ := zA (Kd.R_reok rfl hy0 (fun k_ e_ => HO_342001.out.1 k_ e_)); have n5_ := zA (Kd.R_reok rfl hy1 (fun k_ e_ => HO_342002.out.1 k_ e_)); have n6_ := zA (blk_kept (uB BK307.out) hkp (fun hs_ => Or.elim hs_ (fun e_ => (fun e_ => (Kd.R_ne HO_342001.out BK307.out (by decide)) e_) e_) (fun e_ => (fun e_ => (Kd.R_ne HO_342002.out BK307.out (by decide)) e_) e_))); have n7_ := zA (blk_kept (uB BK324.out) hkp (fun hs_ => Or.elim hs_ (fun e_ => (fun e_ => (Kd.R_ne HO_342001.out BK324.out (by decide)) e_) e_) (fun e_ => (fun e_ => (Kd.R_ne HO_342002.out BK324.out (by decide)) e_) e_))); have n8_ := zA (blk_kept (uB BK332.out) hkp (fun hs_ => Or.elim hs_ (fun e_ => (fun e_ => (Kd.R_ne HO_342001.out BK332.out (by decide)) e_) e_) (fun e_ => (fun e_ => (Kd.R_ne HO_342002.out BK332.out (by decide)) e_) e_))); have n9_ := zA (blk_kept (uB BK341.out) hkp (fun hs_ => Or.elim hs_ (fun e_ => (fun e_ => (Kd.R_ne HO_342001.out BK341.out (by decide)) e_) e_) (fun e_ => (fun e_ => (Kd.R_ne HO_342002.out BK341.out (by decide)) e_) e_))); have n10_ := zA (hb); clear HO_325001 HO_325002 HO_333001 HO_333002 HO_342001 HO_342002 BK307 BK324 BK332 BK341 HB; have HO_325001 := n0_; have HO_325002 := n1_; have HO_333001 := n2_; have HO_333002 := n3_; have HO_342001 := n4_; have HO_342002 := n5_; have BK307 := n6_; have BK324 := n7_; have BK332 := n8_; have BK341 := n9_; have HB := n10_; clear n0_ n1_ n2_ n3_ n4_ n5_ n6_ n7_ n8_ n9_ n10_; (try clear hb); (try clear hkp); (try clear hy0); (try clear hy1); have hcz108_0 : w107.cell? ⟨gb341, 0, none⟩ = some (.int .i64 t333) := (blk_cell BK341.out 0).trans rfl; have hcz108_1 : w107.cell? ⟨gb341, 1, none⟩ = some (.slice Ao40 t334.length co40) := (blk_cell BK341.out 1).trans rfl; have hcz108_2 : w107.cell? ⟨gb341, 2, none⟩ = some (.slice Ao41 t337.length co41) := (blk_cell BK341.out 2).trans rfl; have hfz108_0 := blk_frozen BK341.out 0; have hfz108_1 := blk_frozen BK341.out 1; have hfz108_2 := blk_frozen BK341.out 2) | ((with_reducible refine gate_callee (f := 21) rfl ?_); refine goesL_ (some 71) rfl rfl Try.func21 (by kernel_rfl) rfl #[.agg #[.int .i64 t333, .slice Ao40 t356.length co40, .slice Ao41 t357.length co41], .int .i64 1] rfl (by (try simp only [List.map_toArray, List.map_cons, List.map_nil]); first | done | (rw [show t356.length = t334.length from (Kd.R_reads' HO_342001.out).1.symm, show t357.length = t337.length from (Kd.R_reads' HO_342002.out).1.symm] <;> rfl) | rfl | (simp only [List.length_drop, List.length_take]; rfl)) ?_; (with_reducible refine (laws_heldJacobi.calls kj64 t333 _ _ t356 _ _ t357 1 t358 _ ?side1 ?side2 ?side3 ?side4 A97.out).mono ?_); (case side1 => exact uC ((Kd.R_reads' HO_342001.out).2.2)); (case side2 => rw [show t356.length = t334.length from (Kd.R_reads' HO_342001.out).1.symm]; exact (Kd.R_reads' HO_342001.out).2.1); (case side3 => exact uC ((Kd.R_reads' HO_342002.out).2.2)); (case side4 => rw [show t357.length = t337.length from (Kd.R_reads' HO_342002.out).1.symm]; exact (Kd.R_reads' HO_342002.out).2.1); rintro e w109 ⟨rfl, hb⟩; refine ⟨_, rfl, ?_⟩; have n0_ := xR HO_325001 hb; have n1_ := xR HO_325002 hb; have n2_ := xR HO_333001 hb; have n3_ := xR HO_333002 hb; have n4_ := xR HO_342001 hb; have n5_ := xR HO_342002 hb; have n6_ := xB BK307 hb; have n7_ := xB BK324 hb; have n8_ := xB BK332 hb; have n9_ := xB BK341 hb; have n10_ := xH HB hb; clear HO_325001 HO_325002 HO_333001 HO_333002 HO_342001 HO_342002 BK307 BK324 BK332 BK341 HB; have HO_325001 := n0_; have HO_325002 := n1_; have HO_333001 := n2_; have HO_333002 := n3_; have HO_342001 := n4_; have HO_342002 := n5_; have BK307 := n6_; have BK324 := n7_; have BK332 := n8_; have BK341 := n9_; have HB := n10_; clear n0_ n1_ n2_ n3_ n4_ n5_ n6_ n7_ n8_ n9_ n10_; (try clear hb); (try clear hb2); (try clear hk); (try clear hi); have hnb110 := NB307_324.out; have hnc110 := NB324_307.out; have hnb111 := NB307_332.out; have hnc111 := NB332_307.out; have hcz112_0 : w109.cell? ⟨gb307, 0, none⟩ = some (.int .i64 a0_0) := (blk_cell BK307.out 0).trans rfl; have hcz112_1 : w109.cell? ⟨gb307, 1, none⟩ = some (.slice A0_1 l0_1.length c0_1) := (blk_cell BK307.out 1).trans rfl; have hcz112_2 : w109.cell? ⟨gb307, 2, none⟩ = some (.slice A0_2 l0_2.length c0_2) := (blk_cell BK307.out 2).trans rfl; have hfz112_0 := blk_frozen BK307.out 0; have hfz112_1 := blk_frozen BK307.out 1; have hfz112_2 := blk_frozen BK307.out 2) | ((with_reducible refine gate_callee (f := 17) rfl ?_); refine goesL_ (some 79) rfl rfl Try.func17 (by kernel_rfl) rfl #[.agg #[.int .i64 a0_0, .slice A0_1 l0_1.length c0_1, .slice A0_2 l0_2.length c0_2]] rfl (by (try simp only [List.map_toArray, List.map_cons, List.map_nil]); first | done | rfl | (simp only [List.length_drop, List.length_take]; rfl)) ?_; (with_reducible refine (laws_toJacobi.calls kj64 a0_0 _ _ l0_1 _ _ l0_2 t359 t360 t363 _ ?side1 ?side2 ?side3 ?side4 A100.out).mono ?_); (case side1 => exact uC ((Kd.C_below HR0_1.out HB.out))); (case side2 => exact HC0_1.out); (case side3 => exact uC ((Kd.C_below HR0_2.out HB.out))); (case side4 => exact HC0_2.out); rintro e w113 ⟨v361, v364, rfl, ho0, ho1, hb⟩; refine ⟨_, rfl, ?_⟩; have n0_ := zA (Kd.R_mono (Kd.R_told (Kd.R_told (Kd.R_old (uR HO_325001.out) hb) (Kd.R_base ho0)) (Kd.R_base ho1)) (fun _ h_ => h_.1)); have n1_ := zA (Kd.R_mono (Kd.R_told (Kd.R_told (Kd.R_old (uR HO_325002.out) hb) (Kd.R_base ho0)) (Kd.R_base ho1)) (fun _ h_ => h_.1)); have n2_ := zA (Kd.R_mono (Kd.R_told (Kd.R_told (Kd.R_old (uR HO_333001.out) hb) (Kd.R_base ho0)) (Kd.R_base ho1)) (fun _ h_ => h_.1)); have n3_ := zA (Kd.R_mono (Kd.R_told (Kd.R_told (Kd.R_old (uR HO_333002.out) hb) (Kd.R_base ho0)) (Kd.R_base ho1)) (fun _ h_ => h_.1)); have n4_ := zA (Kd.R_mono (Kd.R_told (Kd.R_told (Kd.R_old (uR HO_342001.out) hb) (Kd.R_base ho0)) (Kd.R_base ho1)) (fun _ h_ => h_.1)); have n5_ := zA (Kd.R_mono (Kd.R_told (Kd.R_told (Kd.R_old (uR HO_342002.out) hb) (Kd.R_base ho0)) (Kd.R_base ho1)) (fun _ h_ => h_.1)); have n6_ := zA (Kd.R_lower (Kd.R_new' (Kd.R_new' (Kd.R_new' (Kd.R_new' (Kd.R_new' (Kd.R_new' ho0 (Kd.R_lt (uR HO_325001.out))) (Kd.R_lt (uR HO_325002.out))) (Kd.R_lt (uR HO_333001.out))) (Kd.R_lt (uR HO_333002.out))) (Kd.R_lt (uR HO_342001.out))) (Kd.R_lt (uR HO_342002.out))) (below_size (uH HB.out))); have n7_ := zA (Kd.R_lower (Kd.R_new' (Kd.R_new' (Kd.R_new' (Kd.R_new' (Kd.R_new' (Kd.R_new' ho1 (Kd.R_lt (uR HO_325001.out))) (Kd.R_lt (uR HO_325002.out))) (Kd.R_lt (uR HO_333001.out))) (Kd.R_lt (uR HO_333002.out))) (Kd.R_lt (uR HO_342001.out))) (Kd.R_lt (uR HO_342002.out))) (below_size (uH HB.out))); have n8_ := xB BK307 hb; have n9_ := xB BK324 hb; have n10_ := xB BK332 hb; have n11_ := xB BK341 hb; have n12_ := xH HB hb; clear HO_325001 HO_325002 HO_333001 HO_333002 HO_342001 HO_342002 BK307 BK324 BK332 BK341 HB; have HO_325001 := n0_; have HO_325002 := n1_; have HO_333001 := n2_; have HO_333002 := n3_; have HO_342001 := n4_; have HO_342002 := n5_; have HO362 := n6_; have HO365 := n7_; have BK307 := n8_; have BK324 := n9_; have BK332 := n10_; have BK341 := n11_; have HB := n12_; clear n0_ n1_ n2_ n3_ n4_ n5_ n6_ n7_ n8_ n9_ n10_ n11_ n12_; (try clear hb); (try clear hb2); (try clear hk); (try clear hi); (try clear ho0); (try clear ho1); obtain ⟨Ao114, co114, eo114⟩ := Kd.R_slice HO362.out; subst eo114; obtain ⟨Ao115, co115, eo115⟩ := Kd.R_slice HO365.out; subst eo115) | ((with_reducible refine gate_callee (f := 23) rfl ?_); refine goesL_ (some 81) rfl rfl Try.func23 (by kernel_rfl) rfl #[.agg #[.int .i64 t359, .slice Ao114 t360.length co114, .slice Ao115 t363.length co115], .int .i64 a1] rfl (by (try simp only [List.map_toArray, List.map_cons, List.map_nil]); first | done | rfl | (simp only [List.length_drop, List.length_take]; rfl)) ?_; (with_reducible refine (impl_CutJacobi.calls kj64 t359 _ _ t360 _ _ t363 a1 t366 t367 t370 t373 _ ?side1 ?side2 ?side3 ?side4 A101.out).mono ?_); (case side1 => exact uC ((Kd.R_reads' HO362.out).2.2)); (case side2 => exact (Kd.R_reads' HO362.out).2.1); (case side3 => exact uC ((Kd.R_reads' HO365.out).2.2)); (case side4 => exact (Kd.R_reads' HO365.out).2.1); rintro e w116 ⟨v368, v371, rfl, ho0, ho1, hb⟩; refine ⟨_, rfl, ?_⟩; have n0_ := zA (Kd.R_mono (Kd.R_told (Kd.R_told (Kd.R_old (uR HO_325001.out) hb) (Kd.R_base ho0)) (Kd.R_base ho1)) (fun _ h_ => h_.1)); have n1_ := zA (Kd.R_mono (Kd.R_told (Kd.R_told (Kd.R_old (uR HO_325002.out) hb) (Kd.R_base ho0)) (Kd.R_base ho1)) (fun _ h_ => h_.1)); have n2_ := zA (Kd.R_mono (Kd.R_told (Kd.R_told (Kd.R_old (uR HO_333001.out) hb) (Kd.R_base ho0)) (Kd.R_base ho1)) (fun _ h_ => h_.1)); have n3_ := zA (Kd.R_mono (Kd.R_told (Kd.R_told (Kd.R_old (uR HO_333002.out) hb) (Kd.R_base ho0)) (Kd.R_base ho1)) (fun _ h_ => h_.1)); have n4_ := zA (Kd.R_mono (Kd.R_told (Kd.R_told (Kd.R_old (uR HO_342001.out) hb) (Kd.R_base ho0)) (Kd.R_base ho1)) (fun _ h_ => h_.1)); have n5_ := zA (Kd.R_mono (Kd.R_told (Kd.R_told (Kd.R_old (uR HO_342002.out) hb) (Kd.R_base ho0)) (Kd.R_base ho1)) (fun _ h_ => h_.1)); have n6_ := zA (Kd.R_mono (Kd.R_told (Kd.R_told (Kd.R_old (uR HO362.out) hb) (Kd.R_base ho0)) (Kd.R_base ho1)) (fun _ h_ => h_.1)); have n7_ := zA (Kd.R_mono (Kd.R_told (Kd.R_told (Kd.R_old (uR HO365.out) hb) (Kd.R_base ho0)) (Kd.R_base ho1)) (fun _ h_ => h_.1)); have n8_ := zA (Kd.R_lower (Kd.R_new' (Kd.R_new' (Kd.R_new' (Kd.R_new' (Kd.R_new' (Kd.R_new' (Kd.R_new' (Kd.R_new' ho0 (Kd.R_lt (uR HO_325001.out))) (Kd.R_lt (uR HO_325002.out))) (Kd.R_lt (uR HO_333001.out))) (Kd.R_lt (uR HO_333002.out))) (Kd.R_lt (uR HO_342001.out))) (Kd.R_lt (uR HO_342002.out))) (Kd.R_lt (uR HO362.out))) (Kd.R_lt (uR HO365.out))) (below_size (uH HB.out))); have n9_ := zA (Kd.R_lower (Kd.R_new' (Kd.R_new' (Kd.R_new' (Kd.R_new' (Kd.R_new' (Kd.R_new' (Kd.R_new' (Kd.R_new' ho1 (Kd.R_lt (uR HO_325001.out))) (Kd.R_lt (uR HO_325002.out))) (Kd.R_lt (uR HO_333001.out))) (Kd.R_lt (uR HO_333002.out))) (Kd.R_lt (uR HO_342001.out))) (Kd.R_lt (uR HO_342002.out))) (Kd.R_lt (uR HO362.out))) (Kd.R_lt (uR HO365.out))) (below_size (uH HB.out))); have n10_ := xB BK307 hb; have n11_ := xB BK324 hb; have n12_ := xB BK332 hb; have n13_ := xB BK341 hb; have n14_ := xH HB hb; clear HO_325001 HO_325002 HO_333001 HO_333002 HO_342001 HO_342002 HO362 HO365 BK307 BK324 BK332 BK341 HB; have HO_325001 := n0_; have HO_325002 := n1_; have HO_333001 := n2_; have HO_333002 := n3_; have HO_342001 := n4_; have HO_342002 := n5_; have HO362 := n6_; have HO365 := n7_; have HO369 := n8_; have HO372 := n9_; have BK307 := n10_; have BK324 := n11_; have BK332 := n12_; have BK341 := n13_; have HB := n14_; clear n0_ n1_ n2_ n3_ n4_ n5_ n6_ n7_ n8_ n9_ n10_ n11_ n12_ n13_ n14_; (try clear hb); (try clear hb2); (try clear hk); (try clear hi); (try clear ho0); (try clear ho1)) | ((with_reducible refine gate_dst (N := 14) rfl ?_); refine box_event ?hg (N := 14) ?hd (cs := #[.int .i64 0, .slice none 0 0, .slice none 0 0]) (t := 26) ?hr ?_; (case hd => rfl); (case hg => rfl); (case hr => first | (go_simp; done) | (go_simp; rfl)); intro gb374 hg w117 hbox hb; have n0_ := xR HO_325001 hb; have n1_ := xR HO_325002 hb; have n2_ := xR HO_333001 hb; have n3_ := xR HO_333002 hb; have n4_ := xR HO_342001 hb; have n5_ := xR HO_342002 hb; have n6_ := xR HO362 hb; have n7_ := xR HO365 hb; have n8_ := xR HO369 hb; have n9_ := xR HO372 hb; have n10_ := xB BK307 hb; have n11_ := xB BK324 hb; have n12_ := xB BK332 hb; have n13_ := xB BK341 hb; have n14_ := xH HB hb; have n15_ := zA (hbox); have n16_ := zA ((by rw [hg]; exact (below_size (uH HB.out)) : w.heap.size ≤ gb374)); have n17_ := zA ((by rw [hg]; exact (below_size (uH HB.out)) : w.heap.size ≤ gb374)); have n18_ := zA ((by rw [hg]; exact neL BK307 : gb307 ≠ gb374)); have n19_ := zA ((by rw [hg]; exact neG BK307 : gb374 ≠ gb307)); have n20_ := zA ((by rw [hg]; exact neL BK324 : gb324 ≠ gb374)); have n21_ := zA ((by rw [hg]; exact neG BK324 : gb374 ≠ gb324)); have n22_ := zA ((by rw [hg]; exact neL BK332 : gb332 ≠ gb374)); have n23_ := zA ((by rw [hg]; exact neG BK332 : gb374 ≠ gb332)); have n24_ := zA ((by rw [hg]; exact neL BK341 : gb341 ≠ gb374)); have n25_ := zA ((by rw [hg]; exact neG BK341 : gb374 ≠ gb341)); clear HO_325001 HO_325002 HO_333001 HO_333002 HO_342001 HO_342002 HO362 HO365 HO369 HO372 BK307 BK324 BK332 BK341 HB; have HO_325001 := n0_; have HO_325002 := n1_; have HO_333001 := n2_; have HO_333002 := n3_; have HO_342001 := n4_; have HO_342002 := n5_; have HO362 := n6_; have HO365 := n7_; have HO369 := n8_; have HO372 := n9_; have BK307 := n10_; have BK324 := n11_; have BK332 := n12_; have BK341 := n13_; have HB := n14_; have BK374 := n15_; have GW374 := n16_; have GE374 := n17_; have := geI GE374; have NB307_374 := n18_; have NB374_307 := n19_; have NB324_374 := n20_; have NB374_324 := n21_; have NB332_374 := n22_; have NB374_332 := n23_; have NB341_374 := n24_; have NB374_341 := n25_; clear n0_ n1_ n2_ n3_ n4_ n5_ n6_ n7_ n8_ n9_ n10_ n11_ n12_ n13_ n14_ n15_ n16_ n17_ n18_ n19_ n20_ n21_ n22_ n23_ n24_ n25_ hb hbox hg; have hnb118 := NB374_307.out; have hnc118 := NB307_374.out; have hnb119 := NB374_324.out; have hnc119 := NB324_374.out; have hnb120 := NB374_332.out; have hnc120 := NB332_374.out; have hnb121 := NB374_341.out; have hnc121 := NB341_374.out; have hcz122_0 : w117.cell? ⟨gb374, 0, none⟩ = some (.int .i64 0) := (blk_cell BK374.out 0).trans rfl; have hcz122_1 : w117.cell? ⟨gb374, 1, none⟩ = some (.slice none 0 0) := (blk_cell BK374.out 1).trans rfl; have hcz122_2 : w117.cell? ⟨gb374, 2, none⟩ = some (.slice none 0 0) := (blk_cell BK374.out 2).trans rfl; have hfz122_0 := blk_frozen BK374.out 0; have hfz122_1 := blk_frozen BK374.out 1; have hfz122_2 := blk_frozen BK374.out 2; obtain ⟨Ao123, co123, eo123⟩ := Kd.R_slice HO369.out; subst eo123; obtain ⟨Ao124, co124, eo124⟩ := Kd.R_slice HO372.out; subst eo124))
           (try simp only [Act.put, List.setIfInBounds_toArray, List.set_cons_zero, List.set_cons_succ])
           go_cut [92] (fun v92 wc => ∃ (kq : Nat) (x92_101 : Bool), v92 = .bool x92_101 ∧ Aside0 (laws_FnExactCutJacobi.j2 kq t355 x92_101 t333 t356 t357 = some r) ∧ Aside0 (kq ≤ kj64) ∧ Aside0 (Kd.R (Kd.int .i64) 2 wc w.heap.size (fun k_ => some k_ ≠ ((.slice Ao25 t320.length co25) : Value).ownBlock ∧ some k_ ≠ ((.slice Ao32 t352.length co32) : Value).ownBlock ∧ some k_ ≠ ((.slice Ao33 t353.length co33) : Value).ownBlock ∧ some k_ ≠ ((.slice Ao40 t334.length co40) : Value).ownBlock ∧ some k_ ≠ ((.slice Ao41 t337.length co41) : Value).ownBlock ∧ some k_ ≠ ((.slice Ao123 t367.length co123) : Value).ownBlock ∧ some k_ ≠ ((.slice Ao124 t370.length co124) : Value).ownBlock) (.slice Ao24 t317.length co24) t317) ∧ Aside0 (Kd.R (Kd.int .i64) 2 wc w.heap.size (fun k_ => some k_ ≠ ((.slice Ao24 t317.length co24) : Value).ownBlock ∧ some k_ ≠ ((.slice Ao32 t352.length co32) : Value).ownBlock ∧ some k_ ≠ ((.slice Ao33 t353.length co33) : Value).ownBlock ∧ some k_ ≠ ((.slice Ao40 t334.length co40) : Value).ownBlock ∧ some k_ ≠ ((.slice Ao41 t337.length co41) : Value).ownBlock ∧ some k_ ≠ ((.slice Ao123 t367.length co123) : Value).ownBlock ∧ some k_ ≠ ((.slice Ao124 t370.length co124) : Value).ownBlock) (.slice Ao25 t320.length co25) t320) ∧ Aside0 (Kd.R (Kd.int .i64) 2 wc w.heap.size (fun k_ => some k_ ≠ ((.slice Ao24 t317.length co24) : Value).ownBlock ∧ some k_ ≠ ((.slice Ao25 t320.length co25) : Value).ownBlock ∧ some k_ ≠ ((.slice Ao33 t353.length co33) : Value).ownBlock ∧ some k_ ≠ ((.slice Ao40 t334.length co40) : Value).ownBlock ∧ some k_ ≠ ((.slice Ao41 t337.length co41) : Value).ownBlock ∧ some k_ ≠ ((.slice Ao123 t367.length co123) : Value).ownBlock ∧ some k_ ≠ ((.slice Ao124 t370.length co124) : Value).ownBlock) (.slice Ao32 t352.length co32) t352) ∧ Aside0 (Kd.R (Kd.int .i64) 2 wc w.heap.size (fun k_ => some k_ ≠ ((.slice Ao24 t317.length co24) : Value).ownBlock ∧ some k_ ≠ ((.slice Ao25 t320.length co25) : Value).ownBlock ∧ some k_ ≠ ((.slice Ao32 t352.length co32) : Value).ownBlock ∧ some k_ ≠ ((.slice Ao40 t334.length co40) : Value).ownBlock ∧ some k_ ≠ ((.slice Ao41 t337.length co41) : Value).ownBlock ∧ some k_ ≠ ((.slice Ao123 t367.length co123) : Value).ownBlock ∧ some k_ ≠ ((.slice Ao124 t370.length co124) : Value).ownBlock) (.slice Ao33 t353.length co33) t353) ∧ Aside0 (Kd.R (Kd.int .i64) 2 wc w.heap.size (fun k_ => some k_ ≠ ((.slice Ao24 t317.length co24) : Value).ownBlock ∧ some k_ ≠ ((.slice Ao25 t320.length co25) : Value).ownBlock ∧ some k_ ≠ ((.slice Ao32 t352.length co32) : Value).ownBlock ∧ some k_ ≠ ((.slice Ao33 t353.length co33) : Value).ownBlock ∧ some k_ ≠ ((.slice Ao41 t337.length co41) : Value).ownBlock ∧ some k_ ≠ ((.slice Ao123 t367.length co123) : Value).ownBlock ∧ some k_ ≠ ((.slice Ao124 t370.length co124) : Value).ownBlock) (.slice Ao40 t334.length co40) t356) ∧ Aside0 (Kd.R (Kd.int .i64) 2 wc w.heap.size (fun k_ => some k_ ≠ ((.slice Ao24 t317.length co24) : Value).ownBlock ∧ some k_ ≠ ((.slice Ao25 t320.length co25) : Value).ownBlock ∧ some k_ ≠ ((.slice Ao32 t352.length co32) : Value).ownBlock ∧ some k_ ≠ ((.slice Ao33 t353.length co33) : Value).ownBlock ∧ some k_ ≠ ((.slice Ao40 t334.length co40) : Value).ownBlock ∧ some k_ ≠ ((.slice Ao123 t367.length co123) : Value).ownBlock ∧ some k_ ≠ ((.slice Ao124 t370.length co124) : Value).ownBlock) (.slice Ao41 t337.length co41) t357) ∧ Aside0 (Kd.R (Kd.int .i64) 2 wc w.heap.size (fun k_ => some k_ ≠ ((.slice Ao24 t317.length co24) : Value).ownBlock ∧ some k_ ≠ ((.slice Ao25 t320.length co25) : Value).ownBlock ∧ some k_ ≠ ((.slice Ao32 t352.length co32) : Value).ownBlock ∧ some k_ ≠ ((.slice Ao33 t353.length co33) : Value).ownBlock ∧ some k_ ≠ ((.slice Ao40 t334.length co40) : Value).ownBlock ∧ some k_ ≠ ((.slice Ao41 t337.length co41) : Value).ownBlock ∧ some k_ ≠ ((.slice Ao124 t370.length co124) : Value).ownBlock) (.slice Ao123 t367.length co123) t367) ∧ Aside0 (Kd.R (Kd.int .i64) 2 wc w.heap.size (fun k_ => some k_ ≠ ((.slice Ao24 t317.length co24) : Value).ownBlock ∧ some k_ ≠ ((.slice Ao25 t320.length co25) : Value).ownBlock ∧ some k_ ≠ ((.slice Ao32 t352.length co32) : Value).ownBlock ∧ some k_ ≠ ((.slice Ao33 t353.length co33) : Value).ownBlock ∧ some k_ ≠ ((.slice Ao40 t334.length co40) : Value).ownBlock ∧ some k_ ≠ ((.slice Ao41 t337.length co41) : Value).ownBlock ∧ some k_ ≠ ((.slice Ao123 t367.length co123) : Value).ownBlock) (.slice Ao124 t370.length co124) t370) ∧ Aside0 (wc.heap[gb307]? = some (.cells #[.int .i64 a0_0, (.slice A0_1 l0_1.length c0_1), (.slice A0_2 l0_2.length c0_2)] 24 (0, 0))) ∧ Aside0 (wc.heap[gb324]? = some (.cells #[.int .i64 t316, (.slice Ao24 t317.length co24), (.slice Ao25 t320.length co25)] 26 (0, 0))) ∧ Aside0 (wc.heap[gb332]? = some (.cells #[.int .i64 t325, (.slice Ao32 t352.length co32), (.slice Ao33 t353.length co33)] 26 (0, 0))) ∧ Aside0 (wc.heap[gb341]? = some (.cells #[.int .i64 t333, (.slice Ao40 t334.length co40), (.slice Ao41 t337.length co41)] 26 (0, 0))) ∧ Aside0 (wc.heap[gb374]? = some (.cells #[.int .i64 t366, (.slice Ao123 t367.length co123), (.slice Ao124 t370.length co124)] 26 (0, 0))) ∧ Aside0 (Below w.heap.size w wc))
           case first =>
            have H := HC102.out
            clear HC102
            replace H := Option.bind_eq_some_iff.mp H
            obtain ⟨t375, A1250, H⟩ := H
            replace H : (if t375 = true then (laws_FnExactCutJacobi.j2 kj64 t355 (t373 != t323) t333 t356 t357) else (laws_FnExactCutJacobi.j2 kj64 t355 true t333 t356 t357)) = some r := H
            have A125 := zA A1250
            clear A1250
            by_cases c126 : t375 = true
            ·subst c126
             have H1 : (laws_FnExactCutJacobi.j2 kj64 t355 (t373 != t323) t333 t356 t357) = some r := by rw [if_pos rfl] at H; exact H
             clear H
             have H := H1
             clear H1
             have H' := zA H
             clear H
             have hnb127 := NB374_307.out; have hnc127 := NB307_374.out; have hnb128 := NB374_324.out; have hnc128 := NB324_374.out; have hnb129 := NB374_332.out; have hnc129 := NB332_374.out; have hnb130 := NB374_341.out; have hnc130 := NB341_374.out
             have hcz131_0 : w117.cell? ⟨gb374, 0, none⟩ = some (.int .i64 0) := (blk_cell BK374.out 0).trans rfl
             have hcz131_1 : w117.cell? ⟨gb374, 1, none⟩ = some (.slice none 0 0) := (blk_cell BK374.out 1).trans rfl
             have hcz131_2 : w117.cell? ⟨gb374, 2, none⟩ = some (.slice none 0 0) := (blk_cell BK374.out 2).trans rfl
             have hfz131_0 := blk_frozen BK374.out 0
             have hfz131_1 := blk_frozen BK374.out 1
             have hfz131_2 := blk_frozen BK374.out 2
             have hnb132 := NB324_307.out; have hnc132 := NB307_324.out; have hnb133 := NB324_332.out; have hnc133 := NB332_324.out; have hnb134 := NB324_341.out; have hnc134 := NB341_324.out
             have hcz135_0 : w117.cell? ⟨gb324, 0, none⟩ = some (.int .i64 t316) := (blk_cell BK324.out 0).trans rfl
             have hcz135_1 : w117.cell? ⟨gb324, 1, none⟩ = some (.slice Ao24 t317.length co24) := (blk_cell BK324.out 1).trans rfl
             have hcz135_2 : w117.cell? ⟨gb324, 2, none⟩ = some (.slice Ao25 t320.length co25) := (blk_cell BK324.out 2).trans rfl
             have hfz135_0 := blk_frozen BK324.out 0
             have hfz135_1 := blk_frozen BK324.out 1
             have hfz135_2 := blk_frozen BK324.out 2
             go_wp2_with (first | ((with_reducible refine gate_callee (f := 19) rfl ?_); refine goesL_ (some 86) rfl rfl Try.func19 (by kernel_rfl) rfl #[.agg #[.int .i64 t366, .slice Ao123 t367.length co123, .slice Ao124 t370.length co124], .agg #[.int .i64 t316, .slice Ao24 t317.length co24, .slice Ao25 t320.length co25]] rfl (by (try simp only [List.map_toArray, List.map_cons, List.map_nil]); first | done | rfl | (simp only [List.length_drop, List.length_take]; rfl)) ?_; (with_reducible refine (laws_eqJacobi.calls kj64 t366 _ _ t367 _ _ t370 t316 _ _ t317 _ _ t320 true _ ?side1 ?side2 ?side3 ?side4 ?side5 ?side6 ?side7 ?side8 A125.out).mono ?_); (case side1 => refine (Kd.R_reads' (e := 2) (base := w.heap.size) (ok := fun k_ => ((((((((some k_ ≠ (.slice Ao124 t370.length co124 : Value).ownBlock ∧ some k_ ≠ (.slice Ao24 t317.length co24 : Value).ownBlock) ∧ some k_ ≠ (.slice Ao25 t320.length co25 : Value).ownBlock) ∧ some k_ ≠ (.slice Ao32 t352.length co32 : Value).ownBlock) ∧ some k_ ≠ (.slice Ao33 t353.length co33 : Value).ownBlock) ∧ some k_ ≠ (.slice Ao40 t334.length co40 : Value).ownBlock) ∧ some k_ ≠ (.slice Ao41 t337.length co41 : Value).ownBlock) ∧ some k_ ≠ (.slice Ao114 t360.length co114 : Value).ownBlock) ∧ some k_ ≠ (.slice Ao115 t363.length co115 : Value).ownBlock)) (n := t367.length) (c := co123) ?_).2.2; exact (uR ((Kd.R_mono (Kd.R_far (p := ⟨gb374, 2, none⟩) (Kd.R_far (p := ⟨gb374, 1, none⟩) (Kd.R_far (p := ⟨gb374, 0, none⟩) (Kd.R_types HO369.out BK374.out (by decide)) (fun _ hk => hk.2) (.int .i64 t366)) (fun _ hk => hk.2) (.slice Ao123 t367.length co123)) (fun _ hk => hk.2) (.slice Ao124 t370.length co124)) (fun _ h_ => h_.1))))); (case side2 => exact (Kd.R_reads' HO369.out).2.1); (case side3 => refine (Kd.R_reads' (e := 2) (base := w.heap.size) (ok := fun k_ => ((((((((some k_ ≠ (.slice Ao123 t367.length co123 : Value).ownBlock ∧ some k_ ≠ (.slice Ao24 t317.length co24 : Value).ownBlock) ∧ some k_ ≠ (.slice Ao25 t320.length co25 : Value).ownBlock) ∧ some k_ ≠ (.slice Ao32 t352.length co32 : Value).ownBlock) ∧ some k_ ≠ (.slice Ao33 t353.length co33 : Value).ownBlock) ∧ some k_ ≠ (.slice Ao40 t334.length co40 : Value).ownBlock) ∧ some k_ ≠ (.slice Ao41 t337.length co41 : Value).ownBlock) ∧ some k_ ≠ (.slice Ao114 t360.length co114 : Value).ownBlock) ∧ some k_ ≠ (.slice Ao115 t363.length co115 : Value).ownBlock)) (n := t370.length) (c := co124) ?_).2.2; exact (uR ((Kd.R_mono (Kd.R_far (p := ⟨gb374, 2, none⟩) (Kd.R_far (p := ⟨gb374, 1, none⟩) (Kd.R_far (p := ⟨gb374, 0, none⟩) (Kd.R_types HO372.out BK374.out (by decide)) (fun _ hk => hk.2) (.int .i64 t366)) (fun _ hk => hk.2) (.slice Ao123 t367.length co123)) (fun _ hk => hk.2) (.slice Ao124 t370.length co124)) (fun _ h_ => h_.1))))); (case side4 => exact (Kd.R_reads' HO372.out).2.1); (case side5 => refine (Kd.R_reads' (e := 2) (base := w.heap.size) (ok := fun k_ => (((((some k_ ≠ (.slice Ao25 t320.length co25 : Value).ownBlock ∧ (some k_ ≠ (.slice Ao32 t352.length co32 : Value).ownBlock ∧ (some k_ ≠ (.slice Ao33 t353.length co33 : Value).ownBlock ∧ (some k_ ≠ (.slice Ao40 t334.length co40 : Value).ownBlock ∧ some k_ ≠ (.slice Ao41 t337.length co41 : Value).ownBlock)))) ∧ some k_ ≠ (.slice Ao114 t360.length co114 : Value).ownBlock) ∧ some k_ ≠ (.slice Ao115 t363.length co115 : Value).ownBlock) ∧ some k_ ≠ (.slice Ao123 t367.length co123 : Value).ownBlock) ∧ some k_ ≠ (.slice Ao124 t370.length co124 : Value).ownBlock)) (n := t317.length) (c := co24) ?_).2.2; exact (uR ((Kd.R_mono (Kd.R_far (p := ⟨gb374, 2, none⟩) (Kd.R_far (p := ⟨gb374, 1, none⟩) (Kd.R_far (p := ⟨gb374, 0, none⟩) (Kd.R_types HO_325001.out BK374.out (by decide)) (fun _ hk => hk.2) (.int .i64 t366)) (fun _ hk => hk.2) (.slice Ao123 t367.length co123)) (fun _ hk => hk.2) (.slice Ao124 t370.length co124)) (fun _ h_ => h_.1))))); (case side6 => exact (Kd.R_reads' HO_325001.out).2.1); (case side7 => refine (Kd.R_reads' (e := 2) (base := w.heap.size) (ok := fun k_ => (((((some k_ ≠ (.slice Ao24 t317.length co24 : Value).ownBlock ∧ (some k_ ≠ (.slice Ao32 t352.length co32 : Value).ownBlock ∧ (some k_ ≠ (.slice Ao33 t353.length co33 : Value).ownBlock ∧ (some k_ ≠ (.slice Ao40 t334.length co40 : Value).ownBlock ∧ some k_ ≠ (.slice Ao41 t337.length co41 : Value).ownBlock)))) ∧ some k_ ≠ (.slice Ao114 t360.length co114 : Value).ownBlock) ∧ some k_ ≠ (.slice Ao115 t363.length co115 : Value).ownBlock) ∧ some k_ ≠ (.slice Ao123 t367.length co123 : Value).ownBlock) ∧ some k_ ≠ (.slice Ao124 t370.length co124 : Value).ownBlock)) (n := t320.length) (c := co25) ?_).2.2; exact (uR ((Kd.R_mono (Kd.R_far (p := ⟨gb374, 2, none⟩) (Kd.R_far (p := ⟨gb374, 1, none⟩) (Kd.R_far (p := ⟨gb374, 0, none⟩) (Kd.R_types HO_325002.out BK374.out (by decide)) (fun _ hk => hk.2) (.int .i64 t366)) (fun _ hk => hk.2) (.slice Ao123 t367.length co123)) (fun _ hk => hk.2) (.slice Ao124 t370.length co124)) (fun _ h_ => h_.1))))); (case side8 => exact (Kd.R_reads' HO_325002.out).2.1); rintro e w136 ⟨rfl, hb⟩; refine ⟨_, rfl, ?_⟩; have n0_ := zA (Kd.R_below (uR ((Kd.R_mono (Kd.R_far (p := ⟨gb374, 2, none⟩) (Kd.R_far (p := ⟨gb374, 1, none⟩) (Kd.R_far (p := ⟨gb374, 0, none⟩) (Kd.R_types HO_325001.out BK374.out (by decide)) (fun _ hk => hk.2) (.int .i64 t366)) (fun _ hk => hk.2) (.slice Ao123 t367.length co123)) (fun _ hk => hk.2) (.slice Ao124 t370.length co124)) (fun _ h_ => h_.1)))) hb); have n1_ := zA (Kd.R_below (uR ((Kd.R_mono (Kd.R_far (p := ⟨gb374, 2, none⟩) (Kd.R_far (p := ⟨gb374, 1, none⟩) (Kd.R_far (p := ⟨gb374, 0, none⟩) (Kd.R_types HO_325002.out BK374.out (by decide)) (fun _ hk => hk.2) (.int .i64 t366)) (fun _ hk => hk.2) (.slice Ao123 t367.length co123)) (fun _ hk => hk.2) (.slice Ao124 t370.length co124)) (fun _ h_ => h_.1)))) hb); have n2_ := zA (Kd.R_below (uR ((Kd.R_mono (Kd.R_far (p := ⟨gb374, 2, none⟩) (Kd.R_far (p := ⟨gb374, 1, none⟩) (Kd.R_far (p := ⟨gb374, 0, none⟩) (Kd.R_types HO_333001.out BK374.out (by decide)) (fun _ hk => hk.2) (.int .i64 t366)) (fun _ hk => hk.2) (.slice Ao123 t367.length co123)) (fun _ hk => hk.2) (.slice Ao124 t370.length co124)) (fun _ h_ => h_.1)))) hb); have n3_ := zA (Kd.R_below (uR ((Kd.R_mono (Kd.R_far (p := ⟨gb374, 2, none⟩) (Kd.R_far (p := ⟨gb374, 1, none⟩) (Kd.R_far (p := ⟨gb374, 0, none⟩) (Kd.R_types HO_333002.out BK374.out (by decide)) (fun _ hk => hk.2) (.int .i64 t366)) (fun _ hk => hk.2) (.slice Ao123 t367.length co123)) (fun _ hk => hk.2) (.slice Ao124 t370.length co124)) (fun _ h_ => h_.1)))) hb); have n4_ := zA (Kd.R_below (uR ((Kd.R_mono (Kd.R_far (p := ⟨gb374, 2, none⟩) (Kd.R_far (p := ⟨gb374, 1, none⟩) (Kd.R_far (p := ⟨gb374, 0, none⟩) (Kd.R_types HO_342001.out BK374.out (by decide)) (fun _ hk => hk.2) (.int .i64 t366)) (fun _ hk => hk.2) (.slice Ao123 t367.length co123)) (fun _ hk => hk.2) (.slice Ao124 t370.length co124)) (fun _ h_ => h_.1)))) hb); have n5_ := zA (Kd.R_below (uR ((Kd.R_mono (Kd.R_far (p := ⟨gb374, 2, none⟩) (Kd.R_far (p := ⟨gb374, 1, none⟩) (Kd.R_far (p := ⟨gb374, 0, none⟩) (Kd.R_types HO_342002.out BK374.out (by decide)) (fun _ hk => hk.2) (.int .i64 t366)) (fun _ hk => hk.2) (.slice Ao123 t367.length co123)) (fun _ hk => hk.2) (.slice Ao124 t370.length co124)) (fun _ h_ => h_.1)))) hb); have n6_ := zA (Kd.R_below (uR ((Kd.R_mono (Kd.R_far (p := ⟨gb374, 2, none⟩) (Kd.R_far (p := ⟨gb374, 1, none⟩) (Kd.R_far (p := ⟨gb374, 0, none⟩) (Kd.R_types HO362.out BK374.out (by decide)) (fun _ hk => hk.2) (.int .i64 t366)) (fun _ hk => hk.2) (.slice Ao123 t367.length co123)) (fun _ hk => hk.2) (.slice Ao124 t370.length co124)) (fun _ h_ => h_.1)))) hb); have n7_ := zA (Kd.R_below (uR ((Kd.R_mono (Kd.R_far (p := ⟨gb374, 2, none⟩) (Kd.R_far (p := ⟨gb374, 1, none⟩) (Kd.R_far (p := ⟨gb374, 0, none⟩) (Kd.R_types HO365.out BK374.out (by decide)) (fun _ hk => hk.2) (.int .i64 t366)) (fun _ hk => hk.2) (.slice Ao123 t367.length co123)) (fun _ hk => hk.2) (.slice Ao124 t370.length co124)) (fun _ h_ => h_.1)))) hb); have n8_ := zA (Kd.R_below (uR ((Kd.R_mono (Kd.R_far (p := ⟨gb374, 2, none⟩) (Kd.R_far (p := ⟨gb374, 1, none⟩) (Kd.R_far (p := ⟨gb374, 0, none⟩) (Kd.R_types HO369.out BK374.out (by decide)) (fun _ hk => hk.2) (.int .i64 t366)) (fun _ hk => hk.2) (.slice Ao123 t367.length co123)) (fun _ hk => hk.2) (.slice Ao124 t370.length co124)) (fun _ h_ => h_.1)))) hb); have n9_ := zA (Kd.R_below (uR ((Kd.R_mono (Kd.R_far (p := ⟨gb374, 2, none⟩) (Kd.R_far (p := ⟨gb374, 1, none⟩) (Kd.R_far (p := ⟨gb374, 0, none⟩) (Kd.R_types HO372.out BK374.out (by decide)) (fun _ hk => hk.2) (.int .i64 t366)) (fun _ hk => hk.2) (.slice Ao123 t367.length co123)) (fun _ hk => hk.2) (.slice Ao124 t370.length co124)) (fun _ h_ => h_.1)))) hb); have n10_ := zA (blk_below (g := gb307) (o := .cells #[.int .i64 a0_0, .slice A0_1 l0_1.length c0_1, .slice A0_2 l0_2.length c0_2] 24 (0, 0)) (by (with_reducible repeat (first | refine blk_drewN ?_ _ | refine blk_drew ?_ | refine blk_alloc ?_ _)); refine blk_far ?_ NB307_374.out _; (with_reducible repeat (first | refine blk_drewN ?_ _ | refine blk_drew ?_ | refine blk_alloc ?_ _)); refine blk_far ?_ NB307_374.out _; (with_reducible repeat (first | refine blk_drewN ?_ _ | refine blk_drew ?_ | refine blk_alloc ?_ _)); refine blk_far ?_ NB307_374.out _; (with_reducible repeat (first | refine blk_drewN ?_ _ | refine blk_drew ?_ | refine blk_alloc ?_ _)); exact BK307.out) hb); have n11_ := zA (blk_below (g := gb324) (o := .cells #[.int .i64 t316, .slice Ao24 t317.length co24, .slice Ao25 t320.length co25] 26 (0, 0)) (by (with_reducible repeat (first | refine blk_drewN ?_ _ | refine blk_drew ?_ | refine blk_alloc ?_ _)); refine blk_far ?_ NB324_374.out _; (with_reducible repeat (first | refine blk_drewN ?_ _ | refine blk_drew ?_ | refine blk_alloc ?_ _)); refine blk_far ?_ NB324_374.out _; (with_reducible repeat (first | refine blk_drewN ?_ _ | refine blk_drew ?_ | refine blk_alloc ?_ _)); refine blk_far ?_ NB324_374.out _; (with_reducible repeat (first | refine blk_drewN ?_ _ | refine blk_drew ?_ | refine blk_alloc ?_ _)); exact BK324.out) hb); have n12_ := zA (blk_below (g := gb332) (o := .cells #[.int .i64 t325, .slice Ao32 t352.length co32, .slice Ao33 t353.length co33] 26 (0, 0)) (by (with_reducible repeat (first | refine blk_drewN ?_ _ | refine blk_drew ?_ | refine blk_alloc ?_ _)); refine blk_far ?_ NB332_374.out _; (with_reducible repeat (first | refine blk_drewN ?_ _ | refine blk_drew ?_ | refine blk_alloc ?_ _)); refine blk_far ?_ NB332_374.out _; (with_reducible repeat (first | refine blk_drewN ?_ _ | refine blk_drew ?_ | refine blk_alloc ?_ _)); refine blk_far ?_ NB332_374.out _; (with_reducible repeat (first | refine blk_drewN ?_ _ | refine blk_drew ?_ | refine blk_alloc ?_ _)); exact BK332.out) hb); have n13_ := zA (blk_below (g := gb341) (o := .cells #[.int .i64 t333, .slice Ao40 t334.length co40, .slice Ao41 t337.length co41] 26 (0, 0)) (by (with_reducible repeat (first | refine blk_drewN ?_ _ | refine blk_drew ?_ | refine blk_alloc ?_ _)); refine blk_far ?_ NB341_374.out _; (with_reducible repeat (first | refine blk_drewN ?_ _ | refine blk_drew ?_ | refine blk_alloc ?_ _)); refine blk_far ?_ NB341_374.out _; (with_reducible repeat (first | refine blk_drewN ?_ _ | refine blk_drew ?_ | refine blk_alloc ?_ _)); refine blk_far ?_ NB341_374.out _; (with_reducible repeat (first | refine blk_drewN ?_ _ | refine blk_drew ?_ | refine blk_alloc ?_ _)); exact BK341.out) hb); have n14_ := zA (blk_below (g := gb374) (o := .cells #[.int .i64 t366, .slice Ao123 t367.length co123, .slice Ao124 t370.length co124] 26 (0, 0)) (by (with_reducible repeat (first | refine blk_drewN ?_ _ | refine blk_drew ?_ | refine blk_alloc ?_ _)); refine blk_put (cs := #[.int .i64 t366, .slice Ao123 t367.length co123, .slice none 0 0]) ?_ 2 _ rfl; (with_reducible repeat (first | refine blk_drewN ?_ _ | refine blk_drew ?_ | refine blk_alloc ?_ _)); refine blk_put (cs := #[.int .i64 t366, .slice none 0 0, .slice none 0 0]) ?_ 1 _ rfl; (with_reducible repeat (first | refine blk_drewN ?_ _ | refine blk_drew ?_ | refine blk_alloc ?_ _)); refine blk_put (cs := #[.int .i64 0, .slice none 0 0, .slice none 0 0]) ?_ 0 _ rfl; (with_reducible repeat (first | refine blk_drewN ?_ _ | refine blk_drew ?_ | refine blk_alloc ?_ _)); exact BK374.out) hb); have n15_ := xH HB hb; clear HO_325001 HO_325002 HO_333001 HO_333002 HO_342001 HO_342002 HO362 HO365 HO369 HO372 BK307 BK324 BK332 BK341 BK374 HB; have HO_325001 := n0_; have HO_325002 := n1_; have HO_333001 := n2_; have HO_333002 := n3_; have HO_342001 := n4_; have HO_342002 := n5_; have HO362 := n6_; have HO365 := n7_; have HO369 := n8_; have HO372 := n9_; have BK307 := n10_; have BK324 := n11_; have BK332 := n12_; have BK341 := n13_; have BK374 := n14_; have HB := n15_; clear n0_ n1_ n2_ n3_ n4_ n5_ n6_ n7_ n8_ n9_ n10_ n11_ n12_ n13_ n14_ n15_; (try clear hb); (try clear hb2); (try clear hk); (try clear hi)))
             go_meet
             case rel => exact ⟨_, ((t373 != t323)), (by first | rfl | (simp; done) | (simp [*]; done)), H', ⟨by have := HJ11.out; have := HJ64.out; first | omega | exact Nat.le_refl _⟩, ⟨by (try simp only [hl333001_64]); (try simp only [hl333002_64]); (with_reducible repeat (first | apply Kd.R_alloc | apply Kd.R_drewN | apply Kd.R_drew)); exact Kd.R_mono HO_325001.out (fun _ hk => ⟨hk.1.1.1.1.1, ⟨hk.1.1.1.1.2.1, ⟨hk.1.1.1.1.2.2.1, ⟨hk.1.1.1.1.2.2.2.1, ⟨hk.1.1.1.1.2.2.2.2, ⟨hk.1.2, hk.2⟩⟩⟩⟩⟩⟩)⟩, ⟨by (try simp only [hl333001_64]); (try simp only [hl333002_64]); (with_reducible repeat (first | apply Kd.R_alloc | apply Kd.R_drewN | apply Kd.R_drew)); exact Kd.R_mono HO_325002.out (fun _ hk => ⟨hk.1.1.1.1.1, ⟨hk.1.1.1.1.2.1, ⟨hk.1.1.1.1.2.2.1, ⟨hk.1.1.1.1.2.2.2.1, ⟨hk.1.1.1.1.2.2.2.2, ⟨hk.1.2, hk.2⟩⟩⟩⟩⟩⟩)⟩, ⟨by (try simp only [hl333001_64]); (try simp only [hl333002_64]); (with_reducible repeat (first | apply Kd.R_alloc | apply Kd.R_drewN | apply Kd.R_drew)); exact Kd.R_mono HO_333001.out (fun _ hk => ⟨hk.1.1.1.1.1, ⟨hk.1.1.1.1.2.1, ⟨hk.1.1.1.1.2.2.1, ⟨hk.1.1.1.1.2.2.2.1, ⟨hk.1.1.1.1.2.2.2.2, ⟨hk.1.2, hk.2⟩⟩⟩⟩⟩⟩)⟩, ⟨by (try simp only [hl333001_64]); (try simp only [hl333002_64]); (with_reducible repeat (first | apply Kd.R_alloc | apply Kd.R_drewN | apply Kd.R_drew)); exact Kd.R_mono HO_333002.out (fun _ hk => ⟨hk.1.1.1.1.1, ⟨hk.1.1.1.1.2.1, ⟨hk.1.1.1.1.2.2.1, ⟨hk.1.1.1.1.2.2.2.1, ⟨hk.1.1.1.1.2.2.2.2, ⟨hk.1.2, hk.2⟩⟩⟩⟩⟩⟩)⟩, ⟨by (try simp only [hl333001_64]); (try simp only [hl333002_64]); (with_reducible repeat (first | apply Kd.R_alloc | apply Kd.R_drewN | apply Kd.R_drew)); exact Kd.R_mono HO_342001.out (fun _ hk => ⟨hk.1.1.1.1.1, ⟨hk.1.1.1.1.2.1, ⟨hk.1.1.1.1.2.2.1, ⟨hk.1.1.1.1.2.2.2.1, ⟨hk.1.1.1.1.2.2.2.2, ⟨hk.1.2, hk.2⟩⟩⟩⟩⟩⟩)⟩, ⟨by (try simp only [hl333001_64]); (try simp only [hl333002_64]); (with_reducible repeat (first | apply Kd.R_alloc | apply Kd.R_drewN | apply Kd.R_drew)); exact Kd.R_mono HO_342002.out (fun _ hk => ⟨hk.1.1.1.1.1, ⟨hk.1.1.1.1.2.1, ⟨hk.1.1.1.1.2.2.1, ⟨hk.1.1.1.1.2.2.2.1, ⟨hk.1.1.1.1.2.2.2.2, ⟨hk.1.2, hk.2⟩⟩⟩⟩⟩⟩)⟩, ⟨by (try simp only [hl333001_64]); (try simp only [hl333002_64]); (with_reducible repeat (first | apply Kd.R_alloc | apply Kd.R_drewN | apply Kd.R_drew)); exact Kd.R_mono HO369.out (fun _ hk => ⟨hk.1.1.1.1.1.1.1.2, ⟨hk.1.1.1.1.1.1.2, ⟨hk.1.1.1.1.1.2, ⟨hk.1.1.1.1.2, ⟨hk.1.1.1.2, ⟨hk.1.1.2, hk.1.1.1.1.1.1.1.1⟩⟩⟩⟩⟩⟩)⟩, ⟨by (try simp only [hl333001_64]); (try simp only [hl333002_64]); (with_reducible repeat (first | apply Kd.R_alloc | apply Kd.R_drewN | apply Kd.R_drew)); exact Kd.R_mono HO372.out (fun _ hk => ⟨hk.1.1.1.1.1.1.1.2, ⟨hk.1.1.1.1.1.1.2, ⟨hk.1.1.1.1.1.2, ⟨hk.1.1.1.1.2, ⟨hk.1.1.1.2, ⟨hk.1.1.2, hk.1.1.1.1.1.1.1.1⟩⟩⟩⟩⟩⟩)⟩, ⟨by (try simp only [hl333001_64]); (try simp only [hl333002_64]); (with_reducible repeat (first | refine blk_drewN ?_ _ | refine blk_drew ?_ | refine blk_alloc ?_ _)); exact BK307.out⟩, ⟨by (try simp only [hl333001_64]); (try simp only [hl333002_64]); (with_reducible repeat (first | refine blk_drewN ?_ _ | refine blk_drew ?_ | refine blk_alloc ?_ _)); exact BK324.out⟩, ⟨by (try simp only [hl333001_64]); (try simp only [hl333002_64]); (with_reducible repeat (first | refine blk_drewN ?_ _ | refine blk_drew ?_ | refine blk_alloc ?_ _)); exact BK332.out⟩, ⟨by (try simp only [hl333001_64]); (try simp only [hl333002_64]); (with_reducible repeat (first | refine blk_drewN ?_ _ | refine blk_drew ?_ | refine blk_alloc ?_ _)); exact BK341.out⟩, ⟨by (try simp only [hl333001_64]); (try simp only [hl333002_64]); (with_reducible repeat (first | refine blk_drewN ?_ _ | refine blk_drew ?_ | refine blk_alloc ?_ _)); exact BK374.out⟩, ⟨uH HB.out⟩⟩
            ·replace c126 := Bool.eq_false_iff.mpr c126
             subst c126
             have H1 : (laws_FnExactCutJacobi.j2 kj64 t355 true t333 t356 t357) = some r := by rw [if_neg (show ¬ (false = true) by decide)] at H; exact H
             clear H
             have H := H1
             clear H1
             have H' := zA H
             clear H
             have hnb137 := NB374_307.out; have hnc137 := NB307_374.out; have hnb138 := NB374_324.out; have hnc138 := NB324_374.out; have hnb139 := NB374_332.out; have hnc139 := NB332_374.out; have hnb140 := NB374_341.out; have hnc140 := NB341_374.out
             have hcz141_0 : w117.cell? ⟨gb374, 0, none⟩ = some (.int .i64 0) := (blk_cell BK374.out 0).trans rfl
             have hcz141_1 : w117.cell? ⟨gb374, 1, none⟩ = some (.slice none 0 0) := (blk_cell BK374.out 1).trans rfl
             have hcz141_2 : w117.cell? ⟨gb374, 2, none⟩ = some (.slice none 0 0) := (blk_cell BK374.out 2).trans rfl
             have hfz141_0 := blk_frozen BK374.out 0
             have hfz141_1 := blk_frozen BK374.out 1
             have hfz141_2 := blk_frozen BK374.out 2
             have hnb142 := NB324_307.out; have hnc142 := NB307_324.out; have hnb143 := NB324_332.out; have hnc143 := NB332_324.out; have hnb144 := NB324_341.out; have hnc144 := NB341_324.out
             have hcz145_0 : w117.cell? ⟨gb324, 0, none⟩ = some (.int .i64 t316) := (blk_cell BK324.out 0).trans rfl
             have hcz145_1 : w117.cell? ⟨gb324, 1, none⟩ = some (.slice Ao24 t317.length co24) := (blk_cell BK324.out 1).trans rfl
             have hcz145_2 : w117.cell? ⟨gb324, 2, none⟩ = some (.slice Ao25 t320.length co25) := (blk_cell BK324.out 2).trans rfl
             have hfz145_0 := blk_frozen BK324.out 0
             have hfz145_1 := blk_frozen BK324.out 1
             have hfz145_2 := blk_frozen BK324.out 2
             go_wp2_with (first | ((with_reducible refine gate_callee (f := 19) rfl ?_); refine goesL_ (some 86) rfl rfl Try.func19 (by kernel_rfl) rfl #[.agg #[.int .i64 t366, .slice Ao123 t367.length co123, .slice Ao124 t370.length co124], .agg #[.int .i64 t316, .slice Ao24 t317.length co24, .slice Ao25 t320.length co25]] rfl (by (try simp only [List.map_toArray, List.map_cons, List.map_nil]); first | done | rfl | (simp only [List.length_drop, List.length_take]; rfl)) ?_; (with_reducible refine (laws_eqJacobi.calls kj64 t366 _ _ t367 _ _ t370 t316 _ _ t317 _ _ t320 false _ ?side1 ?side2 ?side3 ?side4 ?side5 ?side6 ?side7 ?side8 A125.out).mono ?_); (case side1 => refine (Kd.R_reads' (e := 2) (base := w.heap.size) (ok := fun k_ => ((((((((some k_ ≠ (.slice Ao124 t370.length co124 : Value).ownBlock ∧ some k_ ≠ (.slice Ao24 t317.length co24 : Value).ownBlock) ∧ some k_ ≠ (.slice Ao25 t320.length co25 : Value).ownBlock) ∧ some k_ ≠ (.slice Ao32 t352.length co32 : Value).ownBlock) ∧ some k_ ≠ (.slice Ao33 t353.length co33 : Value).ownBlock) ∧ some k_ ≠ (.slice Ao40 t334.length co40 : Value).ownBlock) ∧ some k_ ≠ (.slice Ao41 t337.length co41 : Value).ownBlock) ∧ some k_ ≠ (.slice Ao114 t360.length co114 : Value).ownBlock) ∧ some k_ ≠ (.slice Ao115 t363.length co115 : Value).ownBlock)) (n := t367.length) (c := co123) ?_).2.2; exact (uR ((Kd.R_mono (Kd.R_far (p := ⟨gb374, 2, none⟩) (Kd.R_far (p := ⟨gb374, 1, none⟩) (Kd.R_far (p := ⟨gb374, 0, none⟩) (Kd.R_types HO369.out BK374.out (by decide)) (fun _ hk => hk.2) (.int .i64 t366)) (fun _ hk => hk.2) (.slice Ao123 t367.length co123)) (fun _ hk => hk.2) (.slice Ao124 t370.length co124)) (fun _ h_ => h_.1))))); (case side2 => exact (Kd.R_reads' HO369.out).2.1); (case side3 => refine (Kd.R_reads' (e := 2) (base := w.heap.size) (ok := fun k_ => ((((((((some k_ ≠ (.slice Ao123 t367.length co123 : Value).ownBlock ∧ some k_ ≠ (.slice Ao24 t317.length co24 : Value).ownBlock) ∧ some k_ ≠ (.slice Ao25 t320.length co25 : Value).ownBlock) ∧ some k_ ≠ (.slice Ao32 t352.length co32 : Value).ownBlock) ∧ some k_ ≠ (.slice Ao33 t353.length co33 : Value).ownBlock) ∧ some k_ ≠ (.slice Ao40 t334.length co40 : Value).ownBlock) ∧ some k_ ≠ (.slice Ao41 t337.length co41 : Value).ownBlock) ∧ some k_ ≠ (.slice Ao114 t360.length co114 : Value).ownBlock) ∧ some k_ ≠ (.slice Ao115 t363.length co115 : Value).ownBlock)) (n := t370.length) (c := co124) ?_).2.2; exact (uR ((Kd.R_mono (Kd.R_far (p := ⟨gb374, 2, none⟩) (Kd.R_far (p := ⟨gb374, 1, none⟩) (Kd.R_far (p := ⟨gb374, 0, none⟩) (Kd.R_types HO372.out BK374.out (by decide)) (fun _ hk => hk.2) (.int .i64 t366)) (fun _ hk => hk.2) (.slice Ao123 t367.length co123)) (fun _ hk => hk.2) (.slice Ao124 t370.length co124)) (fun _ h_ => h_.1))))); (case side4 => exact (Kd.R_reads' HO372.out).2.1); (case side5 => refine (Kd.R_reads' (e := 2) (base := w.heap.size) (ok := fun k_ => (((((some k_ ≠ (.slice Ao25 t320.length co25 : Value).ownBlock ∧ (some k_ ≠ (.slice Ao32 t352.length co32 : Value).ownBlock ∧ (some k_ ≠ (.slice Ao33 t353.length co33 : Value).ownBlock ∧ (some k_ ≠ (.slice Ao40 t334.length co40 : Value).ownBlock ∧ some k_ ≠ (.slice Ao41 t337.length co41 : Value).ownBlock)))) ∧ some k_ ≠ (.slice Ao114 t360.length co114 : Value).ownBlock) ∧ some k_ ≠ (.slice Ao115 t363.length co115 : Value).ownBlock) ∧ some k_ ≠ (.slice Ao123 t367.length co123 : Value).ownBlock) ∧ some k_ ≠ (.slice Ao124 t370.length co124 : Value).ownBlock)) (n := t317.length) (c := co24) ?_).2.2; exact (uR ((Kd.R_mono (Kd.R_far (p := ⟨gb374, 2, none⟩) (Kd.R_far (p := ⟨gb374, 1, none⟩) (Kd.R_far (p := ⟨gb374, 0, none⟩) (Kd.R_types HO_325001.out BK374.out (by decide)) (fun _ hk => hk.2) (.int .i64 t366)) (fun _ hk => hk.2) (.slice Ao123 t367.length co123)) (fun _ hk => hk.2) (.slice Ao124 t370.length co124)) (fun _ h_ => h_.1))))); (case side6 => exact (Kd.R_reads' HO_325001.out).2.1); (case side7 => refine (Kd.R_reads' (e := 2) (base := w.heap.size) (ok := fun k_ => (((((some k_ ≠ (.slice Ao24 t317.length co24 : Value).ownBlock ∧ (some k_ ≠ (.slice Ao32 t352.length co32 : Value).ownBlock ∧ (some k_ ≠ (.slice Ao33 t353.length co33 : Value).ownBlock ∧ (some k_ ≠ (.slice Ao40 t334.length co40 : Value).ownBlock ∧ some k_ ≠ (.slice Ao41 t337.length co41 : Value).ownBlock)))) ∧ some k_ ≠ (.slice Ao114 t360.length co114 : Value).ownBlock) ∧ some k_ ≠ (.slice Ao115 t363.length co115 : Value).ownBlock) ∧ some k_ ≠ (.slice Ao123 t367.length co123 : Value).ownBlock) ∧ some k_ ≠ (.slice Ao124 t370.length co124 : Value).ownBlock)) (n := t320.length) (c := co25) ?_).2.2; exact (uR ((Kd.R_mono (Kd.R_far (p := ⟨gb374, 2, none⟩) (Kd.R_far (p := ⟨gb374, 1, none⟩) (Kd.R_far (p := ⟨gb374, 0, none⟩) (Kd.R_types HO_325002.out BK374.out (by decide)) (fun _ hk => hk.2) (.int .i64 t366)) (fun _ hk => hk.2) (.slice Ao123 t367.length co123)) (fun _ hk => hk.2) (.slice Ao124 t370.length co124)) (fun _ h_ => h_.1))))); (case side8 => exact (Kd.R_reads' HO_325002.out).2.1); rintro e w146 ⟨rfl, hb⟩; refine ⟨_, rfl, ?_⟩; have n0_ := zA (Kd.R_below (uR ((Kd.R_mono (Kd.R_far (p := ⟨gb374, 2, none⟩) (Kd.R_far (p := ⟨gb374, 1, none⟩) (Kd.R_far (p := ⟨gb374, 0, none⟩) (Kd.R_types HO_325001.out BK374.out (by decide)) (fun _ hk => hk.2) (.int .i64 t366)) (fun _ hk => hk.2) (.slice Ao123 t367.length co123)) (fun _ hk => hk.2) (.slice Ao124 t370.length co124)) (fun _ h_ => h_.1)))) hb); have n1_ := zA (Kd.R_below (uR ((Kd.R_mono (Kd.R_far (p := ⟨gb374, 2, none⟩) (Kd.R_far (p := ⟨gb374, 1, none⟩) (Kd.R_far (p := ⟨gb374, 0, none⟩) (Kd.R_types HO_325002.out BK374.out (by decide)) (fun _ hk => hk.2) (.int .i64 t366)) (fun _ hk => hk.2) (.slice Ao123 t367.length co123)) (fun _ hk => hk.2) (.slice Ao124 t370.length co124)) (fun _ h_ => h_.1)))) hb); have n2_ := zA (Kd.R_below (uR ((Kd.R_mono (Kd.R_far (p := ⟨gb374, 2, none⟩) (Kd.R_far (p := ⟨gb374, 1, none⟩) (Kd.R_far (p := ⟨gb374, 0, none⟩) (Kd.R_types HO_333001.out BK374.out (by decide)) (fun _ hk => hk.2) (.int .i64 t366)) (fun _ hk => hk.2) (.slice Ao123 t367.length co123)) (fun _ hk => hk.2) (.slice Ao124 t370.length co124)) (fun _ h_ => h_.1)))) hb); have n3_ := zA (Kd.R_below (uR ((Kd.R_mono (Kd.R_far (p := ⟨gb374, 2, none⟩) (Kd.R_far (p := ⟨gb374, 1, none⟩) (Kd.R_far (p := ⟨gb374, 0, none⟩) (Kd.R_types HO_333002.out BK374.out (by decide)) (fun _ hk => hk.2) (.int .i64 t366)) (fun _ hk => hk.2) (.slice Ao123 t367.length co123)) (fun _ hk => hk.2) (.slice Ao124 t370.length co124)) (fun _ h_ => h_.1)))) hb); have n4_ := zA (Kd.R_below (uR ((Kd.R_mono (Kd.R_far (p := ⟨gb374, 2, none⟩) (Kd.R_far (p := ⟨gb374, 1, none⟩) (Kd.R_far (p := ⟨gb374, 0, none⟩) (Kd.R_types HO_342001.out BK374.out (by decide)) (fun _ hk => hk.2) (.int .i64 t366)) (fun _ hk => hk.2) (.slice Ao123 t367.length co123)) (fun _ hk => hk.2) (.slice Ao124 t370.length co124)) (fun _ h_ => h_.1)))) hb); have n5_ := zA (Kd.R_below (uR ((Kd.R_mono (Kd.R_far (p := ⟨gb374, 2, none⟩) (Kd.R_far (p := ⟨gb374, 1, none⟩) (Kd.R_far (p := ⟨gb374, 0, none⟩) (Kd.R_types HO_342002.out BK374.out (by decide)) (fun _ hk => hk.2) (.int .i64 t366)) (fun _ hk => hk.2) (.slice Ao123 t367.length co123)) (fun _ hk => hk.2) (.slice Ao124 t370.length co124)) (fun _ h_ => h_.1)))) hb); have n6_ := zA (Kd.R_below (uR ((Kd.R_mono (Kd.R_far (p := ⟨gb374, 2, none⟩) (Kd.R_far (p := ⟨gb374, 1, none⟩) (Kd.R_far (p := ⟨gb374, 0, none⟩) (Kd.R_types HO362.out BK374.out (by decide)) (fun _ hk => hk.2) (.int .i64 t366)) (fun _ hk => hk.2) (.slice Ao123 t367.length co123)) (fun _ hk => hk.2) (.slice Ao124 t370.length co124)) (fun _ h_ => h_.1)))) hb); have n7_ := zA (Kd.R_below (uR ((Kd.R_mono (Kd.R_far (p := ⟨gb374, 2, none⟩) (Kd.R_far (p := ⟨gb374, 1, none⟩) (Kd.R_far (p := ⟨gb374, 0, none⟩) (Kd.R_types HO365.out BK374.out (by decide)) (fun _ hk => hk.2) (.int .i64 t366)) (fun _ hk => hk.2) (.slice Ao123 t367.length co123)) (fun _ hk => hk.2) (.slice Ao124 t370.length co124)) (fun _ h_ => h_.1)))) hb); have n8_ := zA (Kd.R_below (uR ((Kd.R_mono (Kd.R_far (p := ⟨gb374, 2, none⟩) (Kd.R_far (p := ⟨gb374, 1, none⟩) (Kd.R_far (p := ⟨gb374, 0, none⟩) (Kd.R_types HO369.out BK374.out (by decide)) (fun _ hk => hk.2) (.int .i64 t366)) (fun _ hk => hk.2) (.slice Ao123 t367.length co123)) (fun _ hk => hk.2) (.slice Ao124 t370.length co124)) (fun _ h_ => h_.1)))) hb); have n9_ := zA (Kd.R_below (uR ((Kd.R_mono (Kd.R_far (p := ⟨gb374, 2, none⟩) (Kd.R_far (p := ⟨gb374, 1, none⟩) (Kd.R_far (p := ⟨gb374, 0, none⟩) (Kd.R_types HO372.out BK374.out (by decide)) (fun _ hk => hk.2) (.int .i64 t366)) (fun _ hk => hk.2) (.slice Ao123 t367.length co123)) (fun _ hk => hk.2) (.slice Ao124 t370.length co124)) (fun _ h_ => h_.1)))) hb); have n10_ := zA (blk_below (g := gb307) (o := .cells #[.int .i64 a0_0, .slice A0_1 l0_1.length c0_1, .slice A0_2 l0_2.length c0_2] 24 (0, 0)) (by (with_reducible repeat (first | refine blk_drewN ?_ _ | refine blk_drew ?_ | refine blk_alloc ?_ _)); refine blk_far ?_ NB307_374.out _; (with_reducible repeat (first | refine blk_drewN ?_ _ | refine blk_drew ?_ | refine blk_alloc ?_ _)); refine blk_far ?_ NB307_374.out _; (with_reducible repeat (first | refine blk_drewN ?_ _ | refine blk_drew ?_ | refine blk_alloc ?_ _)); refine blk_far ?_ NB307_374.out _; (with_reducible repeat (first | refine blk_drewN ?_ _ | refine blk_drew ?_ | refine blk_alloc ?_ _)); exact BK307.out) hb); have n11_ := zA (blk_below (g := gb324) (o := .cells #[.int .i64 t316, .slice Ao24 t317.length co24, .slice Ao25 t320.length co25] 26 (0, 0)) (by (with_reducible repeat (first | refine blk_drewN ?_ _ | refine blk_drew ?_ | refine blk_alloc ?_ _)); refine blk_far ?_ NB324_374.out _; (with_reducible repeat (first | refine blk_drewN ?_ _ | refine blk_drew ?_ | refine blk_alloc ?_ _)); refine blk_far ?_ NB324_374.out _; (with_reducible repeat (first | refine blk_drewN ?_ _ | refine blk_drew ?_ | refine blk_alloc ?_ _)); refine blk_far ?_ NB324_374.out _; (with_reducible repeat (first | refine blk_drewN ?_ _ | refine blk_drew ?_ | refine blk_alloc ?_ _)); exact BK324.out) hb); have n12_ := zA (blk_below (g := gb332) (o := .cells #[.int .i64 t325, .slice Ao32 t352.length co32, .slice Ao33 t353.length co33] 26 (0, 0)) (by (with_reducible repeat (first | refine blk_drewN ?_ _ | refine blk_drew ?_ | refine blk_alloc ?_ _)); refine blk_far ?_ NB332_374.out _; (with_reducible repeat (first | refine blk_drewN ?_ _ | refine blk_drew ?_ | refine blk_alloc ?_ _)); refine blk_far ?_ NB332_374.out _; (with_reducible repeat (first | refine blk_drewN ?_ _ | refine blk_drew ?_ | refine blk_alloc ?_ _)); refine blk_far ?_ NB332_374.out _; (with_reducible repeat (first | refine blk_drewN ?_ _ | refine blk_drew ?_ | refine blk_alloc ?_ _)); exact BK332.out) hb); have n13_ := zA (blk_below (g := gb341) (o := .cells #[.int .i64 t333, .slice Ao40 t334.length co40, .slice Ao41 t337.length co41] 26 (0, 0)) (by (with_reducible repeat (first | refine blk_drewN ?_ _ | refine blk_drew ?_ | refine blk_alloc ?_ _)); refine blk_far ?_ NB341_374.out _; (with_reducible repeat (first | refine blk_drewN ?_ _ | refine blk_drew ?_ | refine blk_alloc ?_ _)); refine blk_far ?_ NB341_374.out _; (with_reducible repeat (first | refine blk_drewN ?_ _ | refine blk_drew ?_ | refine blk_alloc ?_ _)); refine blk_far ?_ NB341_374.out _; (with_reducible repeat (first | refine blk_drewN ?_ _ | refine blk_drew ?_ | refine blk_alloc ?_ _)); exact BK341.out) hb); have n14_ := zA (blk_below (g := gb374) (o := .cells #[.int .i64 t366, .slice Ao123 t367.length co123, .slice Ao124 t370.length co124] 26 (0, 0)) (by (with_reducible repeat (first | refine blk_drewN ?_ _ | refine blk_drew ?_ | refine blk_alloc ?_ _)); refine blk_put (cs := #[.int .i64 t366, .slice Ao123 t367.length co123, .slice none 0 0]) ?_ 2 _ rfl; (with_reducible repeat (first | refine blk_drewN ?_ _ | refine blk_drew ?_ | refine blk_alloc ?_ _)); refine blk_put (cs := #[.int .i64 t366, .slice none 0 0, .slice none 0 0]) ?_ 1 _ rfl; (with_reducible repeat (first | refine blk_drewN ?_ _ | refine blk_drew ?_ | refine blk_alloc ?_ _)); refine blk_put (cs := #[.int .i64 0, .slice none 0 0, .slice none 0 0]) ?_ 0 _ rfl; (with_reducible repeat (first | refine blk_drewN ?_ _ | refine blk_drew ?_ | refine blk_alloc ?_ _)); exact BK374.out) hb); have n15_ := xH HB hb; clear HO_325001 HO_325002 HO_333001 HO_333002 HO_342001 HO_342002 HO362 HO365 HO369 HO372 BK307 BK324 BK332 BK341 BK374 HB; have HO_325001 := n0_; have HO_325002 := n1_; have HO_333001 := n2_; have HO_333002 := n3_; have HO_342001 := n4_; have HO_342002 := n5_; have HO362 := n6_; have HO365 := n7_; have HO369 := n8_; have HO372 := n9_; have BK307 := n10_; have BK324 := n11_; have BK332 := n12_; have BK341 := n13_; have BK374 := n14_; have HB := n15_; clear n0_ n1_ n2_ n3_ n4_ n5_ n6_ n7_ n8_ n9_ n10_ n11_ n12_ n13_ n14_ n15_; (try clear hb); (try clear hb2); (try clear hk); (try clear hi)))
             go_meet
             case rel => exact ⟨_, (true), (by first | rfl | (simp; done) | (simp [*]; done)), H', ⟨by have := HJ11.out; have := HJ64.out; first | omega | exact Nat.le_refl _⟩, ⟨by (try simp only [hl333001_64]); (try simp only [hl333002_64]); (with_reducible repeat (first | apply Kd.R_alloc | apply Kd.R_drewN | apply Kd.R_drew)); exact Kd.R_mono HO_325001.out (fun _ hk => ⟨hk.1.1.1.1.1, ⟨hk.1.1.1.1.2.1, ⟨hk.1.1.1.1.2.2.1, ⟨hk.1.1.1.1.2.2.2.1, ⟨hk.1.1.1.1.2.2.2.2, ⟨hk.1.2, hk.2⟩⟩⟩⟩⟩⟩)⟩, ⟨by (try simp only [hl333001_64]); (try simp only [hl333002_64]); (with_reducible repeat (first | apply Kd.R_alloc | apply Kd.R_drewN | apply Kd.R_drew)); exact Kd.R_mono HO_325002.out (fun _ hk => ⟨hk.1.1.1.1.1, ⟨hk.1.1.1.1.2.1, ⟨hk.1.1.1.1.2.2.1, ⟨hk.1.1.1.1.2.2.2.1, ⟨hk.1.1.1.1.2.2.2.2, ⟨hk.1.2, hk.2⟩⟩⟩⟩⟩⟩)⟩, ⟨by (try simp only [hl333001_64]); (try simp only [hl333002_64]); (with_reducible repeat (first | apply Kd.R_alloc | apply Kd.R_drewN | apply Kd.R_drew)); exact Kd.R_mono HO_333001.out (fun _ hk => ⟨hk.1.1.1.1.1, ⟨hk.1.1.1.1.2.1, ⟨hk.1.1.1.1.2.2.1, ⟨hk.1.1.1.1.2.2.2.1, ⟨hk.1.1.1.1.2.2.2.2, ⟨hk.1.2, hk.2⟩⟩⟩⟩⟩⟩)⟩, ⟨by (try simp only [hl333001_64]); (try simp only [hl333002_64]); (with_reducible repeat (first | apply Kd.R_alloc | apply Kd.R_drewN | apply Kd.R_drew)); exact Kd.R_mono HO_333002.out (fun _ hk => ⟨hk.1.1.1.1.1, ⟨hk.1.1.1.1.2.1, ⟨hk.1.1.1.1.2.2.1, ⟨hk.1.1.1.1.2.2.2.1, ⟨hk.1.1.1.1.2.2.2.2, ⟨hk.1.2, hk.2⟩⟩⟩⟩⟩⟩)⟩, ⟨by (try simp only [hl333001_64]); (try simp only [hl333002_64]); (with_reducible repeat (first | apply Kd.R_alloc | apply Kd.R_drewN | apply Kd.R_drew)); exact Kd.R_mono HO_342001.out (fun _ hk => ⟨hk.1.1.1.1.1, ⟨hk.1.1.1.1.2.1, ⟨hk.1.1.1.1.2.2.1, ⟨hk.1.1.1.1.2.2.2.1, ⟨hk.1.1.1.1.2.2.2.2, ⟨hk.1.2, hk.2⟩⟩⟩⟩⟩⟩)⟩, ⟨by (try simp only [hl333001_64]); (try simp only [hl333002_64]); (with_reducible repeat (first | apply Kd.R_alloc | apply Kd.R_drewN | apply Kd.R_drew)); exact Kd.R_mono HO_342002.out (fun _ hk => ⟨hk.1.1.1.1.1, ⟨hk.1.1.1.1.2.1, ⟨hk.1.1.1.1.2.2.1, ⟨hk.1.1.1.1.2.2.2.1, ⟨hk.1.1.1.1.2.2.2.2, ⟨hk.1.2, hk.2⟩⟩⟩⟩⟩⟩)⟩, ⟨by (try simp only [hl333001_64]); (try simp only [hl333002_64]); (with_reducible repeat (first | apply Kd.R_alloc | apply Kd.R_drewN | apply Kd.R_drew)); exact Kd.R_mono HO369.out (fun _ hk => ⟨hk.1.1.1.1.1.1.1.2, ⟨hk.1.1.1.1.1.1.2, ⟨hk.1.1.1.1.1.2, ⟨hk.1.1.1.1.2, ⟨hk.1.1.1.2, ⟨hk.1.1.2, hk.1.1.1.1.1.1.1.1⟩⟩⟩⟩⟩⟩)⟩, ⟨by (try simp only [hl333001_64]); (try simp only [hl333002_64]); (with_reducible repeat (first | apply Kd.R_alloc | apply Kd.R_drewN | apply Kd.R_drew)); exact Kd.R_mono HO372.out (fun _ hk => ⟨hk.1.1.1.1.1.1.1.2, ⟨hk.1.1.1.1.1.1.2, ⟨hk.1.1.1.1.1.2, ⟨hk.1.1.1.1.2, ⟨hk.1.1.1.2, ⟨hk.1.1.2, hk.1.1.1.1.1.1.1.1⟩⟩⟩⟩⟩⟩)⟩, ⟨by (try simp only [hl333001_64]); (try simp only [hl333002_64]); (with_reducible repeat (first | refine blk_drewN ?_ _ | refine blk_drew ?_ | refine blk_alloc ?_ _)); exact BK307.out⟩, ⟨by (try simp only [hl333001_64]); (try simp only [hl333002_64]); (with_reducible repeat (first | refine blk_drewN ?_ _ | refine blk_drew ?_ | refine blk_alloc ?_ _)); exact BK324.out⟩, ⟨by (try simp only [hl333001_64]); (try simp only [hl333002_64]); (with_reducible repeat (first | refine blk_drewN ?_ _ | refine blk_drew ?_ | refine blk_alloc ?_ _)); exact BK332.out⟩, ⟨by (try simp only [hl333001_64]); (try simp only [hl333002_64]); (with_reducible repeat (first | refine blk_drewN ?_ _ | refine blk_drew ?_ | refine blk_alloc ?_ _)); exact BK341.out⟩, ⟨by (try simp only [hl333001_64]); (try simp only [hl333002_64]); (with_reducible repeat (first | refine blk_drewN ?_ _ | refine blk_drew ?_ | refine blk_alloc ?_ _)); exact BK374.out⟩, ⟨uH HB.out⟩⟩
           case rest =>
            clear HC102
            try clear c1
            try clear c2
            try clear p2
            try clear c3
            try clear c4
            try clear c4b0
            try clear c5
            try clear c6
            try clear c7
            try clear c8
            try clear c9
            try clear c10
            try clear c11
            try clear c12
            try clear c13
            try clear c14
            try clear c15
            try clear c17
            try clear c19
            try clear c20
            try clear c21
            try clear c22
            try clear c23
            try clear c29
            try clear c30
            try clear c36
            try clear c37
            try clear c38
            try clear c43
            try clear c44
            try clear c45
            try clear c46
            try clear c48
            try clear c49
            try clear c52
            try clear c53
            try clear c54
            try clear c56
            try clear c57
            try clear c60
            try clear c63
            try clear c71
            try clear c72
            try clear c73
            try clear c76
            try clear c76b0
            try clear c78
            try clear c79
            try clear c80
            try clear c81
            try clear c83
            try clear c84
            try clear c87
            try clear c88
            try clear c89
            try clear c91
            try clear c92
            try clear c95
            try clear c98
            try clear c98b0
            try clear c99
            try clear c99b0
            try clear c99b1
            try clear c103
            try clear c104
            try clear c105
            try clear c110
            try clear c111
            try clear c118
            try clear c119
            try clear c120
            try clear c121
            try clear c126
            try clear c127
            try clear c128
            try clear c129
            try clear c130
            try clear c132
            try clear c133
            try clear c134
            try clear c137
            try clear c138
            try clear c139
            try clear c140
            try clear c142
            try clear c143
            try clear c144
            try clear hcz106_0
            try clear hcz106_1
            try clear hcz106_2
            try clear hcz108_0
            try clear hcz108_1
            try clear hcz108_2
            try clear hcz112_0
            try clear hcz112_1
            try clear hcz112_2
            try clear hcz122_0
            try clear hcz122_1
            try clear hcz122_2
            try clear hcz131_0
            try clear hcz131_1
            try clear hcz131_2
            try clear hcz135_0
            try clear hcz135_1
            try clear hcz135_2
            try clear hcz141_0
            try clear hcz141_1
            try clear hcz141_2
            try clear hcz145_0
            try clear hcz145_1
            try clear hcz145_2
            try clear hcz14_0
            try clear hcz14_1
            try clear hcz14_2
            try clear hcz16_0
            try clear hcz16_1
            try clear hcz16_2
            try clear hcz23_0
            try clear hcz23_1
            try clear hcz23_2
            try clear hcz26_0
            try clear hcz26_1
            try clear hcz26_2
            try clear hcz31_0
            try clear hcz31_1
            try clear hcz31_2
            try clear hcz39_0
            try clear hcz39_1
            try clear hcz39_2
            try clear hcz47_0
            try clear hcz47_1
            try clear hcz47_2
            try clear hcz50_0
            try clear hcz50_1
            try clear hcz50_2
            try clear hcz55_0
            try clear hcz55_1
            try clear hcz55_2
            try clear hcz58_0
            try clear hcz58_1
            try clear hcz58_2
            try clear hcz6_0
            try clear hcz6_1
            try clear hcz6_2
            try clear hcz74_0
            try clear hcz74_1
            try clear hcz74_2
            try clear hcz82_0
            try clear hcz82_1
            try clear hcz82_2
            try clear hcz85_0
            try clear hcz85_1
            try clear hcz85_2
            try clear hcz90_0
            try clear hcz90_1
            try clear hcz90_2
            try clear hcz93_0
            try clear hcz93_1
            try clear hcz93_2
            try clear hfz106_0
            try clear hfz106_1
            try clear hfz106_2
            try clear hfz108_0
            try clear hfz108_1
            try clear hfz108_2
            try clear hfz112_0
            try clear hfz112_1
            try clear hfz112_2
            try clear hfz122_0
            try clear hfz122_1
            try clear hfz122_2
            try clear hfz131_0
            try clear hfz131_1
            try clear hfz131_2
            try clear hfz135_0
            try clear hfz135_1
            try clear hfz135_2
            try clear hfz141_0
            try clear hfz141_1
            try clear hfz141_2
            try clear hfz145_0
            try clear hfz145_1
            try clear hfz145_2
            try clear hfz14_0
            try clear hfz14_1
            try clear hfz14_2
            try clear hfz16_0
            try clear hfz16_1
            try clear hfz16_2
            try clear hfz23_0
            try clear hfz23_1
            try clear hfz23_2
            try clear hfz26_0
            try clear hfz26_1
            try clear hfz26_2
            try clear hfz31_0
            try clear hfz31_1
            try clear hfz31_2
            try clear hfz39_0
            try clear hfz39_1
            try clear hfz39_2
            try clear hfz47_0
            try clear hfz47_1
            try clear hfz47_2
            try clear hfz50_0
            try clear hfz50_1
            try clear hfz50_2
            try clear hfz55_0
            try clear hfz55_1
            try clear hfz55_2
            try clear hfz58_0
            try clear hfz58_1
            try clear hfz58_2
            try clear hfz6_0
            try clear hfz6_1
            try clear hfz6_2
            try clear hfz74_0
            try clear hfz74_1
            try clear hfz74_2
            try clear hfz82_0
            try clear hfz82_1
            try clear hfz82_2
            try clear hfz85_0
            try clear hfz85_1
            try clear hfz85_2
            try clear hfz90_0
            try clear hfz90_1
            try clear hfz90_2
            try clear hfz93_0
            try clear hfz93_1
            try clear hfz93_2
            try clear p2
            obtain ⟨kq, x92_101, rfl, HA, HJ101, HO_325001, HO_325002, HO_333001, HO_333002, HO_342001, HO_342002, HO_375001, HO_375002, BK307, BK324, BK332, BK341, BK374, HB⟩ := hcut
            have hl342001_101 := (Kd.R_reads' HO_342001.out).1
            rw [hl342001_101] at HO_342001
            (try simp only [hl342001_101])
            (try simp only [hl342001_101] at BK307)
            (try simp only [hl342001_101] at BK324)
            (try simp only [hl342001_101] at BK332)
            (try simp only [hl342001_101] at BK341)
            (try simp only [hl342001_101] at BK374)
            (try simp only [hl342001_101] at HO_325001)
            (try simp only [hl342001_101] at HO_325002)
            (try simp only [hl342001_101] at HO_333001)
            (try simp only [hl342001_101] at HO_333002)
            (try simp only [hl342001_101] at HO_342002)
            (try simp only [hl342001_101] at HO_375001)
            (try simp only [hl342001_101] at HO_375002)
            have hl342002_101 := (Kd.R_reads' HO_342002.out).1
            rw [hl342002_101] at HO_342002
            (try simp only [hl342002_101])
            (try simp only [hl342002_101] at BK307)
            (try simp only [hl342002_101] at BK324)
            (try simp only [hl342002_101] at BK332)
            (try simp only [hl342002_101] at BK341)
            (try simp only [hl342002_101] at BK374)
            (try simp only [hl342002_101] at HO_325001)
            (try simp only [hl342002_101] at HO_325002)
            (try simp only [hl342002_101] at HO_333001)
            (try simp only [hl342002_101] at HO_333002)
            (try simp only [hl342002_101] at HO_342001)
            (try simp only [hl342002_101] at HO_375001)
            (try simp only [hl342002_101] at HO_375002)
            cases kq with
            | zero => exact absurd HA.out (by simp [laws_FnExactCutJacobi.j2])
            | succ kj101 =>
             have H := HA.out
             clear HA
             simp only [laws_FnExactCutJacobi.j2] at H
             by_cases c147 : x92_101 = true
             ·subst c147
              have H1 : (some false) = some r := by rw [if_pos rfl] at H; exact H
              clear H
              have H := H1
              clear H1
              rw [HRT.out] at H
              exact absurd H (by simp)
             ·replace c147 := Bool.eq_false_iff.mpr c147
              subst c147
              have H1 : ((laws_heldJacobi.f kj101 t333 t356 t357 1).bind fun t376 => (if t376 < 0 then (some false) else (if t376 = t355 then (some true) else (some false)))) = some r := by rw [if_neg (show ¬ (false = true) by decide)] at H; exact H
              clear H
              have H := H1
              clear H1
              replace H := Option.bind_eq_some_iff.mp H
              obtain ⟨t376, A1480, H⟩ := H
              replace H : (if t376 < 0 then (some false) else (if t376 = t355 then (some true) else (some false))) = some r := H
              have A148 := zA A1480
              clear A1480
              by_cases c149 : t376 < 0
              ·rw [if_pos c149] at H
               have c149b0 : decide (t376 < 0) = true := decide_eq_true c149
               clear c149
               rw [HRT.out] at H
               exact absurd H (by simp)
              ·rw [if_neg c149] at H
               have c149b0 : decide (t376 < 0) = false := decide_eq_false c149
               clear c149
               by_cases c150 : t376 = t355
               ·rw [if_pos c150] at H
                have c150b0 : (t376 == t355) = true := beq_iff_eq.mpr c150
                have c150b1 : (t376 != t355) = false := bne_eq_false_iff_eq.mpr c150
                clear c150
                obtain rfl := Option.some.inj H
                have hnb151 := NB341_307.out; have hnc151 := NB307_341.out; have hnb152 := NB341_324.out; have hnc152 := NB324_341.out; have hnb153 := NB341_332.out; have hnc153 := NB332_341.out; have hnb154 := NB341_374.out; have hnc154 := NB374_341.out
                have hcz155_0 : wc.cell? ⟨gb341, 0, none⟩ = some (.int .i64 t333) := (blk_cell BK341.out 0).trans rfl
                have hcz155_1 : wc.cell? ⟨gb341, 1, none⟩ = some (.slice Ao40 t356.length co40) := (blk_cell BK341.out 1).trans rfl
                have hcz155_2 : wc.cell? ⟨gb341, 2, none⟩ = some (.slice Ao41 t357.length co41) := (blk_cell BK341.out 2).trans rfl
                have hfz155_0 := blk_frozen BK341.out 0
                have hfz155_1 := blk_frozen BK341.out 1
                have hfz155_2 := blk_frozen BK341.out 2
                go_wp2_with (first | ((with_reducible refine gate_callee (f := 21) rfl ?_); refine goesL_ (some 95) rfl rfl Try.func21 (by kernel_rfl) rfl #[.agg #[.int .i64 t333, .slice Ao40 t356.length co40, .slice Ao41 t357.length co41], .int .i64 1] rfl (by (try simp only [List.map_toArray, List.map_cons, List.map_nil]); first | done | rfl | (simp only [List.length_drop, List.length_take]; rfl)) ?_; (with_reducible refine (laws_heldJacobi.calls kj101 t333 _ _ t356 _ _ t357 1 t376 _ ?side1 ?side2 ?side3 ?side4 A148.out).mono ?_); (case side1 => exact uC ((Kd.R_reads' HO_342001.out).2.2)); (case side2 => exact (Kd.R_reads' HO_342001.out).2.1); (case side3 => exact uC ((Kd.R_reads' HO_342002.out).2.2)); (case side4 => exact (Kd.R_reads' HO_342002.out).2.1); rintro e w156 ⟨rfl, hb⟩; refine ⟨_, rfl, ?_⟩; have n0_ := xR HO_325001 hb; have n1_ := xR HO_325002 hb; have n2_ := xR HO_333001 hb; have n3_ := xR HO_333002 hb; have n4_ := xR HO_342001 hb; have n5_ := xR HO_342002 hb; have n6_ := xR HO_375001 hb; have n7_ := xR HO_375002 hb; have n8_ := xB BK307 hb; have n9_ := xB BK324 hb; have n10_ := xB BK332 hb; have n11_ := xB BK341 hb; have n12_ := xB BK374 hb; have n13_ := xH HB hb; clear HO_325001 HO_325002 HO_333001 HO_333002 HO_342001 HO_342002 HO_375001 HO_375002 BK307 BK324 BK332 BK341 BK374 HB; have HO_325001 := n0_; have HO_325002 := n1_; have HO_333001 := n2_; have HO_333002 := n3_; have HO_342001 := n4_; have HO_342002 := n5_; have HO_375001 := n6_; have HO_375002 := n7_; have BK307 := n8_; have BK324 := n9_; have BK332 := n10_; have BK341 := n11_; have BK374 := n12_; have HB := n13_; clear n0_ n1_ n2_ n3_ n4_ n5_ n6_ n7_ n8_ n9_ n10_ n11_ n12_ n13_; (try clear hb); (try clear hb2); (try clear hk); (try clear hi)))
                go_ret
                exact ⟨by first | rfl | (simp [errW_none, errW_some] <;> rfl) | (simp [*, errW_none, errW_some] <;> rfl), uH HB.out⟩
               ·rw [if_neg c150] at H
                have c150b0 : (t376 == t355) = false := beq_eq_false_iff_ne.mpr c150
                have c150b1 : (t376 != t355) = true := bne_iff_ne.mpr c150
                rw [HRT.out] at H
                exact absurd H (by simp)
          ·rw [if_neg c99] at H
           have c99b0 : (t358 == t355) = false := beq_eq_false_iff_ne.mpr c99
           have c99b1 : (t358 != t355) = true := bne_iff_ne.mpr c99
           rw [HRT.out] at H
           exact absurd H (by simp)
     ·replace c63 := Bool.eq_false_iff.mpr c63
      subst c63
      have H1 : (some false) = some r := by rw [if_neg (show ¬ (false = true) by decide)] at H; exact H
      clear H
      have H := H1
      clear H1
      rw [HRT.out] at H
      exact absurd H (by simp)

/-- THE ONE PURE STATEMENT of laws_FnExactCutJacobi: yours. -/
def laws_FnExactCutJacobi.Pure : Prop := ∀ (a0_0 : Int) (l0_1 : List Int) (l0_2 : List Int) (a1 : Int), (Lit.int .i64 a0_0).wf = true → l0_1.length ≤ maxLen → (∀ x ∈ l0_1, (Lit.int .i64 x).wf = true) → l0_2.length ≤ maxLen → (∀ x ∈ l0_2, (Lit.int .i64 x).wf = true) → (Lit.int .i64 a1).wf = true → ∃ k, laws_FnExactCutJacobi.f k a0_0 l0_1 l0_2 a1 = some true
theorem laws_FnExactCutJacobi.walk (P : laws_FnExactCutJacobi.Pure) (a0_0 : Int) (a0_1 : Option Addr) (len0_1 cap0_1 : Nat) (z0_1 : List Int) (a0_2 : Option Addr) (len0_2 cap0_2 : Nat) (z0_2 : List Int) (a1 : Int) (w : World) (w0_0 : (Lit.int .i64 a0_0).wf = true) (w0_1 : (a0_1 = none ∧ len0_1 = 0 ∧ cap0_1 = 0 ∧ z0_1 = []) ∨ ∃ x, a0_1 = some x ∧ len0_1 ≤ cap0_1 ∧ cap0_1 ≤ maxLen ∧ z0_1.length = cap0_1 ∧ (∀ i, i < z0_1.length → w.cell? (x.add i) = some (.int .i64 (z0_1.getD i 0))) ∧ ∀ n ∈ z0_1, (Lit.int .i64 n).wf = true) (w0_2 : (a0_2 = none ∧ len0_2 = 0 ∧ cap0_2 = 0 ∧ z0_2 = []) ∨ ∃ x, a0_2 = some x ∧ len0_2 ≤ cap0_2 ∧ cap0_2 ≤ maxLen ∧ z0_2.length = cap0_2 ∧ (∀ i, i < z0_2.length → w.cell? (x.add i) = some (.int .i64 (z0_2.getD i 0))) ∧ ∀ n ∈ z0_2, (Lit.int .i64 n).wf = true) (w1 : (Lit.int .i64 a1).wf = true) :
  Calls Try.prog 4 #[.agg #[.int .i64 a0_0, .slice a0_1 len0_1 cap0_1, .slice a0_2 len0_2 cap0_2], .int .i64 a1] w fun e w' => e = .returned (.bool true) ∧ Below w.heap.size w w' := by
 obtain ⟨l0_1, rfl, hr0_1, hm0_1, hw0_1, hc0_1⟩ := ReadsInt.ofRowC w0_1
 obtain ⟨l0_2, rfl, hr0_2, hm0_2, hw0_2, hc0_2⟩ := ReadsInt.ofRowC w0_2
 obtain ⟨k, h⟩ := P a0_0 l0_1 l0_2 a1 w0_0 hm0_1 hw0_1 hm0_2 hw0_2 w1
 refine (laws_FnExactCutJacobi.calls k a0_0 _ _ l0_1 _ _ l0_2 a1 true rfl w (Kd.C_of_reads (d := (0 : Int)) (h1 := fun _ => rfl) hr0_1) hc0_1 (Kd.C_of_reads (d := (0 : Int)) (h1 := fun _ => rfl) hr0_2) hc0_2 h).mono ?_
 rintro e w' ⟨rfl, hd⟩
 exact ⟨rfl, hd⟩

end Go.Proofs.Ytgneldhhlfjjaaa.Pr
