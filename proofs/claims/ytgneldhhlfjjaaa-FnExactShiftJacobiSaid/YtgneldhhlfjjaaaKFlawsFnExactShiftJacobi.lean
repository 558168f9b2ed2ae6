/- Printed by a program of this session out of the translation: what these functions of the program compute, under the conditions that each theorem names. -/
import Derived.Test.YtgneldhhlfjjaaaKC01
import Derived.Test.YtgneldhhlfjjaaaKC02
import Derived.Test.YtgneldhhlfjjaaaKShiftJacobi1
namespace Go.Proofs.Ytgneldhhlfjjaaa.Pr
open Go.RowKit Go.Proofs.YtgneldhhlfjjaaaW.PrintWords Go.Proofs.YtgneldhhlfjjaaaW.PrintLast Go.Proofs.YtgneldhhlfjjaaaW.PrintMore
attribute [local go_sem] max2_int min2_int max_two min_two max_three min_three max_four min_four   -- for this text's walks alone
set_option linter.unusedVariables false
set_option linter.unusedSimpArgs false

/-! ### laws_FnExactShiftJacobi: function 3 -/
mutual
def laws_FnExactShiftJacobi.j0 : Nat → Int → Int → Int → Bool → Int → List Int → List Int → Int → List Int → List Int → Int → List Int → List Int → Int → List Int → List Int → Option (Bool)
 | 0, _, _, _, _, _, _, _, _, _, _, _, _, _, _, _, _ => none
 | k + 1, x1, x7, x10, x44, x206000, x206001, x206002, x223000, x223001, x223002, x231000, x231001, x231002, x240000, x240001, x240002 => if x44 = true then (some false) else ((laws_toJacobi.f k x206000 x206001 x206002).bind fun bt241 => ((laws_eqJacobi.f k x231000 x231001 x231002 bt241.1 bt241.2.1 bt241.2.2).bind fun t248 => (if t248 = true then ((laws_markJacobi.f k x231000 x231001 x231002 1).bind fun bt249 => (if bt249.1 < 0 then (laws_FnExactShiftJacobi.j1 k x1 x7 true x206000 x206001 x206002 x223000 x223001 x223002 x240000 x240001 x240002) else ((laws_eqJacobi.f k x240000 x240001 x240002 x223000 x223001 x223002).bind fun t252 => (if t252 = true then (laws_FnExactShiftJacobi.j1 k x1 x7 (x10 != x7) x206000 x206001 x206002 x223000 x223001 x223002 x240000 x240001 x240002) else (laws_FnExactShiftJacobi.j1 k x1 x7 true x206000 x206001 x206002 x223000 x223001 x223002 x240000 x240001 x240002))))) else (some false))))
def laws_FnExactShiftJacobi.j1 : Nat → Int → Int → Bool → Int → List Int → List Int → Int → List Int → List Int → Int → List Int → List Int → Option (Bool)
 | 0, _, _, _, _, _, _, _, _, _, _, _, _ => none
 | k + 1, x1, x7, x65, x206000, x206001, x206002, x223000, x223001, x223002, x240000, x240001, x240002 => if x65 = true then (some false) else ((laws_markJacobi.f k x240000 x240001 x240002 1).bind fun bt253 => ((laws_heldJacobi.f k x240000 bt253.2.1 bt253.2.2 1).bind fun t256 => (if t256 < 0 then (some false) else (if t256 = bt253.1 then ((laws_toJacobi.f k x206000 x206001 x206002).bind fun bt257 => ((impl_ShiftJacobi.f k bt257.1 bt257.2.1 bt257.2.2 x1).bind fun bt264 => ((laws_eqJacobi.f k bt264.1 bt264.2.1 bt264.2.2.1 x223000 x223001 x223002).bind fun t273 => (if t273 = true then (laws_FnExactShiftJacobi.j2 k bt253.1 (bt264.2.2.2 != x7) x240000 bt253.2.1 bt253.2.2) else (laws_FnExactShiftJacobi.j2 k bt253.1 true x240000 bt253.2.1 bt253.2.2))))) else (some false)))))
def laws_FnExactShiftJacobi.j2 : Nat → Int → Bool → Int → List Int → List Int → Option (Bool)
 | 0, _, _, _, _, _ => none
 | k + 1, x12, x92, x240000, x240001, x240002 => if x92 = true then (some false) else ((laws_heldJacobi.f k x240000 x240001 x240002 1).bind fun t274 => (if t274 < 0 then (some false) else (if t274 = x12 then (some true) else (some false))))
end
def laws_FnExactShiftJacobi.f (k : Nat) (a0_0 : Int) (l0_1 : List Int) (l0_2 : List Int) (a1 : Int) : Option (Bool) := (laws_szJacobi.f a0_0 l0_1 l0_2 1048576).bind fun t206 => (if t206 < 0 then (some true) else ((laws_toJacobi.f k a0_0 l0_1 l0_2).bind fun bt207 => ((spec_ShiftJacobi.f k bt207.1 bt207.2.1 bt207.2.2 a1).bind fun bt214 => ((laws_toJacobi.f k a0_0 l0_1 l0_2).bind fun bt223 => ((impl_ShiftJacobi.f k bt223.1 bt223.2.1 bt223.2.2 a1).bind fun bt231 => ((laws_eqJacobi.f k bt231.1 bt231.2.1 bt231.2.2.1 bt214.1 bt214.2.1 bt214.2.2.1).bind fun t240 => (if t240 = true then (laws_FnExactShiftJacobi.j0 k a1 bt214.2.2.2 bt231.2.2.2 (bt231.2.2.2 != bt214.2.2.2) a0_0 l0_1 l0_2 bt214.1 bt214.2.1 bt214.2.2.1 bt223.1 bt223.2.1 bt223.2.2 bt231.1 bt231.2.1 bt231.2.2.1) else (laws_FnExactShiftJacobi.j0 k a1 bt214.2.2.2 bt231.2.2.2 true a0_0 l0_1 l0_2 bt214.1 bt214.2.1 bt214.2.2.1 bt223.1 bt223.2.1 bt223.2.2 bt231.1 bt231.2.1 bt231.2.2.1))))))))
theorem laws_FnExactShiftJacobi.mono_l : ∀ k, (∀ y0 y1 y2 y3 y4 y5 y6 y7 y8 y9 y10 y11 y12 y13 y14 y15, LeO (laws_FnExactShiftJacobi.j0 k y0 y1 y2 y3 y4 y5 y6 y7 y8 y9 y10 y11 y12 y13 y14 y15) (laws_FnExactShiftJacobi.j0 (k + 1) y0 y1 y2 y3 y4 y5 y6 y7 y8 y9 y10 y11 y12 y13 y14 y15)) ∧ (∀ y0 y1 y2 y3 y4 y5 y6 y7 y8 y9 y10 y11, LeO (laws_FnExactShiftJacobi.j1 k y0 y1 y2 y3 y4 y5 y6 y7 y8 y9 y10 y11) (laws_FnExactShiftJacobi.j1 (k + 1) y0 y1 y2 y3 y4 y5 y6 y7 y8 y9 y10 y11)) ∧ (∀ y0 y1 y2 y3 y4, LeO (laws_FnExactShiftJacobi.j2 k y0 y1 y2 y3 y4) (laws_FnExactShiftJacobi.j2 (k + 1) y0 y1 y2 y3 y4))
 | 0 => ⟨fun _ _ _ _ _ _ _ _ _ _ _ _ _ _ _ _ r h => by simp [laws_FnExactShiftJacobi.j0] at h, fun _ _ _ _ _ _ _ _ _ _ _ _ r h => by simp [laws_FnExactShiftJacobi.j1] at h, fun _ _ _ _ _ r h => by simp [laws_FnExactShiftJacobi.j2] at h⟩
 | k + 1 => by
  obtain ⟨ih0, ih1, ih2⟩ := laws_FnExactShiftJacobi.mono_l k
  refine ⟨?_, ?_, ?_⟩
  ·intro y0 y1 y2 y3 y4 y5 y6 y7 y8 y9 y10 y11 y12 y13 y14 y15
   unfold laws_FnExactShiftJacobi.j0
   repeat' first
   | (with_reducible exact ih0 _ _ _ _ _ _ _ _ _ _ _ _ _ _ _ _)
   | (with_reducible exact ih1 _ _ _ _ _ _ _ _ _ _ _ _)
   | (with_reducible exact ih2 _ _ _ _ _)
   | (with_reducible exact impl_ShiftJacobi.mono _ _ _ _ _)
   | (with_reducible exact laws_eqJacobi.mono _ _ _ _ _ _ _)
   | (with_reducible exact laws_heldJacobi.mono _ _ _ _ _)
   | (with_reducible exact laws_markJacobi.mono _ _ _ _ _)
   | (with_reducible exact laws_toJacobi.mono _ _ _ _)
   | (with_reducible exact spec_ShiftJacobi.mono _ _ _ _ _)
   | (with_reducible exact LeO.refl _)
   | (with_reducible exact LeO.none _)
   | (with_reducible refine LeO.ite ?_ ?_)
   | (with_reducible refine LeO.bind ?_ (fun _ => ?_))
   | exact ih0 _ _ _ _ _ _ _ _ _ _ _ _ _ _ _ _
   | exact ih1 _ _ _ _ _ _ _ _ _ _ _ _
   | exact ih2 _ _ _ _ _
   | exact impl_ShiftJacobi.mono _ _ _ _ _
   | exact laws_eqJacobi.mono _ _ _ _ _ _ _
   | exact laws_heldJacobi.mono _ _ _ _ _
   | exact laws_markJacobi.mono _ _ _ _ _
   | exact laws_toJacobi.mono _ _ _ _
   | exact spec_ShiftJacobi.mono _ _ _ _ _
   | exact LeO.none _
   | refine LeO.ite ?_ ?_
   | refine LeO.bind ?_ (fun _ => ?_)
  ·intro y0 y1 y2 y3 y4 y5 y6 y7 y8 y9 y10 y11
   unfold laws_FnExactShiftJacobi.j1
   repeat' first
   | (with_reducible exact ih0 _ _ _ _ _ _ _ _ _ _ _ _ _ _ _ _)
   | (with_reducible exact ih1 _ _ _ _ _ _ _ _ _ _ _ _)
   | (with_reducible exact ih2 _ _ _ _ _)
   | (with_reducible exact impl_ShiftJacobi.mono _ _ _ _ _)
   | (with_reducible exact laws_eqJacobi.mono _ _ _ _ _ _ _)
   | (with_reducible exact laws_heldJacobi.mono _ _ _ _ _)
   | (with_reducible exact laws_markJacobi.mono _ _ _ _ _)
   | (with_reducible exact laws_toJacobi.mono _ _ _ _)
   | (with_reducible exact spec_ShiftJacobi.mono _ _ _ _ _)
   | (with_reducible exact LeO.refl _)
   | (with_reducible exact LeO.none _)
   | (with_reducible refine LeO.ite ?_ ?_)
   | (with_reducible refine LeO.bind ?_ (fun _ => ?_))
   | exact ih0 _ _ _ _ _ _ _ _ _ _ _ _ _ _ _ _
   | exact ih1 _ _ _ _ _ _ _ _ _ _ _ _
   | exact ih2 _ _ _ _ _
   | exact impl_ShiftJacobi.mono _ _ _ _ _
   | exact laws_eqJacobi.mono _ _ _ _ _ _ _
   | exact laws_heldJacobi.mono _ _ _ _ _
   | exact laws_markJacobi.mono _ _ _ _ _
   | exact laws_toJacobi.mono _ _ _ _
   | exact spec_ShiftJacobi.mono _ _ _ _ _
   | exact LeO.none _
   | refine LeO.ite ?_ ?_
   | refine LeO.bind ?_ (fun _ => ?_)
  ·intro y0 y1 y2 y3 y4
   unfold laws_FnExactShiftJacobi.j2
   repeat' first
   | (with_reducible exact ih0 _ _ _ _ _ _ _ _ _ _ _ _ _ _ _ _)
   | (with_reducible exact ih1 _ _ _ _ _ _ _ _ _ _ _ _)
   | (with_reducible exact ih2 _ _ _ _ _)
   | (with_reducible exact impl_ShiftJacobi.mono _ _ _ _ _)
   | (with_reducible exact laws_eqJacobi.mono _ _ _ _ _ _ _)
   | (with_reducible exact laws_heldJacobi.mono _ _ _ _ _)
   | (with_reducible exact laws_markJacobi.mono _ _ _ _ _)
   | (with_reducible exact laws_toJacobi.mono _ _ _ _)
   | (with_reducible exact spec_ShiftJacobi.mono _ _ _ _ _)
   | (with_reducible exact LeO.refl _)
   | (with_reducible exact LeO.none _)
   | (with_reducible refine LeO.ite ?_ ?_)
   | (with_reducible refine LeO.bind ?_ (fun _ => ?_))
   | exact ih0 _ _ _ _ _ _ _ _ _ _ _ _ _ _ _ _
   | exact ih1 _ _ _ _ _ _ _ _ _ _ _ _
   | exact ih2 _ _ _ _ _
   | exact impl_ShiftJacobi.mono _ _ _ _ _
   | exact laws_eqJacobi.mono _ _ _ _ _ _ _
   | exact laws_heldJacobi.mono _ _ _ _ _
   | exact laws_markJacobi.mono _ _ _ _ _
   | exact laws_toJacobi.mono _ _ _ _
   | exact spec_ShiftJacobi.mono _ _ _ _ _
   | exact LeO.none _
   | refine LeO.ite ?_ ?_
   | refine LeO.bind ?_ (fun _ => ?_)
theorem laws_FnExactShiftJacobi.mono : ∀ a0 a1 a2 a3 k, LeO (laws_FnExactShiftJacobi.f k a0 a1 a2 a3) (laws_FnExactShiftJacobi.f (k + 1) a0 a1 a2 a3) := by
 intro a0 a1 a2 a3 k
 obtain ⟨ih0, ih1, ih2⟩ := laws_FnExactShiftJacobi.mono_l k
 unfold laws_FnExactShiftJacobi.f
 repeat' first
   | (with_reducible exact ih0 _ _ _ _ _ _ _ _ _ _ _ _ _ _ _ _)
   | (with_reducible exact ih1 _ _ _ _ _ _ _ _ _ _ _ _)
   | (with_reducible exact ih2 _ _ _ _ _)
   | (with_reducible exact impl_ShiftJacobi.mono _ _ _ _ _)
   | (with_reducible exact laws_eqJacobi.mono _ _ _ _ _ _ _)
   | (with_reducible exact laws_heldJacobi.mono _ _ _ _ _)
   | (with_reducible exact laws_markJacobi.mono _ _ _ _ _)
   | (with_reducible exact laws_toJacobi.mono _ _ _ _)
   | (with_reducible exact spec_ShiftJacobi.mono _ _ _ _ _)
   | (with_reducible exact LeO.refl _)
   | (with_reducible exact LeO.none _)
   | (with_reducible refine LeO.ite ?_ ?_)
   | (with_reducible refine LeO.bind ?_ (fun _ => ?_))
   | exact ih0 _ _ _ _ _ _ _ _ _ _ _ _ _ _ _ _
   | exact ih1 _ _ _ _ _ _ _ _ _ _ _ _
   | exact ih2 _ _ _ _ _
   | exact impl_ShiftJacobi.mono _ _ _ _ _
   | exact laws_eqJacobi.mono _ _ _ _ _ _ _
   | exact laws_heldJacobi.mono _ _ _ _ _
   | exact laws_markJacobi.mono _ _ _ _ _
   | exact laws_toJacobi.mono _ _ _ _
   | exact spec_ShiftJacobi.mono _ _ _ _ _
   | exact LeO.none _
   | refine LeO.ite ?_ ?_
   | refine LeO.bind ?_ (fun _ => ?_)
set_option maxHeartbeats 8000000 in
set_option maxRecDepth 100000 in
theorem laws_FnExactShiftJacobi.calls (k : Nat) (a0_0 : Int) (A0_1 : Option Addr) (c0_1 : Nat) (l0_1 : List Int) (A0_2 : Option Addr) (c0_2 : Nat) (l0_2 : List Int) (a1 : Int) (r : Bool) (hr_ : r = true) (w : World) (hr0_1 : Kd.C (Kd.int .i64) w A0_1 l0_1.length l0_1) (hc0_1 : l0_1.length ≤ c0_1) (hr0_2 : Kd.C (Kd.int .i64) w A0_2 l0_2.length l0_2) (hc0_2 : l0_2.length ≤ c0_2) (h : laws_FnExactShiftJacobi.f k a0_0 l0_1 l0_2 a1 = some r) :
  Calls Try.prog 3 #[.agg #[.int .i64 a0_0, .slice A0_1 l0_1.length c0_1, .slice A0_2 l0_2.length c0_2], .int .i64 a1] w fun e w' => e = .returned (.bool r) ∧ Below w.heap.size w w' := by
 have hu24 := Try.underlying24
 have hu26 := Try.underlying26
 have HRT := zA hr_
 clear hr_
 have HR0_1 := zA hr0_1
 have HC0_1 := zA hc0_1
 clear hr0_1 hc0_1
 have HR0_2 := zA hr0_2
 have HC0_2 := zA hc0_2
 clear hr0_2 hc0_2
 have HB := zA (Below.refl w.heap.size w)
 have H : ((laws_szJacobi.f a0_0 l0_1 l0_2 1048576).bind fun t206 => (if t206 < 0 then (some true) else ((laws_toJacobi.f k a0_0 l0_1 l0_2).bind fun bt207 => ((spec_ShiftJacobi.f k bt207.1 bt207.2.1 bt207.2.2 a1).bind fun bt214 => ((laws_toJacobi.f k a0_0 l0_1 l0_2).bind fun bt223 => ((impl_ShiftJacobi.f k bt223.1 bt223.2.1 bt223.2.2 a1).bind fun bt231 => ((laws_eqJacobi.f k bt231.1 bt231.2.1 bt231.2.2.1 bt214.1 bt214.2.1 bt214.2.2.1).bind fun t240 => (if t240 = true then (laws_FnExactShiftJacobi.j0 k a1 bt214.2.2.2 bt231.2.2.2 (bt231.2.2.2 != bt214.2.2.2) a0_0 l0_1 l0_2 bt214.1 bt214.2.1 bt214.2.2.1 bt223.1 bt223.2.1 bt223.2.2 bt231.1 bt231.2.1 bt231.2.2.1) else (laws_FnExactShiftJacobi.j0 k a1 bt214.2.2.2 bt231.2.2.2 true a0_0 l0_1 l0_2 bt214.1 bt214.2.1 bt214.2.2.1 bt223.1 bt223.2.1 bt223.2.2 bt231.1 bt231.2.1 bt231.2.2.1))))))))) = some r := h
 clear h
 replace H := Option.bind_eq_some_iff.mp H
 obtain ⟨t206, A30, H⟩ := H
 replace H : (if t206 < 0 then (some true) else ((laws_toJacobi.f k a0_0 l0_1 l0_2).bind fun bt207 => ((spec_ShiftJacobi.f k bt207.1 bt207.2.1 bt207.2.2 a1).bind fun bt214 => ((laws_toJacobi.f k a0_0 l0_1 l0_2).bind fun bt223 => ((impl_ShiftJacobi.f k bt223.1 bt223.2.1 bt223.2.2 a1).bind fun bt231 => ((laws_eqJacobi.f k bt231.1 bt231.2.1 bt231.2.2.1 bt214.1 bt214.2.1 bt214.2.2.1).bind fun t240 => (if t240 = true then (laws_FnExactShiftJacobi.j0 k a1 bt214.2.2.2 bt231.2.2.2 (bt231.2.2.2 != bt214.2.2.2) a0_0 l0_1 l0_2 bt214.1 bt214.2.1 bt214.2.2.1 bt223.1 bt223.2.1 bt223.2.2 bt231.1 bt231.2.1 bt231.2.2.1) else (laws_FnExactShiftJacobi.j0 k a1 bt214.2.2.2 bt231.2.2.2 true a0_0 l0_1 l0_2 bt214.1 bt214.2.1 bt214.2.2.1 bt223.1 bt223.2.1 bt223.2.2 bt231.1 bt231.2.1 bt231.2.2.1)))))))) = some r := H
 have A3 := zA A30
 clear A30
 by_cases c4 : t206 < 0
 ·rw [if_pos c4] at H
  have c4b0 : decide (t206 < 0) = true := decide_eq_true c4
  clear c4
  obtain rfl := Option.some.inj H
  go_enter Try.func3, Try.ntmps3
  go_wp2_with (first | ((with_reducible refine gate_dst (N := 2) rfl ?_); refine box_event ?hg (N := 2) ?hd (cs := #[.int .i64 a0_0, .slice A0_1 l0_1.length c0_1, .slice A0_2 l0_2.length c0_2]) (t := 24) ?hr ?_; (case hd => rfl); (case hg => rfl); (case hr => first | (go_simp; done) | (go_simp; rfl)); intro gb205 hg w5 hbox hb; have n0_ := xH HB hb; have n1_ := zA (hbox); have n2_ := zA ((by rw [hg]; exact (below_size (uH HB.out)) : w.heap.size ≤ gb205)); have n3_ := zA ((by rw [hg]; exact (below_size (uH HB.out)) : w.heap.size ≤ gb205)); clear HB; have HB := n0_; have BK205 := n1_; have GW205 := n2_; have GE205 := n3_; have := geI GE205; clear n0_ n1_ n2_ n3_ hb hbox hg; have hcz6_0 : w5.cell? ⟨gb205, 0, none⟩ = some (.int .i64 a0_0) := (blk_cell BK205.out 0).trans rfl; have hcz6_1 : w5.cell? ⟨gb205, 1, none⟩ = some (.slice A0_1 l0_1.length c0_1) := (blk_cell BK205.out 1).trans rfl; have hcz6_2 : w5.cell? ⟨gb205, 2, none⟩ = some (.slice A0_2 l0_2.length c0_2) := (blk_cell BK205.out 2).trans rfl; have hfz6_0 := blk_frozen BK205.out 0; have hfz6_1 := blk_frozen BK205.out 1; have hfz6_2 := blk_frozen BK205.out 2) | ((with_reducible refine gate_callee (f := 15) rfl ?_); refine goesL_ (some 18) rfl rfl Try.func15 (by kernel_rfl) rfl #[.agg #[.int .i64 a0_0, .slice A0_1 l0_1.length c0_1, .slice A0_2 l0_2.length c0_2], .int .i64 1048576] rfl (by (try simp only [List.map_toArray, List.map_cons, List.map_nil]); first | done | rfl | (simp only [List.length_drop, List.length_take]; rfl)) ?_; (with_reducible refine (laws_szJacobi.calls a0_0 _ _ l0_1 _ _ l0_2 1048576 t206 _ ?side1 ?side2 ?side3 ?side4 A3.out).mono ?_); (case side1 => exact uC ((Kd.C_below HR0_1.out HB.out))); (case side2 => exact HC0_1.out); (case side3 => exact uC ((Kd.C_below HR0_2.out HB.out))); (case side4 => exact HC0_2.out); rintro e w7 ⟨rfl, hb⟩; refine ⟨_, rfl, ?_⟩; have n0_ := xB BK205 hb; have n1_ := xH HB hb; clear BK205 HB; have BK205 := n0_; have HB := n1_; clear n0_ n1_; (try clear hb); (try clear hb2); (try clear hk); (try clear hi)))
  go_ret
  exact ⟨by first | rfl | (simp [errW_none, errW_some] <;> rfl) | (simp [*, errW_none, errW_some] <;> rfl), uH HB.out⟩
 ·rw [if_neg c4] at H
  have c4b0 : decide (t206 < 0) = false := decide_eq_false c4
  clear c4
  replace H := Option.bind_eq_some_iff.mp H
  obtain ⟨⟨t207, t208, t211⟩, A80, H⟩ := H
  replace H : ((spec_ShiftJacobi.f k t207 t208 t211 a1).bind fun bt214 => ((laws_toJacobi.f k a0_0 l0_1 l0_2).bind fun bt223 => ((impl_ShiftJacobi.f k bt223.1 bt223.2.1 bt223.2.2 a1).bind fun bt231 => ((laws_eqJacobi.f k bt231.1 bt231.2.1 bt231.2.2.1 bt214.1 bt214.2.1 bt214.2.2.1).bind fun t240 => (if t240 = true then (laws_FnExactShiftJacobi.j0 k a1 bt214.2.2.2 bt231.2.2.2 (bt231.2.2.2 != bt214.2.2.2) a0_0 l0_1 l0_2 bt214.1 bt214.2.1 bt214.2.2.1 bt223.1 bt223.2.1 bt223.2.2 bt231.1 bt231.2.1 bt231.2.2.1) else (laws_FnExactShiftJacobi.j0 k a1 bt214.2.2.2 bt231.2.2.2 true a0_0 l0_1 l0_2 bt214.1 bt214.2.1 bt214.2.2.1 bt223.1 bt223.2.1 bt223.2.2 bt231.1 bt231.2.1 bt231.2.2.1)))))) = some r := H
  have A8 := zA A80
  clear A80
  replace H := Option.bind_eq_some_iff.mp H
  obtain ⟨⟨t214, t215, t218, t221⟩, A90, H⟩ := H
  replace H : ((laws_toJacobi.f k a0_0 l0_1 l0_2).bind fun bt223 => ((impl_ShiftJacobi.f k bt223.1 bt223.2.1 bt223.2.2 a1).bind fun bt231 => ((laws_eqJacobi.f k bt231.1 bt231.2.1 bt231.2.2.1 t214 t215 t218).bind fun t240 => (if t240 = true then (laws_FnExactShiftJacobi.j0 k a1 t221 bt231.2.2.2 (bt231.2.2.2 != t221) a0_0 l0_1 l0_2 t214 t215 t218 bt223.1 bt223.2.1 bt223.2.2 bt231.1 bt231.2.1 bt231.2.2.1) else (laws_FnExactShiftJacobi.j0 k a1 t221 bt231.2.2.2 true a0_0 l0_1 l0_2 t214 t215 t218 bt223.1 bt223.2.1 bt223.2.2 bt231.1 bt231.2.1 bt231.2.2.1))))) = some r := H
  have A9 := zA A90
  clear A90
  replace H := Option.bind_eq_some_iff.mp H
  obtain ⟨⟨t223, t224, t227⟩, A100, H⟩ := H
  replace H : ((impl_ShiftJacobi.f k t223 t224 t227 a1).bind fun bt231 => ((laws_eqJacobi.f k bt231.1 bt231.2.1 bt231.2.2.1 t214 t215 t218).bind fun t240 => (if t240 = true then (laws_FnExactShiftJacobi.j0 k a1 t221 bt231.2.2.2 (bt231.2.2.2 != t221) a0_0 l0_1 l0_2 t214 t215 t218 t223 t224 t227 bt231.1 bt231.2.1 bt231.2.2.1) else (laws_FnExactShiftJacobi.j0 k a1 t221 bt231.2.2.2 true a0_0 l0_1 l0_2 t214 t215 t218 t223 t224 t227 bt231.1 bt231.2.1 bt231.2.2.1)))) = some r := H
  have A10 := zA A100
  clear A100
  replace H := Option.bind_eq_some_iff.mp H
  obtain ⟨⟨t231, t232, t235, t238⟩, A110, H⟩ := H
  replace H : ((laws_eqJacobi.f k t231 t232 t235 t214 t215 t218).bind fun t240 => (if t240 = true then (laws_FnExactShiftJacobi.j0 k a1 t221 t238 (t238 != t221) a0_0 l0_1 l0_2 t214 t215 t218 t223 t224 t227 t231 t232 t235) else (laws_FnExactShiftJacobi.j0 k a1 t221 t238 true a0_0 l0_1 l0_2 t214 t215 t218 t223 t224 t227 t231 t232 t235))) = some r := H
  have A11 := zA A110
  clear A110
  have HC12 := zA H
  clear H
  go_enter Try.func3, Try.ntmps3
  go_upto_region 8 with (first | ((with_reducible refine gate_dst (N := 2) rfl ?_); refine box_event ?hg (N := 2) ?hd (cs := #[.int .i64 a0_0, .slice A0_1 l0_1.length c0_1, .slice A0_2 l0_2.length c0_2]) (t := 24) ?hr ?_; (case hd => rfl); (case hg => rfl); (case hr => first | (go_simp; done) | (go_simp; rfl)); intro gb205 hg w13 hbox hb; have n0_ := xH HB hb; have n1_ := zA (hbox); have n2_ := zA ((by rw [hg]; exact (below_size (uH HB.out)) : w.heap.size ≤ gb205)); have n3_ := zA ((by rw [hg]; exact (below_size (uH HB.out)) : w.heap.size ≤ gb205)); clear HB; have HB := n0_; have BK205 := n1_; have GW205 := n2_; have GE205 := n3_; have := geI GE205; clear n0_ n1_ n2_ n3_ hb hbox hg; have hcz14_0 : w13.cell? ⟨gb205, 0, none⟩ = some (.int .i64 a0_0) := (blk_cell BK205.out 0).trans rfl; have hcz14_1 : w13.cell? ⟨gb205, 1, none⟩ = some (.slice A0_1 l0_1.length c0_1) := (blk_cell BK205.out 1).trans rfl; have hcz14_2 : w13.cell? ⟨gb205, 2, none⟩ = some (.slice A0_2 l0_2.length c0_2) := (blk_cell BK205.out 2).trans rfl; have hfz14_0 := blk_frozen BK205.out 0; have hfz14_1 := blk_frozen BK205.out 1; have hfz14_2 := blk_frozen BK205.out 2) | ((with_reducible refine gate_callee (f := 15) rfl ?_); refine goesL_ (some 18) rfl rfl Try.func15 (by kernel_rfl) rfl #[.agg #[.int .i64 a0_0, .slice A0_1 l0_1.length c0_1, .slice A0_2 l0_2.length c0_2], .int .i64 1048576] rfl (by (try simp only [List.map_toArray, List.map_cons, List.map_nil]); first | done | rfl | (simp only [List.length_drop, List.length_take]; rfl)) ?_; (with_reducible refine (laws_szJacobi.calls a0_0 _ _ l0_1 _ _ l0_2 1048576 t206 _ ?side1 ?side2 ?side3 ?side4 A3.out).mono ?_); (case side1 => exact uC ((Kd.C_below HR0_1.out HB.out))); (case side2 => exact HC0_1.out); (case side3 => exact uC ((Kd.C_below HR0_2.out HB.out))); (case side4 => exact HC0_2.out); rintro e w15 ⟨rfl, hb⟩; refine ⟨_, rfl, ?_⟩; have n0_ := xB BK205 hb; have n1_ := xH HB hb; clear BK205 HB; have BK205 := n0_; have HB := n1_; clear n0_ n1_; (try clear hb); (try clear hb2); (try clear hk); (try clear hi); have hcz16_0 : w15.cell? ⟨gb205, 0, none⟩ = some (.int .i64 a0_0) := (blk_cell BK205.out 0).trans rfl; have hcz16_1 : w15.cell? ⟨gb205, 1, none⟩ = some (.slice A0_1 l0_1.length c0_1) := (blk_cell BK205.out 1).trans rfl; have hcz16_2 : w15.cell? ⟨gb205, 2, none⟩ = some (.slice A0_2 l0_2.length c0_2) := (blk_cell BK205.out 2).trans rfl; have hfz16_0 := blk_frozen BK205.out 0; have hfz16_1 := blk_frozen BK205.out 1; have hfz16_2 := blk_frozen BK205.out 2) | ((with_reducible refine gate_callee (f := 17) rfl ?_); refine goesL_ (some 23) rfl rfl Try.func17 (by kernel_rfl) rfl #[.agg #[.int .i64 a0_0, .slice A0_1 l0_1.length c0_1, .slice A0_2 l0_2.length c0_2]] rfl (by (try simp only [List.map_toArray, List.map_cons, List.map_nil]); first | done | rfl | (simp only [List.length_drop, List.length_take]; rfl)) ?_; (with_reducible refine (laws_toJacobi.calls k a0_0 _ _ l0_1 _ _ l0_2 t207 t208 t211 _ ?side1 ?side2 ?side3 ?side4 A8.out).mono ?_); (case side1 => exact uC ((Kd.C_below HR0_1.out HB.out))); (case side2 => exact HC0_1.out); (case side3 => exact uC ((Kd.C_below HR0_2.out HB.out))); (case side4 => exact HC0_2.out); rintro e w17 ⟨v209, v212, rfl, ho0, ho1, hb⟩; refine ⟨_, rfl, ?_⟩; have n0_ := zA (Kd.R_lower ho0 (below_size (uH HB.out))); have n1_ := zA (Kd.R_lower ho1 (below_size (uH HB.out))); have n2_ := xB BK205 hb; have n3_ := xH HB hb; clear BK205 HB; have HO210 := n0_; have HO213 := n1_; have BK205 := n2_; have HB := n3_; clear n0_ n1_ n2_ n3_; (try clear hb); (try clear hb2); (try clear hk); (try clear hi); (try clear ho0); (try clear ho1); obtain ⟨Ao18, co18, eo18⟩ := Kd.R_slice HO210.out; subst eo18; obtain ⟨Ao19, co19, eo19⟩ := Kd.R_slice HO213.out; subst eo19) | ((with_reducible refine gate_callee (f := 16) rfl ?_); refine goesL_ (some 25) rfl rfl Try.func16 (by kernel_rfl) rfl #[.agg #[.int .i64 t207, .slice Ao18 t208.length co18, .slice Ao19 t211.length co19], .int .i64 a1] rfl (by (try simp only [List.map_toArray, List.map_cons, List.map_nil]); first | done | rfl | (simp only [List.length_drop, List.length_take]; rfl)) ?_; (with_reducible refine (spec_ShiftJacobi.calls k t207 _ _ t208 _ _ t211 a1 t214 t215 t218 t221 _ ?side1 ?side2 ?side3 ?side4 A9.out).mono ?_); (case side1 => exact uC ((Kd.R_reads' HO210.out).2.2)); (case side2 => exact (Kd.R_reads' HO210.out).2.1); (case side3 => exact uC ((Kd.R_reads' HO213.out).2.2)); (case side4 => exact (Kd.R_reads' HO213.out).2.1); rintro e w20 ⟨v216, v219, rfl, ho0, ho1, hb⟩; refine ⟨_, rfl, ?_⟩; have n0_ := zA (Kd.R_mono (Kd.R_told (Kd.R_told (Kd.R_old (uR HO210.out) hb) (Kd.R_base ho0)) (Kd.R_base ho1)) (fun _ h_ => h_.1)); have n1_ := zA (Kd.R_mono (Kd.R_told (Kd.R_told (Kd.R_old (uR HO213.out) hb) (Kd.R_base ho0)) (Kd.R_base ho1)) (fun _ h_ => h_.1)); have n2_ := zA (Kd.R_lower (Kd.R_new' (Kd.R_new' ho0 (Kd.R_lt (uR HO210.out))) (Kd.R_lt (uR HO213.out))) (below_size (uH HB.out))); have n3_ := zA (Kd.R_lower (Kd.R_new' (Kd.R_new' ho1 (Kd.R_lt (uR HO210.out))) (Kd.R_lt (uR HO213.out))) (below_size (uH HB.out))); have n4_ := xB BK205 hb; have n5_ := xH HB hb; clear HO210 HO213 BK205 HB; have HO210 := n0_; have HO213 := n1_; have HO217 := n2_; have HO220 := n3_; have BK205 := n4_; have HB := n5_; clear n0_ n1_ n2_ n3_ n4_ n5_; (try clear hb); (try clear hb2); (try clear hk); (try clear hi); (try clear ho0); (try clear ho1)) | ((with_reducible refine gate_dst (N := 6) rfl ?_); refine box_event ?hg (N := 6) ?hd (cs := #[.int .i64 0, .slice none 0 0, .slice none 0 0]) (t := 26) ?hr ?_; (case hd => rfl); (case hg => rfl); (case hr => first | (go_simp; done) | (go_simp; rfl)); intro gb222 hg w21 hbox hb; have n0_ := xR HO210 hb; have n1_ := xR HO213 hb; have n2_ := xR HO217 hb; have n3_ := xR HO220 hb; have n4_ := xB BK205 hb; have n5_ := xH HB hb; have n6_ := zA (hbox); have n7_ := zA ((by rw [hg]; exact (below_size (uH HB.out)) : w.heap.size ≤ gb222)); have n8_ := zA ((by rw [hg]; exact (below_size (uH HB.out)) : w.heap.size ≤ gb222)); have n9_ := zA ((by rw [hg]; exact neL BK205 : gb205 ≠ gb222)); have n10_ := zA ((by rw [hg]; exact neG BK205 : gb222 ≠ gb205)); clear HO210 HO213 HO217 HO220 BK205 HB; have HO210 := n0_; have HO213 := n1_; have HO217 := n2_; have HO220 := n3_; have BK205 := n4_; have HB := n5_; have BK222 := n6_; have GW222 := n7_; have GE222 := n8_; have := geI GE222; have NB205_222 := n9_; have NB222_205 := n10_; clear n0_ n1_ n2_ n3_ n4_ n5_ n6_ n7_ n8_ n9_ n10_ hb hbox hg; have hnb22 := NB222_205.out; have hnc22 := NB205_222.out; have hcz23_0 : w21.cell? ⟨gb222, 0, none⟩ = some (.int .i64 0) := (blk_cell BK222.out 0).trans rfl; have hcz23_1 : w21.cell? ⟨gb222, 1, none⟩ = some (.slice none 0 0) := (blk_cell BK222.out 1).trans rfl; have hcz23_2 : w21.cell? ⟨gb222, 2, none⟩ = some (.slice none 0 0) := (blk_cell BK222.out 2).trans rfl; have hfz23_0 := blk_frozen BK222.out 0; have hfz23_1 := blk_frozen BK222.out 1; have hfz23_2 := blk_frozen BK222.out 2; obtain ⟨Ao24, co24, eo24⟩ := Kd.R_slice HO217.out; subst eo24; obtain ⟨Ao25, co25, eo25⟩ := Kd.R_slice HO220.out; subst eo25; have hcz26_0 : w21.cell? ⟨gb205, 0, none⟩ = some (.int .i64 a0_0) := (blk_cell BK205.out 0).trans rfl; have hcz26_1 : w21.cell? ⟨gb205, 1, none⟩ = some (.slice A0_1 l0_1.length c0_1) := (blk_cell BK205.out 1).trans rfl; have hcz26_2 : w21.cell? ⟨gb205, 2, none⟩ = some (.slice A0_2 l0_2.length c0_2) := (blk_cell BK205.out 2).trans rfl; have hfz26_0 := blk_frozen BK205.out 0; have hfz26_1 := blk_frozen BK205.out 1; have hfz26_2 := blk_frozen BK205.out 2) | ((with_reducible refine gate_callee (f := 17) rfl ?_); refine goesL_ (some 29) rfl rfl Try.func17 (by kernel_rfl) rfl #[.agg #[.int .i64 a0_0, .slice A0_1 l0_1.length c0_1, .slice A0_2 l0_2.length c0_2]] rfl (by (try simp only [List.map_toArray, List.map_cons, List.map_nil]); first | done | rfl | (simp only [List.length_drop, List.length_take]; rfl)) ?_; (with_reducible refine (laws_toJacobi.calls k a0_0 _ _ l0_1 _ _ l0_2 t223 t224 t227 _ ?side1 ?side2 ?side3 ?side4 A10.out).mono ?_); (case side1 => exact Kd.C_below HR0_1.out (uH HB.out)); (case side2 => exact HC0_1.out); (case side3 => exact Kd.C_below HR0_2.out (uH HB.out)); (case side4 => exact HC0_2.out); rintro e w27 ⟨v225, v228, rfl, ho0, ho1, hb⟩; refine ⟨_, rfl, ?_⟩; have n0_ := zA (Kd.R_mono (Kd.R_told (Kd.R_told (Kd.R_old (uR ((Kd.R_mono (Kd.R_far (p := ⟨gb222, 2, none⟩) (Kd.R_far (p := ⟨gb222, 1, none⟩) (Kd.R_far (p := ⟨gb222, 0, none⟩) (Kd.R_types HO210.out BK222.out (by decide)) (fun _ hk => hk.2) (.int .i64 t214)) (fun _ hk => hk.2) (.slice Ao24 t215.length co24)) (fun _ hk => hk.2) (.slice Ao25 t218.length co25)) (fun _ h_ => h_.1)))) hb) (Kd.R_base ho0)) (Kd.R_base ho1)) (fun _ h_ => h_.1)); have n1_ := zA (Kd.R_mono (Kd.R_told (Kd.R_told (Kd.R_old (uR ((Kd.R_mono (Kd.R_far (p := ⟨gb222, 2, none⟩) (Kd.R_far (p := ⟨gb222, 1, none⟩) (Kd.R_far (p := ⟨gb222, 0, none⟩) (Kd.R_types HO213.out BK222.out (by decide)) (fun _ hk => hk.2) (.int .i64 t214)) (fun _ hk => hk.2) (.slice Ao24 t215.length co24)) (fun _ hk => hk.2) (.slice Ao25 t218.length co25)) (fun _ h_ => h_.1)))) hb) (Kd.R_base ho0)) (Kd.R_base ho1)) (fun _ h_ => h_.1)); have n2_ := zA (Kd.R_mono (Kd.R_told (Kd.R_told (Kd.R_old (uR ((Kd.R_mono (Kd.R_far (p := ⟨gb222, 2, none⟩) (Kd.R_far (p := ⟨gb222, 1, none⟩) (Kd.R_far (p := ⟨gb222, 0, none⟩) (Kd.R_types HO217.out BK222.out (by decide)) (fun _ hk => hk.2) (.int .i64 t214)) (fun _ hk => hk.2) (.slice Ao24 t215.length co24)) (fun _ hk => hk.2) (.slice Ao25 t218.length co25)) (fun _ h_ => h_.1)))) hb) (Kd.R_base ho0)) (Kd.R_base ho1)) (fun _ h_ => h_.1)); have n3_ := zA (Kd.R_mono (Kd.R_told (Kd.R_told (Kd.R_old (uR ((Kd.R_mono (Kd.R_far (p := ⟨gb222, 2, none⟩) (Kd.R_far (p := ⟨gb222, 1, none⟩) (Kd.R_far (p := ⟨gb222, 0, none⟩) (Kd.R_types HO220.out BK222.out (by decide)) (fun _ hk => hk.2) (.int .i64 t214)) (fun _ hk => hk.2) (.slice Ao24 t215.length co24)) (fun _ hk => hk.2) (.slice Ao25 t218.length co25)) (fun _ h_ => h_.1)))) hb) (Kd.R_base ho0)) (Kd.R_base ho1)) (fun _ h_ => h_.1)); have n4_ := zA (Kd.R_lower (Kd.R_new' (Kd.R_new' (Kd.R_new' (Kd.R_new' ho0 (Kd.R_lt (uR ((Kd.R_mono (Kd.R_far (p := ⟨gb222, 2, none⟩) (Kd.R_far (p := ⟨gb222, 1, none⟩) (Kd.R_far (p := ⟨gb222, 0, none⟩) (Kd.R_types HO210.out BK222.out (by decide)) (fun _ hk => hk.2) (.int .i64 t214)) (fun _ hk => hk.2) (.slice Ao24 t215.length co24)) (fun _ hk => hk.2) (.slice Ao25 t218.length co25)) (fun _ h_ => h_.1)))))) (Kd.R_lt (uR ((Kd.R_mono (Kd.R_far (p := ⟨gb222, 2, none⟩) (Kd.R_far (p := ⟨gb222, 1, none⟩) (Kd.R_far (p := ⟨gb222, 0, none⟩) (Kd.R_types HO213.out BK222.out (by decide)) (fun _ hk => hk.2) (.int .i64 t214)) (fun _ hk => hk.2) (.slice Ao24 t215.length co24)) (fun _ hk => hk.2) (.slice Ao25 t218.length co25)) (fun _ h_ => h_.1)))))) (Kd.R_lt (uR ((Kd.R_mono (Kd.R_far (p := ⟨gb222, 2, none⟩) (Kd.R_far (p := ⟨gb222, 1, none⟩) (Kd.R_far (p := ⟨gb222, 0, none⟩) (Kd.R_types HO217.out BK222.out (by decide)) (fun _ hk => hk.2) (.int .i64 t214)) (fun _ hk => hk.2) (.slice Ao24 t215.length co24)) (fun _ hk => hk.2) (.slice Ao25 t218.length co25)) (fun _ h_ => h_.1)))))) (Kd.R_lt (uR ((Kd.R_mono (Kd.R_far (p := ⟨gb222, 2, none⟩) (Kd.R_far (p := ⟨gb222, 1, none⟩) (Kd.R_far (p := ⟨gb222, 0, none⟩) (Kd.R_types HO220.out BK222.out (by decide)) (fun _ hk => hk.2) (.int .i64 t214)) (fun _ hk => hk.2) (.slice Ao24 t215.length co24)) (fun _ hk => hk.2) (.slice Ao25 t218.length co25)) (fun _ h_ => h_.1)))))) (below_size (uH HB.out))); have n5_ := zA (Kd.R_lower (Kd.R_new' (Kd.R_new' (Kd.R_new' (Kd.R_new' ho1 (Kd.R_lt (uR ((Kd.R_mono (Kd.R_far (p := ⟨gb222, 2, none⟩) (Kd.R_far (p := ⟨gb222, 1, none⟩) (Kd.R_far (p := ⟨gb222, 0, none⟩) (Kd.R_types HO210.out BK222.out (by decide)) (fun _ hk => hk.2) (.int .i64 t214)) (fun _ hk => hk.2) (.slice Ao24 t215.length co24)) (fun _ hk => hk.2) (.slice Ao25 t218.length co25)) (fun _ h_ => h_.1)))))) (Kd.R_lt (uR ((Kd.R_mono (Kd.R_far (p := ⟨gb222, 2, none⟩) (Kd.R_far (p := ⟨gb222, 1, none⟩) (Kd.R_far (p := ⟨gb222, 0, none⟩) (Kd.R_types HO213.out BK222.out (by decide)) (fun _ hk => hk.2) (.int .i64 t214)) (fun _ hk => hk.2) (.slice Ao24 t215.length co24)) (fun _ hk => hk.2) (.slice Ao25 t218.length co25)) (fun _ h_ => h_.1)))))) (Kd.R_lt (uR ((Kd.R_mono (Kd.R_far (p := ⟨gb222, 2, none⟩) (Kd.R_far (p := ⟨gb222, 1, none⟩) (Kd.R_far (p := ⟨gb222, 0, none⟩) (Kd.R_types HO217.out BK222.out (by decide)) (fun _ hk => hk.2) (.int .i64 t214)) (fun _ hk => hk.2) (.slice Ao24 t215.length co24)) (fun _ hk => hk.2) (.slice Ao25 t218.length co25)) (fun _ h_ => h_.1)))))) (Kd.R_lt (uR ((Kd.R_mono (Kd.R_far (p := ⟨gb222, 2, none⟩) (Kd.R_far (p := ⟨gb222, 1, none⟩) (Kd.R_far (p := ⟨gb222, 0, none⟩) (Kd.R_types HO220.out BK222.out (by decide)) (fun _ hk => hk.2) (.int .i64 t214)) (fun _ hk => hk.2) (.slice Ao24 t215.length co24)) (fun _ hk => hk.2) (.slice Ao25 t218.length co25)) (fun _ h_ => h_.1)))))) (below_size (uH HB.out))); have n6_ := zA (blk_below (g := gb205) (o := .cells #[.int .i64 a0_0, .slice A0_1 l0_1.length c0_1, .slice A0_2 l0_2.length c0_2] 24 (0, 0)) (by (with_reducible repeat (first | refine blk_drewN ?_ _ | refine blk_drew ?_ | refine blk_alloc ?_ _)); refine blk_far ?_ NB205_222.out _; (with_reducible repeat (first | refine blk_drewN ?_ _ | refine blk_drew ?_ | refine blk_alloc ?_ _)); refine blk_far ?_ NB205_222.out _; (with_reducible repeat (first | refine blk_drewN ?_ _ | refine blk_drew ?_ | refine blk_alloc ?_ _)); refine blk_far ?_ NB205_222.out _; (with_reducible repeat (first | refine blk_drewN ?_ _ | refine blk_drew ?_ | refine blk_alloc ?_ _)); exact BK205.out) hb); have n7_ := zA (blk_below (g := gb222) (o := .cells #[.int .i64 t214, .slice Ao24 t215.length co24, .slice Ao25 t218.length co25] 26 (0, 0)) (by (with_reducible repeat (first | refine blk_drewN ?_ _ | refine blk_drew ?_ | refine blk_alloc ?_ _)); refine blk_put (cs := #[.int .i64 t214, .slice Ao24 t215.length co24, .slice none 0 0]) ?_ 2 _ rfl; (with_reducible repeat (first | refine blk_drewN ?_ _ | refine blk_drew ?_ | refine blk_alloc ?_ _)); refine blk_put (cs := #[.int .i64 t214, .slice none 0 0, .slice none 0 0]) ?_ 1 _ rfl; (with_reducible repeat (first | refine blk_drewN ?_ _ | refine blk_drew ?_ | refine blk_alloc ?_ _)); refine blk_put (cs := #[.int .i64 0, .slice none 0 0, .slice none 0 0]) ?_ 0 _ rfl; (with_reducible repeat (first | refine blk_drewN ?_ _ | refine blk_drew ?_ | refine blk_alloc ?_ _)); exact BK222.out) hb); have n8_ := xH HB hb; clear HO210 HO213 HO217 HO220 BK205 BK222 HB; have HO210 := n0_; have HO213 := n1_; have HO217 := n2_; have HO220 := n3_; have HO226 := n4_; have HO229 := n5_; have BK205 := n6_; have BK222 := n7_; have HB := n8_; clear n0_ n1_ n2_ n3_ n4_ n5_ n6_ n7_ n8_; (try clear hb); (try clear hb2); (try clear hk); (try clear hi); (try clear ho0); (try clear ho1)) | ((with_reducible refine gate_dst (N := 8) rfl ?_); refine box_event ?hg (N := 8) ?hd (cs := #[.int .i64 0, .slice none 0 0, .slice none 0 0]) (t := 26) ?hr ?_; (case hd => rfl); (case hg => rfl); (case hr => first | (go_simp; done) | (go_simp; rfl)); intro gb230 hg w28 hbox hb; have n0_ := xR HO210 hb; have n1_ := xR HO213 hb; have n2_ := xR HO217 hb; have n3_ := xR HO220 hb; have n4_ := xR HO226 hb; have n5_ := xR HO229 hb; have n6_ := xB BK205 hb; have n7_ := xB BK222 hb; have n8_ := xH HB hb; have n9_ := zA (hbox); have n10_ := zA ((by rw [hg]; exact (below_size (uH HB.out)) : w.heap.size ≤ gb230)); have n11_ := zA ((by rw [hg]; exact (below_size (uH HB.out)) : w.heap.size ≤ gb230)); have n12_ := zA ((by rw [hg]; exact neL BK205 : gb205 ≠ gb230)); have n13_ := zA ((by rw [hg]; exact neG BK205 : gb230 ≠ gb205)); have n14_ := zA ((by rw [hg]; exact neL BK222 : gb222 ≠ gb230)); have n15_ := zA ((by rw [hg]; exact neG BK222 : gb230 ≠ gb222)); clear HO210 HO213 HO217 HO220 HO226 HO229 BK205 BK222 HB; have HO210 := n0_; have HO213 := n1_; have HO217 := n2_; have HO220 := n3_; have HO226 := n4_; have HO229 := n5_; have BK205 := n6_; have BK222 := n7_; have HB := n8_; have BK230 := n9_; have GW230 := n10_; have GE230 := n11_; have := geI GE230; have NB205_230 := n12_; have NB230_205 := n13_; have NB222_230 := n14_; have NB230_222 := n15_; clear n0_ n1_ n2_ n3_ n4_ n5_ n6_ n7_ n8_ n9_ n10_ n11_ n12_ n13_ n14_ n15_ hb hbox hg; have hnb29 := NB230_205.out; have hnc29 := NB205_230.out; have hnb30 := NB230_222.out; have hnc30 := NB222_230.out; have hcz31_0 : w28.cell? ⟨gb230, 0, none⟩ = some (.int .i64 0) := (blk_cell BK230.out 0).trans rfl; have hcz31_1 : w28.cell? ⟨gb230, 1, none⟩ = some (.slice none 0 0) := (blk_cell BK230.out 1).trans rfl; have hcz31_2 : w28.cell? ⟨gb230, 2, none⟩ = some (.slice none 0 0) := (blk_cell BK230.out 2).trans rfl; have hfz31_0 := blk_frozen BK230.out 0; have hfz31_1 := blk_frozen BK230.out 1; have hfz31_2 := blk_frozen BK230.out 2; obtain ⟨Ao32, co32, eo32⟩ := Kd.R_slice HO226.out; subst eo32; obtain ⟨Ao33, co33, eo33⟩ := Kd.R_slice HO229.out; subst eo33) | ((with_reducible refine gate_callee (f := 18) rfl ?_); refine goesL_ (some 33) rfl rfl Try.func18 (by kernel_rfl) rfl #[.agg #[.int .i64 t223, .slice Ao32 t224.length co32, .slice Ao33 t227.length co33], .int .i64 a1] rfl (by (try simp only [List.map_toArray, List.map_cons, List.map_nil]); first | done | rfl | (simp only [List.length_drop, List.length_take]; rfl)) ?_; (with_reducible refine (impl_ShiftJacobi.calls k t223 _ _ t224 _ _ t227 a1 t231 t232 t235 t238 _ ?side1 ?side2 ?side3 ?side4 A11.out).mono ?_); (case side1 => refine (Kd.R_reads' (e := 2) (base := w.heap.size) (ok := fun k_ => ((((some k_ ≠ (.slice Ao33 t227.length co33 : Value).ownBlock ∧ some k_ ≠ (.slice Ao18 t208.length co18 : Value).ownBlock) ∧ some k_ ≠ (.slice Ao19 t211.length co19 : Value).ownBlock) ∧ some k_ ≠ (.slice Ao24 t215.length co24 : Value).ownBlock) ∧ some k_ ≠ (.slice Ao25 t218.length co25 : Value).ownBlock)) (n := t224.length) (c := co32) ?_).2.2; exact (uR ((Kd.R_mono (Kd.R_far (p := ⟨gb230, 2, none⟩) (Kd.R_far (p := ⟨gb230, 1, none⟩) (Kd.R_far (p := ⟨gb230, 0, none⟩) (Kd.R_types HO226.out BK230.out (by decide)) (fun _ hk => hk.2) (.int .i64 t223)) (fun _ hk => hk.2) (.slice Ao32 t224.length co32)) (fun _ hk => hk.2) (.slice Ao33 t227.length co33)) (fun _ h_ => h_.1))))); (case side2 => exact (Kd.R_reads' HO226.out).2.1); (case side3 => refine (Kd.R_reads' (e := 2) (base := w.heap.size) (ok := fun k_ => ((((some k_ ≠ (.slice Ao32 t224.length co32 : Value).ownBlock ∧ some k_ ≠ (.slice Ao18 t208.length co18 : Value).ownBlock) ∧ some k_ ≠ (.slice Ao19 t211.length co19 : Value).ownBlock) ∧ some k_ ≠ (.slice Ao24 t215.length co24 : Value).ownBlock) ∧ some k_ ≠ (.slice Ao25 t218.length co25 : Value).ownBlock)) (n := t227.length) (c := co33) ?_).2.2; exact (uR ((Kd.R_mono (Kd.R_far (p := ⟨gb230, 2, none⟩) (Kd.R_far (p := ⟨gb230, 1, none⟩) (Kd.R_far (p := ⟨gb230, 0, none⟩) (Kd.R_types HO229.out BK230.out (by decide)) (fun _ hk => hk.2) (.int .i64 t223)) (fun _ hk => hk.2) (.slice Ao32 t224.length co32)) (fun _ hk => hk.2) (.slice Ao33 t227.length co33)) (fun _ h_ => h_.1))))); (case side4 => exact (Kd.R_reads' HO229.out).2.1); rintro e w34 ⟨v233, v236, rfl, ho0, ho1, hb⟩; refine ⟨_, rfl, ?_⟩; have n0_ := zA (Kd.R_mono (Kd.R_told (Kd.R_told (Kd.R_old (uR ((Kd.R_mono (Kd.R_far (p := ⟨gb230, 2, none⟩) (Kd.R_far (p := ⟨gb230, 1, none⟩) (Kd.R_far (p := ⟨gb230, 0, none⟩) (Kd.R_types HO210.out BK230.out (by decide)) (fun _ hk => hk.2) (.int .i64 t223)) (fun _ hk => hk.2) (.slice Ao32 t224.length co32)) (fun _ hk => hk.2) (.slice Ao33 t227.length co33)) (fun _ h_ => h_.1)))) hb) (Kd.R_base ho0)) (Kd.R_base ho1)) (fun _ h_ => h_.1)); have n1_ := zA (Kd.R_mono (Kd.R_told (Kd.R_told (Kd.R_old (uR ((Kd.R_mono (Kd.R_far (p := ⟨gb230, 2, none⟩) (Kd.R_far (p := ⟨gb230, 1, none⟩) (Kd.R_far (p := ⟨gb230, 0, none⟩) (Kd.R_types HO213.out BK230.out (by decide)) (fun _ hk => hk.2) (.int .i64 t223)) (fun _ hk => hk.2) (.slice Ao32 t224.length co32)) (fun _ hk => hk.2) (.slice Ao33 t227.length co33)) (fun _ h_ => h_.1)))) hb) (Kd.R_base ho0)) (Kd.R_base ho1)) (fun _ h_ => h_.1)); have n2_ := zA (Kd.R_mono (Kd.R_told (Kd.R_told (Kd.R_old (uR ((Kd.R_mono (Kd.R_far (p := ⟨gb230, 2, none⟩) (Kd.R_far (p := ⟨gb230, 1, none⟩) (Kd.R_far (p := ⟨gb230, 0, none⟩) (Kd.R_types HO217.out BK230.out (by decide)) (fun _ hk => hk.2) (.int .i64 t223)) (fun _ hk => hk.2) (.slice Ao32 t224.length co32)) (fun _ hk => hk.2) (.slice Ao33 t227.length co33)) (fun _ h_ => h_.1)))) hb) (Kd.R_base ho0)) (Kd.R_base ho1)) (fun _ h_ => h_.1)); have n3_ := zA (Kd.R_mono (Kd.R_told (Kd.R_told (Kd.R_old (uR ((Kd.R_mono (Kd.R_far (p := ⟨gb230, 2, none⟩) (Kd.R_far (p := ⟨gb230, 1, none⟩) (Kd.R_far (p := ⟨gb230, 0, none⟩) (Kd.R_types HO220.out BK230.out (by decide)) (fun _ hk => hk.2) (.int .i64 t223)) (fun _ hk => hk.2) (.slice Ao32 t224.length co32)) (fun _ hk => hk.2) (.slice Ao33 t227.length co33)) (fun _ h_ => h_.1)))) hb) (Kd.R_base ho0)) (Kd.R_base ho1)) (fun _ h_ => h_.1)); have n4_ := zA (Kd.R_mono (Kd.R_told (Kd.R_told (Kd.R_old (uR ((Kd.R_mono (Kd.R_far (p := ⟨gb230, 2, none⟩) (Kd.R_far (p := ⟨gb230, 1, none⟩) (Kd.R_far (p := ⟨gb230, 0, none⟩) (Kd.R_types HO226.out BK230.out (by decide)) (fun _ hk => hk.2) (.int .i64 t223)) (fun _ hk => hk.2) (.slice Ao32 t224.length co32)) (fun _ hk => hk.2) (.slice Ao33 t227.length co33)) (fun _ h_ => h_.1)))) hb) (Kd.R_base ho0)) (Kd.R_base ho1)) (fun _ h_ => h_.1)); have n5_ := zA (Kd.R_mono (Kd.R_told (Kd.R_told (Kd.R_old (uR ((Kd.R_mono (Kd.R_far (p := ⟨gb230, 2, none⟩) (Kd.R_far (p := ⟨gb230, 1, none⟩) (Kd.R_far (p := ⟨gb230, 0, none⟩) (Kd.R_types HO229.out BK230.out (by decide)) (fun _ hk => hk.2) (.int .i64 t223)) (fun _ hk => hk.2) (.slice Ao32 t224.length co32)) (fun _ hk => hk.2) (.slice Ao33 t227.length co33)) (fun _ h_ => h_.1)))) hb) (Kd.R_base ho0)) (Kd.R_base ho1)) (fun _ h_ => h_.1)); have n6_ := zA (Kd.R_lower (Kd.R_new' (Kd.R_new' (Kd.R_new' (Kd.R_new' (Kd.R_new' (Kd.R_new' ho0 (Kd.R_lt (uR ((Kd.R_mono (Kd.R_far (p := ⟨gb230, 2, none⟩) (Kd.R_far (p := ⟨gb230, 1, none⟩) (Kd.R_far (p := ⟨gb230, 0, none⟩) (Kd.R_types HO210.out BK230.out (by decide)) (fun _ hk => hk.2) (.int .i64 t223)) (fun _ hk => hk.2) (.slice Ao32 t224.length co32)) (fun _ hk => hk.2) (.slice Ao33 t227.length co33)) (fun _ h_ => h_.1)))))) (Kd.R_lt (uR ((Kd.R_mono (Kd.R_far (p := ⟨gb230, 2, none⟩) (Kd.R_far (p := ⟨gb230, 1, none⟩) (Kd.R_far (p := ⟨gb230, 0, none⟩) (Kd.R_types HO213.out BK230.out (by decide)) (fun _ hk => hk.2) (.int .i64 t223)) (fun _ hk => hk.2) (.slice Ao32 t224.length co32)) (fun _ hk => hk.2) (.slice Ao33 t227.length co33)) (fun _ h_ => h_.1)))))) (Kd.R_lt (uR ((Kd.R_mono (Kd.R_far (p := ⟨gb230, 2, none⟩) (Kd.R_far (p := ⟨gb230, 1, none⟩) (Kd.R_far (p := ⟨gb230, 0, none⟩) (Kd.R_types HO217.out BK230.out (by decide)) (fun _ hk => hk.2) (.int .i64 t223)) (fun _ hk => hk.2) (.slice Ao32 t224.length co32)) (fun _ hk => hk.2) (.slice Ao33 t227.length co33)) (fun _ h_ => h_.1)))))) (Kd.R_lt (uR ((Kd.R_mono (Kd.R_far (p := ⟨gb230, 2, none⟩) (Kd.R_far (p := ⟨gb230, 1, none⟩) (Kd.R_far (p := ⟨gb230, 0, none⟩) (Kd.R_types HO220.out BK230.out (by decide)) (fun _ hk => hk.2) (.int .i64 t223)) (fun _ hk => hk.2) (.slice Ao32 t224.length co32)) (fun _ hk => hk.2) (.slice Ao33 t227.length co33)) (fun _ h_ => h_.1)))))) (Kd.R_lt (uR ((Kd.R_mono (Kd.R_far (p := ⟨gb230, 2, none⟩) (Kd.R_far (p := ⟨gb230, 1, none⟩) (Kd.R_far (p := ⟨gb230, 0, none⟩) (Kd.R_types HO226.out BK230.out (by decide)) (fun _ hk => hk.2) (.int .i64 t223)) (fun _ hk => hk.2) (.slice Ao32 t224.length co32)) (fun _ hk => hk.2) (.slice Ao33 t227.length co33)) (fun _ h_ => h_.1)))))) (Kd.R_lt (uR ((Kd.R_mono (Kd.R_far (p := ⟨gb230, 2, none⟩) (Kd.R_far (p := ⟨gb230, 1, none⟩) (Kd.R_far (p := ⟨gb230, 0, none⟩) (Kd.R_types HO229.out BK230.out (by decide)) (fun _ hk => hk.2) (.int .i64 t223)) (fun _ hk => hk.2) (.slice Ao32 t224.length co32)) (fun _ hk => hk.2) (.slice Ao33 t227.length co33)) (fun _ h_ => h_.1)))))) (below_size (uH HB.out))); have n7_ := zA (Kd.R_lower (Kd.R_new' (Kd.R_new' (Kd.R_new' (Kd.R_new' (Kd.R_new' (Kd.R_new' ho1 (Kd.R_lt (uR ((Kd.R_mono (Kd.R_far (p := ⟨gb230, 2, none⟩) (Kd.R_far (p := ⟨gb230, 1, none⟩) (Kd.R_far (p := ⟨gb230, 0, none⟩) (Kd.R_types HO210.out BK230.out (by decide)) (fun _ hk => hk.2) (.int .i64 t223)) (fun _ hk => hk.2) (.slice Ao32 t224.length co32)) (fun _ hk => hk.2) (.slice Ao33 t227.length co33)) (fun _ h_ => h_.1)))))) (Kd.R_lt (uR ((Kd.R_mono (Kd.R_far (p := ⟨gb230, 2, none⟩) (Kd.R_far (p := ⟨gb230, 1, none⟩) (Kd.R_far (p := ⟨gb230, 0, none⟩) (Kd.R_types HO213.out BK230.out (by decide)) (fun _ hk => hk.2) (.int .i64 t223)) (fun _ hk => hk.2) (.slice Ao32 t224.length co32)) (fun _ hk => hk.2) (.slice Ao33 t227.length co33)) (fun _ h_ => h_.1)))))) (Kd.R_lt (uR ((Kd.R_mono (Kd.R_far (p := ⟨gb230, 2, none⟩) (Kd.R_far (p := ⟨gb230, 1, none⟩) (Kd.R_far (p := ⟨gb230, 0, none⟩) (Kd.R_types HO217.out BK230.out (by decide)) (fun _ hk => hk.2) (.int .i64 t223)) (fun _ hk => hk.2) (.slice Ao32 t224.length co32)) (fun _ hk => hk.2) (.slice Ao33 t227.length co33)) (fun _ h_ => h_.1)))))) (Kd.R_lt (uR ((Kd.R_mono (Kd.R_far (p := ⟨gb230, 2, none⟩) (Kd.R_far (p := ⟨gb230, 1, none⟩) (Kd.R_far (p := ⟨gb230, 0, none⟩) (Kd.R_types HO220.out BK230.out (by decide)) (fun _ hk => hk.2) (.int .i64 t223)) (fun _ hk => hk.2) (.slice Ao32 t224.length co32)) (fun _ hk => hk.2) (.slice Ao33 t227.length co33)) (fun _ h_ => h_.1)))))) (Kd.R_lt (uR ((Kd.R_mono (Kd.R_far (p := ⟨gb230, 2, none⟩) (Kd.R_far (p := ⟨gb230, 1, none⟩) (Kd.R_far (p := ⟨gb230, 0, none⟩) (Kd.R_types HO226.out BK230.out (by decide)) (fun _ hk => hk.2) (.int .i64 t223)) (fun _ hk => hk.2) (.slice Ao32 t224.length co32)) (fun _ hk => hk.2) (.slice Ao33 t227.length co33)) (fun _ h_ => h_.1)))))) (Kd.R_lt (uR ((Kd.R_mono (Kd.R_far (p := ⟨gb230, 2, none⟩) (Kd.R_far (p := ⟨gb230, 1, none⟩) (Kd.R_far (p := ⟨gb230, 0, none⟩) (Kd.R_types HO229.out BK230.out (by decide)) (fun _ hk => hk.2) (.int .i64 t223)) (fun _ hk => hk.2) (.slice Ao32 t224.length co32)) (fun _ hk => hk.2) (.slice Ao33 t227.length co33)) (fun _ h_ => h_.1)))))) (below_size (uH HB.out))); have n8_ := zA (blk_below (g := gb205) (o := .cells #[.int .i64 a0_0, .slice A0_1 l0_1.length c0_1, .slice A0_2 l0_2.length c0_2] 24 (0, 0)) (by (with_reducible repeat (first | refine blk_drewN ?_ _ | refine blk_drew ?_ | refine blk_alloc ?_ _)); refine blk_far ?_ NB205_230.out _; (with_reducible repeat (first | refine blk_drewN ?_ _ | refine blk_drew ?_ | refine blk_alloc ?_ _)); refine blk_far ?_ NB205_230.out _; (with_reducible repeat (first | refine blk_drewN ?_ _ | refine blk_drew ?_ | refine blk_alloc ?_ _)); refine blk_far ?_ NB205_230.out _; (with_reducible repeat (first | refine blk_drewN ?_ _ | refine blk_drew ?_ | refine blk_alloc ?_ _)); exact BK205.out) hb); have n9_ := zA (blk_below (g := gb222) (o := .cells #[.int .i64 t214, .slice Ao24 t215.length co24, .slice Ao25 t218.length co25] 26 (0, 0)) (by (with_reducible repeat (first | refine blk_drewN ?_ _ | refine blk_drew ?_ | refine blk_alloc ?_ _)); refine blk_far ?_ NB222_230.out _; (with_reducible repeat (first | refine blk_drewN ?_ _ | refine blk_drew ?_ | refine blk_alloc ?_ _)); refine blk_far ?_ NB222_230.out _; (with_reducible repeat (first | refine blk_drewN ?_ _ | refine blk_drew ?_ | refine blk_alloc ?_ _)); refine blk_far ?_ NB222_230.out _; (with_reducible repeat (first | refine blk_drewN ?_ _ | refine blk_drew ?_ | refine blk_alloc ?_ _)); exact BK222.out) hb); have n10_ := zA (blk_below (g := gb230) (o := .cells #[.int .i64 t223, .slice Ao32 t224.length co32, .slice Ao33 t227.length co33] 26 (0, 0)) (by (with_reducible repeat (first | refine blk_drewN ?_ _ | refine blk_drew ?_ | refine blk_alloc ?_ _)); refine blk_put (cs := #[.int .i64 t223, .slice Ao32 t224.length co32, .slice none 0 0]) ?_ 2 _ rfl; (with_reducible repeat (first | refine blk_drewN ?_ _ | refine blk_drew ?_ | refine blk_alloc ?_ _)); refine blk_put (cs := #[.int .i64 t223, .slice none 0 0, .slice none 0 0]) ?_ 1 _ rfl; (with_reducible repeat (first | refine blk_drewN ?_ _ | refine blk_drew ?_ | refine blk_alloc ?_ _)); refine blk_put (cs := #[.int .i64 0, .slice none 0 0, .slice none 0 0]) ?_ 0 _ rfl; (with_reducible repeat (first | refine blk_drewN ?_ _ | refine blk_drew ?_ | refine blk_alloc ?_ _)); exact BK230.out) hb); have n11_ := xH HB hb; clear HO210 HO213 HO217 HO220 HO226 HO229 BK205 BK222 BK230 HB; have HO210 := n0_; have HO213 := n1_; have HO217 := n2_; have HO220 := n3_; have HO226 := n4_; have HO229 := n5_; have HO234 := n6_; have HO237 := n7_; have BK205 := n8_; have BK222 := n9_; have BK230 := n10_; have HB := n11_; clear n0_ n1_ n2_ n3_ n4_ n5_ n6_ n7_ n8_ n9_ n10_ n11_; (try clear hb); (try clear hb2); (try clear hk); (try clear hi); (try clear ho0); (try clear ho1)) | ((with_reducible refine gate_dst (N := 9) rfl ?_); refine box_event ?hg (N := 9) ?hd (cs := #[.int .i64 0, .slice none 0 0, .slice none 0 0]) (t := 26) ?hr ?_; (case hd => rfl); (case hg => rfl); (case hr => first | (go_simp; done) | (go_simp; rfl)); intro gb239 hg w35 hbox hb; have n0_ := xR HO210 hb; have n1_ := xR HO213 hb; have n2_ := xR HO217 hb; have n3_ := xR HO220 hb; have n4_ := xR HO226 hb; have n5_ := xR HO229 hb; have n6_ := xR HO234 hb; have n7_ := xR HO237 hb; have n8_ := xB BK205 hb; have n9_ := xB BK222 hb; have n10_ := xB BK230 hb; have n11_ := xH HB hb; have n12_ := zA (hbox); have n13_ := zA ((by rw [hg]; exact (below_size (uH HB.out)) : w.heap.size ≤ gb239)); have n14_ := zA ((by rw [hg]; exact (below_size (uH HB.out)) : w.heap.size ≤ gb239)); have n15_ := zA ((by rw [hg]; exact neL BK205 : gb205 ≠ gb239)); have n16_ := zA ((by rw [hg]; exact neG BK205 : gb239 ≠ gb205)); have n17_ := zA ((by rw [hg]; exact neL BK222 : gb222 ≠ gb239)); have n18_ := zA ((by rw [hg]; exact neG BK222 : gb239 ≠ gb222)); have n19_ := zA ((by rw [hg]; exact neL BK230 : gb230 ≠ gb239)); have n20_ := zA ((by rw [hg]; exact neG BK230 : gb239 ≠ gb230)); clear HO210 HO213 HO217 HO220 HO226 HO229 HO234 HO237 BK205 BK222 BK230 HB; have HO210 := n0_; have HO213 := n1_; have HO217 := n2_; have HO220 := n3_; have HO226 := n4_; have HO229 := n5_; have HO234 := n6_; have HO237 := n7_; have BK205 := n8_; have BK222 := n9_; have BK230 := n10_; have HB := n11_; have BK239 := n12_; have GW239 := n13_; have GE239 := n14_; have := geI GE239; have NB205_239 := n15_; have NB239_205 := n16_; have NB222_239 := n17_; have NB239_222 := n18_; have NB230_239 := n19_; have NB239_230 := n20_; clear n0_ n1_ n2_ n3_ n4_ n5_ n6_ n7_ n8_ n9_ n10_ n11_ n12_ n13_ n14_ n15_ n16_ n17_ n18_ n19_ n20_ hb hbox hg; have hnb36 := NB239_205.out; have hnc36 := NB205_239.out; have hnb37 := NB239_222.out; have hnc37 := NB222_239.out; have hnb38 := NB239_230.out; have hnc38 := NB230_239.out; have hcz39_0 : w35.cell? ⟨gb239, 0, none⟩ = some (.int .i64 0) := (blk_cell BK239.out 0).trans rfl; have hcz39_1 : w35.cell? ⟨gb239, 1, none⟩ = some (.slice none 0 0) := (blk_cell BK239.out 1).trans rfl; have hcz39_2 : w35.cell? ⟨gb239, 2, none⟩ = some (.slice none 0 0) := (blk_cell BK239.out 2).trans rfl; have hfz39_0 := blk_frozen BK239.out 0; have hfz39_1 := blk_frozen BK239.out 1; have hfz39_2 := blk_frozen BK239.out 2; obtain ⟨Ao40, co40, eo40⟩ := Kd.R_slice HO234.out; subst eo40; obtain ⟨Ao41, co41, eo41⟩ := Kd.R_slice HO237.out; subst eo41))
  (try simp only [Act.put, List.setIfInBounds_toArray, List.set_cons_zero, List.set_cons_succ])
  go_cut [44] (fun v44 wc => ∃ (kq : Nat) (x44_11 : Bool), v44 = .bool x44_11 ∧ Aside0 (laws_FnExactShiftJacobi.j0 kq a1 t221 t238 x44_11 a0_0 l0_1 l0_2 t214 t215 t218 t223 t224 t227 t231 t232 t235 = some r) ∧ Aside0 (kq ≤ k) ∧ Aside0 (Kd.R (Kd.int .i64) 2 wc w.heap.size (fun k_ => some k_ ≠ ((.slice Ao25 t218.length co25) : Value).ownBlock ∧ some k_ ≠ ((.slice Ao32 t224.length co32) : Value).ownBlock ∧ some k_ ≠ ((.slice Ao33 t227.length co33) : Value).ownBlock ∧ some k_ ≠ ((.slice Ao40 t232.length co40) : Value).ownBlock ∧ some k_ ≠ ((.slice Ao41 t235.length co41) : Value).ownBlock) (.slice Ao24 t215.length co24) t215) ∧ Aside0 (Kd.R (Kd.int .i64) 2 wc w.heap.size (fun k_ => some k_ ≠ ((.slice Ao24 t215.length co24) : Value).ownBlock ∧ some k_ ≠ ((.slice Ao32 t224.length co32) : Value).ownBlock ∧ some k_ ≠ ((.slice Ao33 t227.length co33) : Value).ownBlock ∧ some k_ ≠ ((.slice Ao40 t232.length co40) : Value).ownBlock ∧ some k_ ≠ ((.slice Ao41 t235.length co41) : Value).ownBlock) (.slice Ao25 t218.length co25) t218) ∧ Aside0 (Kd.R (Kd.int .i64) 2 wc w.heap.size (fun k_ => some k_ ≠ ((.slice Ao24 t215.length co24) : Value).ownBlock ∧ some k_ ≠ ((.slice Ao25 t218.length co25) : Value).ownBlock ∧ some k_ ≠ ((.slice Ao33 t227.length co33) : Value).ownBlock ∧ some k_ ≠ ((.slice Ao40 t232.length co40) : Value).ownBlock ∧ some k_ ≠ ((.slice Ao41 t235.length co41) : Value).ownBlock) (.slice Ao32 t224.length co32) t224) ∧ Aside0 (Kd.R (Kd.int .i64) 2 wc w.heap.size (fun k_ => some k_ ≠ ((.slice Ao24 t215.length co24) : Value).ownBlock ∧ some k_ ≠ ((.slice Ao25 t218.length co25) : Value).ownBlock ∧ some k_ ≠ ((.slice Ao32 t224.length co32) : Value).ownBlock ∧ some k_ ≠ ((.slice Ao40 t232.length co40) : Value).ownBlock ∧ some k_ ≠ ((.slice Ao41 t235.length co41) : Value).ownBlock) (.slice Ao33 t227.length co33) t227) ∧ Aside0 (Kd.R (Kd.int .i64) 2 wc w.heap.size (fun k_ => some k_ ≠ ((.slice Ao24 t215.length co24) : Value).ownBlock ∧ some k_ ≠ ((.slice Ao25 t218.length co25) : Value).ownBlock ∧ some k_ ≠ ((.slice Ao32 t224.length co32) : Value).ownBlock ∧ some k_ ≠ ((.slice Ao33 t227.length co33) : Value).ownBlock ∧ some k_ ≠ ((.slice Ao41 t235.length co41) : Value).ownBlock) (.slice Ao40 t232.length co40) t232) ∧ Aside0 (Kd.R (Kd.int .i64) 2 wc w.heap.size (fun k_ => some k_ ≠ ((.slice Ao24 t215.length co24) : Value).ownBlock ∧ some k_ ≠ ((.slice Ao25 t218.length co25) : Value).ownBlock ∧ some k_ ≠ ((.slice Ao32 t224.length co32) : Value).ownBlock ∧ some k_ ≠ ((.slice Ao33 t227.length co33) : Value).ownBlock ∧ some k_ ≠ ((.slice Ao40 t232.length co40) : Value).ownBlock) (.slice Ao41 t235.length co41) t235) ∧ Aside0 (wc.heap[gb205]? = some (.cells #[.int .i64 a0_0, (.slice A0_1 l0_1.length c0_1), (.slice A0_2 l0_2.length c0_2)] 24 (0, 0))) ∧ Aside0 (wc.heap[gb222]? = some (.cells #[.int .i64 t214, (.slice Ao24 t215.length co24), (.slice Ao25 t218.length co25)] 26 (0, 0))) ∧ Aside0 (wc.heap[gb230]? = some (.cells #[.int .i64 t223, (.slice Ao32 t224.length co32), (.slice Ao33 t227.length co33)] 26 (0, 0))) ∧ Aside0 (wc.heap[gb239]? = some (.cells #[.int .i64 t231, (.slice Ao40 t232.length co40), (.slice Ao41 t235.length co41)] 26 (0, 0))) ∧ Aside0 (Below w.heap.size w wc))
  case first =>
   have H := HC12.out
   clear HC12
   replace H := Option.bind_eq_some_iff.mp H
   obtain ⟨t240, A420, H⟩ := H
   replace H : (if t240 = true then (laws_FnExactShiftJacobi.j0 k a1 t221 t238 (t238 != t221) a0_0 l0_1 l0_2 t214 t215 t218 t223 t224 t227 t231 t232 t235) else (laws_FnExactShiftJacobi.j0 k a1 t221 t238 true a0_0 l0_1 l0_2 t214 t215 t218 t223 t224 t227 t231 t232 t235)) = some r := H
   have A42 := zA A420
   clear A420
   by_cases c43 : t240 = true
   ·subst c43
    have H1 : (laws_FnExactShiftJacobi.j0 k a1 t221 t238 (t238 != t221) a0_0 l0_1 l0_2 t214 t215 t218 t223 t224 t227 t231 t232 t235) = some r := by rw [if_pos rfl] at H; exact H
    clear H
    have H := H1
    clear H1
    have H' := zA H
    clear H
    have hnb44 := NB239_205.out; have hnc44 := NB205_239.out; have hnb45 := NB239_222.out; have hnc45 := NB222_239.out; have hnb46 := NB239_230.out; have hnc46 := NB230_239.out
    have hcz47_0 : w35.cell? ⟨gb239, 0, none⟩ = some (.int .i64 0) := (blk_cell BK239.out 0).trans rfl
    have hcz47_1 : w35.cell? ⟨gb239, 1, none⟩ = some (.slice none 0 0) := (blk_cell BK239.out 1).trans rfl
    have hcz47_2 : w35.cell? ⟨gb239, 2, none⟩ = some (.slice none 0 0) := (blk_cell BK239.out 2).trans rfl
    have hfz47_0 := blk_frozen BK239.out 0
    have hfz47_1 := blk_frozen BK239.out 1
    have hfz47_2 := blk_frozen BK239.out 2
    have hnb48 := NB222_205.out; have hnc48 := NB205_222.out; have hnb49 := NB222_230.out; have hnc49 := NB230_222.out
    have hcz50_0 : w35.cell? ⟨gb222, 0, none⟩ = some (.int .i64 t214) := (blk_cell BK222.out 0).trans rfl
    have hcz50_1 : w35.cell? ⟨gb222, 1, none⟩ = some (.slice Ao24 t215.length co24) := (blk_cell BK222.out 1).trans rfl
    have hcz50_2 : w35.cell? ⟨gb222, 2, none⟩ = some (.slice Ao25 t218.length co25) := (blk_cell BK222.out 2).trans rfl
    have hfz50_0 := blk_frozen BK222.out 0
    have hfz50_1 := blk_frozen BK222.out 1
    have hfz50_2 := blk_frozen BK222.out 2
    go_wp2_with (first | ((with_reducible refine gate_callee (f := 19) rfl ?_); refine goesL_ (some 38) rfl rfl Try.func19 (by kernel_rfl) rfl #[.agg #[.int .i64 t231, .slice Ao40 t232.length co40, .slice Ao41 t235.length co41], .agg #[.int .i64 t214, .slice Ao24 t215.length co24, .slice Ao25 t218.length co25]] rfl (by (try simp only [List.map_toArray, List.map_cons, List.map_nil]); first | done | rfl | (simp only [List.length_drop, List.length_take]; rfl)) ?_; (with_reducible refine (laws_eqJacobi.calls k t231 _ _ t232 _ _ t235 t214 _ _ t215 _ _ t218 true _ ?side1 ?side2 ?side3 ?side4 ?side5 ?side6 ?side7 ?side8 A42.out).mono ?_); (case side1 => refine (Kd.R_reads' (e := 2) (base := w.heap.size) (ok := fun k_ => ((((((some k_ ≠ (.slice Ao41 t235.length co41 : Value).ownBlock ∧ some k_ ≠ (.slice Ao18 t208.length co18 : Value).ownBlock) ∧ some k_ ≠ (.slice Ao19 t211.length co19 : Value).ownBlock) ∧ some k_ ≠ (.slice Ao24 t215.length co24 : Value).ownBlock) ∧ some k_ ≠ (.slice Ao25 t218.length co25 : Value).ownBlock) ∧ some k_ ≠ (.slice Ao32 t224.length co32 : Value).ownBlock) ∧ some k_ ≠ (.slice Ao33 t227.length co33 : Value).ownBlock)) (n := t232.length) (c := co40) ?_).2.2; exact (uR ((Kd.R_mono (Kd.R_far (p := ⟨gb239, 2, none⟩) (Kd.R_far (p := ⟨gb239, 1, none⟩) (Kd.R_far (p := ⟨gb239, 0, none⟩) (Kd.R_types HO234.out BK239.out (by decide)) (fun _ hk => hk.2) (.int .i64 t231)) (fun _ hk => hk.2) (.slice Ao40 t232.length co40)) (fun _ hk => hk.2) (.slice Ao41 t235.length co41)) (fun _ h_ => h_.1))))); (case side2 => exact (Kd.R_reads' HO234.out).2.1); (case side3 => refine (Kd.R_reads' (e := 2) (base := w.heap.size) (ok := fun k_ => ((((((some k_ ≠ (.slice Ao40 t232.length co40 : Value).ownBlock ∧ some k_ ≠ (.slice Ao18 t208.length co18 : Value).ownBlock) ∧ some k_ ≠ (.slice Ao19 t211.length co19 : Value).ownBlock) ∧ some k_ ≠ (.slice Ao24 t215.length co24 : Value).ownBlock) ∧ some k_ ≠ (.slice Ao25 t218.length co25 : Value).ownBlock) ∧ some k_ ≠ (.slice Ao32 t224.length co32 : Value).ownBlock) ∧ some k_ ≠ (.slice Ao33 t227.length co33 : Value).ownBlock)) (n := t235.length) (c := co41) ?_).2.2; exact (uR ((Kd.R_mono (Kd.R_far (p := ⟨gb239, 2, none⟩) (Kd.R_far (p := ⟨gb239, 1, none⟩) (Kd.R_far (p := ⟨gb239, 0, none⟩) (Kd.R_types HO237.out BK239.out (by decide)) (fun _ hk => hk.2) (.int .i64 t231)) (fun _ hk => hk.2) (.slice Ao40 t232.length co40)) (fun _ hk => hk.2) (.slice Ao41 t235.length co41)) (fun _ h_ => h_.1))))); (case side4 => exact (Kd.R_reads' HO237.out).2.1); (case side5 => refine (Kd.R_reads' (e := 2) (base := w.heap.size) (ok := fun k_ => ((((((some k_ ≠ (.slice Ao25 t218.length co25 : Value).ownBlock ∧ some k_ ≠ (.slice Ao18 t208.length co18 : Value).ownBlock) ∧ some k_ ≠ (.slice Ao19 t211.length co19 : Value).ownBlock) ∧ some k_ ≠ (.slice Ao32 t224.length co32 : Value).ownBlock) ∧ some k_ ≠ (.slice Ao33 t227.length co33 : Value).ownBlock) ∧ some k_ ≠ (.slice Ao40 t232.length co40 : Value).ownBlock) ∧ some k_ ≠ (.slice Ao41 t235.length co41 : Value).ownBlock)) (n := t215.length) (c := co24) ?_).2.2; exact (uR ((Kd.R_mono (Kd.R_far (p := ⟨gb239, 2, none⟩) (Kd.R_far (p := ⟨gb239, 1, none⟩) (Kd.R_far (p := ⟨gb239, 0, none⟩) (Kd.R_types HO217.out BK239.out (by decide)) (fun _ hk => hk.2) (.int .i64 t231)) (fun _ hk => hk.2) (.slice Ao40 t232.length co40)) (fun _ hk => hk.2) (.slice Ao41 t235.length co41)) (fun _ h_ => h_.1))))); (case side6 => exact (Kd.R_reads' HO217.out).2.1); (case side7 => refine (Kd.R_reads' (e := 2) (base := w.heap.size) (ok := fun k_ => ((((((some k_ ≠ (.slice Ao24 t215.length co24 : Value).ownBlock ∧ some k_ ≠ (.slice Ao18 t208.length co18 : Value).ownBlock) ∧ some k_ ≠ (.slice Ao19 t211.length co19 : Value).ownBlock) ∧ some k_ ≠ (.slice Ao32 t224.length co32 : Value).ownBlock) ∧ some k_ ≠ (.slice Ao33 t227.length co33 : Value).ownBlock) ∧ some k_ ≠ (.slice Ao40 t232.length co40 : Value).ownBlock) ∧ some k_ ≠ (.slice Ao41 t235.length co41 : Value).ownBlock)) (n := t218.length) (c := co25) ?_).2.2; exact (uR ((Kd.R_mono (Kd.R_far (p := ⟨gb239, 2, none⟩) (Kd.R_far (p := ⟨gb239, 1, none⟩) (Kd.R_far (p := ⟨gb239, 0, none⟩) (Kd.R_types HO220.out BK239.out (by decide)) (fun _ hk => hk.2) (.int .i64 t231)) (fun _ hk => hk.2) (.slice Ao40 t232.length co40)) (fun _ hk => hk.2) (.slice Ao41 t235.length co41)) (fun _ h_ => h_.1))))); (case side8 => exact (Kd.R_reads' HO220.out).2.1); rintro e w51 ⟨rfl, hb⟩; refine ⟨_, rfl, ?_⟩; have n0_ := zA (Kd.R_below (uR ((Kd.R_mono (Kd.R_far (p := ⟨gb239, 2, none⟩) (Kd.R_far (p := ⟨gb239, 1, none⟩) (Kd.R_far (p := ⟨gb239, 0, none⟩) (Kd.R_types HO210.out BK239.out (by decide)) (fun _ hk => hk.2) (.int .i64 t231)) (fun _ hk => hk.2) (.slice Ao40 t232.length co40)) (fun _ hk => hk.2) (.slice Ao41 t235.length co41)) (fun _ h_ => h_.1)))) hb); have n1_ := zA (Kd.R_below (uR ((Kd.R_mono (Kd.R_far (p := ⟨gb239, 2, none⟩) (Kd.R_far (p := ⟨gb239, 1, none⟩) (Kd.R_far (p := ⟨gb239, 0, none⟩) (Kd.R_types HO213.out BK239.out (by decide)) (fun _ hk => hk.2) (.int .i64 t231)) (fun _ hk => hk.2) (.slice Ao40 t232.length co40)) (fun _ hk => hk.2) (.slice Ao41 t235.length co41)) (fun _ h_ => h_.1)))) hb); have n2_ := zA (Kd.R_below (uR ((Kd.R_mono (Kd.R_far (p := ⟨gb239, 2, none⟩) (Kd.R_far (p := ⟨gb239, 1, none⟩) (Kd.R_far (p := ⟨gb239, 0, none⟩) (Kd.R_types HO217.out BK239.out (by decide)) (fun _ hk => hk.2) (.int .i64 t231)) (fun _ hk => hk.2) (.slice Ao40 t232.length co40)) (fun _ hk => hk.2) (.slice Ao41 t235.length co41)) (fun _ h_ => h_.1)))) hb); have n3_ := zA (Kd.R_below (uR ((Kd.R_mono (Kd.R_far (p := ⟨gb239, 2, none⟩) (Kd.R_far (p := ⟨gb239, 1, none⟩) (Kd.R_far (p := ⟨gb239, 0, none⟩) (Kd.R_types HO220.out BK239.out (by decide)) (fun _ hk => hk.2) (.int .i64 t231)) (fun _ hk => hk.2) (.slice Ao40 t232.length co40)) (fun _ hk => hk.2) (.slice Ao41 t235.length co41)) (fun _ h_ => h_.1)))) hb); have n4_ := zA (Kd.R_below (uR ((Kd.R_mono (Kd.R_far (p := ⟨gb239, 2, none⟩) (Kd.R_far (p := ⟨gb239, 1, none⟩) (Kd.R_far (p := ⟨gb239, 0, none⟩) (Kd.R_types HO226.out BK239.out (by decide)) (fun _ hk => hk.2) (.int .i64 t231)) (fun _ hk => hk.2) (.slice Ao40 t232.length co40)) (fun _ hk => hk.2) (.slice Ao41 t235.length co41)) (fun _ h_ => h_.1)))) hb); have n5_ := zA (Kd.R_below (uR ((Kd.R_mono (Kd.R_far (p := ⟨gb239, 2, none⟩) (Kd.R_far (p := ⟨gb239, 1, none⟩) (Kd.R_far (p := ⟨gb239, 0, none⟩) (Kd.R_types HO229.out BK239.out (by decide)) (fun _ hk => hk.2) (.int .i64 t231)) (fun _ hk => hk.2) (.slice Ao40 t232.length co40)) (fun _ hk => hk.2) (.slice Ao41 t235.length co41)) (fun _ h_ => h_.1)))) hb); have n6_ := zA (Kd.R_below (uR ((Kd.R_mono (Kd.R_far (p := ⟨gb239, 2, none⟩) (Kd.R_far (p := ⟨gb239, 1, none⟩) (Kd.R_far (p := ⟨gb239, 0, none⟩) (Kd.R_types HO234.out BK239.out (by decide)) (fun _ hk => hk.2) (.int .i64 t231)) (fun _ hk => hk.2) (.slice Ao40 t232.length co40)) (fun _ hk => hk.2) (.slice Ao41 t235.length co41)) (fun _ h_ => h_.1)))) hb); have n7_ := zA (Kd.R_below (uR ((Kd.R_mono (Kd.R_far (p := ⟨gb239, 2, none⟩) (Kd.R_far (p := ⟨gb239, 1, none⟩) (Kd.R_far (p := ⟨gb239, 0, none⟩) (Kd.R_types HO237.out BK239.out (by decide)) (fun _ hk => hk.2) (.int .i64 t231)) (fun _ hk => hk.2) (.slice Ao40 t232.length co40)) (fun _ hk => hk.2) (.slice Ao41 t235.length co41)) (fun _ h_ => h_.1)))) hb); have n8_ := zA (blk_below (g := gb205) (o := .cells #[.int .i64 a0_0, .slice A0_1 l0_1.length c0_1, .slice A0_2 l0_2.length c0_2] 24 (0, 0)) (by (with_reducible repeat (first | refine blk_drewN ?_ _ | refine blk_drew ?_ | refine blk_alloc ?_ _)); refine blk_far ?_ NB205_239.out _; (with_reducible repeat (first | refine blk_drewN ?_ _ | refine blk_drew ?_ | refine blk_alloc ?_ _)); refine blk_far ?_ NB205_239.out _; (with_reducible repeat (first | refine blk_drewN ?_ _ | refine blk_drew ?_ | refine blk_alloc ?_ _)); refine blk_far ?_ NB205_239.out _; (with_reducible repeat (first | refine blk_drewN ?_ _ | refine blk_drew ?_ | refine blk_alloc ?_ _)); exact BK205.out) hb); have n9_ := zA (blk_below (g := gb222) (o := .cells #[.int .i64 t214, .slice Ao24 t215.length co24, .slice Ao25 t218.length co25] 26 (0, 0)) (by (with_reducible repeat (first | refine blk_drewN ?_ _ | refine blk_drew ?_ | refine blk_alloc ?_ _)); refine blk_far ?_ NB222_239.out _; (with_reducible repeat (first | refine blk_drewN ?_ _ | refine blk_drew ?_ | refine blk_alloc ?_ _)); refine blk_far ?_ NB222_239.out _; (with_reducible repeat (first | refine blk_drewN ?_ _ | refine blk_drew ?_ | refine blk_alloc ?_ _)); refine blk_far ?_ NB222_239.out _; (with_reducible repeat (first | refine blk_drewN ?_ _ | refine blk_drew ?_ | refine blk_alloc ?_ _)); exact BK222.out) hb); have n10_ := zA (blk_below (g := gb230) (o := .cells #[.int .i64 t223, .slice Ao32 t224.length co32, .slice Ao33 t227.length co33] 26 (0, 0)) (by (with_reducible repeat (first | refine blk_drewN ?_ _ | refine blk_drew ?_ | refine blk_alloc ?_ _)); refine blk_far ?_ NB230_239.out _; (with_reducible repeat (first | refine blk_drewN ?_ _ | refine blk_drew ?_ | refine blk_alloc ?_ _)); refine blk_far ?_ NB230_239.out _; (with_reducible repeat (first | refine blk_drewN ?_ _ | refine blk_drew ?_ | refine blk_alloc ?_ _)); refine blk_far ?_ NB230_239.out _; (with_reducible repeat (first | refine blk_drewN ?_ _ | refine blk_drew ?_ | refine blk_alloc ?_ _)); exact BK230.out) hb); have n11_ := zA (blk_below (g := gb239) (o := .cells #[.int .i64 t231, .slice Ao40 t232.length co40, .slice Ao41 t235.length co41] 26 (0, 0)) (by (with_reducible repeat (first | refine blk_drewN ?_ _ | refine blk_drew ?_ | refine blk_alloc ?_ _)); refine blk_put (cs := #[.int .i64 t231, .slice Ao40 t232.length co40, .slice none 0 0]) ?_ 2 _ rfl; (with_reducible repeat (first | refine blk_drewN ?_ _ | refine blk_drew ?_ | refine blk_alloc ?_ _)); refine blk_put (cs := #[.int .i64 t231, .slice none 0 0, .slice none 0 0]) ?_ 1 _ rfl; (with_reducible repeat (first | refine blk_drewN ?_ _ | refine blk_drew ?_ | refine blk_alloc ?_ _)); refine blk_put (cs := #[.int .i64 0, .slice none 0 0, .slice none 0 0]) ?_ 0 _ rfl; (with_reducible repeat (first | refine blk_drewN ?_ _ | refine blk_drew ?_ | refine blk_alloc ?_ _)); exact BK239.out) hb); have n12_ := xH HB hb; clear HO210 HO213 HO217 HO220 HO226 HO229 HO234 HO237 BK205 BK222 BK230 BK239 HB; have HO210 := n0_; have HO213 := n1_; have HO217 := n2_; have HO220 := n3_; have HO226 := n4_; have HO229 := n5_; have HO234 := n6_; have HO237 := n7_; have BK205 := n8_; have BK222 := n9_; have BK230 := n10_; have BK239 := n11_; have HB := n12_; clear n0_ n1_ n2_ n3_ n4_ n5_ n6_ n7_ n8_ n9_ n10_ n11_ n12_; (try clear hb); (try clear hb2); (try clear hk); (try clear hi)))
    go_meet
    case rel => exact ⟨_, ((t238 != t221)), (by first | rfl | (simp; done) | (simp [*]; done)), H', ⟨by first | omega | exact Nat.le_refl _⟩, ⟨uR (Kd.R_mono HO217.out (fun _ hk => ⟨hk.1.1.1.1.1.1, ⟨hk.1.1.1.2, ⟨hk.1.1.2, ⟨hk.1.2, hk.2⟩⟩⟩⟩))⟩, ⟨uR (Kd.R_mono HO220.out (fun _ hk => ⟨hk.1.1.1.1.1.1, ⟨hk.1.1.1.2, ⟨hk.1.1.2, ⟨hk.1.2, hk.2⟩⟩⟩⟩))⟩, ⟨uR (Kd.R_mono HO226.out (fun _ hk => ⟨hk.1.1.1.2, ⟨hk.1.1.2, ⟨hk.1.1.1.1.1.1, ⟨hk.1.2, hk.2⟩⟩⟩⟩))⟩, ⟨uR (Kd.R_mono HO229.out (fun _ hk => ⟨hk.1.1.1.2, ⟨hk.1.1.2, ⟨hk.1.1.1.1.1.1, ⟨hk.1.2, hk.2⟩⟩⟩⟩))⟩, ⟨uR (Kd.R_mono HO234.out (fun _ hk => ⟨hk.1.1.1.2, ⟨hk.1.1.2, ⟨hk.1.2, ⟨hk.2, hk.1.1.1.1.1.1⟩⟩⟩⟩))⟩, ⟨uR (Kd.R_mono HO237.out (fun _ hk => ⟨hk.1.1.1.2, ⟨hk.1.1.2, ⟨hk.1.2, ⟨hk.2, hk.1.1.1.1.1.1⟩⟩⟩⟩))⟩, ⟨uB BK205.out⟩, ⟨uB BK222.out⟩, ⟨uB BK230.out⟩, ⟨uB BK239.out⟩, ⟨uH HB.out⟩⟩
   ·replace c43 := Bool.eq_false_iff.mpr c43
    subst c43
    have H1 : (laws_FnExactShiftJacobi.j0 k a1 t221 t238 true a0_0 l0_1 l0_2 t214 t215 t218 t223 t224 t227 t231 t232 t235) = some r := by rw [if_neg (show ¬ (false = true) by decide)] at H; exact H
    clear H
    have H := H1
    clear H1
    have H' := zA H
    clear H
    have hnb52 := NB239_205.out; have hnc52 := NB205_239.out; have hnb53 := NB239_222.out; have hnc53 := NB222_239.out; have hnb54 := NB239_230.out; have hnc54 := NB230_239.out
    have hcz55_0 : w35.cell? ⟨gb239, 0, none⟩ = some (.int .i64 0) := (blk_cell BK239.out 0).trans rfl
    have hcz55_1 : w35.cell? ⟨gb239, 1, none⟩ = some (.slice none 0 0) := (blk_cell BK239.out 1).trans rfl
    have hcz55_2 : w35.cell? ⟨gb239, 2, none⟩ = some (.slice none 0 0) := (blk_cell BK239.out 2).trans rfl
    have hfz55_0 := blk_frozen BK239.out 0
    have hfz55_1 := blk_frozen BK239.out 1
    have hfz55_2 := blk_frozen BK239.out 2
    have hnb56 := NB222_205.out; have hnc56 := NB205_222.out; have hnb57 := NB222_230.out; have hnc57 := NB230_222.out
    have hcz58_0 : w35.cell? ⟨gb222, 0, none⟩ = some (.int .i64 t214) := (blk_cell BK222.out 0).trans rfl
    have hcz58_1 : w35.cell? ⟨gb222, 1, none⟩ = some (.slice Ao24 t215.length co24) := (blk_cell BK222.out 1).trans rfl
    have hcz58_2 : w35.cell? ⟨gb222, 2, none⟩ = some (.slice Ao25 t218.length co25) := (blk_cell BK222.out 2).trans rfl
    have hfz58_0 := blk_frozen BK222.out 0
    have hfz58_1 := blk_frozen BK222.out 1
    have hfz58_2 := blk_frozen BK222.out 2
    go_wp2_with (first | ((with_reducible refine gate_callee (f := 19) rfl ?_); refine goesL_ (some 38) rfl rfl Try.func19 (by kernel_rfl) rfl #[.agg #[.int .i64 t231, .slice Ao40 t232.length co40, .slice Ao41 t235.length co41], .agg #[.int .i64 t214, .slice Ao24 t215.length co24, .slice Ao25 t218.length co25]] rfl (by (try simp only [List.map_toArray, List.map_cons, List.map_nil]); first | done | rfl | (simp only [List.length_drop, List.length_take]; rfl)) ?_; (with_reducible refine (laws_eqJacobi.calls k t231 _ _ t232 _ _ t235 t214 _ _ t215 _ _ t218 false _ ?side1 ?side2 ?side3 ?side4 ?side5 ?side6 ?side7 ?side8 A42.out).mono ?_); (case side1 => refine (Kd.R_reads' (e := 2) (base := w.heap.size) (ok := fun k_ => ((((((some k_ ≠ (.slice Ao41 t235.length co41 : Value).ownBlock ∧ some k_ ≠ (.slice Ao18 t208.length co18 : Value).ownBlock) ∧ some k_ ≠ (.slice Ao19 t211.length co19 : Value).ownBlock) ∧ some k_ ≠ (.slice Ao24 t215.length co24 : Value).ownBlock) ∧ some k_ ≠ (.slice Ao25 t218.length co25 : Value).ownBlock) ∧ some k_ ≠ (.slice Ao32 t224.length co32 : Value).ownBlock) ∧ some k_ ≠ (.slice Ao33 t227.length co33 : Value).ownBlock)) (n := t232.length) (c := co40) ?_).2.2; exact (uR ((Kd.R_mono (Kd.R_far (p := ⟨gb239, 2, none⟩) (Kd.R_far (p := ⟨gb239, 1, none⟩) (Kd.R_far (p := ⟨gb239, 0, none⟩) (Kd.R_types HO234.out BK239.out (by decide)) (fun _ hk => hk.2) (.int .i64 t231)) (fun _ hk => hk.2) (.slice Ao40 t232.length co40)) (fun _ hk => hk.2) (.slice Ao41 t235.length co41)) (fun _ h_ => h_.1))))); (case side2 => exact (Kd.R_reads' HO234.out).2.1); (case side3 => refine (Kd.R_reads' (e := 2) (base := w.heap.size) (ok := fun k_ => ((((((some k_ ≠ (.slice Ao40 t232.length co40 : Value).ownBlock ∧ some k_ ≠ (.slice Ao18 t208.length co18 : Value).ownBlock) ∧ some k_ ≠ (.slice Ao19 t211.length co19 : Value).ownBlock) ∧ some k_ ≠ (.slice Ao24 t215.length co24 : Value).ownBlock) ∧ some k_ ≠ (.slice Ao25 t218.length co25 : Value).ownBlock) ∧ some k_ ≠ (.slice Ao32 t224.length co32 : Value).ownBlock) ∧ some k_ ≠ (.slice Ao33 t227.length co33 : Value).ownBlock)) (n := t235.length) (c := co41) ?_).2.2; exact (uR ((Kd.R_mono (Kd.R_far (p := ⟨gb239, 2, none⟩) (Kd.R_far (p := ⟨gb239, 1, none⟩) (Kd.R_far (p := ⟨gb239, 0, none⟩) (Kd.R_types HO237.out BK239.out (by decide)) (fun _ hk => hk.2) (.int .i64 t231)) (fun _ hk => hk.2) (.slice Ao40 t232.length co40)) (fun _ hk => hk.2) (.slice Ao41 t235.length co41)) (fun _ h_ => h_.1))))); (case side4 => exact (Kd.R_reads' HO237.out).2.1); (case side5 => refine (Kd.R_reads' (e := 2) (base := w.heap.size) (ok := fun k_ => ((((((some k_ ≠ (.slice Ao25 t218.length co25 : Value).ownBlock ∧ some k_ ≠ (.slice Ao18 t208.length co18 : Value).ownBlock) ∧ some k_ ≠ (.slice Ao19 t211.length co19 : Value).ownBlock) ∧ some k_ ≠ (.slice Ao32 t224.length co32 : Value).ownBlock) ∧ some k_ ≠ (.slice Ao33 t227.length co33 : Value).ownBlock) ∧ some k_ ≠ (.slice Ao40 t232.length co40 : Value).ownBlock) ∧ some k_ ≠ (.slice Ao41 t235.length co41 : Value).ownBlock)) (n := t215.length) (c := co24) ?_).2.2; exact (uR ((Kd.R_mono (Kd.R_far (p := ⟨gb239, 2, none⟩) (Kd.R_far (p := ⟨gb239, 1, none⟩) (Kd.R_far (p := ⟨gb239, 0, none⟩) (Kd.R_types HO217.out BK239.out (by decide)) (fun _ hk => hk.2) (.int .i64 t231)) (fun _ hk => hk.2) (.slice Ao40 t232.length co40)) (fun _ hk => hk.2) (.slice Ao41 t235.length co41)) (fun _ h_ => h_.1))))); (case side6 => exact (Kd.R_reads' HO217.out).2.1); (case side7 => refine (Kd.R_reads' (e := 2) (base := w.heap.size) (ok := fun k_ => ((((((some k_ ≠ (.slice Ao24 t215.length co24 : Value).ownBlock ∧ some k_ ≠ (.slice Ao18 t208.length co18 : Value).ownBlock) ∧ some k_ ≠ (.slice Ao19 t211.length co19 : Value).ownBlock) ∧ some k_ ≠ (.slice Ao32 t224.length co32 : Value).ownBlock) ∧ some k_ ≠ (.slice Ao33 t227.length co33 : Value).ownBlock) ∧ some k_ ≠ (.slice Ao40 t232.length co40 : Value).ownBlock) ∧ some k_ ≠ (.slice Ao41 t235.length co41 : Value).ownBlock)) (n := t218.length) (c := co25) ?_).2.2; exact (uR ((Kd.R_mono (Kd.R_far (p := ⟨gb239, 2, none⟩) (Kd.R_far (p := ⟨gb239, 1, none⟩) (Kd.R_far (p := ⟨gb239, 0, none⟩) (Kd.R_types HO220.out BK239.out (by decide)) (fun _ hk => hk.2) (.int .i64 t231)) (fun _ hk => hk.2) (.slice Ao40 t232.length co40)) (fun _ hk => hk.2) (.slice Ao41 t235.length co41)) (fun _ h_ => h_.1))))); (case side8 => exact (Kd.R_reads' HO220.out).2.1); rintro e w59 ⟨rfl, hb⟩; refine ⟨_, rfl, ?_⟩; have n0_ := zA (Kd.R_below (uR ((Kd.R_mono (Kd.R_far (p := ⟨gb239, 2, none⟩) (Kd.R_far (p := ⟨gb239, 1, none⟩) (Kd.R_far (p := ⟨gb239, 0, none⟩) (Kd.R_types HO210.out BK239.out (by decide)) (fun _ hk => hk.2) (.int .i64 t231)) (fun _ hk => hk.2) (.slice Ao40 t232.length co40)) (fun _ hk => hk.2) (.slice Ao41 t235.length co41)) (fun _ h_ => h_.1)))) hb); have n1_ := zA (Kd.R_below (uR ((Kd.R_mono (Kd.R_far (p := ⟨gb239, 2, none⟩) (Kd.R_far (p := ⟨gb239, 1, none⟩) (Kd.R_far (p := ⟨gb239, 0, none⟩) (Kd.R_types HO213.out BK239.out (by decide)) (fun _ hk => hk.2) (.int .i64 t231)) (fun _ hk => hk.2) (.slice Ao40 t232.length co40)) (fun _ hk => hk.2) (.slice Ao41 t235.length co41)) (fun _ h_ => h_.1)))) hb); have n2_ := zA (Kd.R_below (uR ((Kd.R_mono (Kd.R_far (p := ⟨gb239, 2, none⟩) (Kd.R_far (p := ⟨gb239, 1, none⟩) (Kd.R_far (p := ⟨gb239, 0, none⟩) (Kd.R_types HO217.out BK239.out (by decide)) (fun _ hk => hk.2) (.int .i64 t231)) (fun _ hk => hk.2) (.slice Ao40 t232.length co40)) (fun _ hk => hk.2) (.slice Ao41 t235.length co41)) (fun _ h_ => h_.1)))) hb); have n3_ := zA (Kd.R_below (uR ((Kd.R_mono (Kd.R_far (p := ⟨gb239, 2, none⟩) (Kd.R_far (p := ⟨gb239, 1, none⟩) (Kd.R_far (p := ⟨gb239, 0, none⟩) (Kd.R_types HO220.out BK239.out (by decide)) (fun _ hk => hk.2) (.int .i64 t231)) (fun _ hk => hk.2) (.slice Ao40 t232.length co40)) (fun _ hk => hk.2) (.slice Ao41 t235.length co41)) (fun _ h_ => h_.1)))) hb); have n4_ := zA (Kd.R_below (uR ((Kd.R_mono (Kd.R_far (p := ⟨gb239, 2, none⟩) (Kd.R_far (p := ⟨gb239, 1, none⟩) (Kd.R_far (p := ⟨gb239, 0, none⟩) (Kd.R_types HO226.out BK239.out (by decide)) (fun _ hk => hk.2) (.int .i64 t231)) (fun _ hk => hk.2) (.slice Ao40 t232.length co40)) (fun _ hk => hk.2) (.slice Ao41 t235.length co41)) (fun _ h_ => h_.1)))) hb); have n5_ := zA (Kd.R_below (uR ((Kd.R_mono (Kd.R_far (p := ⟨gb239, 2, none⟩) (Kd.R_far (p := ⟨gb239, 1, none⟩) (Kd.R_far (p := ⟨gb239, 0, none⟩) (Kd.R_types HO229.out BK239.out (by decide)) (fun _ hk => hk.2) (.int .i64 t231)) (fun _ hk => hk.2) (.slice Ao40 t232.length co40)) (fun _ hk => hk.2) (.slice Ao41 t235.length co41)) (fun _ h_ => h_.1)))) hb); have n6_ := zA (Kd.R_below (uR ((Kd.R_mono (Kd.R_far (p := ⟨gb239, 2, none⟩) (Kd.R_far (p := ⟨gb239, 1, none⟩) (Kd.R_far (p := ⟨gb239, 0, none⟩) (Kd.R_types HO234.out BK239.out (by decide)) (fun _ hk => hk.2) (.int .i64 t231)) (fun _ hk => hk.2) (.slice Ao40 t232.length co40)) (fun _ hk => hk.2) (.slice Ao41 t235.length co41)) (fun _ h_ => h_.1)))) hb); have n7_ := zA (Kd.R_below (uR ((Kd.R_mono (Kd.R_far (p := ⟨gb239, 2, none⟩) (Kd.R_far (p := ⟨gb239, 1, none⟩) (Kd.R_far (p := ⟨gb239, 0, none⟩) (Kd.R_types HO237.out BK239.out (by decide)) (fun _ hk => hk.2) (.int .i64 t231)) (fun _ hk => hk.2) (.slice Ao40 t232.length co40)) (fun _ hk => hk.2) (.slice Ao41 t235.length co41)) (fun _ h_ => h_.1)))) hb); have n8_ := zA (blk_below (g := gb205) (o := .cells #[.int .i64 a0_0, .slice A0_1 l0_1.length c0_1, .slice A0_2 l0_2.length c0_2] 24 (0, 0)) (by (with_reducible repeat (first | refine blk_drewN ?_ _ | refine blk_drew ?_ | refine blk_alloc ?_ _)); refine blk_far ?_ NB205_239.out _; (with_reducible repeat (first | refine blk_drewN ?_ _ | refine blk_drew ?_ | refine blk_alloc ?_ _)); refine blk_far ?_ NB205_239.out _; (with_reducible repeat (first | refine blk_drewN ?_ _ | refine blk_drew ?_ | refine blk_alloc ?_ _)); refine blk_far ?_ NB205_239.out _; (with_reducible repeat (first | refine blk_drewN ?_ _ | refine blk_drew ?_ | refine blk_alloc ?_ _)); exact BK205.out) hb); have n9_ := zA (blk_below (g := gb222) (o := .cells #[.int .i64 t214, .slice Ao24 t215.length co24, .slice Ao25 t218.length co25] 26 (0, 0)) (by (with_reducible repeat (first | refine blk_drewN ?_ _ | refine blk_drew ?_ | refine blk_alloc ?_ _)); refine blk_far ?_ NB222_239.out _; (with_reducible repeat (first | refine blk_drewN ?_ _ | refine blk_drew ?_ | refine blk_alloc ?_ _)); refine blk_far ?_ NB222_239.out _; (with_reducible repeat (first | refine blk_drewN ?_ _ | refine blk_drew ?_ | refine blk_alloc ?_ _)); refine blk_far ?_ NB222_239.out _; (with_reducible repeat (first | refine blk_drewN ?_ _ | refine blk_drew ?_ | refine blk_alloc ?_ _)); exact BK222.out) hb); have n10_ := zA (blk_below (g := gb230) (o := .cells #[.int .i64 t223, .slice Ao32 t224.length co32, .slice Ao33 t227.length co33] 26 (0, 0)) (by (with_reducible repeat (first | refine blk_drewN ?_ _ | refine blk_drew ?_ | refine blk_alloc ?_ _)); refine blk_far ?_ NB230_239.out _; (with_reducible repeat (first | refine blk_drewN ?_ _ | refine blk_drew ?_ | refine blk_alloc ?_ _)); refine blk_far ?_ NB230_239.out _; (with_reducible repeat (first | refine blk_drewN ?_ _ | refine blk_drew ?_ | refine blk_alloc ?_ _)); refine blk_far ?_ NB230_239.out _; (with_reducible repeat (first | refine blk_drewN ?_ _ | refine blk_drew ?_ | refine blk_alloc ?_ _)); exact BK230.out) hb); have n11_ := zA (blk_below (g := gb239) (o := .cells #[.int .i64 t231, .slice Ao40 t232.length co40, .slice Ao41 t235.length co41] 26 (0, 0)) (by (with_reducible repeat (first | refine blk_drewN ?_ _ | refine blk_drew ?_ | refine blk_alloc ?_ _)); refine blk_put (cs := #[.int .i64 t231, .slice Ao40 t232.length co40, .slice none 0 0]) ?_ 2 _ rfl; (with_reducible repeat (first | refine blk_drewN ?_ _ | refine blk_drew ?_ | refine blk_alloc ?_ _)); refine blk_put (cs := #[.int .i64 t231, .slice none 0 0, .slice none 0 0]) ?_ 1 _ rfl; (with_reducible repeat (first | refine blk_drewN ?_ _ | refine blk_drew ?_ | refine blk_alloc ?_ _)); refine blk_put (cs := #[.int .i64 0, .slice none 0 0, .slice none 0 0]) ?_ 0 _ rfl; (with_reducible repeat (first | refine blk_drewN ?_ _ | refine blk_drew ?_ | refine blk_alloc ?_ _)); exact BK239.out) hb); have n12_ := xH HB hb; clear HO210 HO213 HO217 HO220 HO226 HO229 HO234 HO237 BK205 BK222 BK230 BK239 HB; have HO210 := n0_; have HO213 := n1_; have HO217 := n2_; have HO220 := n3_; have HO226 := n4_; have HO229 := n5_; have HO234 := n6_; have HO237 := n7_; have BK205 := n8_; have BK222 := n9_; have BK230 := n10_; have BK239 := n11_; have HB := n12_; clear n0_ n1_ n2_ n3_ n4_ n5_ n6_ n7_ n8_ n9_ n10_ n11_ n12_; (try clear hb); (try clear hb2); (try clear hk); (try clear hi)))
    go_meet
    case rel => exact ⟨_, (true), (by first | rfl | (simp; done) | (simp [*]; done)), H', ⟨by first | omega | exact Nat.le_refl _⟩, ⟨uR (Kd.R_mono HO217.out (fun _ hk => ⟨hk.1.1.1.1.1.1, ⟨hk.1.1.1.2, ⟨hk.1.1.2, ⟨hk.1.2, hk.2⟩⟩⟩⟩))⟩, ⟨uR (Kd.R_mono HO220.out (fun _ hk => ⟨hk.1.1.1.1.1.1, ⟨hk.1.1.1.2, ⟨hk.1.1.2, ⟨hk.1.2, hk.2⟩⟩⟩⟩))⟩, ⟨uR (Kd.R_mono HO226.out (fun _ hk => ⟨hk.1.1.1.2, ⟨hk.1.1.2, ⟨hk.1.1.1.1.1.1, ⟨hk.1.2, hk.2⟩⟩⟩⟩))⟩, ⟨uR (Kd.R_mono HO229.out (fun _ hk => ⟨hk.1.1.1.2, ⟨hk.1.1.2, ⟨hk.1.1.1.1.1.1, ⟨hk.1.2, hk.2⟩⟩⟩⟩))⟩, ⟨uR (Kd.R_mono HO234.out (fun _ hk => ⟨hk.1.1.1.2, ⟨hk.1.1.2, ⟨hk.1.2, ⟨hk.2, hk.1.1.1.1.1.1⟩⟩⟩⟩))⟩, ⟨uR (Kd.R_mono HO237.out (fun _ hk => ⟨hk.1.1.1.2, ⟨hk.1.1.2, ⟨hk.1.2, ⟨hk.2, hk.1.1.1.1.1.1⟩⟩⟩⟩))⟩, ⟨uB BK205.out⟩, ⟨uB BK222.out⟩, ⟨uB BK230.out⟩, ⟨uB BK239.out⟩, ⟨uH HB.out⟩⟩
  case rest =>
   clear HC12
   try clear c1
   try clear c2
   try clear p2
   try clear c3
   try clear c4
   try clear c4b0
   try clear c5
   try clear c15
   try clear c16
   try clear c17
   try clear c18
   try clear c19
   try clear c22
   try clear c29
   try clear c30
   try clear c36
   try clear c37
   try clear c38
   try clear c43
   try clear c44
   try clear c45
   try clear c46
   try clear c48
   try clear c49
   try clear c52
   try clear c53
   try clear c54
   try clear c56
   try clear c57
   try clear hcz14_0
   try clear hcz14_1
   try clear hcz14_2
   try clear hcz16_0
   try clear hcz16_1
   try clear hcz16_2
   try clear hcz23_0
   try clear hcz23_1
   try clear hcz23_2
   try clear hcz26_0
   try clear hcz26_1
   try clear hcz26_2
   try clear hcz31_0
   try clear hcz31_1
   try clear hcz31_2
   try clear hcz39_0
   try clear hcz39_1
   try clear hcz39_2
   try clear hcz47_0
   try clear hcz47_1
   try clear hcz47_2
   try clear hcz50_0
   try clear hcz50_1
   try clear hcz50_2
   try clear hcz55_0
   try clear hcz55_1
   try clear hcz55_2
   try clear hcz58_0
   try clear hcz58_1
   try clear hcz58_2
   try clear hcz6_0
   try clear hcz6_1
   try clear hcz6_2
   try clear hfz14_0
   try clear hfz14_1
   try clear hfz14_2
   try clear hfz16_0
   try clear hfz16_1
   try clear hfz16_2
   try clear hfz23_0
   try clear hfz23_1
   try clear hfz23_2
   try clear hfz26_0
   try clear hfz26_1
   try clear hfz26_2
   try clear hfz31_0
   try clear hfz31_1
   try clear hfz31_2
   try clear hfz39_0
   try clear hfz39_1
   try clear hfz39_2
   try clear hfz47_0
   try clear hfz47_1
   try clear hfz47_2
   try clear hfz50_0
   try clear hfz50_1
   try clear hfz50_2
   try clear hfz55_0
   try clear hfz55_1
   try clear hfz55_2
   try clear hfz58_0
   try clear hfz58_1
   try clear hfz58_2
   try clear hfz6_0
   try clear hfz6_1
   try clear hfz6_2
   obtain ⟨kq, x44_11, rfl, HA, HJ11, HO_223001, HO_223002, HO_231001, HO_231002, HO_240001, HO_240002, BK205, BK222, BK230, BK239, HB⟩ := hcut
   cases kq with
   | zero => exact absurd HA.out (by simp [laws_FnExactShiftJacobi.j0])
   | succ kj11 =>
    have H := HA.out
    clear HA
    simp only [laws_FnExactShiftJacobi.j0] at H
    by_cases c60 : x44_11 = true
    ·subst c60
     have H1 : (some false) = some r := by rw [if_pos rfl] at H; exact H
     clear H
     have H := H1
     clear H1
     rw [HRT.out] at H
     exact absurd H (by simp)
    ·replace c60 := Bool.eq_false_iff.mpr c60
     subst c60
     have H1 : ((laws_toJacobi.f kj11 a0_0 l0_1 l0_2).bind fun bt241 => ((laws_eqJacobi.f kj11 t223 t224 t227 bt241.1 bt241.2.1 bt241.2.2).bind fun t248 => (if t248 = true then ((laws_markJacobi.f kj11 t223 t224 t227 1).bind fun bt249 => (if bt249.1 < 0 then (laws_FnExactShiftJacobi.j1 kj11 a1 t221 true a0_0 l0_1 l0_2 t214 t215 t218 t231 t232 t235) else ((laws_eqJacobi.f kj11 t231 t232 t235 t214 t215 t218).bind fun t252 => (if t252 = true then (laws_FnExactShiftJacobi.j1 kj11 a1 t221 (t238 != t221) a0_0 l0_1 l0_2 t214 t215 t218 t231 t232 t235) else (laws_FnExactShiftJacobi.j1 kj11 a1 t221 true a0_0 l0_1 l0_2 t214 t215 t218 t231 t232 t235))))) else (some false)))) = some r := by rw [if_neg (show ¬ (false = true) by decide)] at H; exact H
     clear H
     have H := H1
     clear H1
     replace H := Option.bind_eq_some_iff.mp H
     obtain ⟨⟨t241, t242, t245⟩, A610, H⟩ := H
     replace H : ((laws_eqJacobi.f kj11 t223 t224 t227 t241 t242 t245).bind fun t248 => (if t248 = true then ((laws_markJacobi.f kj11 t223 t224 t227 1).bind fun bt249 => (if bt249.1 < 0 then (laws_FnExactShiftJacobi.j1 kj11 a1 t221 true a0_0 l0_1 l0_2 t214 t215 t218 t231 t232 t235) else ((laws_eqJacobi.f kj11 t231 t232 t235 t214 t215 t218).bind fun t252 => (if t252 = true then (laws_FnExactShiftJacobi.j1 kj11 a1 t221 (t238 != t221) a0_0 l0_1 l0_2 t214 t215 t218 t231 t232 t235) else (laws_FnExactShiftJacobi.j1 kj11 a1 t221 true a0_0 l0_1 l0_2 t214 t215 t218 t231 t232 t235))))) else (some false))) = some r := H
     have A61 := zA A610
     clear A610
     replace H := Option.bind_eq_some_iff.mp H
     obtain ⟨t248, A620, H⟩ := H
     replace H : (if t248 = true then ((laws_markJacobi.f kj11 t223 t224 t227 1).bind fun bt249 => (if bt249.1 < 0 then (laws_FnExactShiftJacobi.j1 kj11 a1 t221 true a0_0 l0_1 l0_2 t214 t215 t218 t231 t232 t235) else ((laws_eqJacobi.f kj11 t231 t232 t235 t214 t215 t218).bind fun t252 => (if t252 = true then (laws_FnExactShiftJacobi.j1 kj11 a1 t221 (t238 != t221) a0_0 l0_1 l0_2 t214 t215 t218 t231 t232 t235) else (laws_FnExactShiftJacobi.j1 kj11 a1 t221 true a0_0 l0_1 l0_2 t214 t215 t218 t231 t232 t235))))) else (some false)) = some r := H
     have A62 := zA A620
     clear A620
     by_cases c63 : t248 = true
     ·subst c63
      have H1 : ((laws_markJacobi.f kj11 t223 t224 t227 1).bind fun bt249 => (if bt249.1 < 0 then (laws_FnExactShiftJacobi.j1 kj11 a1 t221 true a0_0 l0_1 l0_2 t214 t215 t218 t231 t232 t235) else ((laws_eqJacobi.f kj11 t231 t232 t235 t214 t215 t218).bind fun t252 => (if t252 = true then (laws_FnExactShiftJacobi.j1 kj11 a1 t221 (t238 != t221) a0_0 l0_1 l0_2 t214 t215 t218 t231 t232 t235) else (laws_FnExactShiftJacobi.j1 kj11 a1 t221 true a0_0 l0_1 l0_2 t214 t215 t218 t231 t232 t235))))) = some r := by rw [if_pos rfl] at H; exact H
      clear H
      have H := H1
      clear H1
      replace H := Option.bind_eq_some_iff.mp H
      obtain ⟨⟨t249, t250, t251⟩, A640, H⟩ := H
      replace H : (if t249 < 0 then (laws_FnExactShiftJacobi.j1 kj11 a1 t221 true a0_0 l0_1 l0_2 t214 t215 t218 t231 t232 t235) else ((laws_eqJacobi.f kj11 t231 t232 t235 t214 t215 t218).bind fun t252 => (if t252 = true then (laws_FnExactShiftJacobi.j1 kj11 a1 t221 (t238 != t221) a0_0 l0_1 l0_2 t214 t215 t218 t231 t232 t235) else (laws_FnExactShiftJacobi.j1 kj11 a1 t221 true a0_0 l0_1 l0_2 t214 t215 t218 t231 t232 t235)))) = some r := H
      have A64 := zA A640
      clear A640
      have HC65 := zA H
      clear H
      try go_wp2
      have n0_ := zA (Kd.R_drew HO_223001.out)
      have n1_ := zA (Kd.R_drew HO_223002.out)
      have n2_ := zA (Kd.R_drew HO_231001.out)
      have n3_ := zA (Kd.R_drew HO_231002.out)
      have n4_ := zA (Kd.R_drew HO_240001.out)
      have n5_ := zA (Kd.R_drew HO_240002.out)
      have n6_ := zA (blk_drew BK205.out)
      have n7_ := zA (blk_drew BK222.out)
      have n8_ := zA (blk_drew BK230.out)
      have n9_ := zA (blk_drew BK239.out)
      have n10_ := zA (below_drew1 HB.out)
      clear HO_223001 HO_223002 HO_231001 HO_231002 HO_240001 HO_240002 BK205 BK222 BK230 BK239 HB
      have HO_223001 := n0_; have HO_223002 := n1_; have HO_231001 := n2_; have HO_231002 := n3_; have HO_240001 := n4_; have HO_240002 := n5_; have BK205 := n6_; have BK222 := n7_; have BK230 := n8_; have BK239 := n9_; have HB := n10_
      clear n0_ n1_ n2_ n3_ n4_ n5_ n6_ n7_ n8_ n9_ n10_
      refine start_ (n := 5) (S := fun w' => w'.cell? ⟨gb230, 0, none⟩ = some (.int .i64 t223) ∧ w'.cell? ⟨gb230, 1, none⟩ = some (.slice Ao32 t224.length co32) ∧ w'.cell? ⟨gb230, 2, none⟩ = some (.slice Ao33 t227.length co33) ∧ w'.cell? ⟨gb205, 0, none⟩ = some (.int .i64 a0_0) ∧ w'.cell? ⟨gb205, 1, none⟩ = some (.slice A0_1 l0_1.length c0_1) ∧ w'.cell? ⟨gb205, 2, none⟩ = some (.slice A0_2 l0_2.length c0_2)) (ds := []) #[false, false, false, false, false] (by kernel_rfl) rfl rfl ⟨(blk_cell BK230.out 0).trans rfl, (blk_cell BK230.out 1).trans rfl, (blk_cell BK230.out 2).trans rfl, (blk_cell BK205.out 0).trans rfl, (blk_cell BK205.out 1).trans rfl, (blk_cell BK205.out 2).trans rfl⟩ (fun hHeld => ?_)
      generalize wc.drew = w66 at HO_223001 HO_223002 HO_231001 HO_231002 HO_240001 HO_240002 BK205 BK222 BK230 BK239 HB hHeld ⊢
      refine take_ (i := 0) (N := some 45) (v := ?_) (a' := ?_) #[true, false, false, false, false] rfl rfl (by kernel_rfl) (fun _ _ _ h => h) (Or.inl ⟨by rfl, ?_⟩) hHeld ?_ ?_
      rotate_left
      ·rintro w' ⟨s0, s1, s2, s3, s4, s5⟩
       go_simp
       with_reducible rfl
      rotate_left
      ·simp only [Act.put, List.setIfInBounds_toArray, List.set_cons_zero, List.set_cons_succ, i64_w, i32_w]
       rfl
      refine take_ (i := 1) (N := some 46) (v := ?_) (a' := ?_) #[true, true, false, false, false] rfl rfl (by kernel_rfl) (fun _ _ _ h => h) (Or.inl ⟨by rfl, ?_⟩) hHeld ?_ ?_
      rotate_left
      ·rintro w' ⟨s0, s1, s2, s3, s4, s5⟩
       go_simp
       with_reducible rfl
      rotate_left
      ·simp only [Act.put, List.setIfInBounds_toArray, List.set_cons_zero, List.set_cons_succ, i64_w, i32_w]
       rfl
      refine one_ (i := 2) (N := some 47) #[true, true, true, false, false] rfl rfl (by kernel_rfl) (by decide) (fun K hK => ?_)
      refine goes_ Try.func17 (by kernel_rfl) rfl #[.agg #[.int .i64 a0_0, .slice A0_1 l0_1.length c0_1, .slice A0_2 l0_2.length c0_2]] (by rfl) rfl rfl (by (try simp only [List.map_toArray, List.map_cons, List.map_nil]); first | done | rfl | (simp only [List.length_drop, List.length_take]; rfl)) ?_
      with_reducible refine (laws_toJacobi.calls kj11 a0_0 _ _ l0_1 _ _ l0_2 t241 t242 t245 _ ?side1 ?side2 ?side3 ?side4 A61.out).mono ?_
      (case side1 => exact uC ((Kd.C_below HR0_1.out HB.out)))
      (case side2 => exact HC0_1.out)
      (case side3 => exact uC ((Kd.C_below HR0_2.out HB.out)))
      (case side4 => exact HC0_2.out)
      rintro e w67 ⟨v243, v246, rfl, ho0, ho1, hb⟩
      refine ⟨_, rfl, ?_⟩
      have n0_ := zA (Kd.R_mono (Kd.R_told (Kd.R_told (Kd.R_old (uR HO_223001.out) hb) (Kd.R_base ho0)) (Kd.R_base ho1)) (fun _ h_ => h_.1))
      have n1_ := zA (Kd.R_mono (Kd.R_told (Kd.R_told (Kd.R_old (uR HO_223002.out) hb) (Kd.R_base ho0)) (Kd.R_base ho1)) (fun _ h_ => h_.1))
      have n2_ := zA (Kd.R_mono (Kd.R_told (Kd.R_told (Kd.R_old (uR HO_231001.out) hb) (Kd.R_base ho0)) (Kd.R_base ho1)) (fun _ h_ => h_.1))
      have n3_ := zA (Kd.R_mono (Kd.R_told (Kd.R_told (Kd.R_old (uR HO_231002.out) hb) (Kd.R_base ho0)) (Kd.R_base ho1)) (fun _ h_ => h_.1))
      have n4_ := zA (Kd.R_mono (Kd.R_told (Kd.R_told (Kd.R_old (uR HO_240001.out) hb) (Kd.R_base ho0)) (Kd.R_base ho1)) (fun _ h_ => h_.1))
      have n5_ := zA (Kd.R_mono (Kd.R_told (Kd.R_told (Kd.R_old (uR HO_240002.out) hb) (Kd.R_base ho0)) (Kd.R_base ho1)) (fun _ h_ => h_.1))
      have n6_ := zA (Kd.R_lower (Kd.R_new' (Kd.R_new' (Kd.R_new' (Kd.R_new' (Kd.R_new' (Kd.R_new' ho0 (Kd.R_lt (uR HO_223001.out))) (Kd.R_lt (uR HO_223002.out))) (Kd.R_lt (uR HO_231001.out))) (Kd.R_lt (uR HO_231002.out))) (Kd.R_lt (uR HO_240001.out))) (Kd.R_lt (uR HO_240002.out))) (below_size (uH HB.out)))
      have n7_ := zA (Kd.R_lower (Kd.R_new' (Kd.R_new' (Kd.R_new' (Kd.R_new' (Kd.R_new' (Kd.R_new' ho1 (Kd.R_lt (uR HO_223001.out))) (Kd.R_lt (uR HO_223002.out))) (Kd.R_lt (uR HO_231001.out))) (Kd.R_lt (uR HO_231002.out))) (Kd.R_lt (uR HO_240001.out))) (Kd.R_lt (uR HO_240002.out))) (below_size (uH HB.out)))
      have n8_ := xB BK205 hb
      have n9_ := xB BK222 hb
      have n10_ := xB BK230 hb
      have n11_ := xB BK239 hb
      have n12_ := xH HB hb
      clear HO_223001 HO_223002 HO_231001 HO_231002 HO_240001 HO_240002 BK205 BK222 BK230 BK239 HB
      have HO_223001 := n0_; have HO_223002 := n1_; have HO_231001 := n2_; have HO_231002 := n3_; have HO_240001 := n4_; have HO_240002 := n5_; have HO244 := n6_; have HO247 := n7_; have BK205 := n8_; have BK222 := n9_; have BK230 := n10_; have BK239 := n11_; have HB := n12_
      clear n0_ n1_ n2_ n3_ n4_ n5_ n6_ n7_ n8_ n9_ n10_ n11_ n12_
      (try clear hb); (try clear hb2); (try clear hk); (try clear hi); (try clear ho0); (try clear ho1)
      obtain ⟨Ao68, co68, eo68⟩ := Kd.R_slice HO244.out
      (first | subst eo68 | (injection eo68 with f1_ f2_ f3_; have f4_ := f1_.symm; have f5_ := f3_.symm; clear f1_ f2_ f3_; subst f4_; subst f5_))
      obtain ⟨Ao69, co69, eo69⟩ := Kd.R_slice HO247.out
      (first | subst eo69 | (injection eo69 with f1_ f2_ f3_; have f4_ := f1_.symm; have f5_ := f3_.symm; clear f1_ f2_ f3_; subst f4_; subst f5_))
      refine hK.out _ _ ⟨(blk_cell BK230.out 0).trans rfl, (blk_cell BK230.out 1).trans rfl, (blk_cell BK230.out 2).trans rfl, (blk_cell BK205.out 0).trans rfl, (blk_cell BK205.out 1).trans rfl, (blk_cell BK205.out 2).trans rfl⟩ (fun hHeld => ?_)
      clear hK K
      refine norm_ (a' := ?_) ?_ ?_
      rotate_left
      ·show Act.put _ (some 47) _ = _
       simp only [Act.put, List.setIfInBounds_toArray, List.set_cons_zero, List.set_cons_succ, i64_w, i32_w]
       rfl
      refine one_ (i := 3) (N := some 48) #[true, true, true, true, false] rfl rfl (by kernel_rfl) (by decide) (fun K hK => ?_)
      refine goes_ Try.func19 (by kernel_rfl) rfl #[.agg #[.int .i64 t223, .slice Ao32 t224.length co32, .slice Ao33 t227.length co33], .agg #[.int .i64 t241, .slice Ao68 t242.length co68, .slice Ao69 t245.length co69]] (by rfl) rfl rfl (by (try simp only [List.map_toArray, List.map_cons, List.map_nil]); first | done | rfl | (simp only [List.length_drop, List.length_take]; rfl)) ?_
      with_reducible refine (laws_eqJacobi.calls kj11 t223 _ _ t224 _ _ t227 t241 _ _ t242 _ _ t245 true _ ?side1 ?side2 ?side3 ?side4 ?side5 ?side6 ?side7 ?side8 A62.out).mono ?_
      (case side1 => exact uC ((Kd.R_reads' HO_231001.out).2.2))
      (case side2 => exact (Kd.R_reads' HO_231001.out).2.1)
      (case side3 => exact uC ((Kd.R_reads' HO_231002.out).2.2))
      (case side4 => exact (Kd.R_reads' HO_231002.out).2.1)
      (case side5 => exact uC ((Kd.R_reads' HO244.out).2.2))
      (case side6 => exact (Kd.R_reads' HO244.out).2.1)
      (case side7 => exact uC ((Kd.R_reads' HO247.out).2.2))
      (case side8 => exact (Kd.R_reads' HO247.out).2.1)
      rintro e w70 ⟨rfl, hb⟩
      refine ⟨_, rfl, ?_⟩
      have n0_ := xR HO_223001 hb
      have n1_ := xR HO_223002 hb
      have n2_ := xR HO_231001 hb
      have n3_ := xR HO_231002 hb
      have n4_ := xR HO_240001 hb
      have n5_ := xR HO_240002 hb
      have n6_ := xR HO244 hb
      have n7_ := xR HO247 hb
      have n8_ := xB BK205 hb
      have n9_ := xB BK222 hb
      have n10_ := xB BK230 hb
      have n11_ := xB BK239 hb
      have n12_ := xH HB hb
      clear HO_223001 HO_223002 HO_231001 HO_231002 HO_240001 HO_240002 HO244 HO247 BK205 BK222 BK230 BK239 HB
      have HO_223001 := n0_; have HO_223002 := n1_; have HO_231001 := n2_; have HO_231002 := n3_; have HO_240001 := n4_; have HO_240002 := n5_; have HO244 := n6_; have HO247 := n7_; have BK205 := n8_; have BK222 := n9_; have BK230 := n10_; have BK239 := n11_; have HB := n12_
      clear n0_ n1_ n2_ n3_ n4_ n5_ n6_ n7_ n8_ n9_ n10_ n11_ n12_
      (try clear hb); (try clear hb2); (try clear hk); (try clear hi)
      refine hK.out _ _ ⟨(blk_cell BK230.out 0).trans rfl, (blk_cell BK230.out 1).trans rfl, (blk_cell BK230.out 2).trans rfl, (blk_cell BK205.out 0).trans rfl, (blk_cell BK205.out 1).trans rfl, (blk_cell BK205.out 2).trans rfl⟩ (fun hHeld => ?_)
      clear hK K
      refine norm_ (a' := ?_) ?_ ?_
      rotate_left
      ·show Act.put _ (some 48) _ = _
       simp only [Act.put, List.setIfInBounds_toArray, List.set_cons_zero, List.set_cons_succ, i64_w, i32_w]
       rfl
      refine pure_ (i := 4) (N := some 49) (v := ?_) (a' := ?_) #[true, true, true, true, true] rfl rfl (by kernel_rfl) (fun _ _ _ h => h) (Or.inl ⟨by rfl, ?_⟩) ?_ ?_
      rotate_left
      ·intro w'
       go_simp
       with_reducible rfl
      rotate_left
      ·simp only [Act.put, List.setIfInBounds_toArray, List.set_cons_zero, List.set_cons_succ, i64_w, i32_w]
       rfl
      refine done_ (by kernel_rfl) ?_
      have hnb71 := NB230_205.out; have hnc71 := NB205_230.out; have hnb72 := NB230_222.out; have hnc72 := NB222_230.out; have hnb73 := NB230_239.out; have hnc73 := NB239_230.out
      have hcz74_0 : w70.cell? ⟨gb230, 0, none⟩ = some (.int .i64 t223) := (blk_cell BK230.out 0).trans rfl
      have hcz74_1 : w70.cell? ⟨gb230, 1, none⟩ = some (.slice Ao32 t224.length co32) := (blk_cell BK230.out 1).trans rfl
      have hcz74_2 : w70.cell? ⟨gb230, 2, none⟩ = some (.slice Ao33 t227.length co33) := (blk_cell BK230.out 2).trans rfl
      have hfz74_0 := blk_frozen BK230.out 0
      have hfz74_1 := blk_frozen BK230.out 1
      have hfz74_2 := blk_frozen BK230.out 2
      go_upto_region 14 with (first | ((with_reducible refine gate_callee (f := 20) rfl ?_); refine goesL_ (some 52) rfl rfl Try.func20 (by kernel_rfl) rfl #[.agg #[.int .i64 t223, .slice Ao32 t224.length co32, .slice Ao33 t227.length co33], .int .i64 1] rfl (by (try simp only [List.map_toArray, List.map_cons, List.map_nil]); first | done | rfl | (simp only [List.length_drop, List.length_take]; rfl)) ?_; (with_reducible refine (laws_markJacobi.calls kj11 t223 (fun k_ => some k_ = (.slice Ao32 t224.length co32 : Value).ownBlock) (.slice Ao32 t224.length co32) t224 (fun k_ => some k_ = (.slice Ao33 t227.length co33 : Value).ownBlock) (.slice Ao33 t227.length co33) t227 1 t249 t250 t251 w _ ?side1 ?side2 ?side3 ?side4 ?side5 A64.out).mono ?_); (case side1 => repeat (first | (with_reducible first | exact HB.out | apply below_alloc | apply pw_below_drewN | apply below_drew1 | refine below_set ?_ GE205.out | refine below_set ?_ GE222.out | refine below_set ?_ GE230.out | refine below_set ?_ GE239.out) | exact HB.out)); (case side2 => exact Kd.R_tight rfl HO_231001.out); (case side3 => exact fun k_ e_ => (HO_231001.out.1 k_ e_.symm).1.1.2.2.1); (case side4 => exact Kd.R_tight rfl HO_231002.out); (case side5 => exact fun k_ e_ => (HO_231002.out.1 k_ e_.symm).1.1.2.2.1); rintro e w75 ⟨rfl, hy0, hy1, hb, hkp⟩; refine ⟨_, rfl, ?_⟩; have n0_ := zA (Kd.R_mono (ok' := fun k_ => some k_ ≠ (.slice Ao25 t218.length co25 : Value).ownBlock ∧ some k_ ≠ (.slice Ao32 t224.length co32 : Value).ownBlock ∧ some k_ ≠ (.slice Ao33 t227.length co33 : Value).ownBlock ∧ some k_ ≠ (.slice Ao40 t232.length co40 : Value).ownBlock ∧ some k_ ≠ (.slice Ao41 t235.length co41 : Value).ownBlock ∧ some k_ ≠ (.slice Ao68 t242.length co68 : Value).ownBlock ∧ some k_ ≠ (.slice Ao69 t245.length co69 : Value).ownBlock) (Kd.R_keptB (HO_223001.out) hkp (fun k_ hk_ hs_ => Or.elim hs_ (fun e_ => (hk_.1.1.2.1) e_) (fun e_ => (hk_.1.1.2.2.1) e_))) (fun k_ hk_ => ⟨hk_.1.1.1.1, hk_.1.1.1.2.1, hk_.1.1.1.2.2.1, hk_.1.1.1.2.2.2.1, hk_.1.1.1.2.2.2.2, hk_.1.1.2, hk_.1.2⟩)); have n1_ := zA (Kd.R_mono (ok' := fun k_ => some k_ ≠ (.slice Ao24 t215.length co24 : Value).ownBlock ∧ some k_ ≠ (.slice Ao32 t224.length co32 : Value).ownBlock ∧ some k_ ≠ (.slice Ao33 t227.length co33 : Value).ownBlock ∧ some k_ ≠ (.slice Ao40 t232.length co40 : Value).ownBlock ∧ some k_ ≠ (.slice Ao41 t235.length co41 : Value).ownBlock ∧ some k_ ≠ (.slice Ao68 t242.length co68 : Value).ownBlock ∧ some k_ ≠ (.slice Ao69 t245.length co69 : Value).ownBlock) (Kd.R_keptB (HO_223002.out) hkp (fun k_ hk_ hs_ => Or.elim hs_ (fun e_ => (hk_.1.1.2.1) e_) (fun e_ => (hk_.1.1.2.2.1) e_))) (fun k_ hk_ => ⟨hk_.1.1.1.1, hk_.1.1.1.2.1, hk_.1.1.1.2.2.1, hk_.1.1.1.2.2.2.1, hk_.1.1.1.2.2.2.2, hk_.1.1.2, hk_.1.2⟩)); have n2_ := zA (Kd.R_reok rfl hy0 (fun k_ e_ => HO_231001.out.1 k_ e_)); have n3_ := zA (Kd.R_reok rfl hy1 (fun k_ e_ => HO_231002.out.1 k_ e_)); have n4_ := zA (Kd.R_mono (ok' := fun k_ => some k_ ≠ (.slice Ao24 t215.length co24 : Value).ownBlock ∧ some k_ ≠ (.slice Ao25 t218.length co25 : Value).ownBlock ∧ some k_ ≠ (.slice Ao32 t224.length co32 : Value).ownBlock ∧ some k_ ≠ (.slice Ao33 t227.length co33 : Value).ownBlock ∧ some k_ ≠ (.slice Ao41 t235.length co41 : Value).ownBlock ∧ some k_ ≠ (.slice Ao68 t242.length co68 : Value).ownBlock ∧ some k_ ≠ (.slice Ao69 t245.length co69 : Value).ownBlock) (Kd.R_keptB (HO_240001.out) hkp (fun k_ hk_ hs_ => Or.elim hs_ (fun e_ => (hk_.1.1.2.2.1) e_) (fun e_ => (hk_.1.1.2.2.2.1) e_))) (fun k_ hk_ => ⟨hk_.1.1.1.1, hk_.1.1.1.2.1, hk_.1.1.1.2.2.1, hk_.1.1.1.2.2.2.1, hk_.1.1.1.2.2.2.2, hk_.1.1.2, hk_.1.2⟩)); have n5_ := zA (Kd.R_mono (ok' := fun k_ => some k_ ≠ (.slice Ao24 t215.length co24 : Value).ownBlock ∧ some k_ ≠ (.slice Ao25 t218.length co25 : Value).ownBlock ∧ some k_ ≠ (.slice Ao32 t224.length co32 : Value).ownBlock ∧ some k_ ≠ (.slice Ao33 t227.length co33 : Value).ownBlock ∧ some k_ ≠ (.slice Ao40 t232.length co40 : Value).ownBlock ∧ some k_ ≠ (.slice Ao68 t242.length co68 : Value).ownBlock ∧ some k_ ≠ (.slice Ao69 t245.length co69 : Value).ownBlock) (Kd.R_keptB (HO_240002.out) hkp (fun k_ hk_ hs_ => Or.elim hs_ (fun e_ => (hk_.1.1.2.2.1) e_) (fun e_ => (hk_.1.1.2.2.2.1) e_))) (fun k_ hk_ => ⟨hk_.1.1.1.1, hk_.1.1.1.2.1, hk_.1.1.1.2.2.1, hk_.1.1.1.2.2.2.1, hk_.1.1.1.2.2.2.2, hk_.1.1.2, hk_.1.2⟩)); have n6_ := zA (blk_kept (uB BK205.out) hkp (fun hs_ => Or.elim hs_ (fun e_ => (fun e_ => (Kd.R_ne HO_231001.out BK205.out (by decide)) e_) e_) (fun e_ => (fun e_ => (Kd.R_ne HO_231002.out BK205.out (by decide)) e_) e_))); have n7_ := zA (blk_kept (uB BK222.out) hkp (fun hs_ => Or.elim hs_ (fun e_ => (fun e_ => (Kd.R_ne HO_231001.out BK222.out (by decide)) e_) e_) (fun e_ => (fun e_ => (Kd.R_ne HO_231002.out BK222.out (by decide)) e_) e_))); have n8_ := zA (blk_kept (uB BK230.out) hkp (fun hs_ => Or.elim hs_ (fun e_ => (fun e_ => (Kd.R_ne HO_231001.out BK230.out (by decide)) e_) e_) (fun e_ => (fun e_ => (Kd.R_ne HO_231002.out BK230.out (by decide)) e_) e_))); have n9_ := zA (blk_kept (uB BK239.out) hkp (fun hs_ => Or.elim hs_ (fun e_ => (fun e_ => (Kd.R_ne HO_231001.out BK239.out (by decide)) e_) e_) (fun e_ => (fun e_ => (Kd.R_ne HO_231002.out BK239.out (by decide)) e_) e_))); have n10_ := zA (Kd.R_mono (ok' := fun k_ => some k_ ≠ (.slice Ao24 t215.length co24 : Value).ownBlock ∧ some k_ ≠ (.slice Ao25 t218.length co25 : Value).ownBlock ∧ some k_ ≠ (.slice Ao32 t224.length co32 : Value).ownBlock ∧ some k_ ≠ (.slice Ao33 t227.length co33 : Value).ownBlock ∧ some k_ ≠ (.slice Ao40 t232.length co40 : Value).ownBlock ∧ some k_ ≠ (.slice Ao41 t235.length co41 : Value).ownBlock ∧ some k_ ≠ (.slice Ao69 t245.length co69 : Value).ownBlock) (Kd.R_keptB (HO244.out) hkp (fun k_ hk_ hs_ => Or.elim hs_ (fun e_ => (hk_.1.1.1.2) e_) (fun e_ => (hk_.1.1.2) e_))) (fun k_ hk_ => ⟨hk_.1.1.1.1.1.1.2, hk_.1.1.1.1.1.2, hk_.1.1.1.1.2, hk_.1.1.1.2, hk_.1.1.2, hk_.1.2, hk_.1.1.1.1.1.1.1⟩)); have n11_ := zA (Kd.R_mono (ok' := fun k_ => some k_ ≠ (.slice Ao24 t215.length co24 : Value).ownBlock ∧ some k_ ≠ (.slice Ao25 t218.length co25 : Value).ownBlock ∧ some k_ ≠ (.slice Ao32 t224.length co32 : Value).ownBlock ∧ some k_ ≠ (.slice Ao33 t227.length co33 : Value).ownBlock ∧ some k_ ≠ (.slice Ao40 t232.length co40 : Value).ownBlock ∧ some k_ ≠ (.slice Ao41 t235.length co41 : Value).ownBlock ∧ some k_ ≠ (.slice Ao68 t242.length co68 : Value).ownBlock) (Kd.R_keptB (HO247.out) hkp (fun k_ hk_ hs_ => Or.elim hs_ (fun e_ => (hk_.1.1.1.2) e_) (fun e_ => (hk_.1.1.2) e_))) (fun k_ hk_ => ⟨hk_.1.1.1.1.1.1.2, hk_.1.1.1.1.1.2, hk_.1.1.1.1.2, hk_.1.1.1.2, hk_.1.1.2, hk_.1.2, hk_.1.1.1.1.1.1.1⟩)); have n12_ := zA (hb); clear HO_223001 HO_223002 HO_231001 HO_231002 HO_240001 HO_240002 BK205 BK222 BK230 BK239 HO244 HO247 HB; have HO_223001 := n0_; have HO_223002 := n1_; have HO_231001 := n2_; have HO_231002 := n3_; have HO_240001 := n4_; have HO_240002 := n5_; have BK205 := n6_; have BK222 := n7_; have BK230 := n8_; have BK239 := n9_; have HO244 := n10_; have HO247 := n11_; have HB := n12_; clear n0_ n1_ n2_ n3_ n4_ n5_ n6_ n7_ n8_ n9_ n10_ n11_ n12_; (try clear hb); (try clear hkp); (try clear hy0); (try clear hy1)))
      (try simp only [Act.put, List.setIfInBounds_toArray, List.set_cons_zero, List.set_cons_succ])
      go_cut [65] (fun v65 wc => ∃ (kq : Nat) (x65_64 : Bool), v65 = .bool x65_64 ∧ Aside0 (laws_FnExactShiftJacobi.j1 kq a1 t221 x65_64 a0_0 l0_1 l0_2 t214 t215 t218 t231 t232 t235 = some r) ∧ Aside0 (kq ≤ kj11) ∧ Aside0 (Kd.R (Kd.int .i64) 2 wc w.heap.size (fun k_ => some k_ ≠ ((.slice Ao25 t218.length co25) : Value).ownBlock ∧ some k_ ≠ ((.slice Ao32 t224.length co32) : Value).ownBlock ∧ some k_ ≠ ((.slice Ao33 t227.length co33) : Value).ownBlock ∧ some k_ ≠ ((.slice Ao40 t232.length co40) : Value).ownBlock ∧ some k_ ≠ ((.slice Ao41 t235.length co41) : Value).ownBlock) (.slice Ao24 t215.length co24) t215) ∧ Aside0 (Kd.R (Kd.int .i64) 2 wc w.heap.size (fun k_ => some k_ ≠ ((.slice Ao24 t215.length co24) : Value).ownBlock ∧ some k_ ≠ ((.slice Ao32 t224.length co32) : Value).ownBlock ∧ some k_ ≠ ((.slice Ao33 t227.length co33) : Value).ownBlock ∧ some k_ ≠ ((.slice Ao40 t232.length co40) : Value).ownBlock ∧ some k_ ≠ ((.slice Ao41 t235.length co41) : Value).ownBlock) (.slice Ao25 t218.length co25) t218) ∧ Aside0 (Kd.R (Kd.int .i64) 2 wc w.heap.size (fun k_ => some k_ ≠ ((.slice Ao24 t215.length co24) : Value).ownBlock ∧ some k_ ≠ ((.slice Ao25 t218.length co25) : Value).ownBlock ∧ some k_ ≠ ((.slice Ao33 t227.length co33) : Value).ownBlock ∧ some k_ ≠ ((.slice Ao40 t232.length co40) : Value).ownBlock ∧ some k_ ≠ ((.slice Ao41 t235.length co41) : Value).ownBlock) (.slice Ao32 t224.length co32) t250) ∧ Aside0 (Kd.R (Kd.int .i64) 2 wc w.heap.size (fun k_ => some k_ ≠ ((.slice Ao24 t215.length co24) : Value).ownBlock ∧ some k_ ≠ ((.slice Ao25 t218.length co25) : Value).ownBlock ∧ some k_ ≠ ((.slice Ao32 t224.length co32) : Value).ownBlock ∧ some k_ ≠ ((.slice Ao40 t232.length co40) : Value).ownBlock ∧ some k_ ≠ ((.slice Ao41 t235.length co41) : Value).ownBlock) (.slice Ao33 t227.length co33) t251) ∧ Aside0 (Kd.R (Kd.int .i64) 2 wc w.heap.size (fun k_ => some k_ ≠ ((.slice Ao24 t215.length co24) : Value).ownBlock ∧ some k_ ≠ ((.slice Ao25 t218.length co25) : Value).ownBlock ∧ some k_ ≠ ((.slice Ao32 t224.length co32) : Value).ownBlock ∧ some k_ ≠ ((.slice Ao33 t227.length co33) : Value).ownBlock ∧ some k_ ≠ ((.slice Ao41 t235.length co41) : Value).ownBlock) (.slice Ao40 t232.length co40) t232) ∧ Aside0 (Kd.R (Kd.int .i64) 2 wc w.heap.size (fun k_ => some k_ ≠ ((.slice Ao24 t215.length co24) : Value).ownBlock ∧ some k_ ≠ ((.slice Ao25 t218.length co25) : Value).ownBlock ∧ some k_ ≠ ((.slice Ao32 t224.length co32) : Value).ownBlock ∧ some k_ ≠ ((.slice Ao33 t227.length co33) : Value).ownBlock ∧ some k_ ≠ ((.slice Ao40 t232.length co40) : Value).ownBlock) (.slice Ao41 t235.length co41) t235) ∧ Aside0 (wc.heap[gb205]? = some (.cells #[.int .i64 a0_0, (.slice A0_1 l0_1.length c0_1), (.slice A0_2 l0_2.length c0_2)] 24 (0, 0))) ∧ Aside0 (wc.heap[gb222]? = some (.cells #[.int .i64 t214, (.slice Ao24 t215.length co24), (.slice Ao25 t218.length co25)] 26 (0, 0))) ∧ Aside0 (wc.heap[gb230]? = some (.cells #[.int .i64 t223, (.slice Ao32 t224.length co32), (.slice Ao33 t227.length co33)] 26 (0, 0))) ∧ Aside0 (wc.heap[gb239]? = some (.cells #[.int .i64 t231, (.slice Ao40 t232.length co40), (.slice Ao41 t235.length co41)] 26 (0, 0))) ∧ Aside0 (Below w.heap.size w wc))
      case first =>
       have H := HC65.out
       clear HC65
       by_cases c76 : t249 < 0
       ·rw [if_pos c76] at H
        have c76b0 : decide (t249 < 0) = true := decide_eq_true c76
        clear c76
        (first | rw [c76b0] | (simp only [i64_w, i32_w]; rw [c76b0]) | skip)
        have H' := zA H
        clear H
        go_wp2
        go_meet
        case rel => exact ⟨_, (true), (by first | rfl | (simp; done) | (simp [*]; done)), H', ⟨by have := HJ11.out; first | omega | exact Nat.le_refl _⟩, ⟨uR (Kd.R_mono HO_223001.out (fun _ hk => ⟨hk.1, ⟨hk.2.1, ⟨hk.2.2.1, ⟨hk.2.2.2.1, hk.2.2.2.2.1⟩⟩⟩⟩))⟩, ⟨uR (Kd.R_mono HO_223002.out (fun _ hk => ⟨hk.1, ⟨hk.2.1, ⟨hk.2.2.1, ⟨hk.2.2.2.1, hk.2.2.2.2.1⟩⟩⟩⟩))⟩, ⟨uR (Kd.R_mono HO_231001.out (fun _ hk => ⟨hk.1.1.1, ⟨hk.1.1.2.1, ⟨hk.1.1.2.2.1, ⟨hk.1.1.2.2.2.1, hk.1.1.2.2.2.2⟩⟩⟩⟩))⟩, ⟨uR (Kd.R_mono HO_231002.out (fun _ hk => ⟨hk.1.1.1, ⟨hk.1.1.2.1, ⟨hk.1.1.2.2.1, ⟨hk.1.1.2.2.2.1, hk.1.1.2.2.2.2⟩⟩⟩⟩))⟩, ⟨uR (Kd.R_mono HO_240001.out (fun _ hk => ⟨hk.1, ⟨hk.2.1, ⟨hk.2.2.1, ⟨hk.2.2.2.1, hk.2.2.2.2.1⟩⟩⟩⟩))⟩, ⟨uR (Kd.R_mono HO_240002.out (fun _ hk => ⟨hk.1, ⟨hk.2.1, ⟨hk.2.2.1, ⟨hk.2.2.2.1, hk.2.2.2.2.1⟩⟩⟩⟩))⟩, ⟨uB BK205.out⟩, ⟨uB BK222.out⟩, ⟨uB BK230.out⟩, ⟨uB BK239.out⟩, ⟨uH HB.out⟩⟩
       ·rw [if_neg c76] at H
        have c76b0 : decide (t249 < 0) = false := decide_eq_false c76
        clear c76
        (first | rw [c76b0] | (simp only [i64_w, i32_w]; rw [c76b0]) | skip)
        replace H := Option.bind_eq_some_iff.mp H
        obtain ⟨t252, A770, H⟩ := H
        replace H : (if t252 = true then (laws_FnExactShiftJacobi.j1 kj11 a1 t221 (t238 != t221) a0_0 l0_1 l0_2 t214 t215 t218 t231 t232 t235) else (laws_FnExactShiftJacobi.j1 kj11 a1 t221 true a0_0 l0_1 l0_2 t214 t215 t218 t231 t232 t235)) = some r := H
        have A77 := zA A770
        clear A770
        by_cases c78 : t252 = true
        ·subst c78
         have H1 : (laws_FnExactShiftJacobi.j1 kj11 a1 t221 (t238 != t221) a0_0 l0_1 l0_2 t214 t215 t218 t231 t232 t235) = some r := by rw [if_pos rfl] at H; exact H
         clear H
         have H := H1
         clear H1
         have H' := zA H
         clear H
         have hnb79 := NB239_205.out; have hnc79 := NB205_239.out; have hnb80 := NB239_222.out; have hnc80 := NB222_239.out; have hnb81 := NB239_230.out; have hnc81 := NB230_239.out
         have hcz82_0 : w75.cell? ⟨gb239, 0, none⟩ = some (.int .i64 t231) := (blk_cell BK239.out 0).trans rfl
         have hcz82_1 : w75.cell? ⟨gb239, 1, none⟩ = some (.slice Ao40 t232.length co40) := (blk_cell BK239.out 1).trans rfl
         have hcz82_2 : w75.cell? ⟨gb239, 2, none⟩ = some (.slice Ao41 t235.length co41) := (blk_cell BK239.out 2).trans rfl
         have hfz82_0 := blk_frozen BK239.out 0
         have hfz82_1 := blk_frozen BK239.out 1
         have hfz82_2 := blk_frozen BK239.out 2
         have hnb83 := NB222_205.out; have hnc83 := NB205_222.out; have hnb84 := NB222_230.out; have hnc84 := NB230_222.out
         have hcz85_0 : w75.cell? ⟨gb222, 0, none⟩ = some (.int .i64 t214) := (blk_cell BK222.out 0).trans rfl
         have hcz85_1 : w75.cell? ⟨gb222, 1, none⟩ = some (.slice Ao24 t215.length co24) := (blk_cell BK222.out 1).trans rfl
         have hcz85_2 : w75.cell? ⟨gb222, 2, none⟩ = some (.slice Ao25 t218.length co25) := (blk_cell BK222.out 2).trans rfl
         have hfz85_0 := blk_frozen BK222.out 0
         have hfz85_1 := blk_frozen BK222.out 1
         have hfz85_2 := blk_frozen BK222.out 2
         go_wp2_with (first | (go_at_call 19; (with_reducible refine (laws_eqJacobi.calls kj11 t231 _ _ t232 _ _ t235 t214 _ _ t215 _ _ t218 true _ ?side1 ?side2 ?side3 ?side4 ?side5 ?side6 ?side7 ?side8 A77.out).mono ?_); (case side1 => exact uC ((Kd.R_reads' HO_240001.out).2.2)); (case side2 => exact (Kd.R_reads' HO_240001.out).2.1); (case side3 => exact uC ((Kd.R_reads' HO_240002.out).2.2)); (case side4 => exact (Kd.R_reads' HO_240002.out).2.1); (case side5 => exact uC ((Kd.R_reads' HO_223001.out).2.2)); (case side6 => exact (Kd.R_reads' HO_223001.out).2.1); (case side7 => exact uC ((Kd.R_reads' HO_223002.out).2.2)); (case side8 => exact (Kd.R_reads' HO_223002.out).2.1); rintro e w86 ⟨rfl, hb⟩; have n0_ := xR HO_223001 hb; have n1_ := xR HO_223002 hb; have n2_ := xR HO_231001 hb; have n3_ := xR HO_231002 hb; have n4_ := xR HO_240001 hb; have n5_ := xR HO_240002 hb; have n6_ := xR HO244 hb; have n7_ := xR HO247 hb; have n8_ := xB BK205 hb; have n9_ := xB BK222 hb; have n10_ := xB BK230 hb; have n11_ := xB BK239 hb; have n12_ := xH HB hb; clear HO_223001 HO_223002 HO_231001 HO_231002 HO_240001 HO_240002 HO244 HO247 BK205 BK222 BK230 BK239 HB; have HO_223001 := n0_; have HO_223002 := n1_; have HO_231001 := n2_; have HO_231002 := n3_; have HO_240001 := n4_; have HO_240002 := n5_; have HO244 := n6_; have HO247 := n7_; have BK205 := n8_; have BK222 := n9_; have BK230 := n10_; have BK239 := n11_; have HB := n12_; clear n0_ n1_ n2_ n3_ n4_ n5_ n6_ n7_ n8_ n9_ n10_ n11_ n12_; (try clear hb); (try clear hb2); (try clear hk); (try clear hi)))
         go_meet
         case rel => exact ⟨_, ((t238 != t221)), (by first | rfl | (simp; done) | (simp [*]; done)), H', ⟨by have := HJ11.out; first | omega | exact Nat.le_refl _⟩, ⟨uR (Kd.R_mono HO_223001.out (fun _ hk => ⟨hk.1, ⟨hk.2.1, ⟨hk.2.2.1, ⟨hk.2.2.2.1, hk.2.2.2.2.1⟩⟩⟩⟩))⟩, ⟨uR (Kd.R_mono HO_223002.out (fun _ hk => ⟨hk.1, ⟨hk.2.1, ⟨hk.2.2.1, ⟨hk.2.2.2.1, hk.2.2.2.2.1⟩⟩⟩⟩))⟩, ⟨uR (Kd.R_mono HO_231001.out (fun _ hk => ⟨hk.1.1.1, ⟨hk.1.1.2.1, ⟨hk.1.1.2.2.1, ⟨hk.1.1.2.2.2.1, hk.1.1.2.2.2.2⟩⟩⟩⟩))⟩, ⟨uR (Kd.R_mono HO_231002.out (fun _ hk => ⟨hk.1.1.1, ⟨hk.1.1.2.1, ⟨hk.1.1.2.2.1, ⟨hk.1.1.2.2.2.1, hk.1.1.2.2.2.2⟩⟩⟩⟩))⟩, ⟨uR (Kd.R_mono HO_240001.out (fun _ hk => ⟨hk.1, ⟨hk.2.1, ⟨hk.2.2.1, ⟨hk.2.2.2.1, hk.2.2.2.2.1⟩⟩⟩⟩))⟩, ⟨uR (Kd.R_mono HO_240002.out (fun _ hk => ⟨hk.1, ⟨hk.2.1, ⟨hk.2.2.1, ⟨hk.2.2.2.1, hk.2.2.2.2.1⟩⟩⟩⟩))⟩, ⟨uB BK205.out⟩, ⟨uB BK222.out⟩, ⟨uB BK230.out⟩, ⟨uB BK239.out⟩, ⟨uH HB.out⟩⟩
        ·replace c78 := Bool.eq_false_iff.mpr c78
         subst c78
         have H1 : (laws_FnExactShiftJacobi.j1 kj11 a1 t221 true a0_0 l0_1 l0_2 t214 t215 t218 t231 t232 t235) = some r := by rw [if_neg (show ¬ (false = true) by decide)] at H; exact H
         clear H
         have H := H1
         clear H1
         have H' := zA H
         clear H
         have hnb87 := NB239_205.out; have hnc87 := NB205_239.out; have hnb88 := NB239_222.out; have hnc88 := NB222_239.out; have hnb89 := NB239_230.out; have hnc89 := NB230_239.out
         have hcz90_0 : w75.cell? ⟨gb239, 0, none⟩ = some (.int .i64 t231) := (blk_cell BK239.out 0).trans rfl
         have hcz90_1 : w75.cell? ⟨gb239, 1, none⟩ = some (.slice Ao40 t232.length co40) := (blk_cell BK239.out 1).trans rfl
         have hcz90_2 : w75.cell? ⟨gb239, 2, none⟩ = some (.slice Ao41 t235.length co41) := (blk_cell BK239.out 2).trans rfl
         have hfz90_0 := blk_frozen BK239.out 0
         have hfz90_1 := blk_frozen BK239.out 1
         have hfz90_2 := blk_frozen BK239.out 2
         have hnb91 := NB222_205.out; have hnc91 := NB205_222.out; have hnb92 := NB222_230.out; have hnc92 := NB230_222.out
         have hcz93_0 : w75.cell? ⟨gb222, 0, none⟩ = some (.int .i64 t214) := (blk_cell BK222.out 0).trans rfl
         have hcz93_1 : w75.cell? ⟨gb222, 1, none⟩ = some (.slice Ao24 t215.length co24) := (blk_cell BK222.out 1).trans rfl
         have hcz93_2 : w75.cell? ⟨gb222, 2, none⟩ = some (.slice Ao25 t218.length co25) := (blk_cell BK222.out 2).trans rfl
         have hfz93_0 := blk_frozen BK222.out 0
         have hfz93_1 := blk_frozen BK222.out 1
         have hfz93_2 := blk_frozen BK222.out 2
         go_wp2_with (first | (go_at_call 19; (with_reducible refine (laws_eqJacobi.calls kj11 t231 _ _ t232 _ _ t235 t214 _ _ t215 _ _ t218 false _ ?side1 ?side2 ?side3 ?side4 ?side5 ?side6 ?side7 ?side8 A77.out).mono ?_); (case side1 => exact uC ((Kd.R_reads' HO_240001.out).2.2)); (case side2 => exact (Kd.R_reads' HO_240001.out).2.1); (case side3 => exact uC ((Kd.R_reads' HO_240002.out).2.2)); (case side4 => exact (Kd.R_reads' HO_240002.out).2.1); (case side5 => exact uC ((Kd.R_reads' HO_223001.out).2.2)); (case side6 => exact (Kd.R_reads' HO_223001.out).2.1); (case side7 => exact uC ((Kd.R_reads' HO_223002.out).2.2)); (case side8 => exact (Kd.R_reads' HO_223002.out).2.1); rintro e w94 ⟨rfl, hb⟩; have n0_ := xR HO_223001 hb; have n1_ := xR HO_223002 hb; have n2_ := xR HO_231001 hb; have n3_ := xR HO_231002 hb; have n4_ := xR HO_240001 hb; have n5_ := xR HO_240002 hb; have n6_ := xR HO244 hb; have n7_ := xR HO247 hb; have n8_ := xB BK205 hb; have n9_ := xB BK222 hb; have n10_ := xB BK230 hb; have n11_ := xB BK239 hb; have n12_ := xH HB hb; clear HO_223001 HO_223002 HO_231001 HO_231002 HO_240001 HO_240002 HO244 HO247 BK205 BK222 BK230 BK239 HB; have HO_223001 := n0_; have HO_223002 := n1_; have HO_231001 := n2_; have HO_231002 := n3_; have HO_240001 := n4_; have HO_240002 := n5_; have HO244 := n6_; have HO247 := n7_; have BK205 := n8_; have BK222 := n9_; have BK230 := n10_; have BK239 := n11_; have HB := n12_; clear n0_ n1_ n2_ n3_ n4_ n5_ n6_ n7_ n8_ n9_ n10_ n11_ n12_; (try clear hb); (try clear hb2); (try clear hk); (try clear hi)))
         go_meet
         case rel => exact ⟨_, (true), (by first | rfl | (simp; done) | (simp [*]; done)), H', ⟨by have := HJ11.out; first | omega | exact Nat.le_refl _⟩, ⟨uR (Kd.R_mono HO_223001.out (fun _ hk => ⟨hk.1, ⟨hk.2.1, ⟨hk.2.2.1, ⟨hk.2.2.2.1, hk.2.2.2.2.1⟩⟩⟩⟩))⟩, ⟨uR (Kd.R_mono HO_223002.out (fun _ hk => ⟨hk.1, ⟨hk.2.1, ⟨hk.2.2.1, ⟨hk.2.2.2.1, hk.2.2.2.2.1⟩⟩⟩⟩))⟩, ⟨uR (Kd.R_mono HO_231001.out (fun _ hk => ⟨hk.1.1.1, ⟨hk.1.1.2.1, ⟨hk.1.1.2.2.1, ⟨hk.1.1.2.2.2.1, hk.1.1.2.2.2.2⟩⟩⟩⟩))⟩, ⟨uR (Kd.R_mono HO_231002.out (fun _ hk => ⟨hk.1.1.1, ⟨hk.1.1.2.1, ⟨hk.1.1.2.2.1, ⟨hk.1.1.2.2.2.1, hk.1.1.2.2.2.2⟩⟩⟩⟩))⟩, ⟨uR (Kd.R_mono HO_240001.out (fun _ hk => ⟨hk.1, ⟨hk.2.1, ⟨hk.2.2.1, ⟨hk.2.2.2.1, hk.2.2.2.2.1⟩⟩⟩⟩))⟩, ⟨uR (Kd.R_mono HO_240002.out (fun _ hk => ⟨hk.1, ⟨hk.2.1, ⟨hk.2.2.1, ⟨hk.2.2.2.1, hk.2.2.2.2.1⟩⟩⟩⟩))⟩, ⟨uB BK205.out⟩, ⟨uB BK222.out⟩, ⟨uB BK230.out⟩, ⟨uB BK239.out⟩, ⟨uH HB.out⟩⟩
      case rest =>
       clear HC65
       try clear c1
       try clear c2
       try clear p2
       try clear c3
       try clear c4
       try clear c4b0
       try clear c5
       try clear c6
       try clear c7
       try clear c8
       try clear c9
       try clear c15
       try clear c16
       try clear c17
       try clear c18
       try clear c19
       try clear c20
       try clear c22
       try clear c29
       try clear c30
       try clear c36
       try clear c37
       try clear c38
       try clear c43
       try clear c44
       try clear c45
       try clear c46
       try clear c48
       try clear c49
       try clear c52
       try clear c53
       try clear c54
       try clear c56
       try clear c57
       try clear c60
       try clear c63
       try clear c71
       try clear c72
       try clear c73
       try clear c76
       try clear c76b0
       try clear c78
       try clear c79
       try clear c80
       try clear c81
       try clear c83
       try clear c84
       try clear c87
       try clear c88
       try clear c89
       try clear c91
       try clear c92
       try clear hcz14_0
       try clear hcz14_1
       try clear hcz14_2
       try clear hcz16_0
       try clear hcz16_1
       try clear hcz16_2
       try clear hcz23_0
       try clear hcz23_1
       try clear hcz23_2
       try clear hcz26_0
       try clear hcz26_1
       try clear hcz26_2
       try clear hcz31_0
       try clear hcz31_1
       try clear hcz31_2
       try clear hcz39_0
       try clear hcz39_1
       try clear hcz39_2
       try clear hcz47_0
       try clear hcz47_1
       try clear hcz47_2
       try clear hcz50_0
       try clear hcz50_1
       try clear hcz50_2
       try clear hcz55_0
       try clear hcz55_1
       try clear hcz55_2
       try clear hcz58_0
       try clear hcz58_1
       try clear hcz58_2
       try clear hcz6_0
       try clear hcz6_1
       try clear hcz6_2
       try clear hcz74_0
       try clear hcz74_1
       try clear hcz74_2
       try clear hcz82_0
       try clear hcz82_1
       try clear hcz82_2
       try clear hcz85_0
       try clear hcz85_1
       try clear hcz85_2
       try clear hcz90_0
       try clear hcz90_1
       try clear hcz90_2
       try clear hcz93_0
       try clear hcz93_1
       try clear hcz93_2
       try clear hfz14_0
       try clear hfz14_1
       try clear hfz14_2
       try clear hfz16_0
       try clear hfz16_1
       try clear hfz16_2
       try clear hfz23_0
       try clear hfz23_1
       try clear hfz23_2
       try clear hfz26_0
       try clear hfz26_1
       try clear hfz26_2
       try clear hfz31_0
       try clear hfz31_1
       try clear hfz31_2
       try clear hfz39_0
       try clear hfz39_1
       try clear hfz39_2
       try clear hfz47_0
       try clear hfz47_1
       try clear hfz47_2
       try clear hfz50_0
       try clear hfz50_1
       try clear hfz50_2
       try clear hfz55_0
       try clear hfz55_1
       try clear hfz55_2
       try clear hfz58_0
       try clear hfz58_1
       try clear hfz58_2
       try clear hfz6_0
       try clear hfz6_1
       try clear hfz6_2
       try clear hfz74_0
       try clear hfz74_1
       try clear hfz74_2
       try clear hfz82_0
       try clear hfz82_1
       try clear hfz82_2
       try clear hfz85_0
       try clear hfz85_1
       try clear hfz85_2
       try clear hfz90_0
       try clear hfz90_1
       try clear hfz90_2
       try clear hfz93_0
       try clear hfz93_1
       try clear hfz93_2
       try clear p2
       obtain ⟨kq, x65_64, rfl, HA, HJ64, HO_223001, HO_223002, HO_231001, HO_231002, HO_240001, HO_240002, BK205, BK222, BK230, BK239, HB⟩ := hcut
       have hl231001_64 := (Kd.R_reads' HO_231001.out).1
       rw [hl231001_64] at HO_231001
       (try simp only [hl231001_64])
       (try simp only [hl231001_64] at BK205)
       (try simp only [hl231001_64] at BK222)
       (try simp only [hl231001_64] at BK230)
       (try simp only [hl231001_64] at BK239)
       (try simp only [hl231001_64] at HO_223001)
       (try simp only [hl231001_64] at HO_223002)
       (try simp only [hl231001_64] at HO_231002)
       (try simp only [hl231001_64] at HO_240001)
       (try simp only [hl231001_64] at HO_240002)
       have hl231002_64 := (Kd.R_reads' HO_231002.out).1
       rw [hl231002_64] at HO_231002
       (try simp only [hl231002_64])
       (try simp only [hl231002_64] at BK205)
       (try simp only [hl231002_64] at BK222)
       (try simp only [hl231002_64] at BK230)
       (try simp only [hl231002_64] at BK239)
       (try simp only [hl231002_64] at HO_223001)
       (try simp only [hl231002_64] at HO_223002)
       (try simp only [hl231002_64] at HO_231001)
       (try simp only [hl231002_64] at HO_240001)
       (try simp only [hl231002_64] at HO_240002)
       cases kq with
       | zero => exact absurd HA.out (by simp [laws_FnExactShiftJacobi.j1])
       | succ kj64 =>
        have H := HA.out
        clear HA
        simp only [laws_FnExactShiftJacobi.j1] at H
        by_cases c95 : x65_64 = true
        ·subst c95
         have H1 : (some false) = some r := by rw [if_pos rfl] at H; exact H
         clear H
         have H := H1
         clear H1
         rw [HRT.out] at H
         exact absurd H (by simp)
        ·replace c95 := Bool.eq_false_iff.mpr c95
         subst c95
         have H1 : ((laws_markJacobi.f kj64 t231 t232 t235 1).bind fun bt253 => ((laws_heldJacobi.f kj64 t231 bt253.2.1 bt253.2.2 1).bind fun t256 => (if t256 < 0 then (some false) else (if t256 = bt253.1 then ((laws_toJacobi.f kj64 a0_0 l0_1 l0_2).bind fun bt257 => ((impl_ShiftJacobi.f kj64 bt257.1 bt257.2.1 bt257.2.2 a1).bind fun bt264 => ((laws_eqJacobi.f kj64 bt264.1 bt264.2.1 bt264.2.2.1 t214 t215 t218).bind fun t273 => (if t273 = true then (laws_FnExactShiftJacobi.j2 kj64 bt253.1 (bt264.2.2.2 != t221) t231 bt253.2.1 bt253.2.2) else (laws_FnExactShiftJacobi.j2 kj64 bt253.1 true t231 bt253.2.1 bt253.2.2))))) else (some false))))) = some r := by rw [if_neg (show ¬ (false = true) by decide)] at H; exact H
         clear H
         have H := H1
         clear H1
         replace H := Option.bind_eq_some_iff.mp H
         obtain ⟨⟨t253, t254, t255⟩, A960, H⟩ := H
         replace H : ((laws_heldJacobi.f kj64 t231 t254 t255 1).bind fun t256 => (if t256 < 0 then (some false) else (if t256 = t253 then ((laws_toJacobi.f kj64 a0_0 l0_1 l0_2).bind fun bt257 => ((impl_ShiftJacobi.f kj64 bt257.1 bt257.2.1 bt257.2.2 a1).bind fun bt264 => ((laws_eqJacobi.f kj64 bt264.1 bt264.2.1 bt264.2.2.1 t214 t215 t218).bind fun t273 => (if t273 = true then (laws_FnExactShiftJacobi.j2 kj64 t253 (bt264.2.2.2 != t221) t231 t254 t255) else (laws_FnExactShiftJacobi.j2 kj64 t253 true t231 t254 t255))))) else (some false)))) = some r := H
         have A96 := zA A960
         clear A960
         replace H := Option.bind_eq_some_iff.mp H
         obtain ⟨t256, A970, H⟩ := H
         replace H : (if t256 < 0 then (some false) else (if t256 = t253 then ((laws_toJacobi.f kj64 a0_0 l0_1 l0_2).bind fun bt257 => ((impl_ShiftJacobi.f kj64 bt257.1 bt257.2.1 bt257.2.2 a1).bind fun bt264 => ((laws_eqJacobi.f kj64 bt264.1 bt264.2.1 bt264.2.2.1 t214 t215 t218).bind fun t273 => (if t273 = true then (laws_FnExactShiftJacobi.j2 kj64 t253 (bt264.2.2.2 != t221) t231 t254 t255) else (laws_FnExactShiftJacobi.j2 kj64 t253 true t231 t254 t255))))) else (some false))) = some r := H
         have A97 := zA A970
         clear A970
         by_cases c98 : t256 < 0
         ·rw [if_pos c98] at H
          have c98b0 : decide (t256 < 0) = true := decide_eq_true c98
          clear c98
          rw [HRT.out] at H
          exact absurd H (by simp)
         ·rw [if_neg c98] at H
          have c98b0 : decide (t256 < 0) = false := decide_eq_false c98
          clear c98
          by_cases c99 : t256 = t253
          ·rw [if_pos c99] at H
           have c99b0 : (t256 == t253) = true := beq_iff_eq.mpr c99
           have c99b1 : (t256 != t253) = false := bne_eq_false_iff_eq.mpr c99
           clear c99
           replace H := Option.bind_eq_some_iff.mp H
           obtain ⟨⟨t257, t258, t261⟩, A1000, H⟩ := H
           replace H : ((impl_ShiftJacobi.f kj64 t257 t258 t261 a1).bind fun bt264 => ((laws_eqJacobi.f kj64 bt264.1 bt264.2.1 bt264.2.2.1 t214 t215 t218).bind fun t273 => (if t273 = true then (laws_FnExactShiftJacobi.j2 kj64 t253 (bt264.2.2.2 != t221) t231 t254 t255) else (laws_FnExactShiftJacobi.j2 kj64 t253 true t231 t254 t255)))) = some r := H
           have A100 := zA A1000
           clear A1000
           replace H := Option.bind_eq_some_iff.mp H
           obtain ⟨⟨t264, t265, t268, t271⟩, A1010, H⟩ := H
           replace H : ((laws_eqJacobi.f kj64 t264 t265 t268 t214 t215 t218).bind fun t273 => (if t273 = true then (laws_FnExactShiftJacobi.j2 kj64 t253 (t271 != t221) t231 t254 t255) else (laws_FnExactShiftJacobi.j2 kj64 t253 true t231 t254 t255))) = some r := H
           have A101 := zA A1010
           clear A1010
           have HC102 := zA H
           clear H
           have hnb103 := NB239_205.out; have hnc103 := NB205_239.out; have hnb104 := NB239_222.out; have hnc104 := NB222_239.out; have hnb105 := NB239_230.out; have hnc105 := NB230_239.out
           have hcz106_0 : wc.cell? ⟨gb239, 0, none⟩ = some (.int .i64 t231) := (blk_cell BK239.out 0).trans rfl
           have hcz106_1 : wc.cell? ⟨gb239, 1, none⟩ = some (.slice Ao40 t232.length co40) := (blk_cell BK239.out 1).trans rfl
           have hcz106_2 : wc.cell? ⟨gb239, 2, none⟩ = some (.slice Ao41 t235.length co41) := (blk_cell BK239.out 2).trans rfl
           have hfz106_0 := blk_frozen BK239.out 0
           have hfz106_1 := blk_frozen BK239.out 1
           have hfz106_2 := blk_frozen BK239.out 2
           go_upto_region 25 with (first | ((with_reducible refine gate_callee (f := 20) rfl ?_); refine goesL_ (some 68) rfl rfl Try.func20 (by kernel_rfl) rfl #[.agg #[.int .i64 t231, .slice Ao40 t232.length co40, .slice Ao41 t235.length co41], .int .i64 1] rfl (by (try simp only [List.map_toArray, List.map_cons, List.map_nil]); first | done | rfl | (simp only [List.length_drop, List.length_take]; rfl)) ?_; (with_reducible refine (laws_markJacobi.calls kj64 t231 (fun k_ => some k_ = (.slice Ao40 t232.length co40 : Value).ownBlock) (.slice Ao40 t232.length co40) t232 (fun k_ => some k_ = (.slice Ao41 t235.length co41 : Value).ownBlock) (.slice Ao41 t235.length co41) t235 1 t253 t254 t255 w _ ?side1 ?side2 ?side3 ?side4 ?side5 A96.out).mono ?_); (case side1 => repeat (first | (with_reducible first | exact HB.out | apply below_alloc | apply pw_below_drewN | apply below_drew1 | refine below_set ?_ GE205.out | refine below_set ?_ GE222.out | refine below_set ?_ GE230.out | refine below_set ?_ GE239.out) | exact HB.out)); (case side2 => exact Kd.R_tight rfl HO_240001.out); (case side3 => exact fun k_ e_ => (HO_240001.out.1 k_ e_.symm).2.2.2.2); (case side4 => exact Kd.R_tight rfl HO_240002.out); (case side5 => exact fun k_ e_ => (HO_240002.out.1 k_ e_.symm).2.2.2.2); rintro e w107 ⟨rfl, hy0, hy1, hb, hkp⟩; refine ⟨_, rfl, ?_⟩; have n0_ := zA (Kd.R_mono (ok' := fun k_ => some k_ ≠ (.slice Ao25 t218.length co25 : Value).ownBlock ∧ some k_ ≠ (.slice Ao32 t250.length co32 : Value).ownBlock ∧ some k_ ≠ (.slice Ao33 t251.length co33 : Value).ownBlock ∧ some k_ ≠ (.slice Ao40 t232.length co40 : Value).ownBlock ∧ some k_ ≠ (.slice Ao41 t235.length co41 : Value).ownBlock) (Kd.R_keptB (HO_223001.out) hkp (fun k_ hk_ hs_ => Or.elim hs_ (fun e_ => (hk_.2.2.2.1) e_) (fun e_ => (hk_.2.2.2.2) e_))) (fun k_ hk_ => ⟨hk_.1.1, hk_.1.2.1, hk_.1.2.2.1, hk_.1.2.2.2.1, hk_.1.2.2.2.2⟩)); have n1_ := zA (Kd.R_mono (ok' := fun k_ => some k_ ≠ (.slice Ao24 t215.length co24 : Value).ownBlock ∧ some k_ ≠ (.slice Ao32 t250.length co32 : Value).ownBlock ∧ some k_ ≠ (.slice Ao33 t251.length co33 : Value).ownBlock ∧ some k_ ≠ (.slice Ao40 t232.length co40 : Value).ownBlock ∧ some k_ ≠ (.slice Ao41 t235.length co41 : Value).ownBlock) (Kd.R_keptB (HO_223002.out) hkp (fun k_ hk_ hs_ => Or.elim hs_ (fun e_ => (hk_.2.2.2.1) e_) (fun e_ => (hk_.2.2.2.2) e_))) (fun k_ hk_ => ⟨hk_.1.1, hk_.1.2.1, hk_.1.2.2.1, hk_.1.2.2.2.1, hk_.1.2.2.2.2⟩)); have n2_ := zA (Kd.R_mono (ok' := fun k_ => some k_ ≠ (.slice Ao24 t215.length co24 : Value).ownBlock ∧ some k_ ≠ (.slice Ao25 t218.length co25 : Value).ownBlock ∧ some k_ ≠ (.slice Ao33 t251.length co33 : Value).ownBlock ∧ some k_ ≠ (.slice Ao40 t232.length co40 : Value).ownBlock ∧ some k_ ≠ (.slice Ao41 t235.length co41 : Value).ownBlock) (Kd.R_keptB (HO_231001.out) hkp (fun k_ hk_ hs_ => Or.elim hs_ (fun e_ => (hk_.2.2.2.1) e_) (fun e_ => (hk_.2.2.2.2) e_))) (fun k_ hk_ => ⟨hk_.1.1, hk_.1.2.1, hk_.1.2.2.1, hk_.1.2.2.2.1, hk_.1.2.2.2.2⟩)); have n3_ := zA (Kd.R_mono (ok' := fun k_ => some k_ ≠ (.slice Ao24 t215.length co24 : Value).ownBlock ∧ some k_ ≠ (.slice Ao25 t218.length co25 : Value).ownBlock ∧ some k_ ≠ (.slice Ao32 t250.length co32 : Value).ownBlock ∧ some k_ ≠ (.slice Ao40 t232.length co40 : Value).ownBlock ∧ some k_ ≠ (.slice Ao41 t235.length co41 : Value).ownBlock) (Kd.R_keptB (HO_231002.out) hkp (fun k_ hk_ hs_ => Or.elim hs_ (fun e_ => (hk_.2.2.2.1) e_) (fun e_ => (hk_.2.2.2.2) e_))) (fun k_ hk_ => ⟨hk_.1.1, hk_.1.2.1, hk_.1.2.2.1, hk_.1.2.2.2.1, hk_.1.2.2.2.2⟩)); have n4_ := zA (Kd.R_reok rfl hy0 (fun k_ e_ => HO_240001.out.1 k_ e_)); have n5_ := zA (Kd.R_reok rfl hy1 (fun k_ e_ => HO_240002.out.1 k_ e_)); have n6_ := zA (blk_kept (uB BK205.out) hkp (fun hs_ => Or.elim hs_ (fun e_ => (fun e_ => (Kd.R_ne HO_240001.out BK205.out (by decide)) e_) e_) (fun e_ => (fun e_ => (Kd.R_ne HO_240002.out BK205.out (by decide)) e_) e_))); have n7_ := zA (blk_kept (uB BK222.out) hkp (fun hs_ => Or.elim hs_ (fun e_ => (fun e_ => (Kd.R_ne HO_240001.out BK222.out (by decide)) e_) e_) (fun e_ => (fun e_ => (Kd.R_ne HO_240002.out BK222.out (by decide)) e_) e_))); have n8_ := zA (blk_kept (uB BK230.out) hkp (fun hs_ => Or.elim hs_ (fun e_ => (fun e_ => (Kd.R_ne HO_240001.out BK230.out (by decide)) e_) e_) (fun e_ => (fun e_ => (Kd.R_ne HO_240002.out BK230.out (by decide)) e_) e_))); have n9_ := zA (blk_kept (uB BK239.out) hkp (fun hs_ => Or.elim hs_ (fun e_ => (fun e_ => (Kd.R_ne HO_240001.out BK239.out (by decide)) e_) e_) (fun e_ => (fun e_ => (Kd.R_ne HO_240002.out BK239.out (by decide)) e_) e_))); have n10_ := zA (hb); clear HO_223001 HO_223002 HO_231001 HO_231002 HO_240001 HO_240002 BK205 BK222 BK230 BK239 HB; have HO_223001 := n0_; have HO_223002 := n1_; have HO_231001 := n2_; have HO_231002 := n3_; have HO_240001 := n4_; have HO_240002 := n5_; have BK205 := n6_; have BK222 := n7_; have BK230 := n8_; have BK239 := n9_; have HB := n10_; clear n0_ n1_ n2_ n3_ n4_ n5_ n6_ n7_ n8_ n9_ n10_; (try clear hb); (try clear hkp); (try clear hy0); (try clear hy1); have hcz108_0 : w107.cell? ⟨gb239, 0, none⟩ = some (.int .i64 t231) := (blk_cell BK239.out 0).trans rfl; have hcz108_1 : w107.cell? ⟨gb239, 1, none⟩ = some (.slice Ao40 t232.length co40) := (blk_cell BK239.out 1).trans rfl; have hcz108_2 : w107.cell? ⟨gb239, 2, none⟩ = some (.slice Ao41 t235.length co41) := (blk_cell BK239.out 2).trans rfl; have hfz108_0 := blk_frozen BK239.out 0; have hfz108_1 := blk_frozen BK239.out 1; have hfz108_2 := blk_frozen BK239.out 2) | ((with_reducible refine gate_callee (f := 21) rfl ?_); refine goesL_ (some 71) rfl rfl Try.func21 (by kernel_rfl) rfl #[.agg #[.int .i64 t231, .slice Ao40 t254.length co40, .slice Ao41 t255.length co41], .int .i64 1] rfl (by (try simp only [List.map_toArray, List.map_cons, List.map_nil]); first | done | (rw [show t254.length = t232.length from (Kd.R_reads' HO_240001.out).1.symm, show t255.length = t235.length from (Kd.R_reads' HO_240002.out).1.symm] <;> rfl) | rfl | (simp only [List.length_drop, List.length_take]; rfl)) ?_; (with_reducible refine (laws_heldJacobi.calls kj64 t231 _ _ t254 _ _ t255 1 t256 _ ?side1 ?side2 ?side3 ?side4 A97.out).mono ?_); (case side1 => exact uC ((Kd.R_reads' HO_240001.out).2.2)); (case side2 => rw [show t254.length = t232.length from (Kd.R_reads' HO_240001.out).1.symm]; exact (Kd.R_reads' HO_240001.out).2.1); (case side3 => exact uC ((Kd.R_reads' HO_240002.out).2.2)); (case side4 => rw [show t255.length = t235.length from (Kd.R_reads' HO_240002.out).1.symm]; exact (Kd.R_reads' HO_240002.out).2.1); rintro e w109 ⟨rfl, hb⟩; refine ⟨_, rfl, ?_⟩; have n0_ := xR HO_223001 hb; have n1_ := xR HO_223002 hb; have n2_ := xR HO_231001 hb; have n3_ := xR HO_231002 hb; have n4_ := xR HO_240001 hb; have n5_ := xR HO_240002 hb; have n6_ := xB BK205 hb; have n7_ := xB BK222 hb; have n8_ := xB BK230 hb; have n9_ := xB BK239 hb; have n10_ := xH HB hb; clear HO_223001 HO_223002 HO_231001 HO_231002 HO_240001 HO_240002 BK205 BK222 BK230 BK239 HB; have HO_223001 := n0_; have HO_223002 := n1_; have HO_231001 := n2_; have HO_231002 := n3_; have HO_240001 := n4_; have HO_240002 := n5_; have BK205 := n6_; have BK222 := n7_; have BK230 := n8_; have BK239 := n9_; have HB := n10_; clear n0_ n1_ n2_ n3_ n4_ n5_ n6_ n7_ n8_ n9_ n10_; (try clear hb); (try clear hb2); (try clear hk); (try clear hi); have hnb110 := NB205_222.out; have hnc110 := NB222_205.out; have hnb111 := NB205_230.out; have hnc111 := NB230_205.out; have hcz112_0 : w109.cell? ⟨gb205, 0, none⟩ = some (.int .i64 a0_0) := (blk_cell BK205.out 0).trans rfl; have hcz112_1 : w109.cell? ⟨gb205, 1, none⟩ = some (.slice A0_1 l0_1.length c0_1) := (blk_cell BK205.out 1).trans rfl; have hcz112_2 : w109.cell? ⟨gb205, 2, none⟩ = some (.slice A0_2 l0_2.length c0_2) := (blk_cell BK205.out 2).trans rfl; have hfz112_0 := blk_frozen BK205.out 0; have hfz112_1 := blk_frozen BK205.out 1; have hfz112_2 := blk_frozen BK205.out 2) | ((with_reducible refine gate_callee (f := 17) rfl ?_); refine goesL_ (some 79) rfl rfl Try.func17 (by kernel_rfl) rfl #[.agg #[.int .i64 a0_0, .slice A0_1 l0_1.length c0_1, .slice A0_2 l0_2.length c0_2]] rfl (by (try simp only [List.map_toArray, List.map_cons, List.map_nil]); first | done | rfl | (simp only [List.length_drop, List.length_take]; rfl)) ?_; (with_reducible refine (laws_toJacobi.calls kj64 a0_0 _ _ l0_1 _ _ l0_2 t257 t258 t261 _ ?side1 ?side2 ?side3 ?side4 A100.out).mono ?_); (case side1 => exact uC ((Kd.C_below HR0_1.out HB.out))); (case side2 => exact HC0_1.out); (case side3 => exact uC ((Kd.C_below HR0_2.out HB.out))); (case side4 => exact HC0_2.out); rintro e w113 ⟨v259, v262, rfl, ho0, ho1, hb⟩; refine ⟨_, rfl, ?_⟩; have n0_ := zA (Kd.R_mono (Kd.R_told (Kd.R_told (Kd.R_old (uR HO_223001.out) hb) (Kd.R_base ho0)) (Kd.R_base ho1)) (fun _ h_ => h_.1)); have n1_ := zA (Kd.R_mono (Kd.R_told (Kd.R_told (Kd.R_old (uR HO_223002.out) hb) (Kd.R_base ho0)) (Kd.R_base ho1)) (fun _ h_ => h_.1)); have n2_ := zA (Kd.R_mono (Kd.R_told (Kd.R_told (Kd.R_old (uR HO_231001.out) hb) (Kd.R_base ho0)) (Kd.R_base ho1)) (fun _ h_ => h_.1)); have n3_ := zA (Kd.R_mono (Kd.R_told (Kd.R_told (Kd.R_old (uR HO_231002.out) hb) (Kd.R_base ho0)) (Kd.R_base ho1)) (fun _ h_ => h_.1)); have n4_ := zA (Kd.R_mono (Kd.R_told (Kd.R_told (Kd.R_old (uR HO_240001.out) hb) (Kd.R_base ho0)) (Kd.R_base ho1)) (fun _ h_ => h_.1)); have n5_ := zA (Kd.R_mono (Kd.R_told (Kd.R_told (Kd.R_old (uR HO_240002.out) hb) (Kd.R_base ho0)) (Kd.R_base ho1)) (fun _ h_ => h_.1)); have n6_ := zA (Kd.R_lower (Kd.R_new' (Kd.R_new' (Kd.R_new' (Kd.R_new' (Kd.R_new' (Kd.R_new' ho0 (Kd.R_lt (uR HO_223001.out))) (Kd.R_lt (uR HO_223002.out))) (Kd.R_lt (uR HO_231001.out))) (Kd.R_lt (uR HO_231002.out))) (Kd.R_lt (uR HO_240001.out))) (Kd.R_lt (uR HO_240002.out))) (below_size (uH HB.out))); have n7_ := zA (Kd.R_lower (Kd.R_new' (Kd.R_new' (Kd.R_new' (Kd.R_new' (Kd.R_new' (Kd.R_new' ho1 (Kd.R_lt (uR HO_223001.out))) (Kd.R_lt (uR HO_223002.out))) (Kd.R_lt (uR HO_231001.out))) (Kd.R_lt (uR HO_231002.out))) (Kd.R_lt (uR HO_240001.out))) (Kd.R_lt (uR HO_240002.out))) (below_size (uH HB.out))); have n8_ := xB BK205 hb; have n9_ := xB BK222 hb; have n10_ := xB BK230 hb; have n11_ := xB BK239 hb; have n12_ := xH HB hb; clear HO_223001 HO_223002 HO_231001 HO_231002 HO_240001 HO_240002 BK205 BK222 BK230 BK239 HB; have HO_223001 := n0_; have HO_223002 := n1_; have HO_231001 := n2_; have HO_231002 := n3_; have HO_240001 := n4_; have HO_240002 := n5_; have HO260 := n6_; have HO263 := n7_; have BK205 := n8_; have BK222 := n9_; have BK230 := n10_; have BK239 := n11_; have HB := n12_; clear n0_ n1_ n2_ n3_ n4_ n5_ n6_ n7_ n8_ n9_ n10_ n11_ n12_; (try clear hb); (try clear hb2); (try clear hk); (try clear hi); (try clear ho0); (try clear ho1); obtain ⟨Ao114, co114, eo114⟩ := Kd.R_slice HO260.out; subst eo114; obtain ⟨Ao115, co115, eo115⟩ := Kd.R_slice HO263.out; subst eo115) | ((with_reducible refine gate_callee (f := 18) rfl ?_); refine goesL_ (some 81) rfl rfl Try.func18 (by kernel_rfl) rfl #[.agg #[.int .i64 t257, .slice Ao114 t258.length co114, .slice Ao115 t261.length co115], .int .i64 a1] rfl (by (try simp only [List.map_toArray, List.map_cons, List.map_nil]); first | done | rfl | (simp only [List.length_drop, List.length_take]; rfl)) ?_; (with_reducible refine (impl_ShiftJacobi.calls kj64 t257 _ _ t258 _ _ t261 a1 t264 t265 t268 t271 _ ?side1 ?side2 ?side3 ?side4 A101.out).mono ?_); (case side1 => exact uC ((Kd.R_reads' HO260.out).2.2)); (case side2 => exact (Kd.R_reads' HO260.out).2.1); (case side3 => exact uC ((Kd.R_reads' HO263.out).2.2)); (case side4 => exact (Kd.R_reads' HO263.out).2.1); rintro e w116 ⟨v266, v269, rfl, ho0, ho1, hb⟩; refine ⟨_, rfl, ?_⟩; have n0_ := zA (Kd.R_mono (Kd.R_told (Kd.R_told (Kd.R_old (uR HO_223001.out) hb) (Kd.R_base ho0)) (Kd.R_base ho1)) (fun _ h_ => h_.1)); have n1_ := zA (Kd.R_mono (Kd.R_told (Kd.R_told (Kd.R_old (uR HO_223002.out) hb) (Kd.R_base ho0)) (Kd.R_base ho1)) (fun _ h_ => h_.1)); have n2_ := zA (Kd.R_mono (Kd.R_told (Kd.R_told (Kd.R_old (uR HO_231001.out) hb) (Kd.R_base ho0)) (Kd.R_base ho1)) (fun _ h_ => h_.1)); have n3_ := zA (Kd.R_mono (Kd.R_told (Kd.R_told (Kd.R_old (uR HO_231002.out) hb) (Kd.R_base ho0)) (Kd.R_base ho1)) (fun _ h_ => h_.1)); have n4_ := zA (Kd.R_mono (Kd.R_told (Kd.R_told (Kd.R_old (uR HO_240001.out) hb) (Kd.R_base ho0)) (Kd.R_base ho1)) (fun _ h_ => h_.1)); have n5_ := zA (Kd.R_mono (Kd.R_told (Kd.R_told (Kd.R_old (uR HO_240002.out) hb) (Kd.R_base ho0)) (Kd.R_base ho1)) (fun _ h_ => h_.1)); have n6_ := zA (Kd.R_mono (Kd.R_told (Kd.R_told (Kd.R_old (uR HO260.out) hb) (Kd.R_base ho0)) (Kd.R_base ho1)) (fun _ h_ => h_.1)); have n7_ := zA (Kd.R_mono (Kd.R_told (Kd.R_told (Kd.R_old (uR HO263.out) hb) (Kd.R_base ho0)) (Kd.R_base ho1)) (fun _ h_ => h_.1)); have n8_ := zA (Kd.R_lower (Kd.R_new' (Kd.R_new' (Kd.R_new' (Kd.R_new' (Kd.R_new' (Kd.R_new' (Kd.R_new' (Kd.R_new' ho0 (Kd.R_lt (uR HO_223001.out))) (Kd.R_lt (uR HO_223002.out))) (Kd.R_lt (uR HO_231001.out))) (Kd.R_lt (uR HO_231002.out))) (Kd.R_lt (uR HO_240001.out))) (Kd.R_lt (uR HO_240002.out))) (Kd.R_lt (uR HO260.out))) (Kd.R_lt (uR HO263.out))) (below_size (uH HB.out))); have n9_ := zA (Kd.R_lower (Kd.R_new' (Kd.R_new' (Kd.R_new' (Kd.R_new' (Kd.R_new' (Kd.R_new' (Kd.R_new' (Kd.R_new' ho1 (Kd.R_lt (uR HO_223001.out))) (Kd.R_lt (uR HO_223002.out))) (Kd.R_lt (uR HO_231001.out))) (Kd.R_lt (uR HO_231002.out))) (Kd.R_lt (uR HO_240001.out))) (Kd.R_lt (uR HO_240002.out))) (Kd.R_lt (uR HO260.out))) (Kd.R_lt (uR HO263.out))) (below_size (uH HB.out))); have n10_ := xB BK205 hb; have n11_ := xB BK222 hb; have n12_ := xB BK230 hb; have n13_ := xB BK239 hb; have n14_ := xH HB hb; clear HO_223001 HO_223002 HO_231001 HO_231002 HO_240001 HO_240002 HO260 HO263 BK205 BK222 BK230 BK239 HB; have HO_223001 := n0_; have HO_223002 := n1_; have HO_231001 := n2_; have HO_231002 := n3_; have HO_240001 := n4_; have HO_240002 := n5_; have HO260 := n6_; have HO263 := n7_; have HO267 := n8_; have HO270 := n9_; have BK205 := n10_; have BK222 := n11_; have BK230 := n12_; have BK239 := n13_; have HB := n14_; clear n0_ n1_ n2_ n3_ n4_ n5_ n6_ n7_ n8_ n9_ n10_ n11_ n12_ n13_ n14_; (try clear hb); (try clear hb2); (try clear hk); (try clear hi); (try clear ho0); (try clear ho1)) | ((with_reducible refine gate_dst (N := 14) rfl ?_); refine box_event ?hg (N := 14) ?hd (cs := #[.int .i64 0, .slice none 0 0, .slice none 0 0]) (t := 26) ?hr ?_; (case hd => rfl); (case hg => rfl); (case hr => first | (go_simp; done) | (go_simp; rfl)); intro gb272 hg w117 hbox hb; have n0_ := xR HO_223001 hb; have n1_ := xR HO_223002 hb; have n2_ := xR HO_231001 hb; have n3_ := xR HO_231002 hb; have n4_ := xR HO_240001 hb; have n5_ := xR HO_240002 hb; have n6_ := xR HO260 hb; have n7_ := xR HO263 hb; have n8_ := xR HO267 hb; have n9_ := xR HO270 hb; have n10_ := xB BK205 hb; have n11_ := xB BK222 hb; have n12_ := xB BK230 hb; have n13_ := xB BK239 hb; have n14_ := xH HB hb; have n15_ := zA (hbox); have n16_ := zA ((by rw [hg]; exact (below_size (uH HB.out)) : w.heap.size ≤ gb272)); have n17_ := zA ((by rw [hg]; exact (below_size (uH HB.out)) : w.heap.size ≤ gb272)); have n18_ := zA ((by rw [hg]; exact neL BK205 : gb205 ≠ gb272)); have n19_ := zA ((by rw [hg]; exact neG BK205 : gb272 ≠ gb205)); have n20_ := zA ((by rw [hg]; exact neL BK222 : gb222 ≠ gb272)); have n21_ := zA ((by rw [hg]; exact neG BK222 : gb272 ≠ gb222)); have n22_ := zA ((by rw [hg]; exact neL BK230 : gb230 ≠ gb272)); have n23_ := zA ((by rw [hg]; exact neG BK230 : gb272 ≠ gb230)); have n24_ := zA ((by rw [hg]; exact neL BK239 : gb239 ≠ gb272)); have n25_ := zA ((by rw [hg]; exact neG BK239 : gb272 ≠ gb239)); clear HO_223001 HO_223002 HO_231001 HO_231002 HO_240001 HO_240002 HO260 HO263 HO267 HO270 BK205 BK222 BK230 BK239 HB; have HO_223001 := n0_; have HO_223002 := n1_; have HO_231001 := n2_; have HO_231002 := n3_; have HO_240001 := n4_; have HO_240002 := n5_; have HO260 := n6_; have HO263 := n7_; have HO267 := n8_; have HO270 := n9_; have BK205 := n10_; have BK222 := n11_; have BK230 := n12_; have BK239 := n13_; have HB := n14_; have BK272 := n15_; have GW272 := n16_; have GE272 := n17_; have := geI GE272; have NB205_272 := n18_; have NB272_205 := n19_; have NB222_272 := n20_; have NB272_222 := n21_; have NB230_272 := n22_; have NB272_230 := n23_; have NB239_272 := n24_; have NB272_239 := n25_; clear n0_ n1_ n2_ n3_ n4_ n5_ n6_ n7_ n8_ n9_ n10_ n11_ n12_ n13_ n14_ n15_ n16_ n17_ n18_ n19_ n20_ n21_ n22_ n23_ n24_ n25_ hb hbox hg; have hnb118 := NB272_205.out; have hnc118 := NB205_272.out; have hnb119 := NB272_222.out; have hnc119 := NB222_272.out; have hnb120 := NB272_230.out; have hnc120 := NB230_272.out; have hnb121 := NB272_239.out; have hnc121 := NB239_272.out; have hcz122_0 : w117.cell? ⟨gb272, 0, none⟩ = some (.int .i64 0) := (blk_cell BK272.out 0).trans rfl; have hcz122_1 : w117.cell? ⟨gb272, 1, none⟩ = some (.slice none 0 0) := (blk_cell BK272.out 1).trans rfl; have hcz122_2 : w117.cell? ⟨gb272, 2, none⟩ = some (.slice none 0 0) := (blk_cell BK272.out 2).trans rfl; have hfz122_0 := blk_frozen BK272.out 0; have hfz122_1 := blk_frozen BK272.out 1; have hfz122_2 := blk_frozen BK272.out 2; obtain ⟨Ao123, co123, eo123⟩ := Kd.R_slice HO267.out; subst eo123; obtain ⟨Ao124, co124, eo124⟩ := Kd.R_slice HO270.out; subst eo124))
           (try simp only [Act.put, List.setIfInBounds_toArray, List.set_cons_zero, List.set_cons_succ])
           go_cut [92] (fun v92 wc => ∃ (kq : Nat) (x92_101 : Bool), v92 = .bool x92_101 ∧ Aside0 (laws_FnExactShiftJacobi.j2 kq t253 x92_101 t231 t254 t255 = some r) ∧ Aside0 (kq ≤ kj64) ∧ Aside0 (Kd.R (Kd.int .i64) 2 wc w.heap.size (fun k_ => some k_ ≠ ((.slice Ao25 t218.length co25) : Value).ownBlock ∧ some k_ ≠ ((.slice Ao32 t250.length co32) : Value).ownBlock ∧ some k_ ≠ ((.slice Ao33 t251.length co33) : Value).ownBlock ∧ some k_ ≠ ((.slice Ao40 t232.length co40) : Value).ownBlock ∧ some k_ ≠ ((.slice Ao41 t235.length co41) : Value).ownBlock ∧ some k_ ≠ ((.slice Ao123 t265.length co123) : Value).ownBlock ∧ some k_ ≠ ((.slice Ao124 t268.length co124) : Value).ownBlock) (.slice Ao24 t215.length co24) t215) ∧ Aside0 (Kd.R (Kd.int .i64) 2 wc w.heap.size (fun k_ => some k_ ≠ ((.slice Ao24 t215.length co24) : Value).ownBlock ∧ some k_ ≠ ((.slice Ao32 t250.length co32) : Value).ownBlock ∧ some k_ ≠ ((.slice Ao33 t251.length co33) : Value).ownBlock ∧ some k_ ≠ ((.slice Ao40 t232.length co40) : Value).ownBlock ∧ some k_ ≠ ((.slice Ao41 t235.length co41) : Value).ownBlock ∧ some k_ ≠ ((.slice Ao123 t265.length co123) : Value).ownBlock ∧ some k_ ≠ ((.slice Ao124 t268.length co124) : Value).ownBlock) (.slice Ao25 t218.length co25) t218) ∧ Aside0 (Kd.R (Kd.int .i64) 2 wc w.heap.size (fun k_ => some k_ ≠ ((.slice Ao24 t215.length co24) : Value).ownBlock ∧ some k_ ≠ ((.slice Ao25 t218.length co25) : Value).ownBlock ∧ some k_ ≠ ((.slice Ao33 t251.length co33) : Value).ownBlock ∧ some k_ ≠ ((.slice Ao40 t232.length co40) : Value).ownBlock ∧ some k_ ≠ ((.slice Ao41 t235.length co41) : Value).ownBlock ∧ some k_ ≠ ((.slice Ao123 t265.length co123) : Value).ownBlock ∧ some k_ ≠ ((.slice Ao124 t268.length co124) : Value).ownBlock) (.slice Ao32 t250.length co32) t250) ∧ Aside0 (Kd.R (Kd.int .i64) 2 wc w.heap.size (fun k_ => some k_ ≠ ((.slice Ao24 t215.length co24) : Value).ownBlock ∧ some k_ ≠ ((.slice Ao25 t218.length co25) : Value).ownBlock ∧ some k_ ≠ ((.slice Ao32 t250.length co32) : Value).ownBlock ∧ some k_ ≠ ((.slice Ao40 t232.length co40) : Value).ownBlock ∧ some k_ ≠ ((.slice Ao41 t235.length co41) : Value).ownBlock ∧ some k_ ≠ ((.slice Ao123 t265.length co123) : Value).ownBlock ∧ some k_ ≠ ((.slice Ao124 t268.length co124) : Value).ownBlock) (.slice Ao33 t251.length co33) t251) ∧ Aside0 (Kd.R (Kd.int .i64) 2 wc w.heap.size (fun k_ => some k_ ≠ ((.slice Ao24 t215.length co24) : Value).ownBlock ∧ some k_ ≠ ((.slice Ao25 t218.length co25) : Value).ownBlock ∧ some k_ ≠ ((.slice Ao32 t250.length co32) : Value).ownBlock ∧ some k_ ≠ ((.slice Ao33 t251.length co33) : Value).ownBlock ∧ some k_ ≠ ((.slice Ao41 t235.length co41) : Value).ownBlock ∧ some k_ ≠ ((.slice Ao123 t265.length co123) : Value).ownBlock ∧ some k_ ≠ ((.slice Ao124 t268.length co124) : Value).ownBlock) (.slice Ao40 t232.length co40) t254) ∧ Aside0 (Kd.R (Kd.int .i64) 2 wc w.heap.size (fun k_ => some k_ ≠ ((.slice Ao24 t215.length co24) : Value).ownBlock ∧ some k_ ≠ ((.slice Ao25 t218.length co25) : Value).ownBlock ∧ some k_ ≠ ((.slice Ao32 t250.length co32) : Value).ownBlock ∧ some k_ ≠ ((.slice Ao33 t251.length co33) : Value).ownBlock ∧ some k_ ≠ ((.slice Ao40 t232.length co40) : Value).ownBlock ∧ some k_ ≠ ((.slice Ao123 t265.length co123) : Value).ownBlock ∧ some k_ ≠ ((.slice Ao124 t268.length co124) : Value).ownBlock) (.slice Ao41 t235.length co41) t255) ∧ Aside0 (Kd.R (Kd.int .i64) 2 wc w.heap.size (fun k_ => some k_ ≠ ((.slice Ao24 t215.length co24) : Value).ownBlock ∧ some k_ ≠ ((.slice Ao25 t218.length co25) : Value).ownBlock ∧ some k_ ≠ ((.slice Ao32 t250.length co32) : Value).ownBlock ∧ some k_ ≠ ((.slice Ao33 t251.length co33) : Value).ownBlock ∧ some k_ ≠ ((.slice Ao40 t232.length co40) : Value).ownBlock ∧ some k_ ≠ ((.slice Ao41 t235.length co41) : Value).ownBlock ∧ some k_ ≠ ((.slice Ao124 t268.length co124) : Value).ownBlock) (.slice Ao123 t265.length co123) t265) ∧ Aside0 (Kd.R (Kd.int .i64) 2 wc w.heap.size (fun k_ => some k_ ≠ ((.slice Ao24 t215.length co24) : Value).ownBlock ∧ some k_ ≠ ((.slice Ao25 t218.length co25) : Value).ownBlock ∧ some k_ ≠ ((.slice Ao32 t250.length co32) : Value).ownBlock ∧ some k_ ≠ ((.slice Ao33 t251.length co33) : Value).ownBlock ∧ some k_ ≠ ((.slice Ao40 t232.length co40) : Value).ownBlock ∧ some k_ ≠ ((.slice Ao41 t235.length co41) : Value).ownBlock ∧ some k_ ≠ ((.slice Ao123 t265.length co123) : Value).ownBlock) (.slice Ao124 t268.length co124) t268) ∧ Aside0 (wc.heap[gb205]? = some (.cells #[.int .i64 a0_0, (.slice A0_1 l0_1.length c0_1), (.slice A0_2 l0_2.length c0_2)] 24 (0, 0))) ∧ Aside0 (wc.heap[gb222]? = some (.cells #[.int .i64 t214, (.slice Ao24 t215.length co24), (.slice Ao25 t218.length co25)] 26 (0, 0))) ∧ Aside0 (wc.heap[gb230]? = some (.cells #[.int .i64 t223, (.slice Ao32 t250.length co32), (.slice Ao33 t251.length co33)] 26 (0, 0))) ∧ Aside0 (wc.heap[gb239]? = some (.cells #[.int .i64 t231, (.slice Ao40 t232.length co40), (.slice Ao41 t235.length co41)] 26 (0, 0))) ∧ Aside0 (wc.heap[gb272]? = some (.cells #[.int .i64 t264, (.slice Ao123 t265.length co123), (.slice Ao124 t268.length co124)] 26 (0, 0))) ∧ Aside0 (Below w.heap.size w wc))
           case first =>
            have H := HC102.out
            clear HC102
            replace H := Option.bind_eq_some_iff.mp H
            obtain ⟨t273, A1250, H⟩ := H
            replace H : (if t273 = true then (laws_FnExactShiftJacobi.j2 kj64 t253 (t271 != t221) t231 t254 t255) else (laws_FnExactShiftJacobi.j2 kj64 t253 true t231 t254 t255)) = some r := H
            have A125 := zA A1250
            clear A1250
            by_cases c126 : t273 = true
            ·subst c126
             have H1 : (laws_FnExactShiftJacobi.j2 kj64 t253 (t271 != t221) t231 t254 t255) = some r := by rw [if_pos rfl] at H; exact H
             clear H
             have H := H1
             clear H1
             have H' := zA H
             clear H
             have hnb127 := NB272_205.out; have hnc127 := NB205_272.out; have hnb128 := NB272_222.out; have hnc128 := NB222_272.out; have hnb129 := NB272_230.out; have hnc129 := NB230_272.out; have hnb130 := NB272_239.out; have hnc130 := NB239_272.out
             have hcz131_0 : w117.cell? ⟨gb272, 0, none⟩ = some (.int .i64 0) := (blk_cell BK272.out 0).trans rfl
             have hcz131_1 : w117.cell? ⟨gb272, 1, none⟩ = some (.slice none 0 0) := (blk_cell BK272.out 1).trans rfl
             have hcz131_2 : w117.cell? ⟨gb272, 2, none⟩ = some (.slice none 0 0) := (blk_cell BK272.out 2).trans rfl
             have hfz131_0 := blk_frozen BK272.out 0
             have hfz131_1 := blk_frozen BK272.out 1
             have hfz131_2 := blk_frozen BK272.out 2
             have hnb132 := NB222_205.out; have hnc132 := NB205_222.out; have hnb133 := NB222_230.out; have hnc133 := NB230_222.out; have hnb134 := NB222_239.out; have hnc134 := NB239_222.out
             have hcz135_0 : w117.cell? ⟨gb222, 0, none⟩ = some (.int .i64 t214) := (blk_cell BK222.out 0).trans rfl
             have hcz135_1 : w117.cell? ⟨gb222, 1, none⟩ = some (.slice Ao24 t215.length co24) := (blk_cell BK222.out 1).trans rfl
             have hcz135_2 : w117.cell? ⟨gb222, 2, none⟩ = some (.slice Ao25 t218.length co25) := (blk_cell BK222.out 2).trans rfl
             have hfz135_0 := blk_frozen BK222.out 0
             have hfz135_1 := blk_frozen BK222.out 1
             have hfz135_2 := blk_frozen BK222.out 2
             go_wp2_with (first | ((with_reducible refine gate_callee (f := 19) rfl ?_); refine goesL_ (some 86) rfl rfl Try.func19 (by kernel_rfl) rfl #[.agg #[.int .i64 t264, .slice Ao123 t265.length co123, .slice Ao124 t268.length co124], .agg #[.int .i64 t214, .slice Ao24 t215.length co24, .slice Ao25 t218.length co25]] rfl (by (try simp only [List.map_toArray, List.map_cons, List.map_nil]); first | done | rfl | (simp only [List.length_drop, List.length_take]; rfl)) ?_; (with_reducible refine (laws_eqJacobi.calls kj64 t264 _ _ t265 _ _ t268 t214 _ _ t215 _ _ t218 true _ ?side1 ?side2 ?side3 ?side4 ?side5 ?side6 ?side7 ?side8 A125.out).mono ?_); (case side1 => refine (Kd.R_reads' (e := 2) (base := w.heap.size) (ok := fun k_ => ((((((((some k_ ≠ (.slice Ao124 t268.length co124 : Value).ownBlock ∧ some k_ ≠ (.slice Ao24 t215.length co24 : Value).ownBlock) ∧ some k_ ≠ (.slice Ao25 t218.length co25 : Value).ownBlock) ∧ some k_ ≠ (.slice Ao32 t250.length co32 : Value).ownBlock) ∧ some k_ ≠ (.slice Ao33 t251.length co33 : Value).ownBlock) ∧ some k_ ≠ (.slice Ao40 t232.length co40 : Value).ownBlock) ∧ some k_ ≠ (.slice Ao41 t235.length co41 : Value).ownBlock) ∧ some k_ ≠ (.slice Ao114 t258.length co114 : Value).ownBlock) ∧ some k_ ≠ (.slice Ao115 t261.length co115 : Value).ownBlock)) (n := t265.length) (c := co123) ?_).2.2; exact (uR ((Kd.R_mono (Kd.R_far (p := ⟨gb272, 2, none⟩) (Kd.R_far (p := ⟨gb272, 1, none⟩) (Kd.R_far (p := ⟨gb272, 0, none⟩) (Kd.R_types HO267.out BK272.out (by decide)) (fun _ hk => hk.2) (.int .i64 t264)) (fun _ hk => hk.2) (.slice Ao123 t265.length co123)) (fun _ hk => hk.2) (.slice Ao124 t268.length co124)) (fun _ h_ => h_.1))))); (case side2 => exact (Kd.R_reads' HO267.out).2.1); (case side3 => refine (Kd.R_reads' (e := 2) (base := w.heap.size) (ok := fun k_ => ((((((((some k_ ≠ (.slice Ao123 t265.length co123 : Value).ownBlock ∧ some k_ ≠ (.slice Ao24 t215.length co24 : Value).ownBlock) ∧ some k_ ≠ (.slice Ao25 t218.length co25 : Value).ownBlock) ∧ some k_ ≠ (.slice Ao32 t250.length co32 : Value).ownBlock) ∧ some k_ ≠ (.slice Ao33 t251.length co33 : Value).ownBlock) ∧ some k_ ≠ (.slice Ao40 t232.length co40 : Value).ownBlock) ∧ some k_ ≠ (.slice Ao41 t235.length co41 : Value).ownBlock) ∧ some k_ ≠ (.slice Ao114 t258.length co114 : Value).ownBlock) ∧ some k_ ≠ (.slice Ao115 t261.length co115 : Value).ownBlock)) (n := t268.length) (c := co124) ?_).2.2; exact (uR ((Kd.R_mono (Kd.R_far (p := ⟨gb272, 2, none⟩) (Kd.R_far (p := ⟨gb272, 1, none⟩) (Kd.R_far (p := ⟨gb272, 0, none⟩) (Kd.R_types HO270.out BK272.out (by decide)) (fun _ hk => hk.2) (.int .i64 t264)) (fun _ hk => hk.2) (.slice Ao123 t265.length co123)) (fun _ hk => hk.2) (.slice Ao124 t268.length co124)) (fun _ h_ => h_.1))))); (case side4 => exact (Kd.R_reads' HO270.out).2.1); (case side5 => refine (Kd.R_reads' (e := 2) (base := w.heap.size) (ok := fun k_ => (((((some k_ ≠ (.slice Ao25 t218.length co25 : Value).ownBlock ∧ (some k_ ≠ (.slice Ao32 t250.length co32 : Value).ownBlock ∧ (some k_ ≠ (.slice Ao33 t251.length co33 : Value).ownBlock ∧ (some k_ ≠ (.slice Ao40 t232.length co40 : Value).ownBlock ∧ some k_ ≠ (.slice Ao41 t235.length co41 : Value).ownBlock)))) ∧ some k_ ≠ (.slice Ao114 t258.length co114 : Value).ownBlock) ∧ some k_ ≠ (.slice Ao115 t261.length co115 : Value).ownBlock) ∧ some k_ ≠ (.slice Ao123 t265.length co123 : Value).ownBlock) ∧ some k_ ≠ (.slice Ao124 t268.length co124 : Value).ownBlock)) (n := t215.length) (c := co24) ?_).2.2; exact (uR ((Kd.R_mono (Kd.R_far (p := ⟨gb272, 2, none⟩) (Kd.R_far (p := ⟨gb272, 1, none⟩) (Kd.R_far (p := ⟨gb272, 0, none⟩) (Kd.R_types HO_223001.out BK272.out (by decide)) (fun _ hk => hk.2) (.int .i64 t264)) (fun _ hk => hk.2) (.slice Ao123 t265.length co123)) (fun _ hk => hk.2) (.slice Ao124 t268.length co124)) (fun _ h_ => h_.1))))); (case side6 => exact (Kd.R_reads' HO_223001.out).2.1); (case side7 => refine (Kd.R_reads' (e := 2) (base := w.heap.size) (ok := fun k_ => (((((some k_ ≠ (.slice Ao24 t215.length co24 : Value).ownBlock ∧ (some k_ ≠ (.slice Ao32 t250.length co32 : Value).ownBlock ∧ (some k_ ≠ (.slice Ao33 t251.length co33 : Value).ownBlock ∧ (some k_ ≠ (.slice Ao40 t232.length co40 : Value).ownBlock ∧ some k_ ≠ (.slice Ao41 t235.length co41 : Value).ownBlock)))) ∧ some k_ ≠ (.slice Ao114 t258.length co114 : Value).ownBlock) ∧ some k_ ≠ (.slice Ao115 t261.length co115 : Value).ownBlock) ∧ some k_ ≠ (.slice Ao123 t265.length co123 : Value).ownBlock) ∧ some k_ ≠ (.slice Ao124 t268.length co124 : Value).ownBlock)) (n := t218.length) (c := co25) ?_).2.2; exact (uR ((Kd.R_mono (Kd.R_far (p := ⟨gb272, 2, none⟩) (Kd.R_far (p := ⟨gb272, 1, none⟩) (Kd.R_far (p := ⟨gb272, 0, none⟩) (Kd.R_types HO_223002.out BK272.out (by decide)) (fun _ hk => hk.2) (.int .i64 t264)) (fun _ hk => hk.2) (.slice Ao123 t265.length co123)) (fun _ hk => hk.2) (.slice Ao124 t268.length co124)) (fun _ h_ => h_.1))))); (case side8 => exact (Kd.R_reads' HO_223002.out).2.1); rintro e w136 ⟨rfl, hb⟩; refine ⟨_, rfl, ?_⟩; have n0_ := zA (Kd.R_below (uR ((Kd.R_mono (Kd.R_far (p := ⟨gb272, 2, none⟩) (Kd.R_far (p := ⟨gb272, 1, none⟩) (Kd.R_far (p := ⟨gb272, 0, none⟩) (Kd.R_types HO_223001.out BK272.out (by decide)) (fun _ hk => hk.2) (.int .i64 t264)) (fun _ hk => hk.2) (.slice Ao123 t265.length co123)) (fun _ hk => hk.2) (.slice Ao124 t268.length co124)) (fun _ h_ => h_.1)))) hb); have n1_ := zA (Kd.R_below (uR ((Kd.R_mono (Kd.R_far (p := ⟨gb272, 2, none⟩) (Kd.R_far (p := ⟨gb272, 1, none⟩) (Kd.R_far (p := ⟨gb272, 0, none⟩) (Kd.R_types HO_223002.out BK272.out (by decide)) (fun _ hk => hk.2) (.int .i64 t264)) (fun _ hk => hk.2) (.slice Ao123 t265.length co123)) (fun _ hk => hk.2) (.slice Ao124 t268.length co124)) (fun _ h_ => h_.1)))) hb); have n2_ := zA (Kd.R_below (uR ((Kd.R_mono (Kd.R_far (p := ⟨gb272, 2, none⟩) (Kd.R_far (p := ⟨gb272, 1, none⟩) (Kd.R_far (p := ⟨gb272, 0, none⟩) (Kd.R_types HO_231001.out BK272.out (by decide)) (fun _ hk => hk.2) (.int .i64 t264)) (fun _ hk => hk.2) (.slice Ao123 t265.length co123)) (fun _ hk => hk.2) (.slice Ao124 t268.length co124)) (fun _ h_ => h_.1)))) hb); have n3_ := zA (Kd.R_below (uR ((Kd.R_mono (Kd.R_far (p := ⟨gb272, 2, none⟩) (Kd.R_far (p := ⟨gb272, 1, none⟩) (Kd.R_far (p := ⟨gb272, 0, none⟩) (Kd.R_types HO_231002.out BK272.out (by decide)) (fun _ hk => hk.2) (.int .i64 t264)) (fun _ hk => hk.2) (.slice Ao123 t265.length co123)) (fun _ hk => hk.2) (.slice Ao124 t268.length co124)) (fun _ h_ => h_.1)))) hb); have n4_ := zA (Kd.R_below (uR ((Kd.R_mono (Kd.R_far (p := ⟨gb272, 2, none⟩) (Kd.R_far (p := ⟨gb272, 1, none⟩) (Kd.R_far (p := ⟨gb272, 0, none⟩) (Kd.R_types HO_240001.out BK272.out (by decide)) (fun _ hk => hk.2) (.int .i64 t264)) (fun _ hk => hk.2) (.slice Ao123 t265.length co123)) (fun _ hk => hk.2) (.slice Ao124 t268.length co124)) (fun _ h_ => h_.1)))) hb); have n5_ := zA (Kd.R_below (uR ((Kd.R_mono (Kd.R_far (p := ⟨gb272, 2, none⟩) (Kd.R_far (p := ⟨gb272, 1, none⟩) (Kd.R_far (p := ⟨gb272, 0, none⟩) (Kd.R_types HO_240002.out BK272.out (by decide)) (fun _ hk => hk.2) (.int .i64 t264)) (fun _ hk => hk.2) (.slice Ao123 t265.length co123)) (fun _ hk => hk.2) (.slice Ao124 t268.length co124)) (fun _ h_ => h_.1)))) hb); have n6_ := zA (Kd.R_below (uR ((Kd.R_mono (Kd.R_far (p := ⟨gb272, 2, none⟩) (Kd.R_far (p := ⟨gb272, 1, none⟩) (Kd.R_far (p := ⟨gb272, 0, none⟩) (Kd.R_types HO260.out BK272.out (by decide)) (fun _ hk => hk.2) (.int .i64 t264)) (fun _ hk => hk.2) (.slice Ao123 t265.length co123)) (fun _ hk => hk.2) (.slice Ao124 t268.length co124)) (fun _ h_ => h_.1)))) hb); have n7_ := zA (Kd.R_below (uR ((Kd.R_mono (Kd.R_far (p := ⟨gb272, 2, none⟩) (Kd.R_far (p := ⟨gb272, 1, none⟩) (Kd.R_far (p := ⟨gb272, 0, none⟩) (Kd.R_types HO263.out BK272.out (by decide)) (fun _ hk => hk.2) (.int .i64 t264)) (fun _ hk => hk.2) (.slice Ao123 t265.length co123)) (fun _ hk => hk.2) (.slice Ao124 t268.length co124)) (fun _ h_ => h_.1)))) hb); have n8_ := zA (Kd.R_below (uR ((Kd.R_mono (Kd.R_far (p := ⟨gb272, 2, none⟩) (Kd.R_far (p := ⟨gb272, 1, none⟩) (Kd.R_far (p := ⟨gb272, 0, none⟩) (Kd.R_types HO267.out BK272.out (by decide)) (fun _ hk => hk.2) (.int .i64 t264)) (fun _ hk => hk.2) (.slice Ao123 t265.length co123)) (fun _ hk => hk.2) (.slice Ao124 t268.length co124)) (fun _ h_ => h_.1)))) hb); have n9_ := zA (Kd.R_below (uR ((Kd.R_mono (Kd.R_far (p := ⟨gb272, 2, none⟩) (Kd.R_far (p := ⟨gb272, 1, none⟩) (Kd.R_far (p := ⟨gb272, 0, none⟩) (Kd.R_types HO270.out BK272.out (by decide)) (fun _ hk => hk.2) (.int .i64 t264)) (fun _ hk => hk.2) (.slice Ao123 t265.length co123)) (fun _ hk => hk.2) (.slice Ao124 t268.length co124)) (fun _ h_ => h_.1)))) hb); have n10_ := zA (blk_below (g := gb205) (o := .cells #[.int .i64 a0_0, .slice A0_1 l0_1.length c0_1, .slice A0_2 l0_2.length c0_2] 24 (0, 0)) (by (with_reducible repeat (first | refine blk_drewN ?_ _ | refine blk_drew ?_ | refine blk_alloc ?_ _)); refine blk_far ?_ NB205_272.out _; (with_reducible repeat (first | refine blk_drewN ?_ _ | refine blk_drew ?_ | refine blk_alloc ?_ _)); refine blk_far ?_ NB205_272.out _; (with_reducible repeat (first | refine blk_drewN ?_ _ | refine blk_drew ?_ | refine blk_alloc ?_ _)); refine blk_far ?_ NB205_272.out _; (with_reducible repeat (first | refine blk_drewN ?_ _ | refine blk_drew ?_ | refine blk_alloc ?_ _)); exact BK205.out) hb); have n11_ := zA (blk_below (g := gb222) (o := .cells #[.int .i64 t214, .slice Ao24 t215.length co24, .slice Ao25 t218.length co25] 26 (0, 0)) (by (with_reducible repeat (first | refine blk_drewN ?_ _ | refine blk_drew ?_ | refine blk_alloc ?_ _)); refine blk_far ?_ NB222_272.out _; (with_reducible repeat (first | refine blk_drewN ?_ _ | refine blk_drew ?_ | refine blk_alloc ?_ _)); refine blk_far ?_ NB222_272.out _; (with_reducible repeat (first | refine blk_drewN ?_ _ | refine blk_drew ?_ | refine blk_alloc ?_ _)); refine blk_far ?_ NB222_272.out _; (with_reducible repeat (first | refine blk_drewN ?_ _ | refine blk_drew ?_ | refine blk_alloc ?_ _)); exact BK222.out) hb); have n12_ := zA (blk_below (g := gb230) (o := .cells #[.int .i64 t223, .slice Ao32 t250.length co32, .slice Ao33 t251.length co33] 26 (0, 0)) (by (with_reducible repeat (first | refine blk_drewN ?_ _ | refine blk_drew ?_ | refine blk_alloc ?_ _)); refine blk_far ?_ NB230_272.out _; (with_reducible repeat (first | refine blk_drewN ?_ _ | refine blk_drew ?_ | refine blk_alloc ?_ _)); refine blk_far ?_ NB230_272.out _; (with_reducible repeat (first | refine blk_drewN ?_ _ | refine blk_drew ?_ | refine blk_alloc ?_ _)); refine blk_far ?_ NB230_272.out _; (with_reducible repeat (first | refine blk_drewN ?_ _ | refine blk_drew ?_ | refine blk_alloc ?_ _)); exact BK230.out) hb); have n13_ := zA (blk_below (g := gb239) (o := .cells #[.int .i64 t231, .slice Ao40 t232.length co40, .slice Ao41 t235.length co41] 26 (0, 0)) (by (with_reducible repeat (first | refine blk_drewN ?_ _ | refine blk_drew ?_ | refine blk_alloc ?_ _)); refine blk_far ?_ NB239_272.out _; (with_reducible repeat (first | refine blk_drewN ?_ _ | refine blk_drew ?_ | refine blk_alloc ?_ _)); refine blk_far ?_ NB239_272.out _; (with_reducible repeat (first | refine blk_drewN ?_ _ | refine blk_drew ?_ | refine blk_alloc ?_ _)); refine blk_far ?_ NB239_272.out _; (with_reducible repeat (first | refine blk_drewN ?_ _ | refine blk_drew ?_ | refine blk_alloc ?_ _)); exact BK239.out) hb); have n14_ := zA (blk_below (g := gb272) (o := .cells #[.int .i64 t264, .slice Ao123 t265.length co123, .slice Ao124 t268.length co124] 26 (0, 0)) (by (with_reducible repeat (first | refine blk_drewN ?_ _ | refine blk_drew ?_ | refine blk_alloc ?_ _)); refine blk_put (cs := #[.int .i64 t264, .slice Ao123 t265.length co123, .slice none 0 0]) ?_ 2 _ rfl; (with_reducible repeat (first | refine blk_drewN ?_ _ | refine blk_drew ?_ | refine blk_alloc ?_ _)); refine blk_put (cs := #[.int .i64 t264, .slice none 0 0, .slice none 0 0]) ?_ 1 _ rfl; (with_reducible repeat (first | refine blk_drewN ?_ _ | refine blk_drew ?_ | refine blk_alloc ?_ _)); refine blk_put (cs := #[.int .i64 0, .slice none 0 0, .slice none 0 0]) ?_ 0 _ rfl; (with_reducible repeat (first | refine blk_drewN ?_ _ | refine blk_drew ?_ | refine blk_alloc ?_ _)); exact BK272.out) hb); have n15_ := xH HB hb; clear HO_223001 HO_223002 HO_231001 HO_231002 HO_240001 HO_240002 HO260 HO263 HO267 HO270 BK205 BK222 BK230 BK239 BK272 HB; have HO_223001 := n0_; have HO_223002 := n1_; have HO_231001 := n2_; have HO_231002 := n3_; have HO_240001 := n4_; have HO_240002 := n5_; have HO260 := n6_; have HO263 := n7_; have HO267 := n8_; have HO270 := n9_; have BK205 := n10_; have BK222 := n11_; have BK230 := n12_; have BK239 := n13_; have BK272 := n14_; have HB := n15_; clear n0_ n1_ n2_ n3_ n4_ n5_ n6_ n7_ n8_ n9_ n10_ n11_ n12_ n13_ n14_ n15_; (try clear hb); (try clear hb2); (try clear hk); (try clear hi)))
             go_meet
             case rel => exact ⟨_, ((t271 != t221)), (by first | rfl | (simp; done) | (simp [*]; done)), H', ⟨by have := HJ11.out; have := HJ64.out; first | omega | exact Nat.le_refl _⟩, ⟨by (try simp only [hl231001_64]); (try simp only [hl231002_64]); (with_reducible repeat (first | apply Kd.R_alloc | apply Kd.R_drewN | apply Kd.R_drew)); exact Kd.R_mono HO_223001.out (fun _ hk => ⟨hk.1.1.1.1.1, ⟨hk.1.1.1.1.2.1, ⟨hk.1.1.1.1.2.2.1, ⟨hk.1.1.1.1.2.2.2.1, ⟨hk.1.1.1.1.2.2.2.2, ⟨hk.1.2, hk.2⟩⟩⟩⟩⟩⟩)⟩, ⟨by (try simp only [hl231001_64]); (try simp only [hl231002_64]); (with_reducible repeat (first | apply Kd.R_alloc | apply Kd.R_drewN | apply Kd.R_drew)); exact Kd.R_mono HO_223002.out (fun _ hk => ⟨hk.1.1.1.1.1, ⟨hk.1.1.1.1.2.1, ⟨hk.1.1.1.1.2.2.1, ⟨hk.1.1.1.1.2.2.2.1, ⟨hk.1.1.1.1.2.2.2.2, ⟨hk.1.2, hk.2⟩⟩⟩⟩⟩⟩)⟩, ⟨by (try simp only [hl231001_64]); (try simp only [hl231002_64]); (with_reducible repeat (first | apply Kd.R_alloc | apply Kd.R_drewN | apply Kd.R_drew)); exact Kd.R_mono HO_231001.out (fun _ hk => ⟨hk.1.1.1.1.1, ⟨hk.1.1.1.1.2.1, ⟨hk.1.1.1.1.2.2.1, ⟨hk.1.1.1.1.2.2.2.1, ⟨hk.1.1.1.1.2.2.2.2, ⟨hk.1.2, hk.2⟩⟩⟩⟩⟩⟩)⟩, ⟨by (try simp only [hl231001_64]); (try simp only [hl231002_64]); (with_reducible repeat (first | apply Kd.R_alloc | apply Kd.R_drewN | apply Kd.R_drew)); exact Kd.R_mono HO_231002.out (fun _ hk => ⟨hk.1.1.1.1.1, ⟨hk.1.1.1.1.2.1, ⟨hk.1.1.1.1.2.2.1, ⟨hk.1.1.1.1.2.2.2.1, ⟨hk.1.1.1.1.2.2.2.2, ⟨hk.1.2, hk.2⟩⟩⟩⟩⟩⟩)⟩, ⟨by (try simp only [hl231001_64]); (try simp only [hl231002_64]); (with_reducible repeat (first | apply Kd.R_alloc | apply Kd.R_drewN | apply Kd.R_drew)); exact Kd.R_mono HO_240001.out (fun _ hk => ⟨hk.1.1.1.1.1, ⟨hk.1.1.1.1.2.1, ⟨hk.1.1.1.1.2.2.1, ⟨hk.1.1.1.1.2.2.2.1, ⟨hk.1.1.1.1.2.2.2.2, ⟨hk.1.2, hk.2⟩⟩⟩⟩⟩⟩)⟩, ⟨by (try simp only [hl231001_64]); (try simp only [hl231002_64]); (with_reducible repeat (first | apply Kd.R_alloc | apply Kd.R_drewN | apply Kd.R_drew)); exact Kd.R_mono HO_240002.out (fun _ hk => ⟨hk.1.1.1.1.1, ⟨hk.1.1.1.1.2.1, ⟨hk.1.1.1.1.2.2.1, ⟨hk.1.1.1.1.2.2.2.1, ⟨hk.1.1.1.1.2.2.2.2, ⟨hk.1.2, hk.2⟩⟩⟩⟩⟩⟩)⟩, ⟨by (try simp only [hl231001_64]); (try simp only [hl231002_64]); (with_reducible repeat (first | apply Kd.R_alloc | apply Kd.R_drewN | apply Kd.R_drew)); exact Kd.R_mono HO267.out (fun _ hk => ⟨hk.1.1.1.1.1.1.1.2, ⟨hk.1.1.1.1.1.1.2, ⟨hk.1.1.1.1.1.2, ⟨hk.1.1.1.1.2, ⟨hk.1.1.1.2, ⟨hk.1.1.2, hk.1.1.1.1.1.1.1.1⟩⟩⟩⟩⟩⟩)⟩, ⟨by (try simp only [hl231001_64]); (try simp only [hl231002_64]); (with_reducible repeat (first | apply Kd.R_alloc | apply Kd.R_drewN | apply Kd.R_drew)); exact Kd.R_mono HO270.out (fun _ hk => ⟨hk.1.1.1.1.1.1.1.2, ⟨hk.1.1.1.1.1.1.2, ⟨hk.1.1.1.1.1.2, ⟨hk.1.1.1.1.2, ⟨hk.1.1.1.2, ⟨hk.1.1.2, hk.1.1.1.1.1.1.1.1⟩⟩⟩⟩⟩⟩)⟩, ⟨by (try simp only [hl231001_64]); (try simp only [hl231002_64]); (with_reducible repeat (first | refine blk_drewN ?_ _ | refine blk_drew ?_ | refine blk_alloc ?_ _)); exact BK205.out⟩, ⟨by (try simp only [hl231001_64]); (try simp only [hl231002_64]); (with_reducible repeat (first | refine blk_drewN ?_ _ | refine blk_drew ?_ | refine blk_alloc ?_ _)); exact BK222.out⟩, ⟨by (try simp only [hl231001_64]); (try simp only [hl231002_64]); (with_reducible repeat (first | refine blk_drewN ?_ _ | refine blk_drew ?_ | refine blk_alloc ?_ _)); exact BK230.out⟩, ⟨by (try simp only [hl231001_64]); (try simp only [hl231002_64]); (with_reducible repeat (first | refine blk_drewN ?_ _ | refine blk_drew ?_ | refine blk_alloc ?_ _)); exact BK239.out⟩, ⟨by (try simp only [hl231001_64]); (try simp only [hl231002_64]); (with_reducible repeat (first | refine blk_drewN ?_ _ | refine blk_drew ?_ | refine blk_alloc ?_ _)); exact BK272.out⟩, ⟨uH HB.out⟩⟩
            ·replace c126 := Bool.eq_false_iff.mpr c126
             subst c126
             have H1 : (laws_FnExactShiftJacobi.j2 kj64 t253 true t231 t254 t255) = some r := by rw [if_neg (show ¬ (false = true) by decide)] at H; exact H
             clear H
             have H := H1
             clear H1
             have H' := zA H
             clear H
             have hnb137 := NB272_205.out; have hnc137 := NB205_272.out; have hnb138 := NB272_222.out; have hnc138 := NB222_272.out; have hnb139 := NB272_230.out; have hnc139 := NB230_272.out; have hnb140 := NB272_239.out; have hnc140 := NB239_272.out
             have hcz141_0 : w117.cell? ⟨gb272, 0, none⟩ = some (.int .i64 0) := (blk_cell BK272.out 0).trans rfl
             have hcz141_1 : w117.cell? ⟨gb272, 1, none⟩ = some (.slice none 0 0) := (blk_cell BK272.out 1).trans rfl
             have hcz141_2 : w117.cell? ⟨gb272, 2, none⟩ = some (.slice none 0 0) := (blk_cell BK272.out 2).trans rfl
             have hfz141_0 := blk_frozen BK272.out 0
             have hfz141_1 := blk_frozen BK272.out 1
             have hfz141_2 := blk_frozen BK272.out 2
             have hnb142 := NB222_205.out; have hnc142 := NB205_222.out; have hnb143 := NB222_230.out; have hnc143 := NB230_222.out; have hnb144 := NB222_239.out; have hnc144 := NB239_222.out
             have hcz145_0 : w117.cell? ⟨gb222, 0, none⟩ = some (.int .i64 t214) := (blk_cell BK222.out 0).trans rfl
             have hcz145_1 : w117.cell? ⟨gb222, 1, none⟩ = some (.slice Ao24 t215.length co24) := (blk_cell BK222.out 1).trans rfl
             have hcz145_2 : w117.cell? ⟨gb222, 2, none⟩ = some (.slice Ao25 t218.length co25) := (blk_cell BK222.out 2).trans rfl
             have hfz145_0 := blk_frozen BK222.out 0
             have hfz145_1 := blk_frozen BK222.out 1
             have hfz145_2 := blk_frozen BK222.out 2
             go_wp2_with (first | ((with_reducible refine gate_callee (f := 19) rfl ?_); refine goesL_ (some 86) rfl rfl Try.func19 (by kernel_rfl) rfl #[.agg #[.int .i64 t264, .slice Ao123 t265.length co123, .slice Ao124 t268.length co124], .agg #[.int .i64 t214, .slice Ao24 t215.length co24, .slice Ao25 t218.length co25]] rfl (by (try simp only [List.map_toArray, List.map_cons, List.map_nil]); first | done | rfl | (simp only [List.length_drop, List.length_take]; rfl)) ?_; (with_reducible refine (laws_eqJacobi.calls kj64 t264 _ _ t265 _ _ t268 t214 _ _ t215 _ _ t218 false _ ?side1 ?side2 ?side3 ?side4 ?side5 ?side6 ?side7 ?side8 A125.out).mono ?_); (case side1 => refine (Kd.R_reads' (e := 2) (base := w.heap.size) (ok := fun k_ => ((((((((some k_ ≠ (.slice Ao124 t268.length co124 : Value).ownBlock ∧ some k_ ≠ (.slice Ao24 t215.length co24 : Value).ownBlock) ∧ some k_ ≠ (.slice Ao25 t218.length co25 : Value).ownBlock) ∧ some k_ ≠ (.slice Ao32 t250.length co32 : Value).ownBlock) ∧ some k_ ≠ (.slice Ao33 t251.length co33 : Value).ownBlock) ∧ some k_ ≠ (.slice Ao40 t232.length co40 : Value).ownBlock) ∧ some k_ ≠ (.slice Ao41 t235.length co41 : Value).ownBlock) ∧ some k_ ≠ (.slice Ao114 t258.length co114 : Value).ownBlock) ∧ some k_ ≠ (.slice Ao115 t261.length co115 : Value).ownBlock)) (n := t265.length) (c := co123) ?_).2.2; exact (uR ((Kd.R_mono (Kd.R_far (p := ⟨gb272, 2, none⟩) (Kd.R_far (p := ⟨gb272, 1, none⟩) (Kd.R_far (p := ⟨gb272, 0, none⟩) (Kd.R_types HO267.out BK272.out (by decide)) (fun _ hk => hk.2) (.int .i64 t264)) (fun _ hk => hk.2) (.slice Ao123 t265.length co123)) (fun _ hk => hk.2) (.slice Ao124 t268.length co124)) (fun _ h_ => h_.1))))); (case side2 => exact (Kd.R_reads' HO267.out).2.1); (case side3 => refine (Kd.R_reads' (e := 2) (base := w.heap.size) (ok := fun k_ => ((((((((some k_ ≠ (.slice Ao123 t265.length co123 : Value).ownBlock ∧ some k_ ≠ (.slice Ao24 t215.length co24 : Value).ownBlock) ∧ some k_ ≠ (.slice Ao25 t218.length co25 : Value).ownBlock) ∧ some k_ ≠ (.slice Ao32 t250.length co32 : Value).ownBlock) ∧ some k_ ≠ (.slice Ao33 t251.length co33 : Value).ownBlock) ∧ some k_ ≠ (.slice Ao40 t232.length co40 : Value).ownBlock) ∧ some k_ ≠ (.slice Ao41 t235.length co41 : Value).ownBlock) ∧ some k_ ≠ (.slice Ao114 t258.length co114 : Value).ownBlock) ∧ some k_ ≠ (.slice Ao115 t261.length co115 : Value).ownBlock)) (n := t268.length) (c := co124) ?_).2.2; exact (uR ((Kd.R_mono (Kd.R_far (p := ⟨gb272, 2, none⟩) (Kd.R_far (p := ⟨gb272, 1, none⟩) (Kd.R_far (p := ⟨gb272, 0, none⟩) (Kd.R_types HO270.out BK272.out (by decide)) (fun _ hk => hk.2) (.int .i64 t264)) (fun _ hk => hk.2) (.slice Ao123 t265.length co123)) (fun _ hk => hk.2) (.slice Ao124 t268.length co124)) (fun _ h_ => h_.1))))); (case side4 => exact (Kd.R_reads' HO270.out).2.1); (case side5 => refine (Kd.R_reads' (e := 2) (base := w.heap.size) (ok := fun k_ => (((((some k_ ≠ (.slice Ao25 t218.length co25 : Value).ownBlock ∧ (some k_ ≠ (.slice Ao32 t250.length co32 : Value).ownBlock ∧ (some k_ ≠ (.slice Ao33 t251.length co33 : Value).ownBlock ∧ (some k_ ≠ (.slice Ao40 t232.length co40 : Value).ownBlock ∧ some k_ ≠ (.slice Ao41 t235.length co41 : Value).ownBlock)))) ∧ some k_ ≠ (.slice Ao114 t258.length co114 : Value).ownBlock) ∧ some k_ ≠ (.slice Ao115 t261.length co115 : Value).ownBlock) ∧ some k_ ≠ (.slice Ao123 t265.length co123 : Value).ownBlock) ∧ some k_ ≠ (.slice Ao124 t268.length co124 : Value).ownBlock)) (n := t215.length) (c := co24) ?_).2.2; exact (uR ((Kd.R_mono (Kd.R_far (p := ⟨gb272, 2, none⟩) (Kd.R_far (p := ⟨gb272, 1, none⟩) (Kd.R_far (p := ⟨gb272, 0, none⟩) (Kd.R_types HO_223001.out BK272.out (by decide)) (fun _ hk => hk.2) (.int .i64 t264)) (fun _ hk => hk.2) (.slice Ao123 t265.length co123)) (fun _ hk => hk.2) (.slice Ao124 t268.length co124)) (fun _ h_ => h_.1))))); (case side6 => exact (Kd.R_reads' HO_223001.out).2.1); (case side7 => refine (Kd.R_reads' (e := 2) (base := w.heap.size) (ok := fun k_ => (((((some k_ ≠ (.slice Ao24 t215.length co24 : Value).ownBlock ∧ (some k_ ≠ (.slice Ao32 t250.length co32 : Value).ownBlock ∧ (some k_ ≠ (.slice Ao33 t251.length co33 : Value).ownBlock ∧ (some k_ ≠ (.slice Ao40 t232.length co40 : Value).ownBlock ∧ some k_ ≠ (.slice Ao41 t235.length co41 : Value).ownBlock)))) ∧ some k_ ≠ (.slice Ao114 t258.length co114 : Value).ownBlock) ∧ some k_ ≠ (.slice Ao115 t261.length co115 : Value).ownBlock) ∧ some k_ ≠ (.slice Ao123 t265.length co123 : Value).ownBlock) ∧ some k_ ≠ (.slice Ao124 t268.length co124 : Value).ownBlock)) (n := t218.length) (c := co25) ?_).2.2; exact (uR ((Kd.R_mono (Kd.R_far (p := ⟨gb272, 2, none⟩) (Kd.R_far (p := ⟨gb272, 1, none⟩) (Kd.R_far (p := ⟨gb272, 0, none⟩) (Kd.R_types HO_223002.out BK272.out (by decide)) (fun _ hk => hk.2) (.int .i64 t264)) (fun _ hk => hk.2) (.slice Ao123 t265.length co123)) (fun _ hk => hk.2) (.slice Ao124 t268.length co124)) (fun _ h_ => h_.1))))); (case side8 => exact (Kd.R_reads' HO_223002.out).2.1); rintro e w146 ⟨rfl, hb⟩; refine ⟨_, rfl, ?_⟩; have n0_ := zA (Kd.R_below (uR ((Kd.R_mono (Kd.R_far (p := ⟨gb272, 2, none⟩) (Kd.R_far (p := ⟨gb272, 1, none⟩) (Kd.R_far (p := ⟨gb272, 0, none⟩) (Kd.R_types HO_223001.out BK272.out (by decide)) (fun _ hk => hk.2) (.int .i64 t264)) (fun _ hk => hk.2) (.slice Ao123 t265.length co123)) (fun _ hk => hk.2) (.slice Ao124 t268.length co124)) (fun _ h_ => h_.1)))) hb); have n1_ := zA (Kd.R_below (uR ((Kd.R_mono (Kd.R_far (p := ⟨gb272, 2, none⟩) (Kd.R_far (p := ⟨gb272, 1, none⟩) (Kd.R_far (p := ⟨gb272, 0, none⟩) (Kd.R_types HO_223002.out BK272.out (by decide)) (fun _ hk => hk.2) (.int .i64 t264)) (fun _ hk => hk.2) (.slice Ao123 t265.length co123)) (fun _ hk => hk.2) (.slice Ao124 t268.length co124)) (fun _ h_ => h_.1)))) hb); have n2_ := zA (Kd.R_below (uR ((Kd.R_mono (Kd.R_far (p := ⟨gb272, 2, none⟩) (Kd.R_far (p := ⟨gb272, 1, none⟩) (Kd.R_far (p := ⟨gb272, 0, none⟩) (Kd.R_types HO_231001.out BK272.out (by decide)) (fun _ hk => hk.2) (.int .i64 t264)) (fun _ hk => hk.2) (.slice Ao123 t265.length co123)) (fun _ hk => hk.2) (.slice Ao124 t268.length co124)) (fun _ h_ => h_.1)))) hb); have n3_ := zA (Kd.R_below (uR ((Kd.R_mono (Kd.R_far (p := ⟨gb272, 2, none⟩) (Kd.R_far (p := ⟨gb272, 1, none⟩) (Kd.R_far (p := ⟨gb272, 0, none⟩) (Kd.R_types HO_231002.out BK272.out (by decide)) (fun _ hk => hk.2) (.int .i64 t264)) (fun _ hk => hk.2) (.slice Ao123 t265.length co123)) (fun _ hk => hk.2) (.slice Ao124 t268.length co124)) (fun _ h_ => h_.1)))) hb); have n4_ := zA (Kd.R_below (uR ((Kd.R_mono (Kd.R_far (p := ⟨gb272, 2, none⟩) (Kd.R_far (p := ⟨gb272, 1, none⟩) (Kd.R_far (p := ⟨gb272, 0, none⟩) (Kd.R_types HO_240001.out BK272.out (by decide)) (fun _ hk => hk.2) (.int .i64 t264)) (fun _ hk => hk.2) (.slice Ao123 t265.length co123)) (fun _ hk => hk.2) (.slice Ao124 t268.length co124)) (fun _ h_ => h_.1)))) hb); have n5_ := zA (Kd.R_below (uR ((Kd.R_mono (Kd.R_far (p := ⟨gb272, 2, none⟩) (Kd.R_far (p := ⟨gb272, 1, none⟩) (Kd.R_far (p := ⟨gb272, 0, none⟩) (Kd.R_types HO_240002.out BK272.out (by decide)) (fun _ hk => hk.2) (.int .i64 t264)) (fun _ hk => hk.2) (.slice Ao123 t265.length co123)) (fun _ hk => hk.2) (.slice Ao124 t268.length co124)) (fun _ h_ => h_.1)))) hb); have n6_ := zA (Kd.R_below (uR ((Kd.R_mono (Kd.R_far (p := ⟨gb272, 2, none⟩) (Kd.R_far (p := ⟨gb272, 1, none⟩) (Kd.R_far (p := ⟨gb272, 0, none⟩) (Kd.R_types HO260.out BK272.out (by decide)) (fun _ hk => hk.2) (.int .i64 t264)) (fun _ hk => hk.2) (.slice Ao123 t265.length co123)) (fun _ hk => hk.2) (.slice Ao124 t268.length co124)) (fun _ h_ => h_.1)))) hb); have n7_ := zA (Kd.R_below (uR ((Kd.R_mono (Kd.R_far (p := ⟨gb272, 2, none⟩) (Kd.R_far (p := ⟨gb272, 1, none⟩) (Kd.R_far (p := ⟨gb272, 0, none⟩) (Kd.R_types HO263.out BK272.out (by decide)) (fun _ hk => hk.2) (.int .i64 t264)) (fun _ hk => hk.2) (.slice Ao123 t265.length co123)) (fun _ hk => hk.2) (.slice Ao124 t268.length co124)) (fun _ h_ => h_.1)))) hb); have n8_ := zA (Kd.R_below (uR ((Kd.R_mono (Kd.R_far (p := ⟨gb272, 2, none⟩) (Kd.R_far (p := ⟨gb272, 1, none⟩) (Kd.R_far (p := ⟨gb272, 0, none⟩) (Kd.R_types HO267.out BK272.out (by decide)) (fun _ hk => hk.2) (.int .i64 t264)) (fun _ hk => hk.2) (.slice Ao123 t265.length co123)) (fun _ hk => hk.2) (.slice Ao124 t268.length co124)) (fun _ h_ => h_.1)))) hb); have n9_ := zA (Kd.R_below (uR ((Kd.R_mono (Kd.R_far (p := ⟨gb272, 2, none⟩) (Kd.R_far (p := ⟨gb272, 1, none⟩) (Kd.R_far (p := ⟨gb272, 0, none⟩) (Kd.R_types HO270.out BK272.out (by decide)) (fun _ hk => hk.2) (.int .i64 t264)) (fun _ hk => hk.2) (.slice Ao123 t265.length co123)) (fun _ hk => hk.2) (.slice Ao124 t268.length co124)) (fun _ h_ => h_.1)))) hb); have n10_ := zA (blk_below (g := gb205) (o := .cells #[.int .i64 a0_0, .slice A0_1 l0_1.length c0_1, .slice A0_2 l0_2.length c0_2] 24 (0, 0)) (by (with_reducible repeat (first | refine blk_drewN ?_ _ | refine blk_drew ?_ | refine blk_alloc ?_ _)); refine blk_far ?_ NB205_272.out _; (with_reducible repeat (first | refine blk_drewN ?_ _ | refine blk_drew ?_ | refine blk_alloc ?_ _)); refine blk_far ?_ NB205_272.out _; (with_reducible repeat (first | refine blk_drewN ?_ _ | refine blk_drew ?_ | refine blk_alloc ?_ _)); refine blk_far ?_ NB205_272.out _; (with_reducible repeat (first | refine blk_drewN ?_ _ | refine blk_drew ?_ | refine blk_alloc ?_ _)); exact BK205.out) hb); have n11_ := zA (blk_below (g := gb222) (o := .cells #[.int .i64 t214, .slice Ao24 t215.length co24, .slice Ao25 t218.length co25] 26 (0, 0)) (by (with_reducible repeat (first | refine blk_drewN ?_ _ | refine blk_drew ?_ | refine blk_alloc ?_ _)); refine blk_far ?_ NB222_272.out _; (with_reducible repeat (first | refine blk_drewN ?_ _ | refine blk_drew ?_ | refine blk_alloc ?_ _)); refine blk_far ?_ NB222_272.out _; (with_reducible repeat (first | refine blk_drewN ?_ _ | refine blk_drew ?_ | refine blk_alloc ?_ _)); refine blk_far ?_ NB222_272.out _; (with_reducible repeat (first | refine blk_drewN ?_ _ | refine blk_drew ?_ | refine blk_alloc ?_ _)); exact BK222.out) hb); have n12_ := zA (blk_below (g := gb230) (o := .cells #[.int .i64 t223, .slice Ao32 t250.length co32, .slice Ao33 t251.length co33] 26 (0, 0)) (by (with_reducible repeat (first | refine blk_drewN ?_ _ | refine blk_drew ?_ | refine blk_alloc ?_ _)); refine blk_far ?_ NB230_272.out _; (with_reducible repeat (first | refine blk_drewN ?_ _ | refine blk_drew ?_ | refine blk_alloc ?_ _)); refine blk_far ?_ NB230_272.out _; (with_reducible repeat (first | refine blk_drewN ?_ _ | refine blk_drew ?_ | refine blk_alloc ?_ _)); refine blk_far ?_ NB230_272.out _; (with_reducible repeat (first | refine blk_drewN ?_ _ | refine blk_drew ?_ | refine blk_alloc ?_ _)); exact BK230.out) hb); have n13_ := zA (blk_below (g := gb239) (o := .cells #[.int .i64 t231, .slice Ao40 t232.length co40, .slice Ao41 t235.length co41] 26 (0, 0)) (by (with_reducible repeat (first | refine blk_drewN ?_ _ | refine blk_drew ?_ | refine blk_alloc ?_ _)); refine blk_far ?_ NB239_272.out _; (with_reducible repeat (first | refine blk_drewN ?_ _ | refine blk_drew ?_ | refine blk_alloc ?_ _)); refine blk_far ?_ NB239_272.out _; (with_reducible repeat (first | refine blk_drewN ?_ _ | refine blk_drew ?_ | refine blk_alloc ?_ _)); refine blk_far ?_ NB239_272.out _; (with_reducible repeat (first | refine blk_drewN ?_ _ | refine blk_drew ?_ | refine blk_alloc ?_ _)); exact BK239.out) hb); have n14_ := zA (blk_below (g := gb272) (o := .cells #[.int .i64 t264, .slice Ao123 t265.length co123, .slice Ao124 t268.length co124] 26 (0, 0)) (by (with_reducible repeat (first | refine blk_drewN ?_ _ | refine blk_drew ?_ | refine blk_alloc ?_ _)); refine blk_put (cs := #[.int .i64 t264, .slice Ao123 t265.length co123, .slice none 0 0]) ?_ 2 _ rfl; (with_reducible repeat (first | refine blk_drewN ?_ _ | refine blk_drew ?_ | refine blk_alloc ?_ _)); refine blk_put (cs := #[.int .i64 t264, .slice none 0 0, .slice none 0 0]) ?_ 1 _ rfl; (with_reducible repeat (first | refine blk_drewN ?_ _ | refine blk_drew ?_ | refine blk_alloc ?_ _)); refine blk_put (cs := #[.int .i64 0, .slice none 0 0, .slice none 0 0]) ?_ 0 _ rfl; (with_reducible repeat (first | refine blk_drewN ?_ _ | refine blk_drew ?_ | refine blk_alloc ?_ _)); exact BK272.out) hb); have n15_ := xH HB hb; clear HO_223001 HO_223002 HO_231001 HO_231002 HO_240001 HO_240002 HO260 HO263 HO267 HO270 BK205 BK222 BK230 BK239 BK272 HB; have HO_223001 := n0_; have HO_223002 := n1_; have HO_231001 := n2_; have HO_231002 := n3_; have HO_240001 := n4_; have HO_240002 := n5_; have HO260 := n6_; have HO263 := n7_; have HO267 := n8_; have HO270 := n9_; have BK205 := n10_; have BK222 := n11_; have BK230 := n12_; have BK239 := n13_; have BK272 := n14_; have HB := n15_; clear n0_ n1_ n2_ n3_ n4_ n5_ n6_ n7_ n8_ n9_ n10_ n11_ n12_ n13_ n14_ n15_; (try clear hb); (try clear hb2); (try clear hk); (try clear hi)))
             go_meet
             case rel => exact ⟨_, (true), (by first | rfl | (simp; done) | (simp [*]; done)), H', ⟨by have := HJ11.out; have := HJ64.out; first | omega | exact Nat.le_refl _⟩, ⟨by (try simp only [hl231001_64]); (try simp only [hl231002_64]); (with_reducible repeat (first | apply Kd.R_alloc | apply Kd.R_drewN | apply Kd.R_drew)); exact Kd.R_mono HO_223001.out (fun _ hk => ⟨hk.1.1.1.1.1, ⟨hk.1.1.1.1.2.1, ⟨hk.1.1.1.1.2.2.1, ⟨hk.1.1.1.1.2.2.2.1, ⟨hk.1.1.1.1.2.2.2.2, ⟨hk.1.2, hk.2⟩⟩⟩⟩⟩⟩)⟩, ⟨by (try simp only [hl231001_64]); (try simp only [hl231002_64]); (with_reducible repeat (first | apply Kd.R_alloc | apply Kd.R_drewN | apply Kd.R_drew)); exact Kd.R_mono HO_223002.out (fun _ hk => ⟨hk.1.1.1.1.1, ⟨hk.1.1.1.1.2.1, ⟨hk.1.1.1.1.2.2.1, ⟨hk.1.1.1.1.2.2.2.1, ⟨hk.1.1.1.1.2.2.2.2, ⟨hk.1.2, hk.2⟩⟩⟩⟩⟩⟩)⟩, ⟨by (try simp only [hl231001_64]); (try simp only [hl231002_64]); (with_reducible repeat (first | apply Kd.R_alloc | apply Kd.R_drewN | apply Kd.R_drew)); exact Kd.R_mono HO_231001.out (fun _ hk => ⟨hk.1.1.1.1.1, ⟨hk.1.1.1.1.2.1, ⟨hk.1.1.1.1.2.2.1, ⟨hk.1.1.1.1.2.2.2.1, ⟨hk.1.1.1.1.2.2.2.2, ⟨hk.1.2, hk.2⟩⟩⟩⟩⟩⟩)⟩, ⟨by (try simp only [hl231001_64]); (try simp only [hl231002_64]); (with_reducible repeat (first | apply Kd.R_alloc | apply Kd.R_drewN | apply Kd.R_drew)); exact Kd.R_mono HO_231002.out (fun _ hk => ⟨hk.1.1.1.1.1, ⟨hk.1.1.1.1.2.1, ⟨hk.1.1.1.1.2.2.1, ⟨hk.1.1.1.1.2.2.2.1, ⟨hk.1.1.1.1.2.2.2.2, ⟨hk.1.2, hk.2⟩⟩⟩⟩⟩⟩)⟩, ⟨by (try simp only [hl231001_64]); (try simp only [hl231002_64]); (with_reducible repeat (first | apply Kd.R_alloc | apply Kd.R_drewN | apply Kd.R_drew)); exact Kd.R_mono HO_240001.out (fun _ hk => ⟨hk.1.1.1.1.1, ⟨hk.1.1.1.1.2.1, ⟨hk.1.1.1.1.2.2.1, ⟨hk.1.1.1.1.2.2.2.1, ⟨hk.1.1.1.1.2.2.2.2, ⟨hk.1.2, hk.2⟩⟩⟩⟩⟩⟩)⟩, ⟨by (try simp only [hl231001_64]); (try simp only [hl231002_64]); (with_reducible repeat (first | apply Kd.R_alloc | apply Kd.R_drewN | apply Kd.R_drew)); exact Kd.R_mono HO_240002.out (fun _ hk => ⟨hk.1.1.1.1.1, ⟨hk.1.1.1.1.2.1, ⟨hk.1.1.1.1.2.2.1, ⟨hk.1.1.1.1.2.2.2.1, ⟨hk.1.1.1.1.2.2.2.2, ⟨hk.1.2, hk.2⟩⟩⟩⟩⟩⟩)⟩, ⟨by (try simp only [hl231001_64]); (try simp only [hl231002_64]); (with_reducible repeat (first | apply Kd.R_alloc | apply Kd.R_drewN | apply Kd.R_drew)); exact Kd.R_mono HO267.out (fun _ hk => ⟨hk.1.1.1.1.1.1.1.2, ⟨hk.1.1.1.1.1.1.2, ⟨hk.1.1.1.1.1.2, ⟨hk.1.1.1.1.2, ⟨hk.1.1.1.2, ⟨hk.1.1.2, hk.1.1.1.1.1.1.1.1⟩⟩⟩⟩⟩⟩)⟩, ⟨by (try simp only [hl231001_64]); (try simp only [hl231002_64]); (with_reducible repeat (first | apply Kd.R_alloc | apply Kd.R_drewN | apply Kd.R_drew)); exact Kd.R_mono HO270.out (fun _ hk => ⟨hk.1.1.1.1.1.1.1.2, ⟨hk.1.1.1.1.1.1.2, ⟨hk.1.1.1.1.1.2, ⟨hk.1.1.1.1.2, ⟨hk.1.1.1.2, ⟨hk.1.1.2, hk.1.1.1.1.1.1.1.1⟩⟩⟩⟩⟩⟩)⟩, ⟨by (try simp only [hl231001_64]); (try simp only [hl231002_64]); (with_reducible repeat (first | refine blk_drewN ?_ _ | refine blk_drew ?_ | refine blk_alloc ?_ _)); exact BK205.out⟩, ⟨by (try simp only [hl231001_64]); (try simp only [hl231002_64]); (with_reducible repeat (first | refine blk_drewN ?_ _ | refine blk_drew ?_ | refine blk_alloc ?_ _)); exact BK222.out⟩, ⟨by (try simp only [hl231001_64]); (try simp only [hl231002_64]); (with_reducible repeat (first | refine blk_drewN ?_ _ | refine blk_drew ?_ | refine blk_alloc ?_ _)); exact BK230.out⟩, ⟨by (try simp only [hl231001_64]); (try simp only [hl231002_64]); (with_reducible repeat (first | refine blk_drewN ?_ _ | refine blk_drew ?_ | refine blk_alloc ?_ _)); exact BK239.out⟩, ⟨by (try simp only [hl231001_64]); (try simp only [hl231002_64]); (with_reducible repeat (first | refine blk_drewN ?_ _ | refine blk_drew ?_ | refine blk_alloc ?_ _)); exact BK272.out⟩, ⟨uH HB.out⟩⟩
           case rest =>
            clear HC102
            try clear c1
            try clear c2
            try clear p2
            try clear c3
            try clear c4
            try clear c4b0
            try clear c5
            try clear c6
            try clear c7
            try clear c8
            try clear c9
            try clear c10
            try clear c11
            try clear c12
            try clear c13
            try clear c14
            try clear c15
            try clear c16
            try clear c17
            try clear c18
            try clear c19
            try clear c20
            try clear c21
            try clear c22
            try clear c29
            try clear c30
            try clear c36
            try clear c37
            try clear c38
            try clear c43
            try clear c44
            try clear c45
            try clear c46
            try clear c48
            try clear c49
            try clear c52
            try clear c53
            try clear c54
            try clear c56
            try clear c57
            try clear c60
            try clear c63
            try clear c71
            try clear c72
            try clear c73
            try clear c76
            try clear c76b0
            try clear c78
            try clear c79
            try clear c80
            try clear c81
            try clear c83
            try clear c84
            try clear c87
            try clear c88
            try clear c89
            try clear c91
            try clear c92
            try clear c95
            try clear c98
            try clear c98b0
            try clear c99
            try clear c99b0
            try clear c99b1
            try clear c103
            try clear c104
            try clear c105
            try clear c110
            try clear c111
            try clear c118
            try clear c119
            try clear c120
            try clear c121
            try clear c126
            try clear c127
            try clear c128
            try clear c129
            try clear c130
            try clear c132
            try clear c133
            try clear c134
            try clear c137
            try clear c138
            try clear c139
            try clear c140
            try clear c142
            try clear c143
            try clear c144
            try clear hcz106_0
            try clear hcz106_1
            try clear hcz106_2
            try clear hcz108_0
            try clear hcz108_1
            try clear hcz108_2
            try clear hcz112_0
            try clear hcz112_1
            try clear hcz112_2
            try clear hcz122_0
            try clear hcz122_1
            try clear hcz122_2
            try clear hcz131_0
            try clear hcz131_1
            try clear hcz131_2
            try clear hcz135_0
            try clear hcz135_1
            try clear hcz135_2
            try clear hcz141_0
            try clear hcz141_1
            try clear hcz141_2
            try clear hcz145_0
            try clear hcz145_1
            try clear hcz145_2
            try clear hcz14_0
            try clear hcz14_1
            try clear hcz14_2
            try clear hcz16_0
            try clear hcz16_1
            try clear hcz16_2
            try clear hcz23_0
            try clear hcz23_1
            try clear hcz23_2
            try clear hcz26_0
            try clear hcz26_1
            try clear hcz26_2
            try clear hcz31_0
            try clear hcz31_1
            try clear hcz31_2
            try clear hcz39_0
            try clear hcz39_1
            try clear hcz39_2
            try clear hcz47_0
            try clear hcz47_1
            try clear hcz47_2
            try clear hcz50_0
            try clear hcz50_1
            try clear hcz50_2
            try clear hcz55_0
            try clear hcz55_1
            try clear hcz55_2
            try clear hcz58_0
            try clear hcz58_1
            try clear hcz58_2
            try clear hcz6_0
            try clear hcz6_1
            try clear hcz6_2
            try clear hcz74_0
            try clear hcz74_1
            try clear hcz74_2
            try clear hcz82_0
            try clear hcz82_1
            try clear hcz82_2
            try clear hcz85_0
            try clear hcz85_1
            try clear hcz85_2
            try clear hcz90_0
            try clear hcz90_1
            try clear hcz90_2
            try clear hcz93_0
            try clear hcz93_1
            try clear hcz93_2
            try clear hfz106_0
            try clear hfz106_1
            try clear hfz106_2
            try clear hfz108_0
            try clear hfz108_1
            try clear hfz108_2
            try clear hfz112_0
            try clear hfz112_1
            try clear hfz112_2
            try clear hfz122_0
            try clear hfz122_1
            try clear hfz122_2
            try clear hfz131_0
            try clear hfz131_1
            try clear hfz131_2
            try clear hfz135_0
            try clear hfz135_1
            try clear hfz135_2
            try clear hfz141_0
            try clear hfz141_1
            try clear hfz141_2
            try clear hfz145_0
            try clear hfz145_1
            try clear hfz145_2
            try clear hfz14_0
            try clear hfz14_1
            try clear hfz14_2
            try clear hfz16_0
            try clear hfz16_1
            try clear hfz16_2
            try clear hfz23_0
            try clear hfz23_1
            try clear hfz23_2
            try clear hfz26_0
            try clear hfz26_1
            try clear hfz26_2
            try clear hfz31_0
            try clear hfz31_1
            try clear hfz31_2
            try clear hfz39_0
            try clear hfz39_1
            try clear hfz39_2
            try clear hfz47_0
            try clear hfz47_1
            try clear hfz47_2
            try clear hfz50_0
            try clear hfz50_1
            try clear hfz50_2
            try clear hfz55_0
            try clear hfz55_1
            try clear hfz55_2
            try clear hfz58_0
            try clear hfz58_1
            try clear hfz58_2
            try clear hfz6_0
            try clear hfz6_1
            try clear hfz6_2
            try clear hfz74_0
            try clear hfz74_1
            try clear hfz74_2
            try clear hfz82_0
            try clear hfz82_1
            try clear hfz82_2
            try clear hfz85_0
            try clear hfz85_1
            try clear hfz85_2
            try clear hfz90_0
            try clear hfz90_1
            try clear hfz90_2
            try clear hfz93_0
            try clear hfz93_1
            try clear hfz93_2
            try clear p2
            obtain ⟨kq, x92_101, rfl, HA, HJ101, HO_223001, HO_223002, HO_231001, HO_231002, HO_240001, HO_240002, HO_273001, HO_273002, BK205, BK222, BK230, BK239, BK272, HB⟩ := hcut
            have hl240001_101 := (Kd.R_reads' HO_240001.out).1
            rw [hl240001_101] at HO_240001
            (try simp only [hl240001_101])
            (try simp only [hl240001_101] at BK205)
            (try simp only [hl240001_101] at BK222)
            (try simp only [hl240001_101] at BK230)
            (try simp only [hl240001_101] at BK239)
            (try simp only [hl240001_101] at BK272)
            (try simp only [hl240001_101] at HO_223001)
            (try simp only [hl240001_101] at HO_223002)
            (try simp only [hl240001_101] at HO_231001)
            (try simp only [hl240001_101] at HO_231002)
            (try simp only [hl240001_101] at HO_240002)
            (try simp only [hl240001_101] at HO_273001)
            (try simp only [hl240001_101] at HO_273002)
            have hl240002_101 := (Kd.R_reads' HO_240002.out).1
            rw [hl240002_101] at HO_240002
            (try simp only [hl240002_101])
            (try simp only [hl240002_101] at BK205)
            (try simp only [hl240002_101] at BK222)
            (try simp only [hl240002_101] at BK230)
            (try simp only [hl240002_101] at BK239)
            (try simp only [hl240002_101] at BK272)
            (try simp only [hl240002_101] at HO_223001)
            (try simp only [hl240002_101] at HO_223002)
            (try simp only [hl240002_101] at HO_231001)
            (try simp only [hl240002_101] at HO_231002)
            (try simp only [hl240002_101] at HO_240001)
            (try simp only [hl240002_101] at HO_273001)
            (try simp only [hl240002_101] at HO_273002)
            cases kq with
            | zero => exact absurd HA.out (by simp [laws_FnExactShiftJacobi.j2])
            | succ kj101 =>
             have H := HA.out
             clear HA
             simp only [laws_FnExactShiftJacobi.j2] at H
             by_cases c147 : x92_101 = true
             ·subst c147
              have H1 : (some false) = some r := by rw [if_pos rfl] at H; exact H
              clear H
              have H := H1
              clear H1
              rw [HRT.out] at H
              exact absurd H (by simp)
             ·replace c147 := Bool.eq_false_iff.mpr c147
              subst c147
              have H1 : ((laws_heldJacobi.f kj101 t231 t254 t255 1).bind fun t274 => (if t274 < 0 then (some false) else (if t274 = t253 then (some true) else (some false)))) = some r := by rw [if_neg (show ¬ (false = true) by decide)] at H; exact H
              clear H
              have H := H1
              clear H1
              replace H := Option.bind_eq_some_iff.mp H
              obtain ⟨t274, A1480, H⟩ := H
              replace H : (if t274 < 0 then (some false) else (if t274 = t253 then (some true) else (some false))) = some r := H
              have A148 := zA A1480
              clear A1480
              by_cases c149 : t274 < 0
              ·rw [if_pos c149] at H
               have c149b0 : decide (t274 < 0) = true := decide_eq_true c149
               clear c149
               rw [HRT.out] at H
               exact absurd H (by simp)
              ·rw [if_neg c149] at H
               have c149b0 : decide (t274 < 0) = false := decide_eq_false c149
               clear c149
               by_cases c150 : t274 = t253
               ·rw [if_pos c150] at H
                have c150b0 : (t274 == t253) = true := beq_iff_eq.mpr c150
                have c150b1 : (t274 != t253) = false := bne_eq_false_iff_eq.mpr c150
                clear c150
                obtain rfl := Option.some.inj H
                have hnb151 := NB239_205.out; have hnc151 := NB205_239.out; have hnb152 := NB239_222.out; have hnc152 := NB222_239.out; have hnb153 := NB239_230.out; have hnc153 := NB230_239.out; have hnb154 := NB239_272.out; have hnc154 := NB272_239.out
                have hcz155_0 : wc.cell? ⟨gb239, 0, none⟩ = some (.int .i64 t231) := (blk_cell BK239.out 0).trans rfl
                have hcz155_1 : wc.cell? ⟨gb239, 1, none⟩ = some (.slice Ao40 t254.length co40) := (blk_cell BK239.out 1).trans rfl
                have hcz155_2 : wc.cell? ⟨gb239, 2, none⟩ = some (.slice Ao41 t255.length co41) := (blk_cell BK239.out 2).trans rfl
                have hfz155_0 := blk_frozen BK239.out 0
                have hfz155_1 := blk_frozen BK239.out 1
                have hfz155_2 := blk_frozen BK239.out 2
                go_wp2_with (first | ((with_reducible refine gate_callee (f := 21) rfl ?_); refine goesL_ (some 95) rfl rfl Try.func21 (by kernel_rfl) rfl #[.agg #[.int .i64 t231, .slice Ao40 t254.length co40, .slice Ao41 t255.length co41], .int .i64 1] rfl (by (try simp only [List.map_toArray, List.map_cons, List.map_nil]); first | done | rfl | (simp only [List.length_drop, List.length_take]; rfl)) ?_; (with_reducible refine (laws_heldJacobi.calls kj101 t231 _ _ t254 _ _ t255 1 t274 _ ?side1 ?side2 ?side3 ?side4 A148.out).mono ?_); (case side1 => exact uC ((Kd.R_reads' HO_240001.out).2.2)); (case side2 => exact (Kd.R_reads' HO_240001.out).2.1); (case side3 => exact uC ((Kd.R_reads' HO_240002.out).2.2)); (case side4 => exact (Kd.R_reads' HO_240002.out).2.1); rintro e w156 ⟨rfl, hb⟩; refine ⟨_, rfl, ?_⟩; have n0_ := xR HO_223001 hb; have n1_ := xR HO_223002 hb; have n2_ := xR HO_231001 hb; have n3_ := xR HO_231002 hb; have n4_ := xR HO_240001 hb; have n5_ := xR HO_240002 hb; have n6_ := xR HO_273001 hb; have n7_ := xR HO_273002 hb; have n8_ := xB BK205 hb; have n9_ := xB BK222 hb; have n10_ := xB BK230 hb; have n11_ := xB BK239 hb; have n12_ := xB BK272 hb; have n13_ := xH HB hb; clear HO_223001 HO_223002 HO_231001 HO_231002 HO_240001 HO_240002 HO_273001 HO_273002 BK205 BK222 BK230 BK239 BK272 HB; have HO_223001 := n0_; have HO_223002 := n1_; have HO_231001 := n2_; have HO_231002 := n3_; have HO_240001 := n4_; have HO_240002 := n5_; have HO_273001 := n6_; have HO_273002 := n7_; have BK205 := n8_; have BK222 := n9_; have BK230 := n10_; have BK239 := n11_; have BK272 := n12_; have HB := n13_; clear n0_ n1_ n2_ n3_ n4_ n5_ n6_ n7_ n8_ n9_ n10_ n11_ n12_ n13_; (try clear hb); (try clear hb2); (try clear hk); (try clear hi)))
                go_ret
                exact ⟨by first | rfl | (simp [errW_none, errW_some] <;> rfl) | (simp [*, errW_none, errW_some] <;> rfl), uH HB.out⟩
               ·rw [if_neg c150] at H
                have c150b0 : (t274 == t253) = false := beq_eq_false_iff_ne.mpr c150
                have c150b1 : (t274 != t253) = true := bne_iff_ne.mpr c150
                rw [HRT.out] at H
                exact absurd H (by simp)
          ·rw [if_neg c99] at H
           have c99b0 : (t256 == t253) = false := beq_eq_false_iff_ne.mpr c99
           have c99b1 : (t256 != t253) = true := bne_iff_ne.mpr c99
           rw [HRT.out] at H
           exact absurd H (by simp)
     ·replace c63 := Bool.eq_false_iff.mpr c63
      subst c63
      have H1 : (some false) = some r := by rw [if_neg (show ¬ (false = true) by decide)] at H; exact H
      clear H
      have H := H1
      clear H1
      rw [HRT.out] at H
      exact absurd H (by simp)

/-- THE ONE PURE STATEMENT of laws_FnExactShiftJacobi: yours. -/
def laws_FnExactShiftJacobi.Pure : Prop := ∀ (a0_0 : Int) (l0_1 : List Int) (l0_2 : List Int) (a1 : Int), (Lit.int .i64 a0_0).wf = true → l0_1.length ≤ maxLen → (∀ x ∈ l0_1, (Lit.int .i64 x).wf = true) → l0_2.length ≤ maxLen → (∀ x ∈ l0_2, (Lit.int .i64 x).wf = true) → (Lit.int .i64 a1).wf = true → ∃ k, laws_FnExactShiftJacobi.f k a0_0 l0_1 l0_2 a1 = some true
theorem laws_FnExactShiftJacobi.walk (P : laws_FnExactShiftJacobi.Pure) (a0_0 : Int) (a0_1 : Option Addr) (len0_1 cap0_1 : Nat) (z0_1 : List Int) (a0_2 : Option Addr) (len0_2 cap0_2 : Nat) (z0_2 : List Int) (a1 : Int) (w : World) (w0_0 : (Lit.int .i64 a0_0).wf = true) (w0_1 : (a0_1 = none ∧ len0_1 = 0 ∧ cap0_1 = 0 ∧ z0_1 = []) ∨ ∃ x, a0_1 = some x ∧ len0_1 ≤ cap0_1 ∧ cap0_1 ≤ maxLen ∧ z0_1.length = cap0_1 ∧ (∀ i, i < z0_1.length → w.cell? (x.add i) = some (.int .i64 (z0_1.getD i 0))) ∧ ∀ n ∈ z0_1, (Lit.int .i64 n).wf = true) (w0_2 : (a0_2 = none ∧ len0_2 = 0 ∧ cap0_2 = 0 ∧ z0_2 = []) ∨ ∃ x, a0_2 = some x ∧ len0_2 ≤ cap0_2 ∧ cap0_2 ≤ maxLen ∧ z0_2.length = cap0_2 ∧ (∀ i, i < z0_2.length → w.cell? (x.add i) = some (.int .i64 (z0_2.getD i 0))) ∧ ∀ n ∈ z0_2, (Lit.int .i64 n).wf = true) (w1 : (Lit.int .i64 a1).wf = true) :
  Calls Try.prog 3 #[.agg #[.int .i64 a0_0, .slice a0_1 len0_1 cap0_1, .slice a0_2 len0_2 cap0_2], .int .i64 a1] w fun e w' => e = .returned (.bool true) ∧ Below w.heap.size w w' := by
 obtain ⟨l0_1, rfl, hr0_1, hm0_1, hw0_1, hc0_1⟩ := ReadsInt.ofRowC w0_1
 obtain ⟨l0_2, rfl, hr0_2, hm0_2, hw0_2, hc0_2⟩ := ReadsInt.ofRowC w0_2
 obtain ⟨k, h⟩ := P a0_0 l0_1 l0_2 a1 w0_0 hm0_1 hw0_1 hm0_2 hw0_2 w1
 refine (laws_FnExactShiftJacobi.calls k a0_0 _ _ l0_1 _ _ l0_2 a1 true rfl w (Kd.C_of_reads (d := (0 : Int)) (h1 := fun _ => rfl) hr0_1) hc0_1 (Kd.C_of_reads (d := (0 : Int)) (h1 := fun _ => rfl) hr0_2) hc0_2 h).mono ?_
 rintro e w' ⟨rfl, hd⟩
 exact ⟨rfl, hd⟩

end Go.Proofs.Ytgneldhhlfjjaaa.Pr
