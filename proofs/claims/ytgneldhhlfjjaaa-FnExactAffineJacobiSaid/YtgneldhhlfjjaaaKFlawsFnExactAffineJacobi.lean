/- Printed by a program of this session out of the translation: what these functions of the program compute, under the conditions that each theorem names. -/
import Derived.Test.YtgneldhhlfjjaaaKC01
import Derived.Test.YtgneldhhlfjjaaaKC02
import Derived.Test.YtgneldhhlfjjaaaKFspecAffineJacobi
import Derived.Test.YtgneldhhlfjjaaaKFimplAffineJacobi
namespace Go.Proofs.Ytgneldhhlfjjaaa.Pr
open Go.RowKit Go.Proofs.YtgneldhhlfjjaaaW.PrintWords Go.Proofs.YtgneldhhlfjjaaaW.PrintLast Go.Proofs.YtgneldhhlfjjaaaW.PrintMore
attribute [local go_sem] max2_int min2_int max_two min_two max_three min_three max_four min_four   -- for this text's walks alone
set_option linter.unusedVariables false
set_option linter.unusedSimpArgs false

/-! ### laws_FnExactAffineJacobi: function 6 -/
mutual
def laws_FnExactAffineJacobi.j0 : Nat → Int → Int → Int → Int → Bool → Int → List Int → List Int → Int → List Int → List Int → Int → List Int → List Int → Int → List Int → List Int → Option (Bool)
 | 0, _, _, _, _, _, _, _, _, _, _, _, _, _, _, _, _, _ => none
 | k + 1, x1, x2, x9, x12, x48, x487000, x487001, x487002, x504000, x504001, x504002, x512000, x512001, x512002, x521000, x521001, x521002 => if x48 = true then (some false) else ((laws_toJacobi.f k x487000 x487001 x487002).bind fun bt522 => ((laws_eqJacobi.f k x512000 x512001 x512002 bt522.1 bt522.2.1 bt522.2.2).bind fun t529 => (if t529 = true then ((laws_markJacobi.f k x512000 x512001 x512002 1).bind fun bt530 => (if bt530.1 < 0 then (laws_FnExactAffineJacobi.j1 k x1 x2 x9 true x487000 x487001 x487002 x504000 x504001 x504002 x521000 x521001 x521002) else ((laws_eqJacobi.f k x521000 x521001 x521002 x504000 x504001 x504002).bind fun t533 => (if t533 = true then (laws_FnExactAffineJacobi.j1 k x1 x2 x9 (x12 != x9) x487000 x487001 x487002 x504000 x504001 x504002 x521000 x521001 x521002) else (laws_FnExactAffineJacobi.j1 k x1 x2 x9 true x487000 x487001 x487002 x504000 x504001 x504002 x521000 x521001 x521002))))) else (some false))))
def laws_FnExactAffineJacobi.j1 : Nat → Int → Int → Int → Bool → Int → List Int → List Int → Int → List Int → List Int → Int → List Int → List Int → Option (Bool)
 | 0, _, _, _, _, _, _, _, _, _, _, _, _, _ => none
 | k + 1, x1, x2, x9, x69, x487000, x487001, x487002, x504000, x504001, x504002, x521000, x521001, x521002 => if x69 = true then (some false) else ((laws_markJacobi.f k x521000 x521001 x521002 1).bind fun bt534 => ((laws_heldJacobi.f k x521000 bt534.2.1 bt534.2.2 1).bind fun t537 => (if t537 < 0 then (some false) else (if t537 = bt534.1 then ((laws_toJacobi.f k x487000 x487001 x487002).bind fun bt538 => ((impl_AffineJacobi.f k bt538.1 bt538.2.1 bt538.2.2 x1 x2).bind fun bt545 => ((laws_eqJacobi.f k bt545.1 bt545.2.1 bt545.2.2.1 x504000 x504001 x504002).bind fun t554 => (if t554 = true then (laws_FnExactAffineJacobi.j2 k bt534.1 (bt545.2.2.2 != x9) x521000 bt534.2.1 bt534.2.2) else (laws_FnExactAffineJacobi.j2 k bt534.1 true x521000 bt534.2.1 bt534.2.2))))) else (some false)))))
def laws_FnExactAffineJacobi.j2 : Nat → Int → Bool → Int → List Int → List Int → Option (Bool)
 | 0, _, _, _, _, _ => none
 | k + 1, x14, x97, x521000, x521001, x521002 => if x97 = true then (some false) else ((laws_heldJacobi.f k x521000 x521001 x521002 1).bind fun t555 => (if t555 < 0 then (some false) else (if t555 = x14 then (some true) else (some false))))
end
def laws_FnExactAffineJacobi.f (k : Nat) (a0_0 : Int) (l0_1 : List Int) (l0_2 : List Int) (a1 : Int) (a2 : Int) : Option (Bool) := (laws_szJacobi.f a0_0 l0_1 l0_2 1048576).bind fun t487 => (if t487 < 0 then (some true) else ((laws_toJacobi.f k a0_0 l0_1 l0_2).bind fun bt488 => ((spec_AffineJacobi.f k bt488.1 bt488.2.1 bt488.2.2 a1 a2).bind fun bt495 => ((laws_toJacobi.f k a0_0 l0_1 l0_2).bind fun bt504 => ((impl_AffineJacobi.f k bt504.1 bt504.2.1 bt504.2.2 a1 a2).bind fun bt512 => ((laws_eqJacobi.f k bt512.1 bt512.2.1 bt512.2.2.1 bt495.1 bt495.2.1 bt495.2.2.1).bind fun t521 => (if t521 = true then (laws_FnExactAffineJacobi.j0 k a1 a2 bt495.2.2.2 bt512.2.2.2 (bt512.2.2.2 != bt495.2.2.2) a0_0 l0_1 l0_2 bt495.1 bt495.2.1 bt495.2.2.1 bt504.1 bt504.2.1 bt504.2.2 bt512.1 bt512.2.1 bt512.2.2.1) else (laws_FnExactAffineJacobi.j0 k a1 a2 bt495.2.2.2 bt512.2.2.2 true a0_0 l0_1 l0_2 bt495.1 bt495.2.1 bt495.2.2.1 bt504.1 bt504.2.1 bt504.2.2 bt512.1 bt512.2.1 bt512.2.2.1))))))))
theorem laws_FnExactAffineJacobi.mono_l : ∀ k, (∀ y0 y1 y2 y3 y4 y5 y6 y7 y8 y9 y10 y11 y12 y13 y14 y15 y16, LeO (laws_FnExactAffineJacobi.j0 k y0 y1 y2 y3 y4 y5 y6 y7 y8 y9 y10 y11 y12 y13 y14 y15 y16) (laws_FnExactAffineJacobi.j0 (k + 1) y0 y1 y2 y3 y4 y5 y6 y7 y8 y9 y10 y11 y12 y13 y14 y15 y16)) ∧ (∀ y0 y1 y2 y3 y4 y5 y6 y7 y8 y9 y10 y11 y12, LeO (laws_FnExactAffineJacobi.j1 k y0 y1 y2 y3 y4 y5 y6 y7 y8 y9 y10 y11 y12) (laws_FnExactAffineJacobi.j1 (k + 1) y0 y1 y2 y3 y4 y5 y6 y7 y8 y9 y10 y11 y12)) ∧ (∀ y0 y1 y2 y3 y4, LeO (laws_FnExactAffineJacobi.j2 k y0 y1 y2 y3 y4) (laws_FnExactAffineJacobi.j2 (k + 1) y0 y1 y2 y3 y4))
 | 0 => ⟨fun _ _ _ _ _ _ _ _ _ _ _ _ _ _ _ _ _ r h => by simp [laws_FnExactAffineJacobi.j0] at h, fun _ _ _ _ _ _ _ _ _ _ _ _ _ r h => by simp [laws_FnExactAffineJacobi.j1] at h, fun _ _ _ _ _ r h => by simp [laws_FnExactAffineJacobi.j2] at h⟩
 | k + 1 => by
  obtain ⟨ih0, ih1, ih2⟩ := laws_FnExactAffineJacobi.mono_l k
  refine ⟨?_, ?_, ?_⟩
  ·intro y0 y1 y2 y3 y4 y5 y6 y7 y8 y9 y10 y11 y12 y13 y14 y15 y16
   unfold laws_FnExactAffineJacobi.j0
   repeat' first
   | (with_reducible exact ih0 _ _ _ _ _ _ _ _ _ _ _ _ _ _ _ _ _)
   | (with_reducible exact ih1 _ _ _ _ _ _ _ _ _ _ _ _ _)
   | (with_reducible exact ih2 _ _ _ _ _)
   | (with_reducible exact impl_AffineJacobi.mono _ _ _ _ _ _)
   | (with_reducible exact laws_eqJacobi.mono _ _ _ _ _ _ _)
   | (with_reducible exact laws_heldJacobi.mono _ _ _ _ _)
   | (with_reducible exact laws_markJacobi.mono _ _ _ _ _)
   | (with_reducible exact laws_toJacobi.mono _ _ _ _)
   | (with_reducible exact spec_AffineJacobi.mono _ _ _ _ _ _)
   | (with_reducible exact LeO.refl _)
   | (with_reducible exact LeO.none _)
   | (with_reducible refine LeO.ite ?_ ?_)
   | (with_reducible refine LeO.bind ?_ (fun _ => ?_))
   | exact ih0 _ _ _ _ _ _ _ _ _ _ _ _ _ _ _ _ _
   | exact ih1 _ _ _ _ _ _ _ _ _ _ _ _ _
   | exact ih2 _ _ _ _ _
   | exact impl_AffineJacobi.mono _ _ _ _ _ _
   | exact laws_eqJacobi.mono _ _ _ _ _ _ _
   | exact laws_heldJacobi.mono _ _ _ _ _
   | exact laws_markJacobi.mono _ _ _ _ _
   | exact laws_toJacobi.mono _ _ _ _
   | exact spec_AffineJacobi.mono _ _ _ _ _ _
   | exact LeO.none _
   | refine LeO.ite ?_ ?_
   | refine LeO.bind ?_ (fun _ => ?_)
  ·intro y0 y1 y2 y3 y4 y5 y6 y7 y8 y9 y10 y11 y12
   unfold laws_FnExactAffineJacobi.j1
   repeat' first
   | (with_reducible exact ih0 _ _ _ _ _ _ _ _ _ _ _ _ _ _ _ _ _)
   | (with_reducible exact ih1 _ _ _ _ _ _ _ _ _ _ _ _ _)
   | (with_reducible exact ih2 _ _ _ _ _)
   | (with_reducible exact impl_AffineJacobi.mono _ _ _ _ _ _)
   | (with_reducible exact laws_eqJacobi.mono _ _ _ _ _ _ _)
   | (with_reducible exact laws_heldJacobi.mono _ _ _ _ _)
   | (with_reducible exact laws_markJacobi.mono _ _ _ _ _)
   | (with_reducible exact laws_toJacobi.mono _ _ _ _)
   | (with_reducible exact spec_AffineJacobi.mono _ _ _ _ _ _)
   | (with_reducible exact LeO.refl _)
   | (with_reducible exact LeO.none _)
   | (with_reducible refine LeO.ite ?_ ?_)
   | (with_reducible refine LeO.bind ?_ (fun _ => ?_))
   | exact ih0 _ _ _ _ _ _ _ _ _ _ _ _ _ _ _ _ _
   | exact ih1 _ _ _ _ _ _ _ _ _ _ _ _ _
   | exact ih2 _ _ _ _ _
   | exact impl_AffineJacobi.mono _ _ _ _ _ _
   | exact laws_eqJacobi.mono _ _ _ _ _ _ _
   | exact laws_heldJacobi.mono _ _ _ _ _
   | exact laws_markJacobi.mono _ _ _ _ _
   | exact laws_toJacobi.mono _ _ _ _
   | exact spec_AffineJacobi.mono _ _ _ _ _ _
   | exact LeO.none _
   | refine LeO.ite ?_ ?_
   | refine LeO.bind ?_ (fun _ => ?_)
  ·intro y0 y1 y2 y3 y4
   unfold laws_FnExactAffineJacobi.j2
   repeat' first
   | (with_reducible exact ih0 _ _ _ _ _ _ _ _ _ _ _ _ _ _ _ _ _)
   | (with_reducible exact ih1 _ _ _ _ _ _ _ _ _ _ _ _ _)
   | (with_reducible exact ih2 _ _ _ _ _)
   | (with_reducible exact impl_AffineJacobi.mono _ _ _ _ _ _)
   | (with_reducible exact laws_eqJacobi.mono _ _ _ _ _ _ _)
   | (with_reducible exact laws_heldJacobi.mono _ _ _ _ _)
   | (with_reducible exact laws_markJacobi.mono _ _ _ _ _)
   | (with_reducible exact laws_toJacobi.mono _ _ _ _)
   | (with_reducible exact spec_AffineJacobi.mono _ _ _ _ _ _)
   | (with_reducible exact LeO.refl _)
   | (with_reducible exact LeO.none _)
   | (with_reducible refine LeO.ite ?_ ?_)
   | (with_reducible refine LeO.bind ?_ (fun _ => ?_))
   | exact ih0 _ _ _ _ _ _ _ _ _ _ _ _ _ _ _ _ _
   | exact ih1 _ _ _ _ _ _ _ _ _ _ _ _ _
   | exact ih2 _ _ _ _ _
   | exact impl_AffineJacobi.mono _ _ _ _ _ _
   | exact laws_eqJacobi.mono _ _ _ _ _ _ _
   | exact laws_heldJacobi.mono _ _ _ _ _
   | exact laws_markJacobi.mono _ _ _ _ _
   | exact laws_toJacobi.mono _ _ _ _
   | exact spec_AffineJacobi.mono _ _ _ _ _ _
   | exact LeO.none _
   | refine LeO.ite ?_ ?_
   | refine LeO.bind ?_ (fun _ => ?_)
theorem laws_FnExactAffineJacobi.mono : ∀ a0 a1 a2 a3 a4 k, LeO (laws_FnExactAffineJacobi.f k a0 a1 a2 a3 a4) (laws_FnExactAffineJacobi.f (k + 1) a0 a1 a2 a3 a4) := by
 intro a0 a1 a2 a3 a4 k
 obtain ⟨ih0, ih1, ih2⟩ := laws_FnExactAffineJacobi.mono_l k
 unfold laws_FnExactAffineJacobi.f
 repeat' first
   | (with_reducible exact ih0 _ _ _ _ _ _ _ _ _ _ _ _ _ _ _ _ _)
   | (with_reducible exact ih1 _ _ _ _ _ _ _ _ _ _ _ _ _)
   | (with_reducible exact ih2 _ _ _ _ _)
   | (with_reducible exact impl_AffineJacobi.mono _ _ _ _ _ _)
   | (with_reducible exact laws_eqJacobi.mono _ _ _ _ _ _ _)
   | (with_reducible exact laws_heldJacobi.mono _ _ _ _ _)
   | (with_reducible exact laws_markJacobi.mono _ _ _ _ _)
   | (with_reducible exact laws_toJacobi.mono _ _ _ _)
   | (with_reducible exact spec_AffineJacobi.mono _ _ _ _ _ _)
   | (with_reducible exact LeO.refl _)
   | (with_reducible exact LeO.none _)
   | (with_reducible refine LeO.ite ?_ ?_)
   | (with_reducible refine LeO.bind ?_ (fun _ => ?_))
   | exact ih0 _ _ _ _ _ _ _ _ _ _ _ _ _ _ _ _ _
   | exact ih1 _ _ _ _ _ _ _ _ _ _ _ _ _
   | exact ih2 _ _ _ _ _
   | exact impl_AffineJacobi.mono _ _ _ _ _ _
   | exact laws_eqJacobi.mono _ _ _ _ _ _ _
   | exact laws_heldJacobi.mono _ _ _ _ _
   | exact laws_markJacobi.mono _ _ _ _ _
   | exact laws_toJacobi.mono _ _ _ _
   | exact spec_AffineJacobi.mono _ _ _ _ _ _
   | exact LeO.none _
   | refine LeO.ite ?_ ?_
   | refine LeO.bind ?_ (fun _ => ?_)
set_option maxHeartbeats 8000000 in
set_option maxRecDepth 100000 in
theorem laws_FnExactAffineJacobi.calls (k : Nat) (a0_0 : Int) (A0_1 : Option Addr) (c0_1 : Nat) (l0_1 : List Int) (A0_2 : Option Addr) (c0_2 : Nat) (l0_2 : List Int) (a1 : Int) (a2 : Int) (r : Bool) (hr_ : r = true) (w : World) (hr0_1 : Kd.C (Kd.int .i64) w A0_1 l0_1.length l0_1) (hc0_1 : l0_1.length ≤ c0_1) (hr0_2 : Kd.C (Kd.int .i64) w A0_2 l0_2.length l0_2) (hc0_2 : l0_2.length ≤ c0_2) (h : laws_FnExactAffineJacobi.f k a0_0 l0_1 l0_2 a1 a2 = some r) :
  Calls Try.prog 6 #[.agg #[.int .i64 a0_0, .slice A0_1 l0_1.length c0_1, .slice A0_2 l0_2.length c0_2], .int .i64 a1, .int .i64 a2] w fun e w' => e = .returned (.bool r) ∧ Below w.heap.size w w' := by
 have hu24 := Try.underlying24
 have hu26 := Try.underlying26
 have HRT := zA hr_
 clear hr_
 have HR0_1 := zA hr0_1
 have HC0_1 := zA hc0_1
 clear hr0_1 hc0_1
 have HR0_2 := zA hr0_2
 have HC0_2 := zA hc0_2
 clear hr0_2 hc0_2
 have HB := zA (Below.refl w.heap.size w)
 have H : ((laws_szJacobi.f a0_0 l0_1 l0_2 1048576).bind fun t487 => (if t487 < 0 then (some true) else ((laws_toJacobi.f k a0_0 l0_1 l0_2).bind fun bt488 => ((spec_AffineJacobi.f k bt488.1 bt488.2.1 bt488.2.2 a1 a2).bind fun bt495 => ((laws_toJacobi.f k a0_0 l0_1 l0_2).bind fun bt504 => ((impl_AffineJacobi.f k bt504.1 bt504.2.1 bt504.2.2 a1 a2).bind fun bt512 => ((laws_eqJacobi.f k bt512.1 bt512.2.1 bt512.2.2.1 bt495.1 bt495.2.1 bt495.2.2.1).bind fun t521 => (if t521 = true then (laws_FnExactAffineJacobi.j0 k a1 a2 bt495.2.2.2 bt512.2.2.2 (bt512.2.2.2 != bt495.2.2.2) a0_0 l0_1 l0_2 bt495.1 bt495.2.1 bt495.2.2.1 bt504.1 bt504.2.1 bt504.2.2 bt512.1 bt512.2.1 bt512.2.2.1) else (laws_FnExactAffineJacobi.j0 k a1 a2 bt495.2.2.2 bt512.2.2.2 true a0_0 l0_1 l0_2 bt495.1 bt495.2.1 bt495.2.2.1 bt504.1 bt504.2.1 bt504.2.2 bt512.1 bt512.2.1 bt512.2.2.1))))))))) = some r := h
 clear h
 replace H := Option.bind_eq_some_iff.mp H
 obtain ⟨t487, A40, H⟩ := H
 replace H : (if t487 < 0 then (some true) else ((laws_toJacobi.f k a0_0 l0_1 l0_2).bind fun bt488 => ((spec_AffineJacobi.f k bt488.1 bt488.2.1 bt488.2.2 a1 a2).bind fun bt495 => ((laws_toJacobi.f k a0_0 l0_1 l0_2).bind fun bt504 => ((impl_AffineJacobi.f k bt504.1 bt504.2.1 bt504.2.2 a1 a2).bind fun bt512 => ((laws_eqJacobi.f k bt512.1 bt512.2.1 bt512.2.2.1 bt495.1 bt495.2.1 bt495.2.2.1).bind fun t521 => (if t521 = true then (laws_FnExactAffineJacobi.j0 k a1 a2 bt495.2.2.2 bt512.2.2.2 (bt512.2.2.2 != bt495.2.2.2) a0_0 l0_1 l0_2 bt495.1 bt495.2.1 bt495.2.2.1 bt504.1 bt504.2.1 bt504.2.2 bt512.1 bt512.2.1 bt512.2.2.1) else (laws_FnExactAffineJacobi.j0 k a1 a2 bt495.2.2.2 bt512.2.2.2 true a0_0 l0_1 l0_2 bt495.1 bt495.2.1 bt495.2.2.1 bt504.1 bt504.2.1 bt504.2.2 bt512.1 bt512.2.1 bt512.2.2.1)))))))) = some r := H
 have A4 := zA A40
 clear A40
 by_cases c5 : t487 < 0
 ·rw [if_pos c5] at H
  have c5b0 : decide (t487 < 0) = true := decide_eq_true c5
  clear c5
  obtain rfl := Option.some.inj H
  go_enter Try.func6, Try.ntmps6
  go_wp2_with (first | ((with_reducible refine gate_dst (N := 3) rfl ?_); refine box_event ?hg (N := 3) ?hd (cs := #[.int .i64 a0_0, .slice A0_1 l0_1.length c0_1, .slice A0_2 l0_2.length c0_2]) (t := 24) ?hr ?_; (case hd => rfl); (case hg => rfl); (case hr => first | (go_simp; done) | (go_simp; rfl)); intro gb486 hg w6 hbox hb; have n0_ := xH HB hb; have n1_ := zA (hbox); have n2_ := zA ((by rw [hg]; exact (below_size (uH HB.out)) : w.heap.size ≤ gb486)); have n3_ := zA ((by rw [hg]; exact (below_size (uH HB.out)) : w.heap.size ≤ gb486)); clear HB; have HB := n0_; have BK486 := n1_; have GW486 := n2_; have GE486 := n3_; have := geI GE486; clear n0_ n1_ n2_ n3_ hb hbox hg; have hcz7_0 : w6.cell? ⟨gb486, 0, none⟩ = some (.int .i64 a0_0) := (blk_cell BK486.out 0).trans rfl; have hcz7_1 : w6.cell? ⟨gb486, 1, none⟩ = some (.slice A0_1 l0_1.length c0_1) := (blk_cell BK486.out 1).trans rfl; have hcz7_2 : w6.cell? ⟨gb486, 2, none⟩ = some (.slice A0_2 l0_2.length c0_2) := (blk_cell BK486.out 2).trans rfl; have hfz7_0 := blk_frozen BK486.out 0; have hfz7_1 := blk_frozen BK486.out 1; have hfz7_2 := blk_frozen BK486.out 2) | ((with_reducible refine gate_callee (f := 15) rfl ?_); refine goesL_ (some 20) rfl rfl Try.func15 (by kernel_rfl) rfl #[.agg #[.int .i64 a0_0, .slice A0_1 l0_1.length c0_1, .slice A0_2 l0_2.length c0_2], .int .i64 1048576] rfl (by (try simp only [List.map_toArray, List.map_cons, List.map_nil]); first | done | rfl | (simp only [List.length_drop, List.length_take]; rfl)) ?_; (with_reducible refine (laws_szJacobi.calls a0_0 _ _ l0_1 _ _ l0_2 1048576 t487 _ ?side1 ?side2 ?side3 ?side4 A4.out).mono ?_); (case side1 => exact uC ((Kd.C_below HR0_1.out HB.out))); (case side2 => exact HC0_1.out); (case side3 => exact uC ((Kd.C_below HR0_2.out HB.out))); (case side4 => exact HC0_2.out); rintro e w8 ⟨rfl, hb⟩; refine ⟨_, rfl, ?_⟩; have n0_ := xB BK486 hb; have n1_ := xH HB hb; clear BK486 HB; have BK486 := n0_; have HB := n1_; clear n0_ n1_; (try clear hb); (try clear hb2); (try clear hk); (try clear hi)))
  go_ret
  exact ⟨by first | rfl | (simp [errW_none, errW_some] <;> rfl) | (simp [*, errW_none, errW_some] <;> rfl), uH HB.out⟩
 ·rw [if_neg c5] at H
  have c5b0 : decide (t487 < 0) = false := decide_eq_false c5
  clear c5
  replace H := Option.bind_eq_some_iff.mp H
  obtain ⟨⟨t488, t489, t492⟩, A90, H⟩ := H
  replace H : ((spec_AffineJacobi.f k t488 t489 t492 a1 a2).bind fun bt495 => ((laws_toJacobi.f k a0_0 l0_1 l0_2).bind fun bt504 => ((impl_AffineJacobi.f k bt504.1 bt504.2.1 bt504.2.2 a1 a2).bind fun bt512 => ((laws_eqJacobi.f k bt512.1 bt512.2.1 bt512.2.2.1 bt495.1 bt495.2.1 bt495.2.2.1).bind fun t521 => (if t521 = true then (laws_FnExactAffineJacobi.j0 k a1 a2 bt495.2.2.2 bt512.2.2.2 (bt512.2.2.2 != bt495.2.2.2) a0_0 l0_1 l0_2 bt495.1 bt495.2.1 bt495.2.2.1 bt504.1 bt504.2.1 bt504.2.2 bt512.1 bt512.2.1 bt512.2.2.1) else (laws_FnExactAffineJacobi.j0 k a1 a2 bt495.2.2.2 bt512.2.2.2 true a0_0 l0_1 l0_2 bt495.1 bt495.2.1 bt495.2.2.1 bt504.1 bt504.2.1 bt504.2.2 bt512.1 bt512.2.1 bt512.2.2.1)))))) = some r := H
  have A9 := zA A90
  clear A90
  replace H := Option.bind_eq_some_iff.mp H
  obtain ⟨⟨t495, t496, t499, t502⟩, A100, H⟩ := H
  replace H : ((laws_toJacobi.f k a0_0 l0_1 l0_2).bind fun bt504 => ((impl_AffineJacobi.f k bt504.1 bt504.2.1 bt504.2.2 a1 a2).bind fun bt512 => ((laws_eqJacobi.f k bt512.1 bt512.2.1 bt512.2.2.1 t495 t496 t499).bind fun t521 => (if t521 = true then (laws_FnExactAffineJacobi.j0 k a1 a2 t502 bt512.2.2.2 (bt512.2.2.2 != t502) a0_0 l0_1 l0_2 t495 t496 t499 bt504.1 bt504.2.1 bt504.2.2 bt512.1 bt512.2.1 bt512.2.2.1) else (laws_FnExactAffineJacobi.j0 k a1 a2 t502 bt512.2.2.2 true a0_0 l0_1 l0_2 t495 t496 t499 bt504.1 bt504.2.1 bt504.2.2 bt512.1 bt512.2.1 bt512.2.2.1))))) = some r := H
  have A10 := zA A100
  clear A100
  replace H := Option.bind_eq_some_iff.mp H
  obtain ⟨⟨t504, t505, t508⟩, A110, H⟩ := H
  replace H : ((impl_AffineJacobi.f k t504 t505 t508 a1 a2).bind fun bt512 => ((laws_eqJacobi.f k bt512.1 bt512.2.1 bt512.2.2.1 t495 t496 t499).bind fun t521 => (if t521 = true then (laws_FnExactAffineJacobi.j0 k a1 a2 t502 bt512.2.2.2 (bt512.2.2.2 != t502) a0_0 l0_1 l0_2 t495 t496 t499 t504 t505 t508 bt512.1 bt512.2.1 bt512.2.2.1) else (laws_FnExactAffineJacobi.j0 k a1 a2 t502 bt512.2.2.2 true a0_0 l0_1 l0_2 t495 t496 t499 t504 t505 t508 bt512.1 bt512.2.1 bt512.2.2.1)))) = some r := H
  have A11 := zA A110
  clear A110
  replace H := Option.bind_eq_some_iff.mp H
  obtain ⟨⟨t512, t513, t516, t519⟩, A120, H⟩ := H
  replace H : ((laws_eqJacobi.f k t512 t513 t516 t495 t496 t499).bind fun t521 => (if t521 = true then (laws_FnExactAffineJacobi.j0 k a1 a2 t502 t519 (t519 != t502) a0_0 l0_1 l0_2 t495 t496 t499 t504 t505 t508 t512 t513 t516) else (laws_FnExactAffineJacobi.j0 k a1 a2 t502 t519 true a0_0 l0_1 l0_2 t495 t496 t499 t504 t505 t508 t512 t513 t516))) = some r := H
  have A12 := zA A120
  clear A120
  have HC13 := zA H
  clear H
  go_enter Try.func6, Try.ntmps6
  go_upto_region 8 with (first | ((with_reducible refine gate_dst (N := 3) rfl ?_); refine box_event ?hg (N := 3) ?hd (cs := #[.int .i64 a0_0, .slice A0_1 l0_1.length c0_1, .slice A0_2 l0_2.length c0_2]) (t := 24) ?hr ?_; (case hd => rfl); (case hg => rfl); (case hr => first | (go_simp; done) | (go_simp; rfl)); intro gb486 hg w14 hbox hb; have n0_ := xH HB hb; have n1_ := zA (hbox); have n2_ := zA ((by rw [hg]; exact (below_size (uH HB.out)) : w.heap.size ≤ gb486)); have n3_ := zA ((by rw [hg]; exact (below_size (uH HB.out)) : w.heap.size ≤ gb486)); clear HB; have HB := n0_; have BK486 := n1_; have GW486 := n2_; have GE486 := n3_; have := geI GE486; clear n0_ n1_ n2_ n3_ hb hbox hg; have hcz15_0 : w14.cell? ⟨gb486, 0, none⟩ = some (.int .i64 a0_0) := (blk_cell BK486.out 0).trans rfl; have hcz15_1 : w14.cell? ⟨gb486, 1, none⟩ = some (.slice A0_1 l0_1.length c0_1) := (blk_cell BK486.out 1).trans rfl; have hcz15_2 : w14.cell? ⟨gb486, 2, none⟩ = some (.slice A0_2 l0_2.length c0_2) := (blk_cell BK486.out 2).trans rfl; have hfz15_0 := blk_frozen BK486.out 0; have hfz15_1 := blk_frozen BK486.out 1; have hfz15_2 := blk_frozen BK486.out 2) | ((with_reducible refine gate_callee (f := 15) rfl ?_); refine goesL_ (some 20) rfl rfl Try.func15 (by kernel_rfl) rfl #[.agg #[.int .i64 a0_0, .slice A0_1 l0_1.length c0_1, .slice A0_2 l0_2.length c0_2], .int .i64 1048576] rfl (by (try simp only [List.map_toArray, List.map_cons, List.map_nil]); first | done | rfl | (simp only [List.length_drop, List.length_take]; rfl)) ?_; (with_reducible refine (laws_szJacobi.calls a0_0 _ _ l0_1 _ _ l0_2 1048576 t487 _ ?side1 ?side2 ?side3 ?side4 A4.out).mono ?_); (case side1 => exact uC ((Kd.C_below HR0_1.out HB.out))); (case side2 => exact HC0_1.out); (case side3 => exact uC ((Kd.C_below HR0_2.out HB.out))); (case side4 => exact HC0_2.out); rintro e w16 ⟨rfl, hb⟩; refine ⟨_, rfl, ?_⟩; have n0_ := xB BK486 hb; have n1_ := xH HB hb; clear BK486 HB; have BK486 := n0_; have HB := n1_; clear n0_ n1_; (try clear hb); (try clear hb2); (try clear hk); (try clear hi); have hcz17_0 : w16.cell? ⟨gb486, 0, none⟩ = some (.int .i64 a0_0) := (blk_cell BK486.out 0).trans rfl; have hcz17_1 : w16.cell? ⟨gb486, 1, none⟩ = some (.slice A0_1 l0_1.length c0_1) := (blk_cell BK486.out 1).trans rfl; have hcz17_2 : w16.cell? ⟨gb486, 2, none⟩ = some (.slice A0_2 l0_2.length c0_2) := (blk_cell BK486.out 2).trans rfl; have hfz17_0 := blk_frozen BK486.out 0; have hfz17_1 := blk_frozen BK486.out 1; have hfz17_2 := blk_frozen BK486.out 2) | ((with_reducible refine gate_callee (f := 17) rfl ?_); refine goesL_ (some 25) rfl rfl Try.func17 (by kernel_rfl) rfl #[.agg #[.int .i64 a0_0, .slice A0_1 l0_1.length c0_1, .slice A0_2 l0_2.length c0_2]] rfl (by (try simp only [List.map_toArray, List.map_cons, List.map_nil]); first | done | rfl | (simp only [List.length_drop, List.length_take]; rfl)) ?_; (with_reducible refine (laws_toJacobi.calls k a0_0 _ _ l0_1 _ _ l0_2 t488 t489 t492 _ ?side1 ?side2 ?side3 ?side4 A9.out).mono ?_); (case side1 => exact uC ((Kd.C_below HR0_1.out HB.out))); (case side2 => exact HC0_1.out); (case side3 => exact uC ((Kd.C_below HR0_2.out HB.out))); (case side4 => exact HC0_2.out); rintro e w18 ⟨v490, v493, rfl, ho0, ho1, hb⟩; refine ⟨_, rfl, ?_⟩; have n0_ := zA (Kd.R_lower ho0 (below_size (uH HB.out))); have n1_ := zA (Kd.R_lower ho1 (below_size (uH HB.out))); have n2_ := xB BK486 hb; have n3_ := xH HB hb; clear BK486 HB; have HO491 := n0_; have HO494 := n1_; have BK486 := n2_; have HB := n3_; clear n0_ n1_ n2_ n3_; (try clear hb); (try clear hb2); (try clear hk); (try clear hi); (try clear ho0); (try clear ho1); obtain ⟨Ao19, co19, eo19⟩ := Kd.R_slice HO491.out; subst eo19; obtain ⟨Ao20, co20, eo20⟩ := Kd.R_slice HO494.out; subst eo20) | ((with_reducible refine gate_callee (f := 26) rfl ?_); refine goesL_ (some 28) rfl rfl Try.func26 (by kernel_rfl) rfl #[.agg #[.int .i64 t488, .slice Ao19 t489.length co19, .slice Ao20 t492.length co20], .int .i64 a1, .int .i64 a2] rfl (by (try simp only [List.map_toArray, List.map_cons, List.map_nil]); first | done | rfl | (simp only [List.length_drop, List.length_take]; rfl)) ?_; (with_reducible refine (spec_AffineJacobi.calls k t488 _ _ t489 _ _ t492 a1 a2 t495 t496 t499 t502 _ ?side1 ?side2 ?side3 ?side4 A10.out).mono ?_); (case side1 => exact uC ((Kd.R_reads' HO491.out).2.2)); (case side2 => exact (Kd.R_reads' HO491.out).2.1); (case side3 => exact uC ((Kd.R_reads' HO494.out).2.2)); (case side4 => exact (Kd.R_reads' HO494.out).2.1); rintro e w21 ⟨v497, v500, rfl, ho0, ho1, hb⟩; refine ⟨_, rfl, ?_⟩; have n0_ := zA (Kd.R_mono (Kd.R_told (Kd.R_told (Kd.R_old (uR HO491.out) hb) (Kd.R_base ho0)) (Kd.R_base ho1)) (fun _ h_ => h_.1)); have n1_ := zA (Kd.R_mono (Kd.R_told (Kd.R_told (Kd.R_old (uR HO494.out) hb) (Kd.R_base ho0)) (Kd.R_base ho1)) (fun _ h_ => h_.1)); have n2_ := zA (Kd.R_lower (Kd.R_new' (Kd.R_new' ho0 (Kd.R_lt (uR HO491.out))) (Kd.R_lt (uR HO494.out))) (below_size (uH HB.out))); have n3_ := zA (Kd.R_lower (Kd.R_new' (Kd.R_new' ho1 (Kd.R_lt (uR HO491.out))) (Kd.R_lt (uR HO494.out))) (below_size (uH HB.out))); have n4_ := xB BK486 hb; have n5_ := xH HB hb; clear HO491 HO494 BK486 HB; have HO491 := n0_; have HO494 := n1_; have HO498 := n2_; have HO501 := n3_; have BK486 := n4_; have HB := n5_; clear n0_ n1_ n2_ n3_ n4_ n5_; (try clear hb); (try clear hb2); (try clear hk); (try clear hi); (try clear ho0); (try clear ho1)) | ((with_reducible refine gate_dst (N := 8) rfl ?_); refine box_event ?hg (N := 8) ?hd (cs := #[.int .i64 0, .slice none 0 0, .slice none 0 0]) (t := 26) ?hr ?_; (case hd => rfl); (case hg => rfl); (case hr => first | (go_simp; done) | (go_simp; rfl)); intro gb503 hg w22 hbox hb; have n0_ := xR HO491 hb; have n1_ := xR HO494 hb; have n2_ := xR HO498 hb; have n3_ := xR HO501 hb; have n4_ := xB BK486 hb; have n5_ := xH HB hb; have n6_ := zA (hbox); have n7_ := zA ((by rw [hg]; exact (below_size (uH HB.out)) : w.heap.size ≤ gb503)); have n8_ := zA ((by rw [hg]; exact (below_size (uH HB.out)) : w.heap.size ≤ gb503)); have n9_ := zA ((by rw [hg]; exact neL BK486 : gb486 ≠ gb503)); have n10_ := zA ((by rw [hg]; exact neG BK486 : gb503 ≠ gb486)); clear HO491 HO494 HO498 HO501 BK486 HB; have HO491 := n0_; have HO494 := n1_; have HO498 := n2_; have HO501 := n3_; have BK486 := n4_; have HB := n5_; have BK503 := n6_; have GW503 := n7_; have GE503 := n8_; have := geI GE503; have NB486_503 := n9_; have NB503_486 := n10_; clear n0_ n1_ n2_ n3_ n4_ n5_ n6_ n7_ n8_ n9_ n10_ hb hbox hg; have hnb23 := NB503_486.out; have hnc23 := NB486_503.out; have hcz24_0 : w22.cell? ⟨gb503, 0, none⟩ = some (.int .i64 0) := (blk_cell BK503.out 0).trans rfl; have hcz24_1 : w22.cell? ⟨gb503, 1, none⟩ = some (.slice none 0 0) := (blk_cell BK503.out 1).trans rfl; have hcz24_2 : w22.cell? ⟨gb503, 2, none⟩ = some (.slice none 0 0) := (blk_cell BK503.out 2).trans rfl; have hfz24_0 := blk_frozen BK503.out 0; have hfz24_1 := blk_frozen BK503.out 1; have hfz24_2 := blk_frozen BK503.out 2; obtain ⟨Ao25, co25, eo25⟩ := Kd.R_slice HO498.out; subst eo25; obtain ⟨Ao26, co26, eo26⟩ := Kd.R_slice HO501.out; subst eo26; have hcz27_0 : w22.cell? ⟨gb486, 0, none⟩ = some (.int .i64 a0_0) := (blk_cell BK486.out 0).trans rfl; have hcz27_1 : w22.cell? ⟨gb486, 1, none⟩ = some (.slice A0_1 l0_1.length c0_1) := (blk_cell BK486.out 1).trans rfl; have hcz27_2 : w22.cell? ⟨gb486, 2, none⟩ = some (.slice A0_2 l0_2.length c0_2) := (blk_cell BK486.out 2).trans rfl; have hfz27_0 := blk_frozen BK486.out 0; have hfz27_1 := blk_frozen BK486.out 1; have hfz27_2 := blk_frozen BK486.out 2) | ((with_reducible refine gate_callee (f := 17) rfl ?_); refine goesL_ (some 32) rfl rfl Try.func17 (by kernel_rfl) rfl #[.agg #[.int .i64 a0_0, .slice A0_1 l0_1.length c0_1, .slice A0_2 l0_2.length c0_2]] rfl (by (try simp only [List.map_toArray, List.map_cons, List.map_nil]); first | done | rfl | (simp only [List.length_drop, List.length_take]; rfl)) ?_; (with_reducible refine (laws_toJacobi.calls k a0_0 _ _ l0_1 _ _ l0_2 t504 t505 t508 _ ?side1 ?side2 ?side3 ?side4 A11.out).mono ?_); (case side1 => exact Kd.C_below HR0_1.out (uH HB.out)); (case side2 => exact HC0_1.out); (case side3 => exact Kd.C_below HR0_2.out (uH HB.out)); (case side4 => exact HC0_2.out); rintro e w28 ⟨v506, v509, rfl, ho0, ho1, hb⟩; refine ⟨_, rfl, ?_⟩; have n0_ := zA (Kd.R_mono (Kd.R_told (Kd.R_told (Kd.R_old (uR ((Kd.R_mono (Kd.R_far (p := ⟨gb503, 2, none⟩) (Kd.R_far (p := ⟨gb503, 1, none⟩) (Kd.R_far (p := ⟨gb503, 0, none⟩) (Kd.R_types HO491.out BK503.out (by decide)) (fun _ hk => hk.2) (.int .i64 t495)) (fun _ hk => hk.2) (.slice Ao25 t496.length co25)) (fun _ hk => hk.2) (.slice Ao26 t499.length co26)) (fun _ h_ => h_.1)))) hb) (Kd.R_base ho0)) (Kd.R_base ho1)) (fun _ h_ => h_.1)); have n1_ := zA (Kd.R_mono (Kd.R_told (Kd.R_told (Kd.R_old (uR ((Kd.R_mono (Kd.R_far (p := ⟨gb503, 2, none⟩) (Kd.R_far (p := ⟨gb503, 1, none⟩) (Kd.R_far (p := ⟨gb503, 0, none⟩) (Kd.R_types HO494.out BK503.out (by decide)) (fun _ hk => hk.2) (.int .i64 t495)) (fun _ hk => hk.2) (.slice Ao25 t496.length co25)) (fun _ hk => hk.2) (.slice Ao26 t499.length co26)) (fun _ h_ => h_.1)))) hb) (Kd.R_base ho0)) (Kd.R_base ho1)) (fun _ h_ => h_.1)); have n2_ := zA (Kd.R_mono (Kd.R_told (Kd.R_told (Kd.R_old (uR ((Kd.R_mono (Kd.R_far (p := ⟨gb503, 2, none⟩) (Kd.R_far (p := ⟨gb503, 1, none⟩) (Kd.R_far (p := ⟨gb503, 0, none⟩) (Kd.R_types HO498.out BK503.out (by decide)) (fun _ hk => hk.2) (.int .i64 t495)) (fun _ hk => hk.2) (.slice Ao25 t496.length co25)) (fun _ hk => hk.2) (.slice Ao26 t499.length co26)) (fun _ h_ => h_.1)))) hb) (Kd.R_base ho0)) (Kd.R_base ho1)) (fun _ h_ => h_.1)); have n3_ := zA (Kd.R_mono (Kd.R_told (Kd.R_told (Kd.R_old (uR ((Kd.R_mono (Kd.R_far (p := ⟨gb503, 2, none⟩) (Kd.R_far (p := ⟨gb503, 1, none⟩) (Kd.R_far (p := ⟨gb503, 0, none⟩) (Kd.R_types HO501.out BK503.out (by decide)) (fun _ hk => hk.2) (.int .i64 t495)) (fun _ hk => hk.2) (.slice Ao25 t496.length co25)) (fun _ hk => hk.2) (.slice Ao26 t499.length co26)) (fun _ h_ => h_.1)))) hb) (Kd.R_base ho0)) (Kd.R_base ho1)) (fun _ h_ => h_.1)); have n4_ := zA (Kd.R_lower (Kd.R_new' (Kd.R_new' (Kd.R_new' (Kd.R_new' ho0 (Kd.R_lt (uR ((Kd.R_mono (Kd.R_far (p := ⟨gb503, 2, none⟩) (Kd.R_far (p := ⟨gb503, 1, none⟩) (Kd.R_far (p := ⟨gb503, 0, none⟩) (Kd.R_types HO491.out BK503.out (by decide)) (fun _ hk => hk.2) (.int .i64 t495)) (fun _ hk => hk.2) (.slice Ao25 t496.length co25)) (fun _ hk => hk.2) (.slice Ao26 t499.length co26)) (fun _ h_ => h_.1)))))) (Kd.R_lt (uR ((Kd.R_mono (Kd.R_far (p := ⟨gb503, 2, none⟩) (Kd.R_far (p := ⟨gb503, 1, none⟩) (Kd.R_far (p := ⟨gb503, 0, none⟩) (Kd.R_types HO494.out BK503.out (by decide)) (fun _ hk => hk.2) (.int .i64 t495)) (fun _ hk => hk.2) (.slice Ao25 t496.length co25)) (fun _ hk => hk.2) (.slice Ao26 t499.length co26)) (fun _ h_ => h_.1)))))) (Kd.R_lt (uR ((Kd.R_mono (Kd.R_far (p := ⟨gb503, 2, none⟩) (Kd.R_far (p := ⟨gb503, 1, none⟩) (Kd.R_far (p := ⟨gb503, 0, none⟩) (Kd.R_types HO498.out BK503.out (by decide)) (fun _ hk => hk.2) (.int .i64 t495)) (fun _ hk => hk.2) (.slice Ao25 t496.length co25)) (fun _ hk => hk.2) (.slice Ao26 t499.length co26)) (fun _ h_ => h_.1)))))) (Kd.R_lt (uR ((Kd.R_mono (Kd.R_far (p := ⟨gb503, 2, none⟩) (Kd.R_far (p := ⟨gb503, 1, none⟩) (Kd.R_far (p := ⟨gb503, 0, none⟩) (Kd.R_types HO501.out BK503.out (by decide)) (fun _ hk => hk.2) (.int .i64 t495)) (fun _ hk => hk.2) (.slice Ao25 t496.length co25)) (fun _ hk => hk.2) (.slice Ao26 t499.length co26)) (fun _ h_ => h_.1)))))) (below_size (uH HB.out))); have n5_ := zA (Kd.R_lower (Kd.R_new' (Kd.R_new' (Kd.R_new' (Kd.R_new' ho1 (Kd.R_lt (uR ((Kd.R_mono (Kd.R_far (p := ⟨gb503, 2, none⟩) (Kd.R_far (p := ⟨gb503, 1, none⟩) (Kd.R_far (p := ⟨gb503, 0, none⟩) (Kd.R_types HO491.out BK503.out (by decide)) (fun _ hk => hk.2) (.int .i64 t495)) (fun _ hk => hk.2) (.slice Ao25 t496.length co25)) (fun _ hk => hk.2) (.slice Ao26 t499.length co26)) (fun _ h_ => h_.1)))))) (Kd.R_lt (uR ((Kd.R_mono (Kd.R_far (p := ⟨gb503, 2, none⟩) (Kd.R_far (p := ⟨gb503, 1, none⟩) (Kd.R_far (p := ⟨gb503, 0, none⟩) (Kd.R_types HO494.out BK503.out (by decide)) (fun _ hk => hk.2) (.int .i64 t495)) (fun _ hk => hk.2) (.slice Ao25 t496.length co25)) (fun _ hk => hk.2) (.slice Ao26 t499.length co26)) (fun _ h_ => h_.1)))))) (Kd.R_lt (uR ((Kd.R_mono (Kd.R_far (p := ⟨gb503, 2, none⟩) (Kd.R_far (p := ⟨gb503, 1, none⟩) (Kd.R_far (p := ⟨gb503, 0, none⟩) (Kd.R_types HO498.out BK503.out (by decide)) (fun _ hk => hk.2) (.int .i64 t495)) (fun _ hk => hk.2) (.slice Ao25 t496.length co25)) (fun _ hk => hk.2) (.slice Ao26 t499.length co26)) (fun _ h_ => h_.1)))))) (Kd.R_lt (uR ((Kd.R_mono (Kd.R_far (p := ⟨gb503, 2, none⟩) (Kd.R_far (p := ⟨gb503, 1, none⟩) (Kd.R_far (p := ⟨gb503, 0, none⟩) (Kd.R_types HO501.out BK503.out (by decide)) (fun _ hk => hk.2) (.int .i64 t495)) (fun _ hk => hk.2) (.slice Ao25 t496.length co25)) (fun _ hk => hk.2) (.slice Ao26 t499.length co26)) (fun _ h_ => h_.1)))))) (below_size (uH HB.out))); have n6_ := zA (blk_below (g := gb486) (o := .cells #[.int .i64 a0_0, .slice A0_1 l0_1.length c0_1, .slice A0_2 l0_2.length c0_2] 24 (0, 0)) (by (with_reducible repeat (first | refine blk_drewN ?_ _ | refine blk_drew ?_ | refine blk_alloc ?_ _)); refine blk_far ?_ NB486_503.out _; (with_reducible repeat (first | refine blk_drewN ?_ _ | refine blk_drew ?_ | refine blk_alloc ?_ _)); refine blk_far ?_ NB486_503.out _; (with_reducible repeat (first | refine blk_drewN ?_ _ | refine blk_drew ?_ | refine blk_alloc ?_ _)); refine blk_far ?_ NB486_503.out _; (with_reducible repeat (first | refine blk_drewN ?_ _ | refine blk_drew ?_ | refine blk_alloc ?_ _)); exact BK486.out) hb); have n7_ := zA (blk_below (g := gb503) (o := .cells #[.int .i64 t495, .slice Ao25 t496.length co25, .slice Ao26 t499.length co26] 26 (0, 0)) (by (with_reducible repeat (first | refine blk_drewN ?_ _ | refine blk_drew ?_ | refine blk_alloc ?_ _)); refine blk_put (cs := #[.int .i64 t495, .slice Ao25 t496.length co25, .slice none 0 0]) ?_ 2 _ rfl; (with_reducible repeat (first | refine blk_drewN ?_ _ | refine blk_drew ?_ | refine blk_alloc ?_ _)); refine blk_put (cs := #[.int .i64 t495, .slice none 0 0, .slice none 0 0]) ?_ 1 _ rfl; (with_reducible repeat (first | refine blk_drewN ?_ _ | refine blk_drew ?_ | refine blk_alloc ?_ _)); refine blk_put (cs := #[.int .i64 0, .slice none 0 0, .slice none 0 0]) ?_ 0 _ rfl; (with_reducible repeat (first | refine blk_drewN ?_ _ | refine blk_drew ?_ | refine blk_alloc ?_ _)); exact BK503.out) hb); have n8_ := xH HB hb; clear HO491 HO494 HO498 HO501 BK486 BK503 HB; have HO491 := n0_; have HO494 := n1_; have HO498 := n2_; have HO501 := n3_; have HO507 := n4_; have HO510 := n5_; have BK486 := n6_; have BK503 := n7_; have HB := n8_; clear n0_ n1_ n2_ n3_ n4_ n5_ n6_ n7_ n8_; (try clear hb); (try clear hb2); (try clear hk); (try clear hi); (try clear ho0); (try clear ho1)) | ((with_reducible refine gate_dst (N := 10) rfl ?_); refine box_event ?hg (N := 10) ?hd (cs := #[.int .i64 0, .slice none 0 0, .slice none 0 0]) (t := 26) ?hr ?_; (case hd => rfl); (case hg => rfl); (case hr => first | (go_simp; done) | (go_simp; rfl)); intro gb511 hg w29 hbox hb; have n0_ := xR HO491 hb; have n1_ := xR HO494 hb; have n2_ := xR HO498 hb; have n3_ := xR HO501 hb; have n4_ := xR HO507 hb; have n5_ := xR HO510 hb; have n6_ := xB BK486 hb; have n7_ := xB BK503 hb; have n8_ := xH HB hb; have n9_ := zA (hbox); have n10_ := zA ((by rw [hg]; exact (below_size (uH HB.out)) : w.heap.size ≤ gb511)); have n11_ := zA ((by rw [hg]; exact (below_size (uH HB.out)) : w.heap.size ≤ gb511)); have n12_ := zA ((by rw [hg]; exact neL BK486 : gb486 ≠ gb511)); have n13_ := zA ((by rw [hg]; exact neG BK486 : gb511 ≠ gb486)); have n14_ := zA ((by rw [hg]; exact neL BK503 : gb503 ≠ gb511)); have n15_ := zA ((by rw [hg]; exact neG BK503 : gb511 ≠ gb503)); clear HO491 HO494 HO498 HO501 HO507 HO510 BK486 BK503 HB; have HO491 := n0_; have HO494 := n1_; have HO498 := n2_; have HO501 := n3_; have HO507 := n4_; have HO510 := n5_; have BK486 := n6_; have BK503 := n7_; have HB := n8_; have BK511 := n9_; have GW511 := n10_; have GE511 := n11_; have := geI GE511; have NB486_511 := n12_; have NB511_486 := n13_; have NB503_511 := n14_; have NB511_503 := n15_; clear n0_ n1_ n2_ n3_ n4_ n5_ n6_ n7_ n8_ n9_ n10_ n11_ n12_ n13_ n14_ n15_ hb hbox hg; have hnb30 := NB511_486.out; have hnc30 := NB486_511.out; have hnb31 := NB511_503.out; have hnc31 := NB503_511.out; have hcz32_0 : w29.cell? ⟨gb511, 0, none⟩ = some (.int .i64 0) := (blk_cell BK511.out 0).trans rfl; have hcz32_1 : w29.cell? ⟨gb511, 1, none⟩ = some (.slice none 0 0) := (blk_cell BK511.out 1).trans rfl; have hcz32_2 : w29.cell? ⟨gb511, 2, none⟩ = some (.slice none 0 0) := (blk_cell BK511.out 2).trans rfl; have hfz32_0 := blk_frozen BK511.out 0; have hfz32_1 := blk_frozen BK511.out 1; have hfz32_2 := blk_frozen BK511.out 2; obtain ⟨Ao33, co33, eo33⟩ := Kd.R_slice HO507.out; subst eo33; obtain ⟨Ao34, co34, eo34⟩ := Kd.R_slice HO510.out; subst eo34) | ((with_reducible refine gate_callee (f := 27) rfl ?_); refine goesL_ (some 37) rfl rfl Try.func27 (by kernel_rfl) rfl #[.agg #[.int .i64 t504, .slice Ao33 t505.length co33, .slice Ao34 t508.length co34], .int .i64 a1, .int .i64 a2] rfl (by (try simp only [List.map_toArray, List.map_cons, List.map_nil]); first | done | rfl | (simp only [List.length_drop, List.length_take]; rfl)) ?_; (with_reducible refine (impl_AffineJacobi.calls k t504 _ _ t505 _ _ t508 a1 a2 t512 t513 t516 t519 _ ?side1 ?side2 ?side3 ?side4 A12.out).mono ?_); (case side1 => refine (Kd.R_reads' (e := 2) (base := w.heap.size) (ok := fun k_ => ((((some k_ ≠ (.slice Ao34 t508.length co34 : Value).ownBlock ∧ some k_ ≠ (.slice Ao19 t489.length co19 : Value).ownBlock) ∧ some k_ ≠ (.slice Ao20 t492.length co20 : Value).ownBlock) ∧ some k_ ≠ (.slice Ao25 t496.length co25 : Value).ownBlock) ∧ some k_ ≠ (.slice Ao26 t499.length co26 : Value).ownBlock)) (n := t505.length) (c := co33) ?_).2.2; exact (uR ((Kd.R_mono (Kd.R_far (p := ⟨gb511, 2, none⟩) (Kd.R_far (p := ⟨gb511, 1, none⟩) (Kd.R_far (p := ⟨gb511, 0, none⟩) (Kd.R_types HO507.out BK511.out (by decide)) (fun _ hk => hk.2) (.int .i64 t504)) (fun _ hk => hk.2) (.slice Ao33 t505.length co33)) (fun _ hk => hk.2) (.slice Ao34 t508.length co34)) (fun _ h_ => h_.1))))); (case side2 => exact (Kd.R_reads' HO507.out).2.1); (case side3 => refine (Kd.R_reads' (e := 2) (base := w.heap.size) (ok := fun k_ => ((((some k_ ≠ (.slice Ao33 t505.length co33 : Value).ownBlock ∧ some k_ ≠ (.slice Ao19 t489.length co19 : Value).ownBlock) ∧ some k_ ≠ (.slice Ao20 t492.length co20 : Value).ownBlock) ∧ some k_ ≠ (.slice Ao25 t496.length co25 : Value).ownBlock) ∧ some k_ ≠ (.slice Ao26 t499.length co26 : Value).ownBlock)) (n := t508.length) (c := co34) ?_).2.2; exact (uR ((Kd.R_mono (Kd.R_far (p := ⟨gb511, 2, none⟩) (Kd.R_far (p := ⟨gb511, 1, none⟩) (Kd.R_far (p := ⟨gb511, 0, none⟩) (Kd.R_types HO510.out BK511.out (by decide)) (fun _ hk => hk.2) (.int .i64 t504)) (fun _ hk => hk.2) (.slice Ao33 t505.length co33)) (fun _ hk => hk.2) (.slice Ao34 t508.length co34)) (fun _ h_ => h_.1))))); (case side4 => exact (Kd.R_reads' HO510.out).2.1); rintro e w35 ⟨v514, v517, rfl, ho0, ho1, hb⟩; refine ⟨_, rfl, ?_⟩; have n0_ := zA (Kd.R_mono (Kd.R_told (Kd.R_told (Kd.R_old (uR ((Kd.R_mono (Kd.R_far (p := ⟨gb511, 2, none⟩) (Kd.R_far (p := ⟨gb511, 1, none⟩) (Kd.R_far (p := ⟨gb511, 0, none⟩) (Kd.R_types HO491.out BK511.out (by decide)) (fun _ hk => hk.2) (.int .i64 t504)) (fun _ hk => hk.2) (.slice Ao33 t505.length co33)) (fun _ hk => hk.2) (.slice Ao34 t508.length co34)) (fun _ h_ => h_.1)))) hb) (Kd.R_base ho0)) (Kd.R_base ho1)) (fun _ h_ => h_.1)); have n1_ := zA (Kd.R_mono (Kd.R_told (Kd.R_told (Kd.R_old (uR ((Kd.R_mono (Kd.R_far (p := ⟨gb511, 2, none⟩) (Kd.R_far (p := ⟨gb511, 1, none⟩) (Kd.R_far (p := ⟨gb511, 0, none⟩) (Kd.R_types HO494.out BK511.out (by decide)) (fun _ hk => hk.2) (.int .i64 t504)) (fun _ hk => hk.2) (.slice Ao33 t505.length co33)) (fun _ hk => hk.2) (.slice Ao34 t508.length co34)) (fun _ h_ => h_.1)))) hb) (Kd.R_base ho0)) (Kd.R_base ho1)) (fun _ h_ => h_.1)); have n2_ := zA (Kd.R_mono (Kd.R_told (Kd.R_told (Kd.R_old (uR ((Kd.R_mono (Kd.R_far (p := ⟨gb511, 2, none⟩) (Kd.R_far (p := ⟨gb511, 1, none⟩) (Kd.R_far (p := ⟨gb511, 0, none⟩) (Kd.R_types HO498.out BK511.out (by decide)) (fun _ hk => hk.2) (.int .i64 t504)) (fun _ hk => hk.2) (.slice Ao33 t505.length co33)) (fun _ hk => hk.2) (.slice Ao34 t508.length co34)) (fun _ h_ => h_.1)))) hb) (Kd.R_base ho0)) (Kd.R_base ho1)) (fun _ h_ => h_.1)); have n3_ := zA (Kd.R_mono (Kd.R_told (Kd.R_told (Kd.R_old (uR ((Kd.R_mono (Kd.R_far (p := ⟨gb511, 2, none⟩) (Kd.R_far (p := ⟨gb511, 1, none⟩) (Kd.R_far (p := ⟨gb511, 0, none⟩) (Kd.R_types HO501.out BK511.out (by decide)) (fun _ hk => hk.2) (.int .i64 t504)) (fun _ hk => hk.2) (.slice Ao33 t505.length co33)) (fun _ hk => hk.2) (.slice Ao34 t508.length co34)) (fun _ h_ => h_.1)))) hb) (Kd.R_base ho0)) (Kd.R_base ho1)) (fun _ h_ => h_.1)); have n4_ := zA (Kd.R_mono (Kd.R_told (Kd.R_told (Kd.R_old (uR ((Kd.R_mono (Kd.R_far (p := ⟨gb511, 2, none⟩) (Kd.R_far (p := ⟨gb511, 1, none⟩) (Kd.R_far (p := ⟨gb511, 0, none⟩) (Kd.R_types HO507.out BK511.out (by decide)) (fun _ hk => hk.2) (.int .i64 t504)) (fun _ hk => hk.2) (.slice Ao33 t505.length co33)) (fun _ hk => hk.2) (.slice Ao34 t508.length co34)) (fun _ h_ => h_.1)))) hb) (Kd.R_base ho0)) (Kd.R_base ho1)) (fun _ h_ => h_.1)); have n5_ := zA (Kd.R_mono (Kd.R_told (Kd.R_told (Kd.R_old (uR ((Kd.R_mono (Kd.R_far (p := ⟨gb511, 2, none⟩) (Kd.R_far (p := ⟨gb511, 1, none⟩) (Kd.R_far (p := ⟨gb511, 0, none⟩) (Kd.R_types HO510.out BK511.out (by decide)) (fun _ hk => hk.2) (.int .i64 t504)) (fun _ hk => hk.2) (.slice Ao33 t505.length co33)) (fun _ hk => hk.2) (.slice Ao34 t508.length co34)) (fun _ h_ => h_.1)))) hb) (Kd.R_base ho0)) (Kd.R_base ho1)) (fun _ h_ => h_.1)); have n6_ := zA (Kd.R_lower (Kd.R_new' (Kd.R_new' (Kd.R_new' (Kd.R_new' (Kd.R_new' (Kd.R_new' ho0 (Kd.R_lt (uR ((Kd.R_mono (Kd.R_far (p := ⟨gb511, 2, none⟩) (Kd.R_far (p := ⟨gb511, 1, none⟩) (Kd.R_far (p := ⟨gb511, 0, none⟩) (Kd.R_types HO491.out BK511.out (by decide)) (fun _ hk => hk.2) (.int .i64 t504)) (fun _ hk => hk.2) (.slice Ao33 t505.length co33)) (fun _ hk => hk.2) (.slice Ao34 t508.length co34)) (fun _ h_ => h_.1)))))) (Kd.R_lt (uR ((Kd.R_mono (Kd.R_far (p := ⟨gb511, 2, none⟩) (Kd.R_far (p := ⟨gb511, 1, none⟩) (Kd.R_far (p := ⟨gb511, 0, none⟩) (Kd.R_types HO494.out BK511.out (by decide)) (fun _ hk => hk.2) (.int .i64 t504)) (fun _ hk => hk.2) (.slice Ao33 t505.length co33)) (fun _ hk => hk.2) (.slice Ao34 t508.length co34)) (fun _ h_ => h_.1)))))) (Kd.R_lt (uR ((Kd.R_mono (Kd.R_far (p := ⟨gb511, 2, none⟩) (Kd.R_far (p := ⟨gb511, 1, none⟩) (Kd.R_far (p := ⟨gb511, 0, none⟩) (Kd.R_types HO498.out BK511.out (by decide)) (fun _ hk => hk.2) (.int .i64 t504)) (fun _ hk => hk.2) (.slice Ao33 t505.length co33)) (fun _ hk => hk.2) (.slice Ao34 t508.length co34)) (fun _ h_ => h_.1)))))) (Kd.R_lt (uR ((Kd.R_mono (Kd.R_far (p := ⟨gb511, 2, none⟩) (Kd.R_far (p := ⟨gb511, 1, none⟩) (Kd.R_far (p := ⟨gb511, 0, none⟩) (Kd.R_types HO501.out BK511.out (by decide)) (fun _ hk => hk.2) (.int .i64 t504)) (fun _ hk => hk.2) (.slice Ao33 t505.length co33)) (fun _ hk => hk.2) (.slice Ao34 t508.length co34)) (fun _ h_ => h_.1)))))) (Kd.R_lt (uR ((Kd.R_mono (Kd.R_far (p := ⟨gb511, 2, none⟩) (Kd.R_far (p := ⟨gb511, 1, none⟩) (Kd.R_far (p := ⟨gb511, 0, none⟩) (Kd.R_types HO507.out BK511.out (by decide)) (fun _ hk => hk.2) (.int .i64 t504)) (fun _ hk => hk.2) (.slice Ao33 t505.length co33)) (fun _ hk => hk.2) (.slice Ao34 t508.length co34)) (fun _ h_ => h_.1)))))) (Kd.R_lt (uR ((Kd.R_mono (Kd.R_far (p := ⟨gb511, 2, none⟩) (Kd.R_far (p := ⟨gb511, 1, none⟩) (Kd.R_far (p := ⟨gb511, 0, none⟩) (Kd.R_types HO510.out BK511.out (by decide)) (fun _ hk => hk.2) (.int .i64 t504)) (fun _ hk => hk.2) (.slice Ao33 t505.length co33)) (fun _ hk => hk.2) (.slice Ao34 t508.length co34)) (fun _ h_ => h_.1)))))) (below_size (uH HB.out))); have n7_ := zA (Kd.R_lower (Kd.R_new' (Kd.R_new' (Kd.R_new' (Kd.R_new' (Kd.R_new' (Kd.R_new' ho1 (Kd.R_lt (uR ((Kd.R_mono (Kd.R_far (p := ⟨gb511, 2, none⟩) (Kd.R_far (p := ⟨gb511, 1, none⟩) (Kd.R_far (p := ⟨gb511, 0, none⟩) (Kd.R_types HO491.out BK511.out (by decide)) (fun _ hk => hk.2) (.int .i64 t504)) (fun _ hk => hk.2) (.slice Ao33 t505.length co33)) (fun _ hk => hk.2) (.slice Ao34 t508.length co34)) (fun _ h_ => h_.1)))))) (Kd.R_lt (uR ((Kd.R_mono (Kd.R_far (p := ⟨gb511, 2, none⟩) (Kd.R_far (p := ⟨gb511, 1, none⟩) (Kd.R_far (p := ⟨gb511, 0, none⟩) (Kd.R_types HO494.out BK511.out (by decide)) (fun _ hk => hk.2) (.int .i64 t504)) (fun _ hk => hk.2) (.slice Ao33 t505.length co33)) (fun _ hk => hk.2) (.slice Ao34 t508.length co34)) (fun _ h_ => h_.1)))))) (Kd.R_lt (uR ((Kd.R_mono (Kd.R_far (p := ⟨gb511, 2, none⟩) (Kd.R_far (p := ⟨gb511, 1, none⟩) (Kd.R_far (p := ⟨gb511, 0, none⟩) (Kd.R_types HO498.out BK511.out (by decide)) (fun _ hk => hk.2) (.int .i64 t504)) (fun _ hk => hk.2) (.slice Ao33 t505.length co33)) (fun _ hk => hk.2) (.slice Ao34 t508.length co34)) (fun _ h_ => h_.1)))))) (Kd.R_lt (uR ((Kd.R_mono (Kd.R_far (p := ⟨gb511, 2, none⟩) (Kd.R_far (p := ⟨gb511, 1, none⟩) (Kd.R_far (p := ⟨gb511, 0, none⟩) (Kd.R_types HO501.out BK511.out (by decide)) (fun _ hk => hk.2) (.int .i64 t504)) (fun _ hk => hk.2) (.slice Ao33 t505.length co33)) (fun _ hk => hk.2) (.slice Ao34 t508.length co34)) (fun _ h_ => h_.1)))))) (Kd.R_lt (uR ((Kd.R_mono (Kd.R_far (p := ⟨gb511, 2, none⟩) (Kd.R_far (p := ⟨gb511, 1, none⟩) (Kd.R_far (p := ⟨gb511, 0, none⟩) (Kd.R_types HO507.out BK511.out (by decide)) (fun _ hk => hk.2) (.int .i64 t504)) (fun _ hk => hk.2) (.slice Ao33 t505.length co33)) (fun _ hk => hk.2) (.slice Ao34 t508.length co34)) (fun _ h_ => h_.1)))))) (Kd.R_lt (uR ((Kd.R_mono (Kd.R_far (p := ⟨gb511, 2, none⟩) (Kd.R_far (p := ⟨gb511, 1, none⟩) (Kd.R_far (p := ⟨gb511, 0, none⟩) (Kd.R_types HO510.out BK511.out (by decide)) (fun _ hk => hk.2) (.int .i64 t504)) (fun _ hk => hk.2) (.slice Ao33 t505.length co33)) (fun _ hk => hk.2) (.slice Ao34 t508.length co34)) (fun _ h_ => h_.1)))))) (below_size (uH HB.out))); have n8_ := zA (blk_below (g := gb486) (o := .cells #[.int .i64 a0_0, .slice A0_1 l0_1.length c0_1, .slice A0_2 l0_2.length c0_2] 24 (0, 0)) (by (with_reducible repeat (first | refine blk_drewN ?_ _ | refine blk_drew ?_ | refine blk_alloc ?_ _)); refine blk_far ?_ NB486_511.out _; (with_reducible repeat (first | refine blk_drewN ?_ _ | refine blk_drew ?_ | refine blk_alloc ?_ _)); refine blk_far ?_ NB486_511.out _; (with_reducible repeat (first | refine blk_drewN ?_ _ | refine blk_drew ?_ | refine blk_alloc ?_ _)); refine blk_far ?_ NB486_511.out _; (with_reducible repeat (first | refine blk_drewN ?_ _ | refine blk_drew ?_ | refine blk_alloc ?_ _)); exact BK486.out) hb); have n9_ := zA (blk_below (g := gb503) (o := .cells #[.int .i64 t495, .slice Ao25 t496.length co25, .slice Ao26 t499.length co26] 26 (0, 0)) (by (with_reducible repeat (first | refine blk_drewN ?_ _ | refine blk_drew ?_ | refine blk_alloc ?_ _)); refine blk_far ?_ NB503_511.out _; (with_reducible repeat (first | refine blk_drewN ?_ _ | refine blk_drew ?_ | refine blk_alloc ?_ _)); refine blk_far ?_ NB503_511.out _; (with_reducible repeat (first | refine blk_drewN ?_ _ | refine blk_drew ?_ | refine blk_alloc ?_ _)); refine blk_far ?_ NB503_511.out _; (with_reducible repeat (first | refine blk_drewN ?_ _ | refine blk_drew ?_ | refine blk_alloc ?_ _)); exact BK503.out) hb); have n10_ := zA (blk_below (g := gb511) (o := .cells #[.int .i64 t504, .slice Ao33 t505.length co33, .slice Ao34 t508.length co34] 26 (0, 0)) (by (with_reducible repeat (first | refine blk_drewN ?_ _ | refine blk_drew ?_ | refine blk_alloc ?_ _)); refine blk_put (cs := #[.int .i64 t504, .slice Ao33 t505.length co33, .slice none 0 0]) ?_ 2 _ rfl; (with_reducible repeat (first | refine blk_drewN ?_ _ | refine blk_drew ?_ | refine blk_alloc ?_ _)); refine blk_put (cs := #[.int .i64 t504, .slice none 0 0, .slice none 0 0]) ?_ 1 _ rfl; (with_reducible repeat (first | refine blk_drewN ?_ _ | refine blk_drew ?_ | refine blk_alloc ?_ _)); refine blk_put (cs := #[.int .i64 0, .slice none 0 0, .slice none 0 0]) ?_ 0 _ rfl; (with_reducible repeat (first | refine blk_drewN ?_ _ | refine blk_drew ?_ | refine blk_alloc ?_ _)); exact BK511.out) hb); have n11_ := xH HB hb; clear HO491 HO494 HO498 HO501 HO507 HO510 BK486 BK503 BK511 HB; have HO491 := n0_; have HO494 := n1_; have HO498 := n2_; have HO501 := n3_; have HO507 := n4_; have HO510 := n5_; have HO515 := n6_; have HO518 := n7_; have BK486 := n8_; have BK503 := n9_; have BK511 := n10_; have HB := n11_; clear n0_ n1_ n2_ n3_ n4_ n5_ n6_ n7_ n8_ n9_ n10_ n11_; (try clear hb); (try clear hb2); (try clear hk); (try clear hi); (try clear ho0); (try clear ho1)) | ((with_reducible refine gate_dst (N := 11) rfl ?_); refine box_event ?hg (N := 11) ?hd (cs := #[.int .i64 0, .slice none 0 0, .slice none 0 0]) (t := 26) ?hr ?_; (case hd => rfl); (case hg => rfl); (case hr => first | (go_simp; done) | (go_simp; rfl)); intro gb520 hg w36 hbox hb; have n0_ := xR HO491 hb; have n1_ := xR HO494 hb; have n2_ := xR HO498 hb; have n3_ := xR HO501 hb; have n4_ := xR HO507 hb; have n5_ := xR HO510 hb; have n6_ := xR HO515 hb; have n7_ := xR HO518 hb; have n8_ := xB BK486 hb; have n9_ := xB BK503 hb; have n10_ := xB BK511 hb; have n11_ := xH HB hb; have n12_ := zA (hbox); have n13_ := zA ((by rw [hg]; exact (below_size (uH HB.out)) : w.heap.size ≤ gb520)); have n14_ := zA ((by rw [hg]; exact (below_size (uH HB.out)) : w.heap.size ≤ gb520)); have n15_ := zA ((by rw [hg]; exact neL BK486 : gb486 ≠ gb520)); have n16_ := zA ((by rw [hg]; exact neG BK486 : gb520 ≠ gb486)); have n17_ := zA ((by rw [hg]; exact neL BK503 : gb503 ≠ gb520)); have n18_ := zA ((by rw [hg]; exact neG BK503 : gb520 ≠ gb503)); have n19_ := zA ((by rw [hg]; exact neL BK511 : gb511 ≠ gb520)); have n20_ := zA ((by rw [hg]; exact neG BK511 : gb520 ≠ gb511)); clear HO491 HO494 HO498 HO501 HO507 HO510 HO515 HO518 BK486 BK503 BK511 HB; have HO491 := n0_; have HO494 := n1_; have HO498 := n2_; have HO501 := n3_; have HO507 := n4_; have HO510 := n5_; have HO515 := n6_; have HO518 := n7_; have BK486 := n8_; have BK503 := n9_; have BK511 := n10_; have HB := n11_; have BK520 := n12_; have GW520 := n13_; have GE520 := n14_; have := geI GE520; have NB486_520 := n15_; have NB520_486 := n16_; have NB503_520 := n17_; have NB520_503 := n18_; have NB511_520 := n19_; have NB520_511 := n20_; clear n0_ n1_ n2_ n3_ n4_ n5_ n6_ n7_ n8_ n9_ n10_ n11_ n12_ n13_ n14_ n15_ n16_ n17_ n18_ n19_ n20_ hb hbox hg; have hnb37 := NB520_486.out; have hnc37 := NB486_520.out; have hnb38 := NB520_503.out; have hnc38 := NB503_520.out; have hnb39 := NB520_511.out; have hnc39 := NB511_520.out; have hcz40_0 : w36.cell? ⟨gb520, 0, none⟩ = some (.int .i64 0) := (blk_cell BK520.out 0).trans rfl; have hcz40_1 : w36.cell? ⟨gb520, 1, none⟩ = some (.slice none 0 0) := (blk_cell BK520.out 1).trans rfl; have hcz40_2 : w36.cell? ⟨gb520, 2, none⟩ = some (.slice none 0 0) := (blk_cell BK520.out 2).trans rfl; have hfz40_0 := blk_frozen BK520.out 0; have hfz40_1 := blk_frozen BK520.out 1; have hfz40_2 := blk_frozen BK520.out 2; obtain ⟨Ao41, co41, eo41⟩ := Kd.R_slice HO515.out; subst eo41; obtain ⟨Ao42, co42, eo42⟩ := Kd.R_slice HO518.out; subst eo42))
  (try simp only [Act.put, List.setIfInBounds_toArray, List.set_cons_zero, List.set_cons_succ])
  go_cut [48] (fun v48 wc => ∃ (kq : Nat) (x48_12 : Bool), v48 = .bool x48_12 ∧ Aside0 (laws_FnExactAffineJacobi.j0 kq a1 a2 t502 t519 x48_12 a0_0 l0_1 l0_2 t495 t496 t499 t504 t505 t508 t512 t513 t516 = some r) ∧ Aside0 (kq ≤ k) ∧ Aside0 (Kd.R (Kd.int .i64) 2 wc w.heap.size (fun k_ => some k_ ≠ ((.slice Ao26 t499.length co26) : Value).ownBlock ∧ some k_ ≠ ((.slice Ao33 t505.length co33) : Value).ownBlock ∧ some k_ ≠ ((.slice Ao34 t508.length co34) : Value).ownBlock ∧ some k_ ≠ ((.slice Ao41 t513.length co41) : Value).ownBlock ∧ some k_ ≠ ((.slice Ao42 t516.length co42) : Value).ownBlock) (.slice Ao25 t496.length co25) t496) ∧ Aside0 (Kd.R (Kd.int .i64) 2 wc w.heap.size (fun k_ => some k_ ≠ ((.slice Ao25 t496.length co25) : Value).ownBlock ∧ some k_ ≠ ((.slice Ao33 t505.length co33) : Value).ownBlock ∧ some k_ ≠ ((.slice Ao34 t508.length co34) : Value).ownBlock ∧ some k_ ≠ ((.slice Ao41 t513.length co41) : Value).ownBlock ∧ some k_ ≠ ((.slice Ao42 t516.length co42) : Value).ownBlock) (.slice Ao26 t499.length co26) t499) ∧ Aside0 (Kd.R (Kd.int .i64) 2 wc w.heap.size (fun k_ => some k_ ≠ ((.slice Ao25 t496.length co25) : Value).ownBlock ∧ some k_ ≠ ((.slice Ao26 t499.length co26) : Value).ownBlock ∧ some k_ ≠ ((.slice Ao34 t508.length co34) : Value).ownBlock ∧ some k_ ≠ ((.slice Ao41 t513.length co41) : Value).ownBlock ∧ some k_ ≠ ((.slice Ao42 t516.length co42) : Value).ownBlock) (.slice Ao33 t505.length co33) t505) ∧ Aside0 (Kd.R (Kd.int .i64) 2 wc w.heap.size (fun k_ => some k_ ≠ ((.slice Ao25 t496.length co25) : Value).ownBlock ∧ some k_ ≠ ((.slice Ao26 t499.length co26) : Value).ownBlock ∧ some k_ ≠ ((.slice Ao33 t505.length co33) : Value).ownBlock ∧ some k_ ≠ ((.slice Ao41 t513.length co41) : Value).ownBlock ∧ some k_ ≠ ((.slice Ao42 t516.length co42) : Value).ownBlock) (.slice Ao34 t508.length co34) t508) ∧ Aside0 (Kd.R (Kd.int .i64) 2 wc w.heap.size (fun k_ => some k_ ≠ ((.slice Ao25 t496.length co25) : Value).ownBlock ∧ some k_ ≠ ((.slice Ao26 t499.length co26) : Value).ownBlock ∧ some k_ ≠ ((.slice Ao33 t505.length co33) : Value).ownBlock ∧ some k_ ≠ ((.slice Ao34 t508.length co34) : Value).ownBlock ∧ some k_ ≠ ((.slice Ao42 t516.length co42) : Value).ownBlock) (.slice Ao41 t513.length co41) t513) ∧ Aside0 (Kd.R (Kd.int .i64) 2 wc w.heap.size (fun k_ => some k_ ≠ ((.slice Ao25 t496.length co25) : Value).ownBlock ∧ some k_ ≠ ((.slice Ao26 t499.length co26) : Value).ownBlock ∧ some k_ ≠ ((.slice Ao33 t505.length co33) : Value).ownBlock ∧ some k_ ≠ ((.slice Ao34 t508.length co34) : Value).ownBlock ∧ some k_ ≠ ((.slice Ao41 t513.length co41) : Value).ownBlock) (.slice Ao42 t516.length co42) t516) ∧ Aside0 (wc.heap[gb486]? = some (.cells #[.int .i64 a0_0, (.slice A0_1 l0_1.length c0_1), (.slice A0_2 l0_2.length c0_2)] 24 (0, 0))) ∧ Aside0 (wc.heap[gb503]? = some (.cells #[.int .i64 t495, (.slice Ao25 t496.length co25), (.slice Ao26 t499.length co26)] 26 (0, 0))) ∧ Aside0 (wc.heap[gb511]? = some (.cells #[.int .i64 t504, (.slice Ao33 t505.length co33), (.slice Ao34 t508.length co34)] 26 (0, 0))) ∧ Aside0 (wc.heap[gb520]? = some (.cells #[.int .i64 t512, (.slice Ao41 t513.length co41), (.slice Ao42 t516.length co42)] 26 (0, 0))) ∧ Aside0 (Below w.heap.size w wc))
  case first =>
   have H := HC13.out
   clear HC13
   replace H := Option.bind_eq_some_iff.mp H
   obtain ⟨t521, A430, H⟩ := H
   replace H : (if t521 = true then (laws_FnExactAffineJacobi.j0 k a1 a2 t502 t519 (t519 != t502) a0_0 l0_1 l0_2 t495 t496 t499 t504 t505 t508 t512 t513 t516) else (laws_FnExactAffineJacobi.j0 k a1 a2 t502 t519 true a0_0 l0_1 l0_2 t495 t496 t499 t504 t505 t508 t512 t513 t516)) = some r := H
   have A43 := zA A430
   clear A430
   by_cases c44 : t521 = true
   ·subst c44
    have H1 : (laws_FnExactAffineJacobi.j0 k a1 a2 t502 t519 (t519 != t502) a0_0 l0_1 l0_2 t495 t496 t499 t504 t505 t508 t512 t513 t516) = some r := by rw [if_pos rfl] at H; exact H
    clear H
    have H := H1
    clear H1
    have H' := zA H
    clear H
    have hnb45 := NB520_486.out; have hnc45 := NB486_520.out; have hnb46 := NB520_503.out; have hnc46 := NB503_520.out; have hnb47 := NB520_511.out; have hnc47 := NB511_520.out
    have hcz48_0 : w36.cell? ⟨gb520, 0, none⟩ = some (.int .i64 0) := (blk_cell BK520.out 0).trans rfl
    have hcz48_1 : w36.cell? ⟨gb520, 1, none⟩ = some (.slice none 0 0) := (blk_cell BK520.out 1).trans rfl
    have hcz48_2 : w36.cell? ⟨gb520, 2, none⟩ = some (.slice none 0 0) := (blk_cell BK520.out 2).trans rfl
    have hfz48_0 := blk_frozen BK520.out 0
    have hfz48_1 := blk_frozen BK520.out 1
    have hfz48_2 := blk_frozen BK520.out 2
    have hnb49 := NB503_486.out; have hnc49 := NB486_503.out; have hnb50 := NB503_511.out; have hnc50 := NB511_503.out
    have hcz51_0 : w36.cell? ⟨gb503, 0, none⟩ = some (.int .i64 t495) := (blk_cell BK503.out 0).trans rfl
    have hcz51_1 : w36.cell? ⟨gb503, 1, none⟩ = some (.slice Ao25 t496.length co25) := (blk_cell BK503.out 1).trans rfl
    have hcz51_2 : w36.cell? ⟨gb503, 2, none⟩ = some (.slice Ao26 t499.length co26) := (blk_cell BK503.out 2).trans rfl
    have hfz51_0 := blk_frozen BK503.out 0
    have hfz51_1 := blk_frozen BK503.out 1
    have hfz51_2 := blk_frozen BK503.out 2
    go_wp2_with (first | ((with_reducible refine gate_callee (f := 19) rfl ?_); refine goesL_ (some 42) rfl rfl Try.func19 (by kernel_rfl) rfl #[.agg #[.int .i64 t512, .slice Ao41 t513.length co41, .slice Ao42 t516.length co42], .agg #[.int .i64 t495, .slice Ao25 t496.length co25, .slice Ao26 t499.length co26]] rfl (by (try simp only [List.map_toArray, List.map_cons, List.map_nil]); first | done | rfl | (simp only [List.length_drop, List.length_take]; rfl)) ?_; (with_reducible refine (laws_eqJacobi.calls k t512 _ _ t513 _ _ t516 t495 _ _ t496 _ _ t499 true _ ?side1 ?side2 ?side3 ?side4 ?side5 ?side6 ?side7 ?side8 A43.out).mono ?_); (case side1 => refine (Kd.R_reads' (e := 2) (base := w.heap.size) (ok := fun k_ => ((((((some k_ ≠ (.slice Ao42 t516.length co42 : Value).ownBlock ∧ some k_ ≠ (.slice Ao19 t489.length co19 : Value).ownBlock) ∧ some k_ ≠ (.slice Ao20 t492.length co20 : Value).ownBlock) ∧ some k_ ≠ (.slice Ao25 t496.length co25 : Value).ownBlock) ∧ some k_ ≠ (.slice Ao26 t499.length co26 : Value).ownBlock) ∧ some k_ ≠ (.slice Ao33 t505.length co33 : Value).ownBlock) ∧ some k_ ≠ (.slice Ao34 t508.length co34 : Value).ownBlock)) (n := t513.length) (c := co41) ?_).2.2; exact (uR ((Kd.R_mono (Kd.R_far (p := ⟨gb520, 2, none⟩) (Kd.R_far (p := ⟨gb520, 1, none⟩) (Kd.R_far (p := ⟨gb520, 0, none⟩) (Kd.R_types HO515.out BK520.out (by decide)) (fun _ hk => hk.2) (.int .i64 t512)) (fun _ hk => hk.2) (.slice Ao41 t513.length co41)) (fun _ hk => hk.2) (.slice Ao42 t516.length co42)) (fun _ h_ => h_.1))))); (case side2 => exact (Kd.R_reads' HO515.out).2.1); (case side3 => refine (Kd.R_reads' (e := 2) (base := w.heap.size) (ok := fun k_ => ((((((some k_ ≠ (.slice Ao41 t513.length co41 : Value).ownBlock ∧ some k_ ≠ (.slice Ao19 t489.length co19 : Value).ownBlock) ∧ some k_ ≠ (.slice Ao20 t492.length co20 : Value).ownBlock) ∧ some k_ ≠ (.slice Ao25 t496.length co25 : Value).ownBlock) ∧ some k_ ≠ (.slice Ao26 t499.length co26 : Value).ownBlock) ∧ some k_ ≠ (.slice Ao33 t505.length co33 : Value).ownBlock) ∧ some k_ ≠ (.slice Ao34 t508.length co34 : Value).ownBlock)) (n := t516.length) (c := co42) ?_).2.2; exact (uR ((Kd.R_mono (Kd.R_far (p := ⟨gb520, 2, none⟩) (Kd.R_far (p := ⟨gb520, 1, none⟩) (Kd.R_far (p := ⟨gb520, 0, none⟩) (Kd.R_types HO518.out BK520.out (by decide)) (fun _ hk => hk.2) (.int .i64 t512)) (fun _ hk => hk.2) (.slice Ao41 t513.length co41)) (fun _ hk => hk.2) (.slice Ao42 t516.length co42)) (fun _ h_ => h_.1))))); (case side4 => exact (Kd.R_reads' HO518.out).2.1); (case side5 => refine (Kd.R_reads' (e := 2) (base := w.heap.size) (ok := fun k_ => ((((((some k_ ≠ (.slice Ao26 t499.length co26 : Value).ownBlock ∧ some k_ ≠ (.slice Ao19 t489.length co19 : Value).ownBlock) ∧ some k_ ≠ (.slice Ao20 t492.length co20 : Value).ownBlock) ∧ some k_ ≠ (.slice Ao33 t505.length co33 : Value).ownBlock) ∧ some k_ ≠ (.slice Ao34 t508.length co34 : Value).ownBlock) ∧ some k_ ≠ (.slice Ao41 t513.length co41 : Value).ownBlock) ∧ some k_ ≠ (.slice Ao42 t516.length co42 : Value).ownBlock)) (n := t496.length) (c := co25) ?_).2.2; exact (uR ((Kd.R_mono (Kd.R_far (p := ⟨gb520, 2, none⟩) (Kd.R_far (p := ⟨gb520, 1, none⟩) (Kd.R_far (p := ⟨gb520, 0, none⟩) (Kd.R_types HO498.out BK520.out (by decide)) (fun _ hk => hk.2) (.int .i64 t512)) (fun _ hk => hk.2) (.slice Ao41 t513.length co41)) (fun _ hk => hk.2) (.slice Ao42 t516.length co42)) (fun _ h_ => h_.1))))); (case side6 => exact (Kd.R_reads' HO498.out).2.1); (case side7 => refine (Kd.R_reads' (e := 2) (base := w.heap.size) (ok := fun k_ => ((((((some k_ ≠ (.slice Ao25 t496.length co25 : Value).ownBlock ∧ some k_ ≠ (.slice Ao19 t489.length co19 : Value).ownBlock) ∧ some k_ ≠ (.slice Ao20 t492.length co20 : Value).ownBlock) ∧ some k_ ≠ (.slice Ao33 t505.length co33 : Value).ownBlock) ∧ some k_ ≠ (.slice Ao34 t508.length co34 : Value).ownBlock) ∧ some k_ ≠ (.slice Ao41 t513.length co41 : Value).ownBlock) ∧ some k_ ≠ (.slice Ao42 t516.length co42 : Value).ownBlock)) (n := t499.length) (c := co26) ?_).2.2; exact (uR ((Kd.R_mono (Kd.R_far (p := ⟨gb520, 2, none⟩) (Kd.R_far (p := ⟨gb520, 1, none⟩) (Kd.R_far (p := ⟨gb520, 0, none⟩) (Kd.R_types HO501.out BK520.out (by decide)) (fun _ hk => hk.2) (.int .i64 t512)) (fun _ hk => hk.2) (.slice Ao41 t513.length co41)) (fun _ hk => hk.2) (.slice Ao42 t516.length co42)) (fun _ h_ => h_.1))))); (case side8 => exact (Kd.R_reads' HO501.out).2.1); rintro e w52 ⟨rfl, hb⟩; refine ⟨_, rfl, ?_⟩; have n0_ := zA (Kd.R_below (uR ((Kd.R_mono (Kd.R_far (p := ⟨gb520, 2, none⟩) (Kd.R_far (p := ⟨gb520, 1, none⟩) (Kd.R_far (p := ⟨gb520, 0, none⟩) (Kd.R_types HO491.out BK520.out (by decide)) (fun _ hk => hk.2) (.int .i64 t512)) (fun _ hk => hk.2) (.slice Ao41 t513.length co41)) (fun _ hk => hk.2) (.slice Ao42 t516.length co42)) (fun _ h_ => h_.1)))) hb); have n1_ := zA (Kd.R_below (uR ((Kd.R_mono (Kd.R_far (p := ⟨gb520, 2, none⟩) (Kd.R_far (p := ⟨gb520, 1, none⟩) (Kd.R_far (p := ⟨gb520, 0, none⟩) (Kd.R_types HO494.out BK520.out (by decide)) (fun _ hk => hk.2) (.int .i64 t512)) (fun _ hk => hk.2) (.slice Ao41 t513.length co41)) (fun _ hk => hk.2) (.slice Ao42 t516.length co42)) (fun _ h_ => h_.1)))) hb); have n2_ := zA (Kd.R_below (uR ((Kd.R_mono (Kd.R_far (p := ⟨gb520, 2, none⟩) (Kd.R_far (p := ⟨gb520, 1, none⟩) (Kd.R_far (p := ⟨gb520, 0, none⟩) (Kd.R_types HO498.out BK520.out (by decide)) (fun _ hk => hk.2) (.int .i64 t512)) (fun _ hk => hk.2) (.slice Ao41 t513.length co41)) (fun _ hk => hk.2) (.slice Ao42 t516.length co42)) (fun _ h_ => h_.1)))) hb); have n3_ := zA (Kd.R_below (uR ((Kd.R_mono (Kd.R_far (p := ⟨gb520, 2, none⟩) (Kd.R_far (p := ⟨gb520, 1, none⟩) (Kd.R_far (p := ⟨gb520, 0, none⟩) (Kd.R_types HO501.out BK520.out (by decide)) (fun _ hk => hk.2) (.int .i64 t512)) (fun _ hk => hk.2) (.slice Ao41 t513.length co41)) (fun _ hk => hk.2) (.slice Ao42 t516.length co42)) (fun _ h_ => h_.1)))) hb); have n4_ := zA (Kd.R_below (uR ((Kd.R_mono (Kd.R_far (p := ⟨gb520, 2, none⟩) (Kd.R_far (p := ⟨gb520, 1, none⟩) (Kd.R_far (p := ⟨gb520, 0, none⟩) (Kd.R_types HO507.out BK520.out (by decide)) (fun _ hk => hk.2) (.int .i64 t512)) (fun _ hk => hk.2) (.slice Ao41 t513.length co41)) (fun _ hk => hk.2) (.slice Ao42 t516.length co42)) (fun _ h_ => h_.1)))) hb); have n5_ := zA (Kd.R_below (uR ((Kd.R_mono (Kd.R_far (p := ⟨gb520, 2, none⟩) (Kd.R_far (p := ⟨gb520, 1, none⟩) (Kd.R_far (p := ⟨gb520, 0, none⟩) (Kd.R_types HO510.out BK520.out (by decide)) (fun _ hk => hk.2) (.int .i64 t512)) (fun _ hk => hk.2) (.slice Ao41 t513.length co41)) (fun _ hk => hk.2) (.slice Ao42 t516.length co42)) (fun _ h_ => h_.1)))) hb); have n6_ := zA (Kd.R_below (uR ((Kd.R_mono (Kd.R_far (p := ⟨gb520, 2, none⟩) (Kd.R_far (p := ⟨gb520, 1, none⟩) (Kd.R_far (p := ⟨gb520, 0, none⟩) (Kd.R_types HO515.out BK520.out (by decide)) (fun _ hk => hk.2) (.int .i64 t512)) (fun _ hk => hk.2) (.slice Ao41 t513.length co41)) (fun _ hk => hk.2) (.slice Ao42 t516.length co42)) (fun _ h_ => h_.1)))) hb); have n7_ := zA (Kd.R_below (uR ((Kd.R_mono (Kd.R_far (p := ⟨gb520, 2, none⟩) (Kd.R_far (p := ⟨gb520, 1, none⟩) (Kd.R_far (p := ⟨gb520, 0, none⟩) (Kd.R_types HO518.out BK520.out (by decide)) (fun _ hk => hk.2) (.int .i64 t512)) (fun _ hk => hk.2) (.slice Ao41 t513.length co41)) (fun _ hk => hk.2) (.slice Ao42 t516.length co42)) (fun _ h_ => h_.1)))) hb); have n8_ := zA (blk_below (g := gb486) (o := .cells #[.int .i64 a0_0, .slice A0_1 l0_1.length c0_1, .slice A0_2 l0_2.length c0_2] 24 (0, 0)) (by (with_reducible repeat (first | refine blk_drewN ?_ _ | refine blk_drew ?_ | refine blk_alloc ?_ _)); refine blk_far ?_ NB486_520.out _; (with_reducible repeat (first | refine blk_drewN ?_ _ | refine blk_drew ?_ | refine blk_alloc ?_ _)); refine blk_far ?_ NB486_520.out _; (with_reducible repeat (first | refine blk_drewN ?_ _ | refine blk_drew ?_ | refine blk_alloc ?_ _)); refine blk_far ?_ NB486_520.out _; (with_reducible repeat (first | refine blk_drewN ?_ _ | refine blk_drew ?_ | refine blk_alloc ?_ _)); exact BK486.out) hb); have n9_ := zA (blk_below (g := gb503) (o := .cells #[.int .i64 t495, .slice Ao25 t496.length co25, .slice Ao26 t499.length co26] 26 (0, 0)) (by (with_reducible repeat (first | refine blk_drewN ?_ _ | refine blk_drew ?_ | refine blk_alloc ?_ _)); refine blk_far ?_ NB503_520.out _; (with_reducible repeat (first | refine blk_drewN ?_ _ | refine blk_drew ?_ | refine blk_alloc ?_ _)); refine blk_far ?_ NB503_520.out _; (with_reducible repeat (first | refine blk_drewN ?_ _ | refine blk_drew ?_ | refine blk_alloc ?_ _)); refine blk_far ?_ NB503_520.out _; (with_reducible repeat (first | refine blk_drewN ?_ _ | refine blk_drew ?_ | refine blk_alloc ?_ _)); exact BK503.out) hb); have n10_ := zA (blk_below (g := gb511) (o := .cells #[.int .i64 t504, .slice Ao33 t505.length co33, .slice Ao34 t508.length co34] 26 (0, 0)) (by (with_reducible repeat (first | refine blk_drewN ?_ _ | refine blk_drew ?_ | refine blk_alloc ?_ _)); refine blk_far ?_ NB511_520.out _; (with_reducible repeat (first | refine blk_drewN ?_ _ | refine blk_drew ?_ | refine blk_alloc ?_ _)); refine blk_far ?_ NB511_520.out _; (with_reducible repeat (first | refine blk_drewN ?_ _ | refine blk_drew ?_ | refine blk_alloc ?_ _)); refine blk_far ?_ NB511_520.out _; (with_reducible repeat (first | refine blk_drewN ?_ _ | refine blk_drew ?_ | refine blk_alloc ?_ _)); exact BK511.out) hb); have n11_ := zA (blk_below (g := gb520) (o := .cells #[.int .i64 t512, .slice Ao41 t513.length co41, .slice Ao42 t516.length co42] 26 (0, 0)) (by (with_reducible repeat (first | refine blk_drewN ?_ _ | refine blk_drew ?_ | refine blk_alloc ?_ _)); refine blk_put (cs := #[.int .i64 t512, .slice Ao41 t513.length co41, .slice none 0 0]) ?_ 2 _ rfl; (with_reducible repeat (first | refine blk_drewN ?_ _ | refine blk_drew ?_ | refine blk_alloc ?_ _)); refine blk_put (cs := #[.int .i64 t512, .slice none 0 0, .slice none 0 0]) ?_ 1 _ rfl; (with_reducible repeat (first | refine blk_drewN ?_ _ | refine blk_drew ?_ | refine blk_alloc ?_ _)); refine blk_put (cs := #[.int .i64 0, .slice none 0 0, .slice none 0 0]) ?_ 0 _ rfl; (with_reducible repeat (first | refine blk_drewN ?_ _ | refine blk_drew ?_ | refine blk_alloc ?_ _)); exact BK520.out) hb); have n12_ := xH HB hb; clear HO491 HO494 HO498 HO501 HO507 HO510 HO515 HO518 BK486 BK503 BK511 BK520 HB; have HO491 := n0_; have HO494 := n1_; have HO498 := n2_; have HO501 := n3_; have HO507 := n4_; have HO510 := n5_; have HO515 := n6_; have HO518 := n7_; have BK486 := n8_; have BK503 := n9_; have BK511 := n10_; have BK520 := n11_; have HB := n12_; clear n0_ n1_ n2_ n3_ n4_ n5_ n6_ n7_ n8_ n9_ n10_ n11_ n12_; (try clear hb); (try clear hb2); (try clear hk); (try clear hi)))
    go_meet
    case rel => exact ⟨_, ((t519 != t502)), (by first | rfl | (simp; done) | (simp [*]; done)), H', ⟨by first | omega | exact Nat.le_refl _⟩, ⟨uR (Kd.R_mono HO498.out (fun _ hk => ⟨hk.1.1.1.1.1.1, ⟨hk.1.1.1.2, ⟨hk.1.1.2, ⟨hk.1.2, hk.2⟩⟩⟩⟩))⟩, ⟨uR (Kd.R_mono HO501.out (fun _ hk => ⟨hk.1.1.1.1.1.1, ⟨hk.1.1.1.2, ⟨hk.1.1.2, ⟨hk.1.2, hk.2⟩⟩⟩⟩))⟩, ⟨uR (Kd.R_mono HO507.out (fun _ hk => ⟨hk.1.1.1.2, ⟨hk.1.1.2, ⟨hk.1.1.1.1.1.1, ⟨hk.1.2, hk.2⟩⟩⟩⟩))⟩, ⟨uR (Kd.R_mono HO510.out (fun _ hk => ⟨hk.1.1.1.2, ⟨hk.1.1.2, ⟨hk.1.1.1.1.1.1, ⟨hk.1.2, hk.2⟩⟩⟩⟩))⟩, ⟨uR (Kd.R_mono HO515.out (fun _ hk => ⟨hk.1.1.1.2, ⟨hk.1.1.2, ⟨hk.1.2, ⟨hk.2, hk.1.1.1.1.1.1⟩⟩⟩⟩))⟩, ⟨uR (Kd.R_mono HO518.out (fun _ hk => ⟨hk.1.1.1.2, ⟨hk.1.1.2, ⟨hk.1.2, ⟨hk.2, hk.1.1.1.1.1.1⟩⟩⟩⟩))⟩, ⟨uB BK486.out⟩, ⟨uB BK503.out⟩, ⟨uB BK511.out⟩, ⟨uB BK520.out⟩, ⟨uH HB.out⟩⟩
   ·replace c44 := Bool.eq_false_iff.mpr c44
    subst c44
    have H1 : (laws_FnExactAffineJacobi.j0 k a1 a2 t502 t519 true a0_0 l0_1 l0_2 t495 t496 t499 t504 t505 t508 t512 t513 t516) = some r := by rw [if_neg (show ¬ (false = true) by decide)] at H; exact H
    clear H
    have H := H1
    clear H1
    have H' := zA H
    clear H
    have hnb53 := NB520_486.out; have hnc53 := NB486_520.out; have hnb54 := NB520_503.out; have hnc54 := NB503_520.out; have hnb55 := NB520_511.out; have hnc55 := NB511_520.out
    have hcz56_0 : w36.cell? ⟨gb520, 0, none⟩ = some (.int .i64 0) := (blk_cell BK520.out 0).trans rfl
    have hcz56_1 : w36.cell? ⟨gb520, 1, none⟩ = some (.slice none 0 0) := (blk_cell BK520.out 1).trans rfl
    have hcz56_2 : w36.cell? ⟨gb520, 2, none⟩ = some (.slice none 0 0) := (blk_cell BK520.out 2).trans rfl
    have hfz56_0 := blk_frozen BK520.out 0
    have hfz56_1 := blk_frozen BK520.out 1
    have hfz56_2 := blk_frozen BK520.out 2
    have hnb57 := NB503_486.out; have hnc57 := NB486_503.out; have hnb58 := NB503_511.out; have hnc58 := NB511_503.out
    have hcz59_0 : w36.cell? ⟨gb503, 0, none⟩ = some (.int .i64 t495) := (blk_cell BK503.out 0).trans rfl
    have hcz59_1 : w36.cell? ⟨gb503, 1, none⟩ = some (.slice Ao25 t496.length co25) := (blk_cell BK503.out 1).trans rfl
    have hcz59_2 : w36.cell? ⟨gb503, 2, none⟩ = some (.slice Ao26 t499.length co26) := (blk_cell BK503.out 2).trans rfl
    have hfz59_0 := blk_frozen BK503.out 0
    have hfz59_1 := blk_frozen BK503.out 1
    have hfz59_2 := blk_frozen BK503.out 2
    go_wp2_with (first | ((with_reducible refine gate_callee (f := 19) rfl ?_); refine goesL_ (some 42) rfl rfl Try.func19 (by kernel_rfl) rfl #[.agg #[.int .i64 t512, .slice Ao41 t513.length co41, .slice Ao42 t516.length co42], .agg #[.int .i64 t495, .slice Ao25 t496.length co25, .slice Ao26 t499.length co26]] rfl (by (try simp only [List.map_toArray, List.map_cons, List.map_nil]); first | done | rfl | (simp only [List.length_drop, List.length_take]; rfl)) ?_; (with_reducible refine (laws_eqJacobi.calls k t512 _ _ t513 _ _ t516 t495 _ _ t496 _ _ t499 false _ ?side1 ?side2 ?side3 ?side4 ?side5 ?side6 ?side7 ?side8 A43.out).mono ?_); (case side1 => refine (Kd.R_reads' (e := 2) (base := w.heap.size) (ok := fun k_ => ((((((some k_ ≠ (.slice Ao42 t516.length co42 : Value).ownBlock ∧ some k_ ≠ (.slice Ao19 t489.length co19 : Value).ownBlock) ∧ some k_ ≠ (.slice Ao20 t492.length co20 : Value).ownBlock) ∧ some k_ ≠ (.slice Ao25 t496.length co25 : Value).ownBlock) ∧ some k_ ≠ (.slice Ao26 t499.length co26 : Value).ownBlock) ∧ some k_ ≠ (.slice Ao33 t505.length co33 : Value).ownBlock) ∧ some k_ ≠ (.slice Ao34 t508.length co34 : Value).ownBlock)) (n := t513.length) (c := co41) ?_).2.2; exact (uR ((Kd.R_mono (Kd.R_far (p := ⟨gb520, 2, none⟩) (Kd.R_far (p := ⟨gb520, 1, none⟩) (Kd.R_far (p := ⟨gb520, 0, none⟩) (Kd.R_types HO515.out BK520.out (by decide)) (fun _ hk => hk.2) (.int .i64 t512)) (fun _ hk => hk.2) (.slice Ao41 t513.length co41)) (fun _ hk => hk.2) (.slice Ao42 t516.length co42)) (fun _ h_ => h_.1))))); (case side2 => exact (Kd.R_reads' HO515.out).2.1); (case side3 => refine (Kd.R_reads' (e := 2) (base := w.heap.size) (ok := fun k_ => ((((((some k_ ≠ (.slice Ao41 t513.length co41 : Value).ownBlock ∧ some k_ ≠ (.slice Ao19 t489.length co19 : Value).ownBlock) ∧ some k_ ≠ (.slice Ao20 t492.length co20 : Value).ownBlock) ∧ some k_ ≠ (.slice Ao25 t496.length co25 : Value).ownBlock) ∧ some k_ ≠ (.slice Ao26 t499.length co26 : Value).ownBlock) ∧ some k_ ≠ (.slice Ao33 t505.length co33 : Value).ownBlock) ∧ some k_ ≠ (.slice Ao34 t508.length co34 : Value).ownBlock)) (n := t516.length) (c := co42) ?_).2.2; exact (uR ((Kd.R_mono (Kd.R_far (p := ⟨gb520, 2, none⟩) (Kd.R_far (p := ⟨gb520, 1, none⟩) (Kd.R_far (p := ⟨gb520, 0, none⟩) (Kd.R_types HO518.out BK520.out (by decide)) (fun _ hk => hk.2) (.int .i64 t512)) (fun _ hk => hk.2) (.slice Ao41 t513.length co41)) (fun _ hk => hk.2) (.slice Ao42 t516.length co42)) (fun _ h_ => h_.1))))); (case side4 => exact (Kd.R_reads' HO518.out).2.1); (case side5 => refine (Kd.R_reads' (e := 2) (base := w.heap.size) (ok := fun k_ => ((((((some k_ ≠ (.slice Ao26 t499.length co26 : Value).ownBlock ∧ some k_ ≠ (.slice Ao19 t489.length co19 : Value).ownBlock) ∧ some k_ ≠ (.slice Ao20 t492.length co20 : Value).ownBlock) ∧ some k_ ≠ (.slice Ao33 t505.length co33 : Value).ownBlock) ∧ some k_ ≠ (.slice Ao34 t508.length co34 : Value).ownBlock) ∧ some k_ ≠ (.slice Ao41 t513.length co41 : Value).ownBlock) ∧ some k_ ≠ (.slice Ao42 t516.length co42 : Value).ownBlock)) (n := t496.length) (c := co25) ?_).2.2; exact (uR ((Kd.R_mono (Kd.R_far (p := ⟨gb520, 2, none⟩) (Kd.R_far (p := ⟨gb520, 1, none⟩) (Kd.R_far (p := ⟨gb520, 0, none⟩) (Kd.R_types HO498.out BK520.out (by decide)) (fun _ hk => hk.2) (.int .i64 t512)) (fun _ hk => hk.2) (.slice Ao41 t513.length co41)) (fun _ hk => hk.2) (.slice Ao42 t516.length co42)) (fun _ h_ => h_.1))))); (case side6 => exact (Kd.R_reads' HO498.out).2.1); (case side7 => refine (Kd.R_reads' (e := 2) (base := w.heap.size) (ok := fun k_ => ((((((some k_ ≠ (.slice Ao25 t496.length co25 : Value).ownBlock ∧ some k_ ≠ (.slice Ao19 t489.length co19 : Value).ownBlock) ∧ some k_ ≠ (.slice Ao20 t492.length co20 : Value).ownBlock) ∧ some k_ ≠ (.slice Ao33 t505.length co33 : Value).ownBlock) ∧ some k_ ≠ (.slice Ao34 t508.length co34 : Value).ownBlock) ∧ some k_ ≠ (.slice Ao41 t513.length co41 : Value).ownBlock) ∧ some k_ ≠ (.slice Ao42 t516.length co42 : Value).ownBlock)) (n := t499.length) (c := co26) ?_).2.2; exact (uR ((Kd.R_mono (Kd.R_far (p := ⟨gb520, 2, none⟩) (Kd.R_far (p := ⟨gb520, 1, none⟩) (Kd.R_far (p := ⟨gb520, 0, none⟩) (Kd.R_types HO501.out BK520.out (by decide)) (fun _ hk => hk.2) (.int .i64 t512)) (fun _ hk => hk.2) (.slice Ao41 t513.length co41)) (fun _ hk => hk.2) (.slice Ao42 t516.length co42)) (fun _ h_ => h_.1))))); (case side8 => exact (Kd.R_reads' HO501.out).2.1); rintro e w60 ⟨rfl, hb⟩; refine ⟨_, rfl, ?_⟩; have n0_ := zA (Kd.R_below (uR ((Kd.R_mono (Kd.R_far (p := ⟨gb520, 2, none⟩) (Kd.R_far (p := ⟨gb520, 1, none⟩) (Kd.R_far (p := ⟨gb520, 0, none⟩) (Kd.R_types HO491.out BK520.out (by decide)) (fun _ hk => hk.2) (.int .i64 t512)) (fun _ hk => hk.2) (.slice Ao41 t513.length co41)) (fun _ hk => hk.2) (.slice Ao42 t516.length co42)) (fun _ h_ => h_.1)))) hb); have n1_ := zA (Kd.R_below (uR ((Kd.R_mono (Kd.R_far (p := ⟨gb520, 2, none⟩) (Kd.R_far (p := ⟨gb520, 1, none⟩) (Kd.R_far (p := ⟨gb520, 0, none⟩) (Kd.R_types HO494.out BK520.out (by decide)) (fun _ hk => hk.2) (.int .i64 t512)) (fun _ hk => hk.2) (.slice Ao41 t513.length co41)) (fun _ hk => hk.2) (.slice Ao42 t516.length co42)) (fun _ h_ => h_.1)))) hb); have n2_ := zA (Kd.R_below (uR ((Kd.R_mono (Kd.R_far (p := ⟨gb520, 2, none⟩) (Kd.R_far (p := ⟨gb520, 1, none⟩) (Kd.R_far (p := ⟨gb520, 0, none⟩) (Kd.R_types HO498.out BK520.out (by decide)) (fun _ hk => hk.2) (.int .i64 t512)) (fun _ hk => hk.2) (.slice Ao41 t513.length co41)) (fun _ hk => hk.2) (.slice Ao42 t516.length co42)) (fun _ h_ => h_.1)))) hb); have n3_ := zA (Kd.R_below (uR ((Kd.R_mono (Kd.R_far (p := ⟨gb520, 2, none⟩) (Kd.R_far (p := ⟨gb520, 1, none⟩) (Kd.R_far (p := ⟨gb520, 0, none⟩) (Kd.R_types HO501.out BK520.out (by decide)) (fun _ hk => hk.2) (.int .i64 t512)) (fun _ hk => hk.2) (.slice Ao41 t513.length co41)) (fun _ hk => hk.2) (.slice Ao42 t516.length co42)) (fun _ h_ => h_.1)))) hb); have n4_ := zA (Kd.R_below (uR ((Kd.R_mono (Kd.R_far (p := ⟨gb520, 2, none⟩) (Kd.R_far (p := ⟨gb520, 1, none⟩) (Kd.R_far (p := ⟨gb520, 0, none⟩) (Kd.R_types HO507.out BK520.out (by decide)) (fun _ hk => hk.2) (.int .i64 t512)) (fun _ hk => hk.2) (.slice Ao41 t513.length co41)) (fun _ hk => hk.2) (.slice Ao42 t516.length co42)) (fun _ h_ => h_.1)))) hb); have n5_ := zA (Kd.R_below (uR ((Kd.R_mono (Kd.R_far (p := ⟨gb520, 2, none⟩) (Kd.R_far (p := ⟨gb520, 1, none⟩) (Kd.R_far (p := ⟨gb520, 0, none⟩) (Kd.R_types HO510.out BK520.out (by decide)) (fun _ hk => hk.2) (.int .i64 t512)) (fun _ hk => hk.2) (.slice Ao41 t513.length co41)) (fun _ hk => hk.2) (.slice Ao42 t516.length co42)) (fun _ h_ => h_.1)))) hb); have n6_ := zA (Kd.R_below (uR ((Kd.R_mono (Kd.R_far (p := ⟨gb520, 2, none⟩) (Kd.R_far (p := ⟨gb520, 1, none⟩) (Kd.R_far (p := ⟨gb520, 0, none⟩) (Kd.R_types HO515.out BK520.out (by decide)) (fun _ hk => hk.2) (.int .i64 t512)) (fun _ hk => hk.2) (.slice Ao41 t513.length co41)) (fun _ hk => hk.2) (.slice Ao42 t516.length co42)) (fun _ h_ => h_.1)))) hb); have n7_ := zA (Kd.R_below (uR ((Kd.R_mono (Kd.R_far (p := ⟨gb520, 2, none⟩) (Kd.R_far (p := ⟨gb520, 1, none⟩) (Kd.R_far (p := ⟨gb520, 0, none⟩) (Kd.R_types HO518.out BK520.out (by decide)) (fun _ hk => hk.2) (.int .i64 t512)) (fun _ hk => hk.2) (.slice Ao41 t513.length co41)) (fun _ hk => hk.2) (.slice Ao42 t516.length co42)) (fun _ h_ => h_.1)))) hb); have n8_ := zA (blk_below (g := gb486) (o := .cells #[.int .i64 a0_0, .slice A0_1 l0_1.length c0_1, .slice A0_2 l0_2.length c0_2] 24 (0, 0)) (by (with_reducible repeat (first | refine blk_drewN ?_ _ | refine blk_drew ?_ | refine blk_alloc ?_ _)); refine blk_far ?_ NB486_520.out _; (with_reducible repeat (first | refine blk_drewN ?_ _ | refine blk_drew ?_ | refine blk_alloc ?_ _)); refine blk_far ?_ NB486_520.out _; (with_reducible repeat (first | refine blk_drewN ?_ _ | refine blk_drew ?_ | refine blk_alloc ?_ _)); refine blk_far ?_ NB486_520.out _; (with_reducible repeat (first | refine blk_drewN ?_ _ | refine blk_drew ?_ | refine blk_alloc ?_ _)); exact BK486.out) hb); have n9_ := zA (blk_below (g := gb503) (o := .cells #[.int .i64 t495, .slice Ao25 t496.length co25, .slice Ao26 t499.length co26] 26 (0, 0)) (by (with_reducible repeat (first | refine blk_drewN ?_ _ | refine blk_drew ?_ | refine blk_alloc ?_ _)); refine blk_far ?_ NB503_520.out _; (with_reducible repeat (first | refine blk_drewN ?_ _ | refine blk_drew ?_ | refine blk_alloc ?_ _)); refine blk_far ?_ NB503_520.out _; (with_reducible repeat (first | refine blk_drewN ?_ _ | refine blk_drew ?_ | refine blk_alloc ?_ _)); refine blk_far ?_ NB503_520.out _; (with_reducible repeat (first | refine blk_drewN ?_ _ | refine blk_drew ?_ | refine blk_alloc ?_ _)); exact BK503.out) hb); have n10_ := zA (blk_below (g := gb511) (o := .cells #[.int .i64 t504, .slice Ao33 t505.length co33, .slice Ao34 t508.length co34] 26 (0, 0)) (by (with_reducible repeat (first | refine blk_drewN ?_ _ | refine blk_drew ?_ | refine blk_alloc ?_ _)); refine blk_far ?_ NB511_520.out _; (with_reducible repeat (first | refine blk_drewN ?_ _ | refine blk_drew ?_ | refine blk_alloc ?_ _)); refine blk_far ?_ NB511_520.out _; (with_reducible repeat (first | refine blk_drewN ?_ _ | refine blk_drew ?_ | refine blk_alloc ?_ _)); refine blk_far ?_ NB511_520.out _; (with_reducible repeat (first | refine blk_drewN ?_ _ | refine blk_drew ?_ | refine blk_alloc ?_ _)); exact BK511.out) hb); have n11_ := zA (blk_below (g := gb520) (o := .cells #[.int .i64 t512, .slice Ao41 t513.length co41, .slice Ao42 t516.length co42] 26 (0, 0)) (by (with_reducible repeat (first | refine blk_drewN ?_ _ | refine blk_drew ?_ | refine blk_alloc ?_ _)); refine blk_put (cs := #[.int .i64 t512, .slice Ao41 t513.length co41, .slice none 0 0]) ?_ 2 _ rfl; (with_reducible repeat (first | refine blk_drewN ?_ _ | refine blk_drew ?_ | refine blk_alloc ?_ _)); refine blk_put (cs := #[.int .i64 t512, .slice none 0 0, .slice none 0 0]) ?_ 1 _ rfl; (with_reducible repeat (first | refine blk_drewN ?_ _ | refine blk_drew ?_ | refine blk_alloc ?_ _)); refine blk_put (cs := #[.int .i64 0, .slice none 0 0, .slice none 0 0]) ?_ 0 _ rfl; (with_reducible repeat (first | refine blk_drewN ?_ _ | refine blk_drew ?_ | refine blk_alloc ?_ _)); exact BK520.out) hb); have n12_ := xH HB hb; clear HO491 HO494 HO498 HO501 HO507 HO510 HO515 HO518 BK486 BK503 BK511 BK520 HB; have HO491 := n0_; have HO494 := n1_; have HO498 := n2_; have HO501 := n3_; have HO507 := n4_; have HO510 := n5_; have HO515 := n6_; have HO518 := n7_; have BK486 := n8_; have BK503 := n9_; have BK511 := n10_; have BK520 := n11_; have HB := n12_; clear n0_ n1_ n2_ n3_ n4_ n5_ n6_ n7_ n8_ n9_ n10_ n11_ n12_; (try clear hb); (try clear hb2); (try clear hk); (try clear hi)))
    go_meet
    case rel => exact ⟨_, (true), (by first | rfl | (simp; done) | (simp [*]; done)), H', ⟨by first | omega | exact Nat.le_refl _⟩, ⟨uR (Kd.R_mono HO498.out (fun _ hk => ⟨hk.1.1.1.1.1.1, ⟨hk.1.1.1.2, ⟨hk.1.1.2, ⟨hk.1.2, hk.2⟩⟩⟩⟩))⟩, ⟨uR (Kd.R_mono HO501.out (fun _ hk => ⟨hk.1.1.1.1.1.1, ⟨hk.1.1.1.2, ⟨hk.1.1.2, ⟨hk.1.2, hk.2⟩⟩⟩⟩))⟩, ⟨uR (Kd.R_mono HO507.out (fun _ hk => ⟨hk.1.1.1.2, ⟨hk.1.1.2, ⟨hk.1.1.1.1.1.1, ⟨hk.1.2, hk.2⟩⟩⟩⟩))⟩, ⟨uR (Kd.R_mono HO510.out (fun _ hk => ⟨hk.1.1.1.2, ⟨hk.1.1.2, ⟨hk.1.1.1.1.1.1, ⟨hk.1.2, hk.2⟩⟩⟩⟩))⟩, ⟨uR (Kd.R_mono HO515.out (fun _ hk => ⟨hk.1.1.1.2, ⟨hk.1.1.2, ⟨hk.1.2, ⟨hk.2, hk.1.1.1.1.1.1⟩⟩⟩⟩))⟩, ⟨uR (Kd.R_mono HO518.out (fun _ hk => ⟨hk.1.1.1.2, ⟨hk.1.1.2, ⟨hk.1.2, ⟨hk.2, hk.1.1.1.1.1.1⟩⟩⟩⟩))⟩, ⟨uB BK486.out⟩, ⟨uB BK503.out⟩, ⟨uB BK511.out⟩, ⟨uB BK520.out⟩, ⟨uH HB.out⟩⟩
  case rest =>
   clear HC13
   try clear c1
   try clear c2
   try clear p2
   try clear c3
   try clear c4
   try clear c5
   try clear c5b0
   try clear c6
   try clear c15
   try clear c17
   try clear c19
   try clear c23
   try clear c26
   try clear c27
   try clear c30
   try clear c31
   try clear c37
   try clear c38
   try clear c39
   try clear c44
   try clear c45
   try clear c46
   try clear c47
   try clear c49
   try clear c50
   try clear c53
   try clear c54
   try clear c55
   try clear c57
   try clear c58
   try clear hcz15_0
   try clear hcz15_1
   try clear hcz15_2
   try clear hcz17_0
   try clear hcz17_1
   try clear hcz17_2
   try clear hcz24_0
   try clear hcz24_1
   try clear hcz24_2
   try clear hcz27_0
   try clear hcz27_1
   try clear hcz27_2
   try clear hcz32_0
   try clear hcz32_1
   try clear hcz32_2
   try clear hcz40_0
   try clear hcz40_1
   try clear hcz40_2
   try clear hcz48_0
   try clear hcz48_1
   try clear hcz48_2
   try clear hcz51_0
   try clear hcz51_1
   try clear hcz51_2
   try clear hcz56_0
   try clear hcz56_1
   try clear hcz56_2
   try clear hcz59_0
   try clear hcz59_1
   try clear hcz59_2
   try clear hcz7_0
   try clear hcz7_1
   try clear hcz7_2
   try clear hfz15_0
   try clear hfz15_1
   try clear hfz15_2
   try clear hfz17_0
   try clear hfz17_1
   try clear hfz17_2
   try clear hfz24_0
   try clear hfz24_1
   try clear hfz24_2
   try clear hfz27_0
   try clear hfz27_1
   try clear hfz27_2
   try clear hfz32_0
   try clear hfz32_1
   try clear hfz32_2
   try clear hfz40_0
   try clear hfz40_1
   try clear hfz40_2
   try clear hfz48_0
   try clear hfz48_1
   try clear hfz48_2
   try clear hfz51_0
   try clear hfz51_1
   try clear hfz51_2
   try clear hfz56_0
   try clear hfz56_1
   try clear hfz56_2
   try clear hfz59_0
   try clear hfz59_1
   try clear hfz59_2
   try clear hfz7_0
   try clear hfz7_1
   try clear hfz7_2
   obtain ⟨kq, x48_12, rfl, HA, HJ12, HO_504001, HO_504002, HO_512001, HO_512002, HO_521001, HO_521002, BK486, BK503, BK511, BK520, HB⟩ := hcut
   cases kq with
   | zero => exact absurd HA.out (by simp [laws_FnExactAffineJacobi.j0])
   | succ kj12 =>
    have H := HA.out
    clear HA
    simp only [laws_FnExactAffineJacobi.j0] at H
    by_cases c61 : x48_12 = true
    ·subst c61
     have H1 : (some false) = some r := by rw [if_pos rfl] at H; exact H
     clear H
     have H := H1
     clear H1
     rw [HRT.out] at H
     exact absurd H (by simp)
    ·replace c61 := Bool.eq_false_iff.mpr c61
     subst c61
     have H1 : ((laws_toJacobi.f kj12 a0_0 l0_1 l0_2).bind fun bt522 => ((laws_eqJacobi.f kj12 t504 t505 t508 bt522.1 bt522.2.1 bt522.2.2).bind fun t529 => (if t529 = true then ((laws_markJacobi.f kj12 t504 t505 t508 1).bind fun bt530 => (if bt530.1 < 0 then (laws_FnExactAffineJacobi.j1 kj12 a1 a2 t502 true a0_0 l0_1 l0_2 t495 t496 t499 t512 t513 t516) else ((laws_eqJacobi.f kj12 t512 t513 t516 t495 t496 t499).bind fun t533 => (if t533 = true then (laws_FnExactAffineJacobi.j1 kj12 a1 a2 t502 (t519 != t502) a0_0 l0_1 l0_2 t495 t496 t499 t512 t513 t516) else (laws_FnExactAffineJacobi.j1 kj12 a1 a2 t502 true a0_0 l0_1 l0_2 t495 t496 t499 t512 t513 t516))))) else (some false)))) = some r := by rw [if_neg (show ¬ (false = true) by decide)] at H; exact H
     clear H
     have H := H1
     clear H1
     replace H := Option.bind_eq_some_iff.mp H
     obtain ⟨⟨t522, t523, t526⟩, A620, H⟩ := H
     replace H : ((laws_eqJacobi.f kj12 t504 t505 t508 t522 t523 t526).bind fun t529 => (if t529 = true then ((laws_markJacobi.f kj12 t504 t505 t508 1).bind fun bt530 => (if bt530.1 < 0 then (laws_FnExactAffineJacobi.j1 kj12 a1 a2 t502 true a0_0 l0_1 l0_2 t495 t496 t499 t512 t513 t516) else ((laws_eqJacobi.f kj12 t512 t513 t516 t495 t496 t499).bind fun t533 => (if t533 = true then (laws_FnExactAffineJacobi.j1 kj12 a1 a2 t502 (t519 != t502) a0_0 l0_1 l0_2 t495 t496 t499 t512 t513 t516) else (laws_FnExactAffineJacobi.j1 kj12 a1 a2 t502 true a0_0 l0_1 l0_2 t495 t496 t499 t512 t513 t516))))) else (some false))) = some r := H
     have A62 := zA A620
     clear A620
     replace H := Option.bind_eq_some_iff.mp H
     obtain ⟨t529, A630, H⟩ := H
     replace H : (if t529 = true then ((laws_markJacobi.f kj12 t504 t505 t508 1).bind fun bt530 => (if bt530.1 < 0 then (laws_FnExactAffineJacobi.j1 kj12 a1 a2 t502 true a0_0 l0_1 l0_2 t495 t496 t499 t512 t513 t516) else ((laws_eqJacobi.f kj12 t512 t513 t516 t495 t496 t499).bind fun t533 => (if t533 = true then (laws_FnExactAffineJacobi.j1 kj12 a1 a2 t502 (t519 != t502) a0_0 l0_1 l0_2 t495 t496 t499 t512 t513 t516) else (laws_FnExactAffineJacobi.j1 kj12 a1 a2 t502 true a0_0 l0_1 l0_2 t495 t496 t499 t512 t513 t516))))) else (some false)) = some r := H
     have A63 := zA A630
     clear A630
     by_cases c64 : t529 = true
     ·subst c64
      have H1 : ((laws_markJacobi.f kj12 t504 t505 t508 1).bind fun bt530 => (if bt530.1 < 0 then (laws_FnExactAffineJacobi.j1 kj12 a1 a2 t502 true a0_0 l0_1 l0_2 t495 t496 t499 t512 t513 t516) else ((laws_eqJacobi.f kj12 t512 t513 t516 t495 t496 t499).bind fun t533 => (if t533 = true then (laws_FnExactAffineJacobi.j1 kj12 a1 a2 t502 (t519 != t502) a0_0 l0_1 l0_2 t495 t496 t499 t512 t513 t516) else (laws_FnExactAffineJacobi.j1 kj12 a1 a2 t502 true a0_0 l0_1 l0_2 t495 t496 t499 t512 t513 t516))))) = some r := by rw [if_pos rfl] at H; exact H
      clear H
      have H := H1
      clear H1
      replace H := Option.bind_eq_some_iff.mp H
      obtain ⟨⟨t530, t531, t532⟩, A650, H⟩ := H
      replace H : (if t530 < 0 then (laws_FnExactAffineJacobi.j1 kj12 a1 a2 t502 true a0_0 l0_1 l0_2 t495 t496 t499 t512 t513 t516) else ((laws_eqJacobi.f kj12 t512 t513 t516 t495 t496 t499).bind fun t533 => (if t533 = true then (laws_FnExactAffineJacobi.j1 kj12 a1 a2 t502 (t519 != t502) a0_0 l0_1 l0_2 t495 t496 t499 t512 t513 t516) else (laws_FnExactAffineJacobi.j1 kj12 a1 a2 t502 true a0_0 l0_1 l0_2 t495 t496 t499 t512 t513 t516)))) = some r := H
      have A65 := zA A650
      clear A650
      have HC66 := zA H
      clear H
      try go_wp2
      have n0_ := zA (Kd.R_drew HO_504001.out)
      have n1_ := zA (Kd.R_drew HO_504002.out)
      have n2_ := zA (Kd.R_drew HO_512001.out)
      have n3_ := zA (Kd.R_drew HO_512002.out)
      have n4_ := zA (Kd.R_drew HO_521001.out)
      have n5_ := zA (Kd.R_drew HO_521002.out)
      have n6_ := zA (blk_drew BK486.out)
      have n7_ := zA (blk_drew BK503.out)
      have n8_ := zA (blk_drew BK511.out)
      have n9_ := zA (blk_drew BK520.out)
      have n10_ := zA (below_drew1 HB.out)
      clear HO_504001 HO_504002 HO_512001 HO_512002 HO_521001 HO_521002 BK486 BK503 BK511 BK520 HB
      have HO_504001 := n0_; have HO_504002 := n1_; have HO_512001 := n2_; have HO_512002 := n3_; have HO_521001 := n4_; have HO_521002 := n5_; have BK486 := n6_; have BK503 := n7_; have BK511 := n8_; have BK520 := n9_; have HB := n10_
      clear n0_ n1_ n2_ n3_ n4_ n5_ n6_ n7_ n8_ n9_ n10_
      refine start_ (n := 5) (S := fun w' => w'.cell? ⟨gb511, 0, none⟩ = some (.int .i64 t504) ∧ w'.cell? ⟨gb511, 1, none⟩ = some (.slice Ao33 t505.length co33) ∧ w'.cell? ⟨gb511, 2, none⟩ = some (.slice Ao34 t508.length co34) ∧ w'.cell? ⟨gb486, 0, none⟩ = some (.int .i64 a0_0) ∧ w'.cell? ⟨gb486, 1, none⟩ = some (.slice A0_1 l0_1.length c0_1) ∧ w'.cell? ⟨gb486, 2, none⟩ = some (.slice A0_2 l0_2.length c0_2)) (ds := []) #[false, false, false, false, false] (by kernel_rfl) rfl rfl ⟨(blk_cell BK511.out 0).trans rfl, (blk_cell BK511.out 1).trans rfl, (blk_cell BK511.out 2).trans rfl, (blk_cell BK486.out 0).trans rfl, (blk_cell BK486.out 1).trans rfl, (blk_cell BK486.out 2).trans rfl⟩ (fun hHeld => ?_)
      generalize wc.drew = w67 at HO_504001 HO_504002 HO_512001 HO_512002 HO_521001 HO_521002 BK486 BK503 BK511 BK520 HB hHeld ⊢
      refine take_ (i := 0) (N := some 49) (v := ?_) (a' := ?_) #[true, false, false, false, false] rfl rfl (by kernel_rfl) (fun _ _ _ h => h) (Or.inl ⟨by rfl, ?_⟩) hHeld ?_ ?_
      rotate_left
      ·rintro w' ⟨s0, s1, s2, s3, s4, s5⟩
       go_simp
       with_reducible rfl
      rotate_left
      ·simp only [Act.put, List.setIfInBounds_toArray, List.set_cons_zero, List.set_cons_succ, i64_w, i32_w]
       rfl
      refine take_ (i := 1) (N := some 50) (v := ?_) (a' := ?_) #[true, true, false, false, false] rfl rfl (by kernel_rfl) (fun _ _ _ h => h) (Or.inl ⟨by rfl, ?_⟩) hHeld ?_ ?_
      rotate_left
      ·rintro w' ⟨s0, s1, s2, s3, s4, s5⟩
       go_simp
       with_reducible rfl
      rotate_left
      ·simp only [Act.put, List.setIfInBounds_toArray, List.set_cons_zero, List.set_cons_succ, i64_w, i32_w]
       rfl
      refine one_ (i := 2) (N := some 51) #[true, true, true, false, false] rfl rfl (by kernel_rfl) (by decide) (fun K hK => ?_)
      refine goes_ Try.func17 (by kernel_rfl) rfl #[.agg #[.int .i64 a0_0, .slice A0_1 l0_1.length c0_1, .slice A0_2 l0_2.length c0_2]] (by rfl) rfl rfl (by (try simp only [List.map_toArray, List.map_cons, List.map_nil]); first | done | rfl | (simp only [List.length_drop, List.length_take]; rfl)) ?_
      with_reducible refine (laws_toJacobi.calls kj12 a0_0 _ _ l0_1 _ _ l0_2 t522 t523 t526 _ ?side1 ?side2 ?side3 ?side4 A62.out).mono ?_
      (case side1 => exact uC ((Kd.C_below HR0_1.out HB.out)))
      (case side2 => exact HC0_1.out)
      (case side3 => exact uC ((Kd.C_below HR0_2.out HB.out)))
      (case side4 => exact HC0_2.out)
      rintro e w68 ⟨v524, v527, rfl, ho0, ho1, hb⟩
      refine ⟨_, rfl, ?_⟩
      have n0_ := zA (Kd.R_mono (Kd.R_told (Kd.R_told (Kd.R_old (uR HO_504001.out) hb) (Kd.R_base ho0)) (Kd.R_base ho1)) (fun _ h_ => h_.1))
      have n1_ := zA (Kd.R_mono (Kd.R_told (Kd.R_told (Kd.R_old (uR HO_504002.out) hb) (Kd.R_base ho0)) (Kd.R_base ho1)) (fun _ h_ => h_.1))
      have n2_ := zA (Kd.R_mono (Kd.R_told (Kd.R_told (Kd.R_old (uR HO_512001.out) hb) (Kd.R_base ho0)) (Kd.R_base ho1)) (fun _ h_ => h_.1))
      have n3_ := zA (Kd.R_mono (Kd.R_told (Kd.R_told (Kd.R_old (uR HO_512002.out) hb) (Kd.R_base ho0)) (Kd.R_base ho1)) (fun _ h_ => h_.1))
      have n4_ := zA (Kd.R_mono (Kd.R_told (Kd.R_told (Kd.R_old (uR HO_521001.out) hb) (Kd.R_base ho0)) (Kd.R_base ho1)) (fun _ h_ => h_.1))
      have n5_ := zA (Kd.R_mono (Kd.R_told (Kd.R_told (Kd.R_old (uR HO_521002.out) hb) (Kd.R_base ho0)) (Kd.R_base ho1)) (fun _ h_ => h_.1))
      have n6_ := zA (Kd.R_lower (Kd.R_new' (Kd.R_new' (Kd.R_new' (Kd.R_new' (Kd.R_new' (Kd.R_new' ho0 (Kd.R_lt (uR HO_504001.out))) (Kd.R_lt (uR HO_504002.out))) (Kd.R_lt (uR HO_512001.out))) (Kd.R_lt (uR HO_512002.out))) (Kd.R_lt (uR HO_521001.out))) (Kd.R_lt (uR HO_521002.out))) (below_size (uH HB.out)))
      have n7_ := zA (Kd.R_lower (Kd.R_new' (Kd.R_new' (Kd.R_new' (Kd.R_new' (Kd.R_new' (Kd.R_new' ho1 (Kd.R_lt (uR HO_504001.out))) (Kd.R_lt (uR HO_504002.out))) (Kd.R_lt (uR HO_512001.out))) (Kd.R_lt (uR HO_512002.out))) (Kd.R_lt (uR HO_521001.out))) (Kd.R_lt (uR HO_521002.out))) (below_size (uH HB.out)))
      have n8_ := xB BK486 hb
      have n9_ := xB BK503 hb
      have n10_ := xB BK511 hb
      have n11_ := xB BK520 hb
      have n12_ := xH HB hb
      clear HO_504001 HO_504002 HO_512001 HO_512002 HO_521001 HO_521002 BK486 BK503 BK511 BK520 HB
      have HO_504001 := n0_; have HO_504002 := n1_; have HO_512001 := n2_; have HO_512002 := n3_; have HO_521001 := n4_; have HO_521002 := n5_; have HO525 := n6_; have HO528 := n7_; have BK486 := n8_; have BK503 := n9_; have BK511 := n10_; have BK520 := n11_; have HB := n12_
      clear n0_ n1_ n2_ n3_ n4_ n5_ n6_ n7_ n8_ n9_ n10_ n11_ n12_
      (try clear hb); (try clear hb2); (try clear hk); (try clear hi); (try clear ho0); (try clear ho1)
      obtain ⟨Ao69, co69, eo69⟩ := Kd.R_slice HO525.out
      (first | subst eo69 | (injection eo69 with f1_ f2_ f3_; have f4_ := f1_.symm; have f5_ := f3_.symm; clear f1_ f2_ f3_; subst f4_; subst f5_))
      obtain ⟨Ao70, co70, eo70⟩ := Kd.R_slice HO528.out
      (first | subst eo70 | (injection eo70 with f1_ f2_ f3_; have f4_ := f1_.symm; have f5_ := f3_.symm; clear f1_ f2_ f3_; subst f4_; subst f5_))
      refine hK.out _ _ ⟨(blk_cell BK511.out 0).trans rfl, (blk_cell BK511.out 1).trans rfl, (blk_cell BK511.out 2).trans rfl, (blk_cell BK486.out 0).trans rfl, (blk_cell BK486.out 1).trans rfl, (blk_cell BK486.out 2).trans rfl⟩ (fun hHeld => ?_)
      clear hK K
      refine norm_ (a' := ?_) ?_ ?_
      rotate_left
      ·show Act.put _ (some 51) _ = _
       simp only [Act.put, List.setIfInBounds_toArray, List.set_cons_zero, List.set_cons_succ, i64_w, i32_w]
       rfl
      refine one_ (i := 3) (N := some 52) #[true, true, true, true, false] rfl rfl (by kernel_rfl) (by decide) (fun K hK => ?_)
      refine goes_ Try.func19 (by kernel_rfl) rfl #[.agg #[.int .i64 t504, .slice Ao33 t505.length co33, .slice Ao34 t508.length co34], .agg #[.int .i64 t522, .slice Ao69 t523.length co69, .slice Ao70 t526.length co70]] (by rfl) rfl rfl (by (try simp only [List.map_toArray, List.map_cons, List.map_nil]); first | done | rfl | (simp only [List.length_drop, List.length_take]; rfl)) ?_
      with_reducible refine (laws_eqJacobi.calls kj12 t504 _ _ t505 _ _ t508 t522 _ _ t523 _ _ t526 true _ ?side1 ?side2 ?side3 ?side4 ?side5 ?side6 ?side7 ?side8 A63.out).mono ?_
      (case side1 => exact uC ((Kd.R_reads' HO_512001.out).2.2))
      (case side2 => exact (Kd.R_reads' HO_512001.out).2.1)
      (case side3 => exact uC ((Kd.R_reads' HO_512002.out).2.2))
      (case side4 => exact (Kd.R_reads' HO_512002.out).2.1)
      (case side5 => exact uC ((Kd.R_reads' HO525.out).2.2))
      (case side6 => exact (Kd.R_reads' HO525.out).2.1)
      (case side7 => exact uC ((Kd.R_reads' HO528.out).2.2))
      (case side8 => exact (Kd.R_reads' HO528.out).2.1)
      rintro e w71 ⟨rfl, hb⟩
      refine ⟨_, rfl, ?_⟩
      have n0_ := xR HO_504001 hb
      have n1_ := xR HO_504002 hb
      have n2_ := xR HO_512001 hb
      have n3_ := xR HO_512002 hb
      have n4_ := xR HO_521001 hb
      have n5_ := xR HO_521002 hb
      have n6_ := xR HO525 hb
      have n7_ := xR HO528 hb
      have n8_ := xB BK486 hb
      have n9_ := xB BK503 hb
      have n10_ := xB BK511 hb
      have n11_ := xB BK520 hb
      have n12_ := xH HB hb
      clear HO_504001 HO_504002 HO_512001 HO_512002 HO_521001 HO_521002 HO525 HO528 BK486 BK503 BK511 BK520 HB
      have HO_504001 := n0_; have HO_504002 := n1_; have HO_512001 := n2_; have HO_512002 := n3_; have HO_521001 := n4_; have HO_521002 := n5_; have HO525 := n6_; have HO528 := n7_; have BK486 := n8_; have BK503 := n9_; have BK511 := n10_; have BK520 := n11_; have HB := n12_
      clear n0_ n1_ n2_ n3_ n4_ n5_ n6_ n7_ n8_ n9_ n10_ n11_ n12_
      (try clear hb); (try clear hb2); (try clear hk); (try clear hi)
      refine hK.out _ _ ⟨(blk_cell BK511.out 0).trans rfl, (blk_cell BK511.out 1).trans rfl, (blk_cell BK511.out 2).trans rfl, (blk_cell BK486.out 0).trans rfl, (blk_cell BK486.out 1).trans rfl, (blk_cell BK486.out 2).trans rfl⟩ (fun hHeld => ?_)
      clear hK K
      refine norm_ (a' := ?_) ?_ ?_
      rotate_left
      ·show Act.put _ (some 52) _ = _
       simp only [Act.put, List.setIfInBounds_toArray, List.set_cons_zero, List.set_cons_succ, i64_w, i32_w]
       rfl
      refine pure_ (i := 4) (N := some 53) (v := ?_) (a' := ?_) #[true, true, true, true, true] rfl rfl (by kernel_rfl) (fun _ _ _ h => h) (Or.inl ⟨by rfl, ?_⟩) ?_ ?_
      rotate_left
      ·intro w'
       go_simp
       with_reducible rfl
      rotate_left
      ·simp only [Act.put, List.setIfInBounds_toArray, List.set_cons_zero, List.set_cons_succ, i64_w, i32_w]
       rfl
      refine done_ (by kernel_rfl) ?_
      have hnb72 := NB511_486.out; have hnc72 := NB486_511.out; have hnb73 := NB511_503.out; have hnc73 := NB503_511.out; have hnb74 := NB511_520.out; have hnc74 := NB520_511.out
      have hcz75_0 : w71.cell? ⟨gb511, 0, none⟩ = some (.int .i64 t504) := (blk_cell BK511.out 0).trans rfl
      have hcz75_1 : w71.cell? ⟨gb511, 1, none⟩ = some (.slice Ao33 t505.length co33) := (blk_cell BK511.out 1).trans rfl
      have hcz75_2 : w71.cell? ⟨gb511, 2, none⟩ = some (.slice Ao34 t508.length co34) := (blk_cell BK511.out 2).trans rfl
      have hfz75_0 := blk_frozen BK511.out 0
      have hfz75_1 := blk_frozen BK511.out 1
      have hfz75_2 := blk_frozen BK511.out 2
      go_upto_region 14 with (first | ((with_reducible refine gate_callee (f := 20) rfl ?_); refine goesL_ (some 56) rfl rfl Try.func20 (by kernel_rfl) rfl #[.agg #[.int .i64 t504, .slice Ao33 t505.length co33, .slice Ao34 t508.length co34], .int .i64 1] rfl (by (try simp only [List.map_toArray, List.map_cons, List.map_nil]); first | done | rfl | (simp only [List.length_drop, List.length_take]; rfl)) ?_; (with_reducible refine (laws_markJacobi.calls kj12 t504 (fun k_ => some k_ = (.slice Ao33 t505.length co33 : Value).ownBlock) (.slice Ao33 t505.length co33) t505 (fun k_ => some k_ = (.slice Ao34 t508.length co34 : Value).ownBlock) (.slice Ao34 t508.length co34) t508 1 t530 t531 t532 w _ ?side1 ?side2 ?side3 ?side4 ?side5 A65.out).mono ?_); (case side1 => repeat (first | (with_reducible first | exact HB.out | apply below_alloc | apply pw_below_drewN | apply below_drew1 | refine below_set ?_ GE486.out | refine below_set ?_ GE503.out | refine below_set ?_ GE511.out | refine below_set ?_ GE520.out) | exact HB.out)); (case side2 => exact Kd.R_tight rfl HO_512001.out); (case side3 => exact fun k_ e_ => (HO_512001.out.1 k_ e_.symm).1.1.2.2.1); (case side4 => exact Kd.R_tight rfl HO_512002.out); (case side5 => exact fun k_ e_ => (HO_512002.out.1 k_ e_.symm).1.1.2.2.1); rintro e w76 ⟨rfl, hy0, hy1, hb, hkp⟩; refine ⟨_, rfl, ?_⟩; have n0_ := zA (Kd.R_mono (ok' := fun k_ => some k_ ≠ (.slice Ao26 t499.length co26 : Value).ownBlock ∧ some k_ ≠ (.slice Ao33 t505.length co33 : Value).ownBlock ∧ some k_ ≠ (.slice Ao34 t508.length co34 : Value).ownBlock ∧ some k_ ≠ (.slice Ao41 t513.length co41 : Value).ownBlock ∧ some k_ ≠ (.slice Ao42 t516.length co42 : Value).ownBlock ∧ some k_ ≠ (.slice Ao69 t523.length co69 : Value).ownBlock ∧ some k_ ≠ (.slice Ao70 t526.length co70 : Value).ownBlock) (Kd.R_keptB (HO_504001.out) hkp (fun k_ hk_ hs_ => Or.elim hs_ (fun e_ => (hk_.1.1.2.1) e_) (fun e_ => (hk_.1.1.2.2.1) e_))) (fun k_ hk_ => ⟨hk_.1.1.1.1, hk_.1.1.1.2.1, hk_.1.1.1.2.2.1, hk_.1.1.1.2.2.2.1, hk_.1.1.1.2.2.2.2, hk_.1.1.2, hk_.1.2⟩)); have n1_ := zA (Kd.R_mono (ok' := fun k_ => some k_ ≠ (.slice Ao25 t496.length co25 : Value).ownBlock ∧ some k_ ≠ (.slice Ao33 t505.length co33 : Value).ownBlock ∧ some k_ ≠ (.slice Ao34 t508.length co34 : Value).ownBlock ∧ some k_ ≠ (.slice Ao41 t513.length co41 : Value).ownBlock ∧ some k_ ≠ (.slice Ao42 t516.length co42 : Value).ownBlock ∧ some k_ ≠ (.slice Ao69 t523.length co69 : Value).ownBlock ∧ some k_ ≠ (.slice Ao70 t526.length co70 : Value).ownBlock) (Kd.R_keptB (HO_504002.out) hkp (fun k_ hk_ hs_ => Or.elim hs_ (fun e_ => (hk_.1.1.2.1) e_) (fun e_ => (hk_.1.1.2.2.1) e_))) (fun k_ hk_ => ⟨hk_.1.1.1.1, hk_.1.1.1.2.1, hk_.1.1.1.2.2.1, hk_.1.1.1.2.2.2.1, hk_.1.1.1.2.2.2.2, hk_.1.1.2, hk_.1.2⟩)); have n2_ := zA (Kd.R_reok rfl hy0 (fun k_ e_ => HO_512001.out.1 k_ e_)); have n3_ := zA (Kd.R_reok rfl hy1 (fun k_ e_ => HO_512002.out.1 k_ e_)); have n4_ := zA (Kd.R_mono (ok' := fun k_ => some k_ ≠ (.slice Ao25 t496.length co25 : Value).ownBlock ∧ some k_ ≠ (.slice Ao26 t499.length co26 : Value).ownBlock ∧ some k_ ≠ (.slice Ao33 t505.length co33 : Value).ownBlock ∧ some k_ ≠ (.slice Ao34 t508.length co34 : Value).ownBlock ∧ some k_ ≠ (.slice Ao42 t516.length co42 : Value).ownBlock ∧ some k_ ≠ (.slice Ao69 t523.length co69 : Value).ownBlock ∧ some k_ ≠ (.slice Ao70 t526.length co70 : Value).ownBlock) (Kd.R_keptB (HO_521001.out) hkp (fun k_ hk_ hs_ => Or.elim hs_ (fun e_ => (hk_.1.1.2.2.1) e_) (fun e_ => (hk_.1.1.2.2.2.1) e_))) (fun k_ hk_ => ⟨hk_.1.1.1.1, hk_.1.1.1.2.1, hk_.1.1.1.2.2.1, hk_.1.1.1.2.2.2.1, hk_.1.1.1.2.2.2.2, hk_.1.1.2, hk_.1.2⟩)); have n5_ := zA (Kd.R_mono (ok' := fun k_ => some k_ ≠ (.slice Ao25 t496.length co25 : Value).ownBlock ∧ some k_ ≠ (.slice Ao26 t499.length co26 : Value).ownBlock ∧ some k_ ≠ (.slice Ao33 t505.length co33 : Value).ownBlock ∧ some k_ ≠ (.slice Ao34 t508.length co34 : Value).ownBlock ∧ some k_ ≠ (.slice Ao41 t513.length co41 : Value).ownBlock ∧ some k_ ≠ (.slice Ao69 t523.length co69 : Value).ownBlock ∧ some k_ ≠ (.slice Ao70 t526.length co70 : Value).ownBlock) (Kd.R_keptB (HO_521002.out) hkp (fun k_ hk_ hs_ => Or.elim hs_ (fun e_ => (hk_.1.1.2.2.1) e_) (fun e_ => (hk_.1.1.2.2.2.1) e_))) (fun k_ hk_ => ⟨hk_.1.1.1.1, hk_.1.1.1.2.1, hk_.1.1.1.2.2.1, hk_.1.1.1.2.2.2.1, hk_.1.1.1.2.2.2.2, hk_.1.1.2, hk_.1.2⟩)); have n6_ := zA (blk_kept (uB BK486.out) hkp (fun hs_ => Or.elim hs_ (fun e_ => (fun e_ => (Kd.R_ne HO_512001.out BK486.out (by decide)) e_) e_) (fun e_ => (fun e_ => (Kd.R_ne HO_512002.out BK486.out (by decide)) e_) e_))); have n7_ := zA (blk_kept (uB BK503.out) hkp (fun hs_ => Or.elim hs_ (fun e_ => (fun e_ => (Kd.R_ne HO_512001.out BK503.out (by decide)) e_) e_) (fun e_ => (fun e_ => (Kd.R_ne HO_512002.out BK503.out (by decide)) e_) e_))); have n8_ := zA (blk_kept (uB BK511.out) hkp (fun hs_ => Or.elim hs_ (fun e_ => (fun e_ => (Kd.R_ne HO_512001.out BK511.out (by decide)) e_) e_) (fun e_ => (fun e_ => (Kd.R_ne HO_512002.out BK511.out (by decide)) e_) e_))); have n9_ := zA (blk_kept (uB BK520.out) hkp (fun hs_ => Or.elim hs_ (fun e_ => (fun e_ => (Kd.R_ne HO_512001.out BK520.out (by decide)) e_) e_) (fun e_ => (fun e_ => (Kd.R_ne HO_512002.out BK520.out (by decide)) e_) e_))); have n10_ := zA (Kd.R_mono (ok' := fun k_ => some k_ ≠ (.slice Ao25 t496.length co25 : Value).ownBlock ∧ some k_ ≠ (.slice Ao26 t499.length co26 : Value).ownBlock ∧ some k_ ≠ (.slice Ao33 t505.length co33 : Value).ownBlock ∧ some k_ ≠ (.slice Ao34 t508.length co34 : Value).ownBlock ∧ some k_ ≠ (.slice Ao41 t513.length co41 : Value).ownBlock ∧ some k_ ≠ (.slice Ao42 t516.length co42 : Value).ownBlock ∧ some k_ ≠ (.slice Ao70 t526.length co70 : Value).ownBlock) (Kd.R_keptB (HO525.out) hkp (fun k_ hk_ hs_ => Or.elim hs_ (fun e_ => (hk_.1.1.1.2) e_) (fun e_ => (hk_.1.1.2) e_))) (fun k_ hk_ => ⟨hk_.1.1.1.1.1.1.2, hk_.1.1.1.1.1.2, hk_.1.1.1.1.2, hk_.1.1.1.2, hk_.1.1.2, hk_.1.2, hk_.1.1.1.1.1.1.1⟩)); have n11_ := zA (Kd.R_mono (ok' := fun k_ => some k_ ≠ (.slice Ao25 t496.length co25 : Value).ownBlock ∧ some k_ ≠ (.slice Ao26 t499.length co26 : Value).ownBlock ∧ some k_ ≠ (.slice Ao33 t505.length co33 : Value).ownBlock ∧ some k_ ≠ (.slice Ao34 t508.length co34 : Value).ownBlock ∧ some k_ ≠ (.slice Ao41 t513.length co41 : Value).ownBlock ∧ some k_ ≠ (.slice Ao42 t516.length co42 : Value).ownBlock ∧ some k_ ≠ (.slice Ao69 t523.length co69 : Value).ownBlock) (Kd.R_keptB (HO528.out) hkp (fun k_ hk_ hs_ => Or.elim hs_ (fun e_ => (hk_.1.1.1.2) e_) (fun e_ => (hk_.1.1.2) e_))) (fun k_ hk_ => ⟨hk_.1.1.1.1.1.1.2, hk_.1.1.1.1.1.2, hk_.1.1.1.1.2, hk_.1.1.1.2, hk_.1.1.2, hk_.1.2, hk_.1.1.1.1.1.1.1⟩)); have n12_ := zA (hb); clear HO_504001 HO_504002 HO_512001 HO_512002 HO_521001 HO_521002 BK486 BK503 BK511 BK520 HO525 HO528 HB; have HO_504001 := n0_; have HO_504002 := n1_; have HO_512001 := n2_; have HO_512002 := n3_; have HO_521001 := n4_; have HO_521002 := n5_; have BK486 := n6_; have BK503 := n7_; have BK511 := n8_; have BK520 := n9_; have HO525 := n10_; have HO528 := n11_; have HB := n12_; clear n0_ n1_ n2_ n3_ n4_ n5_ n6_ n7_ n8_ n9_ n10_ n11_ n12_; (try clear hb); (try clear hkp); (try clear hy0); (try clear hy1)))
      (try simp only [Act.put, List.setIfInBounds_toArray, List.set_cons_zero, List.set_cons_succ])
      go_cut [69] (fun v69 wc => ∃ (kq : Nat) (x69_65 : Bool), v69 = .bool x69_65 ∧ Aside0 (laws_FnExactAffineJacobi.j1 kq a1 a2 t502 x69_65 a0_0 l0_1 l0_2 t495 t496 t499 t512 t513 t516 = some r) ∧ Aside0 (kq ≤ kj12) ∧ Aside0 (Kd.R (Kd.int .i64) 2 wc w.heap.size (fun k_ => some k_ ≠ ((.slice Ao26 t499.length co26) : Value).ownBlock ∧ some k_ ≠ ((.slice Ao33 t505.length co33) : Value).ownBlock ∧ some k_ ≠ ((.slice Ao34 t508.length co34) : Value).ownBlock ∧ some k_ ≠ ((.slice Ao41 t513.length co41) : Value).ownBlock ∧ some k_ ≠ ((.slice Ao42 t516.length co42) : Value).ownBlock) (.slice Ao25 t496.length co25) t496) ∧ Aside0 (Kd.R (Kd.int .i64) 2 wc w.heap.size (fun k_ => some k_ ≠ ((.slice Ao25 t496.length co25) : Value).ownBlock ∧ some k_ ≠ ((.slice Ao33 t505.length co33) : Value).ownBlock ∧ some k_ ≠ ((.slice Ao34 t508.length co34) : Value).ownBlock ∧ some k_ ≠ ((.slice Ao41 t513.length co41) : Value).ownBlock ∧ some k_ ≠ ((.slice Ao42 t516.length co42) : Value).ownBlock) (.slice Ao26 t499.length co26) t499) ∧ Aside0 (Kd.R (Kd.int .i64) 2 wc w.heap.size (fun k_ => some k_ ≠ ((.slice Ao25 t496.length co25) : Value).ownBlock ∧ some k_ ≠ ((.slice Ao26 t499.length co26) : Value).ownBlock ∧ some k_ ≠ ((.slice Ao34 t508.length co34) : Value).ownBlock ∧ some k_ ≠ ((.slice Ao41 t513.length co41) : Value).ownBlock ∧ some k_ ≠ ((.slice Ao42 t516.length co42) : Value).ownBlock) (.slice Ao33 t505.length co33) t531) ∧ Aside0 (Kd.R (Kd.int .i64) 2 wc w.heap.size (fun k_ => some k_ ≠ ((.slice Ao25 t496.length co25) : Value).ownBlock ∧ some k_ ≠ ((.slice Ao26 t499.length co26) : Value).ownBlock ∧ some k_ ≠ ((.slice Ao33 t505.length co33) : Value).ownBlock ∧ some k_ ≠ ((.slice Ao41 t513.length co41) : Value).ownBlock ∧ some k_ ≠ ((.slice Ao42 t516.length co42) : Value).ownBlock) (.slice Ao34 t508.length co34) t532) ∧ Aside0 (Kd.R (Kd.int .i64) 2 wc w.heap.size (fun k_ => some k_ ≠ ((.slice Ao25 t496.length co25) : Value).ownBlock ∧ some k_ ≠ ((.slice Ao26 t499.length co26) : Value).ownBlock ∧ some k_ ≠ ((.slice Ao33 t505.length co33) : Value).ownBlock ∧ some k_ ≠ ((.slice Ao34 t508.length co34) : Value).ownBlock ∧ some k_ ≠ ((.slice Ao42 t516.length co42) : Value).ownBlock) (.slice Ao41 t513.length co41) t513) ∧ Aside0 (Kd.R (Kd.int .i64) 2 wc w.heap.size (fun k_ => some k_ ≠ ((.slice Ao25 t496.length co25) : Value).ownBlock ∧ some k_ ≠ ((.slice Ao26 t499.length co26) : Value).ownBlock ∧ some k_ ≠ ((.slice Ao33 t505.length co33) : Value).ownBlock ∧ some k_ ≠ ((.slice Ao34 t508.length co34) : Value).ownBlock ∧ some k_ ≠ ((.slice Ao41 t513.length co41) : Value).ownBlock) (.slice Ao42 t516.length co42) t516) ∧ Aside0 (wc.heap[gb486]? = some (.cells #[.int .i64 a0_0, (.slice A0_1 l0_1.length c0_1), (.slice A0_2 l0_2.length c0_2)] 24 (0, 0))) ∧ Aside0 (wc.heap[gb503]? = some (.cells #[.int .i64 t495, (.slice Ao25 t496.length co25), (.slice Ao26 t499.length co26)] 26 (0, 0))) ∧ Aside0 (wc.heap[gb511]? = some (.cells #[.int .i64 t504, (.slice Ao33 t505.length co33), (.slice Ao34 t508.length co34)] 26 (0, 0))) ∧ Aside0 (wc.heap[gb520]? = some (.cells #[.int .i64 t512, (.slice Ao41 t513.length co41), (.slice Ao42 t516.length co42)] 26 (0, 0))) ∧ Aside0 (Below w.heap.size w wc))
      case first =>
       have H := HC66.out
       clear HC66
       by_cases c77 : t530 < 0
       ·rw [if_pos c77] at H
        have c77b0 : decide (t530 < 0) = true := decide_eq_true c77
        clear c77
        (first | rw [c77b0] | (simp only [i64_w, i32_w]; rw [c77b0]) | skip)
        have H' := zA H
        clear H
        go_wp2
        go_meet
        case rel => exact ⟨_, (true), (by first | rfl | (simp; done) | (simp [*]; done)), H', ⟨by have := HJ12.out; first | omega | exact Nat.le_refl _⟩, ⟨uR (Kd.R_mono HO_504001.out (fun _ hk => ⟨hk.1, ⟨hk.2.1, ⟨hk.2.2.1, ⟨hk.2.2.2.1, hk.2.2.2.2.1⟩⟩⟩⟩))⟩, ⟨uR (Kd.R_mono HO_504002.out (fun _ hk => ⟨hk.1, ⟨hk.2.1, ⟨hk.2.2.1, ⟨hk.2.2.2.1, hk.2.2.2.2.1⟩⟩⟩⟩))⟩, ⟨uR (Kd.R_mono HO_512001.out (fun _ hk => ⟨hk.1.1.1, ⟨hk.1.1.2.1, ⟨hk.1.1.2.2.1, ⟨hk.1.1.2.2.2.1, hk.1.1.2.2.2.2⟩⟩⟩⟩))⟩, ⟨uR (Kd.R_mono HO_512002.out (fun _ hk => ⟨hk.1.1.1, ⟨hk.1.1.2.1, ⟨hk.1.1.2.2.1, ⟨hk.1.1.2.2.2.1, hk.1.1.2.2.2.2⟩⟩⟩⟩))⟩, ⟨uR (Kd.R_mono HO_521001.out (fun _ hk => ⟨hk.1, ⟨hk.2.1, ⟨hk.2.2.1, ⟨hk.2.2.2.1, hk.2.2.2.2.1⟩⟩⟩⟩))⟩, ⟨uR (Kd.R_mono HO_521002.out (fun _ hk => ⟨hk.1, ⟨hk.2.1, ⟨hk.2.2.1, ⟨hk.2.2.2.1, hk.2.2.2.2.1⟩⟩⟩⟩))⟩, ⟨uB BK486.out⟩, ⟨uB BK503.out⟩, ⟨uB BK511.out⟩, ⟨uB BK520.out⟩, ⟨uH HB.out⟩⟩
       ·rw [if_neg c77] at H
        have c77b0 : decide (t530 < 0) = false := decide_eq_false c77
        clear c77
        (first | rw [c77b0] | (simp only [i64_w, i32_w]; rw [c77b0]) | skip)
        replace H := Option.bind_eq_some_iff.mp H
        obtain ⟨t533, A780, H⟩ := H
        replace H : (if t533 = true then (laws_FnExactAffineJacobi.j1 kj12 a1 a2 t502 (t519 != t502) a0_0 l0_1 l0_2 t495 t496 t499 t512 t513 t516) else (laws_FnExactAffineJacobi.j1 kj12 a1 a2 t502 true a0_0 l0_1 l0_2 t495 t496 t499 t512 t513 t516)) = some r := H
        have A78 := zA A780
        clear A780
        by_cases c79 : t533 = true
        ·subst c79
         have H1 : (laws_FnExactAffineJacobi.j1 kj12 a1 a2 t502 (t519 != t502) a0_0 l0_1 l0_2 t495 t496 t499 t512 t513 t516) = some r := by rw [if_pos rfl] at H; exact H
         clear H
         have H := H1
         clear H1
         have H' := zA H
         clear H
         have hnb80 := NB520_486.out; have hnc80 := NB486_520.out; have hnb81 := NB520_503.out; have hnc81 := NB503_520.out; have hnb82 := NB520_511.out; have hnc82 := NB511_520.out
         have hcz83_0 : w76.cell? ⟨gb520, 0, none⟩ = some (.int .i64 t512) := (blk_cell BK520.out 0).trans rfl
         have hcz83_1 : w76.cell? ⟨gb520, 1, none⟩ = some (.slice Ao41 t513.length co41) := (blk_cell BK520.out 1).trans rfl
         have hcz83_2 : w76.cell? ⟨gb520, 2, none⟩ = some (.slice Ao42 t516.length co42) := (blk_cell BK520.out 2).trans rfl
         have hfz83_0 := blk_frozen BK520.out 0
         have hfz83_1 := blk_frozen BK520.out 1
         have hfz83_2 := blk_frozen BK520.out 2
         have hnb84 := NB503_486.out; have hnc84 := NB486_503.out; have hnb85 := NB503_511.out; have hnc85 := NB511_503.out
         have hcz86_0 : w76.cell? ⟨gb503, 0, none⟩ = some (.int .i64 t495) := (blk_cell BK503.out 0).trans rfl
         have hcz86_1 : w76.cell? ⟨gb503, 1, none⟩ = some (.slice Ao25 t496.length co25) := (blk_cell BK503.out 1).trans rfl
         have hcz86_2 : w76.cell? ⟨gb503, 2, none⟩ = some (.slice Ao26 t499.length co26) := (blk_cell BK503.out 2).trans rfl
         have hfz86_0 := blk_frozen BK503.out 0
         have hfz86_1 := blk_frozen BK503.out 1
         have hfz86_2 := blk_frozen BK503.out 2
         go_wp2_with (first | (go_at_call 19; (with_reducible refine (laws_eqJacobi.calls kj12 t512 _ _ t513 _ _ t516 t495 _ _ t496 _ _ t499 true _ ?side1 ?side2 ?side3 ?side4 ?side5 ?side6 ?side7 ?side8 A78.out).mono ?_); (case side1 => exact uC ((Kd.R_reads' HO_521001.out).2.2)); (case side2 => exact (Kd.R_reads' HO_521001.out).2.1); (case side3 => exact uC ((Kd.R_reads' HO_521002.out).2.2)); (case side4 => exact (Kd.R_reads' HO_521002.out).2.1); (case side5 => exact uC ((Kd.R_reads' HO_504001.out).2.2)); (case side6 => exact (Kd.R_reads' HO_504001.out).2.1); (case side7 => exact uC ((Kd.R_reads' HO_504002.out).2.2)); (case side8 => exact (Kd.R_reads' HO_504002.out).2.1); rintro e w87 ⟨rfl, hb⟩; have n0_ := xR HO_504001 hb; have n1_ := xR HO_504002 hb; have n2_ := xR HO_512001 hb; have n3_ := xR HO_512002 hb; have n4_ := xR HO_521001 hb; have n5_ := xR HO_521002 hb; have n6_ := xR HO525 hb; have n7_ := xR HO528 hb; have n8_ := xB BK486 hb; have n9_ := xB BK503 hb; have n10_ := xB BK511 hb; have n11_ := xB BK520 hb; have n12_ := xH HB hb; clear HO_504001 HO_504002 HO_512001 HO_512002 HO_521001 HO_521002 HO525 HO528 BK486 BK503 BK511 BK520 HB; have HO_504001 := n0_; have HO_504002 := n1_; have HO_512001 := n2_; have HO_512002 := n3_; have HO_521001 := n4_; have HO_521002 := n5_; have HO525 := n6_; have HO528 := n7_; have BK486 := n8_; have BK503 := n9_; have BK511 := n10_; have BK520 := n11_; have HB := n12_; clear n0_ n1_ n2_ n3_ n4_ n5_ n6_ n7_ n8_ n9_ n10_ n11_ n12_; (try clear hb); (try clear hb2); (try clear hk); (try clear hi)))
         go_meet
         case rel => exact ⟨_, ((t519 != t502)), (by first | rfl | (simp; done) | (simp [*]; done)), H', ⟨by have := HJ12.out; first | omega | exact Nat.le_refl _⟩, ⟨uR (Kd.R_mono HO_504001.out (fun _ hk => ⟨hk.1, ⟨hk.2.1, ⟨hk.2.2.1, ⟨hk.2.2.2.1, hk.2.2.2.2.1⟩⟩⟩⟩))⟩, ⟨uR (Kd.R_mono HO_504002.out (fun _ hk => ⟨hk.1, ⟨hk.2.1, ⟨hk.2.2.1, ⟨hk.2.2.2.1, hk.2.2.2.2.1⟩⟩⟩⟩))⟩, ⟨uR (Kd.R_mono HO_512001.out (fun _ hk => ⟨hk.1.1.1, ⟨hk.1.1.2.1, ⟨hk.1.1.2.2.1, ⟨hk.1.1.2.2.2.1, hk.1.1.2.2.2.2⟩⟩⟩⟩))⟩, ⟨uR (Kd.R_mono HO_512002.out (fun _ hk => ⟨hk.1.1.1, ⟨hk.1.1.2.1, ⟨hk.1.1.2.2.1, ⟨hk.1.1.2.2.2.1, hk.1.1.2.2.2.2⟩⟩⟩⟩))⟩, ⟨uR (Kd.R_mono HO_521001.out (fun _ hk => ⟨hk.1, ⟨hk.2.1, ⟨hk.2.2.1, ⟨hk.2.2.2.1, hk.2.2.2.2.1⟩⟩⟩⟩))⟩, ⟨uR (Kd.R_mono HO_521002.out (fun _ hk => ⟨hk.1, ⟨hk.2.1, ⟨hk.2.2.1, ⟨hk.2.2.2.1, hk.2.2.2.2.1⟩⟩⟩⟩))⟩, ⟨uB BK486.out⟩, ⟨uB BK503.out⟩, ⟨uB BK511.out⟩, ⟨uB BK520.out⟩, ⟨uH HB.out⟩⟩
        ·replace c79 := Bool.eq_false_iff.mpr c79
         subst c79
         have H1 : (laws_FnExactAffineJacobi.j1 kj12 a1 a2 t502 true a0_0 l0_1 l0_2 t495 t496 t499 t512 t513 t516) = some r := by rw [if_neg (show ¬ (false = true) by decide)] at H; exact H
         clear H
         have H := H1
         clear H1
         have H' := zA H
         clear H
         have hnb88 := NB520_486.out; have hnc88 := NB486_520.out; have hnb89 := NB520_503.out; have hnc89 := NB503_520.out; have hnb90 := NB520_511.out; have hnc90 := NB511_520.out
         have hcz91_0 : w76.cell? ⟨gb520, 0, none⟩ = some (.int .i64 t512) := (blk_cell BK520.out 0).trans rfl
         have hcz91_1 : w76.cell? ⟨gb520, 1, none⟩ = some (.slice Ao41 t513.length co41) := (blk_cell BK520.out 1).trans rfl
         have hcz91_2 : w76.cell? ⟨gb520, 2, none⟩ = some (.slice Ao42 t516.length co42) := (blk_cell BK520.out 2).trans rfl
         have hfz91_0 := blk_frozen BK520.out 0
         have hfz91_1 := blk_frozen BK520.out 1
         have hfz91_2 := blk_frozen BK520.out 2
         have hnb92 := NB503_486.out; have hnc92 := NB486_503.out; have hnb93 := NB503_511.out; have hnc93 := NB511_503.out
         have hcz94_0 : w76.cell? ⟨gb503, 0, none⟩ = some (.int .i64 t495) := (blk_cell BK503.out 0).trans rfl
         have hcz94_1 : w76.cell? ⟨gb503, 1, none⟩ = some (.slice Ao25 t496.length co25) := (blk_cell BK503.out 1).trans rfl
         have hcz94_2 : w76.cell? ⟨gb503, 2, none⟩ = some (.slice Ao26 t499.length co26) := (blk_cell BK503.out 2).trans rfl
         have hfz94_0 := blk_frozen BK503.out 0
         have hfz94_1 := blk_frozen BK503.out 1
         have hfz94_2 := blk_frozen BK503.out 2
         go_wp2_with (first | (go_at_call 19; (with_reducible refine (laws_eqJacobi.calls kj12 t512 _ _ t513 _ _ t516 t495 _ _ t496 _ _ t499 false _ ?side1 ?side2 ?side3 ?side4 ?side5 ?side6 ?side7 ?side8 A78.out).mono ?_); (case side1 => exact uC ((Kd.R_reads' HO_521001.out).2.2)); (case side2 => exact (Kd.R_reads' HO_521001.out).2.1); (case side3 => exact uC ((Kd.R_reads' HO_521002.out).2.2)); (case side4 => exact (Kd.R_reads' HO_521002.out).2.1); (case side5 => exact uC ((Kd.R_reads' HO_504001.out).2.2)); (case side6 => exact (Kd.R_reads' HO_504001.out).2.1); (case side7 => exact uC ((Kd.R_reads' HO_504002.out).2.2)); (case side8 => exact (Kd.R_reads' HO_504002.out).2.1); rintro e w95 ⟨rfl, hb⟩; have n0_ := xR HO_504001 hb; have n1_ := xR HO_504002 hb; have n2_ := xR HO_512001 hb; have n3_ := xR HO_512002 hb; have n4_ := xR HO_521001 hb; have n5_ := xR HO_521002 hb; have n6_ := xR HO525 hb; have n7_ := xR HO528 hb; have n8_ := xB BK486 hb; have n9_ := xB BK503 hb; have n10_ := xB BK511 hb; have n11_ := xB BK520 hb; have n12_ := xH HB hb; clear HO_504001 HO_504002 HO_512001 HO_512002 HO_521001 HO_521002 HO525 HO528 BK486 BK503 BK511 BK520 HB; have HO_504001 := n0_; have HO_504002 := n1_; have HO_512001 := n2_; have HO_512002 := n3_; have HO_521001 := n4_; have HO_521002 := n5_; have HO525 := n6_; have HO528 := n7_; have BK486 := n8_; have BK503 := n9_; have BK511 := n10_; have BK520 := n11_; have HB := n12_; clear n0_ n1_ n2_ n3_ n4_ n5_ n6_ n7_ n8_ n9_ n10_ n11_ n12_; (try clear hb); (try clear hb2); (try clear hk); (try clear hi)))
         go_meet
         case rel => exact ⟨_, (true), (by first | rfl | (simp; done) | (simp [*]; done)), H', ⟨by have := HJ12.out; first | omega | exact Nat.le_refl _⟩, ⟨uR (Kd.R_mono HO_504001.out (fun _ hk => ⟨hk.1, ⟨hk.2.1, ⟨hk.2.2.1, ⟨hk.2.2.2.1, hk.2.2.2.2.1⟩⟩⟩⟩))⟩, ⟨uR (Kd.R_mono HO_504002.out (fun _ hk => ⟨hk.1, ⟨hk.2.1, ⟨hk.2.2.1, ⟨hk.2.2.2.1, hk.2.2.2.2.1⟩⟩⟩⟩))⟩, ⟨uR (Kd.R_mono HO_512001.out (fun _ hk => ⟨hk.1.1.1, ⟨hk.1.1.2.1, ⟨hk.1.1.2.2.1, ⟨hk.1.1.2.2.2.1, hk.1.1.2.2.2.2⟩⟩⟩⟩))⟩, ⟨uR (Kd.R_mono HO_512002.out (fun _ hk => ⟨hk.1.1.1, ⟨hk.1.1.2.1, ⟨hk.1.1.2.2.1, ⟨hk.1.1.2.2.2.1, hk.1.1.2.2.2.2⟩⟩⟩⟩))⟩, ⟨uR (Kd.R_mono HO_521001.out (fun _ hk => ⟨hk.1, ⟨hk.2.1, ⟨hk.2.2.1, ⟨hk.2.2.2.1, hk.2.2.2.2.1⟩⟩⟩⟩))⟩, ⟨uR (Kd.R_mono HO_521002.out (fun _ hk => ⟨hk.1, ⟨hk.2.1, ⟨hk.2.2.1, ⟨hk.2.2.2.1, hk.2.2.2.2.1⟩⟩⟩⟩))⟩, ⟨uB BK486.out⟩, ⟨uB BK503.out⟩, ⟨uB BK511.out⟩, ⟨uB BK520.out⟩, ⟨uH HB.out⟩⟩
      case rest =>
       clear HC66
       try clear c1
       try clear c2
       try clear p2
       try clear c3
       try clear c4
       try clear c5
       try clear c5b0
       try clear c6
       try clear c7
       try clear c8
       try clear c9
       try clear c15
       try clear c17
       try clear c19
       try clear c20
       try clear c23
       try clear c26
       try clear c27
       try clear c30
       try clear c31
       try clear c37
       try clear c38
       try clear c39
       try clear c44
       try clear c45
       try clear c46
       try clear c47
       try clear c49
       try clear c50
       try clear c53
       try clear c54
       try clear c55
       try clear c57
       try clear c58
       try clear c61
       try clear c64
       try clear c72
       try clear c73
       try clear c74
       try clear c77
       try clear c77b0
       try clear c79
       try clear c80
       try clear c81
       try clear c82
       try clear c84
       try clear c85
       try clear c88
       try clear c89
       try clear c90
       try clear c92
       try clear c93
       try clear hcz15_0
       try clear hcz15_1
       try clear hcz15_2
       try clear hcz17_0
       try clear hcz17_1
       try clear hcz17_2
       try clear hcz24_0
       try clear hcz24_1
       try clear hcz24_2
       try clear hcz27_0
       try clear hcz27_1
       try clear hcz27_2
       try clear hcz32_0
       try clear hcz32_1
       try clear hcz32_2
       try clear hcz40_0
       try clear hcz40_1
       try clear hcz40_2
       try clear hcz48_0
       try clear hcz48_1
       try clear hcz48_2
       try clear hcz51_0
       try clear hcz51_1
       try clear hcz51_2
       try clear hcz56_0
       try clear hcz56_1
       try clear hcz56_2
       try clear hcz59_0
       try clear hcz59_1
       try clear hcz59_2
       try clear hcz75_0
       try clear hcz75_1
       try clear hcz75_2
       try clear hcz7_0
       try clear hcz7_1
       try clear hcz7_2
       try clear hcz83_0
       try clear hcz83_1
       try clear hcz83_2
       try clear hcz86_0
       try clear hcz86_1
       try clear hcz86_2
       try clear hcz91_0
       try clear hcz91_1
       try clear hcz91_2
       try clear hcz94_0
       try clear hcz94_1
       try clear hcz94_2
       try clear hfz15_0
       try clear hfz15_1
       try clear hfz15_2
       try clear hfz17_0
       try clear hfz17_1
       try clear hfz17_2
       try clear hfz24_0
       try clear hfz24_1
       try clear hfz24_2
       try clear hfz27_0
       try clear hfz27_1
       try clear hfz27_2
       try clear hfz32_0
       try clear hfz32_1
       try clear hfz32_2
       try clear hfz40_0
       try clear hfz40_1
       try clear hfz40_2
       try clear hfz48_0
       try clear hfz48_1
       try clear hfz48_2
       try clear hfz51_0
       try clear hfz51_1
       try clear hfz51_2
       try clear hfz56_0
       try clear hfz56_1
       try clear hfz56_2
       try clear hfz59_0
       try clear hfz59_1
       try clear hfz59_2
       try clear hfz75_0
       try clear hfz75_1
       try clear hfz75_2
       try clear hfz7_0
       try clear hfz7_1
       try clear hfz7_2
       try clear hfz83_0
       try clear hfz83_1
       try clear hfz83_2
       try clear hfz86_0
       try clear hfz86_1
       try clear hfz86_2
       try clear hfz91_0
       try clear hfz91_1
       try clear hfz91_2
       try clear hfz94_0
       try clear hfz94_1
       try clear hfz94_2
       try clear p2
       obtain ⟨kq, x69_65, rfl, HA, HJ65, HO_504001, HO_504002, HO_512001, HO_512002, HO_521001, HO_521002, BK486, BK503, BK511, BK520, HB⟩ := hcut
       have hl512001_65 := (Kd.R_reads' HO_512001.out).1
       rw [hl512001_65] at HO_512001
       (try simp only [hl512001_65])
       (try simp only [hl512001_65] at BK486)
       (try simp only [hl512001_65] at BK503)
       (try simp only [hl512001_65] at BK511)
       (try simp only [hl512001_65] at BK520)
       (try simp only [hl512001_65] at HO_504001)
       (try simp only [hl512001_65] at HO_504002)
       (try simp only [hl512001_65] at HO_512002)
       (try simp only [hl512001_65] at HO_521001)
       (try simp only [hl512001_65] at HO_521002)
       have hl512002_65 := (Kd.R_reads' HO_512002.out).1
       rw [hl512002_65] at HO_512002
       (try simp only [hl512002_65])
       (try simp only [hl512002_65] at BK486)
       (try simp only [hl512002_65] at BK503)
       (try simp only [hl512002_65] at BK511)
       (try simp only [hl512002_65] at BK520)
       (try simp only [hl512002_65] at HO_504001)
       (try simp only [hl512002_65] at HO_504002)
       (try simp only [hl512002_65] at HO_512001)
       (try simp only [hl512002_65] at HO_521001)
       (try simp only [hl512002_65] at HO_521002)
       cases kq with
       | zero => exact absurd HA.out (by simp [laws_FnExactAffineJacobi.j1])
       | succ kj65 =>
        have H := HA.out
        clear HA
        simp only [laws_FnExactAffineJacobi.j1] at H
        by_cases c96 : x69_65 = true
        ·subst c96
         have H1 : (some false) = some r := by rw [if_pos rfl] at H; exact H
         clear H
         have H := H1
         clear H1
         rw [HRT.out] at H
         exact absurd H (by simp)
        ·replace c96 := Bool.eq_false_iff.mpr c96
         subst c96
         have H1 : ((laws_markJacobi.f kj65 t512 t513 t516 1).bind fun bt534 => ((laws_heldJacobi.f kj65 t512 bt534.2.1 bt534.2.2 1).bind fun t537 => (if t537 < 0 then (some false) else (if t537 = bt534.1 then ((laws_toJacobi.f kj65 a0_0 l0_1 l0_2).bind fun bt538 => ((impl_AffineJacobi.f kj65 bt538.1 bt538.2.1 bt538.2.2 a1 a2).bind fun bt545 => ((laws_eqJacobi.f kj65 bt545.1 bt545.2.1 bt545.2.2.1 t495 t496 t499).bind fun t554 => (if t554 = true then (laws_FnExactAffineJacobi.j2 kj65 bt534.1 (bt545.2.2.2 != t502) t512 bt534.2.1 bt534.2.2) else (laws_FnExactAffineJacobi.j2 kj65 bt534.1 true t512 bt534.2.1 bt534.2.2))))) else (some false))))) = some r := by rw [if_neg (show ¬ (false = true) by decide)] at H; exact H
         clear H
         have H := H1
         clear H1
         replace H := Option.bind_eq_some_iff.mp H
         obtain ⟨⟨t534, t535, t536⟩, A970, H⟩ := H
         replace H : ((laws_heldJacobi.f kj65 t512 t535 t536 1).bind fun t537 => (if t537 < 0 then (some false) else (if t537 = t534 then ((laws_toJacobi.f kj65 a0_0 l0_1 l0_2).bind fun bt538 => ((impl_AffineJacobi.f kj65 bt538.1 bt538.2.1 bt538.2.2 a1 a2).bind fun bt545 => ((laws_eqJacobi.f kj65 bt545.1 bt545.2.1 bt545.2.2.1 t495 t496 t499).bind fun t554 => (if t554 = true then (laws_FnExactAffineJacobi.j2 kj65 t534 (bt545.2.2.2 != t502) t512 t535 t536) else (laws_FnExactAffineJacobi.j2 kj65 t534 true t512 t535 t536))))) else (some false)))) = some r := H
         have A97 := zA A970
         clear A970
         replace H := Option.bind_eq_some_iff.mp H
         obtain ⟨t537, A980, H⟩ := H
         replace H : (if t537 < 0 then (some false) else (if t537 = t534 then ((laws_toJacobi.f kj65 a0_0 l0_1 l0_2).bind fun bt538 => ((impl_AffineJacobi.f kj65 bt538.1 bt538.2.1 bt538.2.2 a1 a2).bind fun bt545 => ((laws_eqJacobi.f kj65 bt545.1 bt545.2.1 bt545.2.2.1 t495 t496 t499).bind fun t554 => (if t554 = true then (laws_FnExactAffineJacobi.j2 kj65 t534 (bt545.2.2.2 != t502) t512 t535 t536) else (laws_FnExactAffineJacobi.j2 kj65 t534 true t512 t535 t536))))) else (some false))) = some r := H
         have A98 := zA A980
         clear A980
         by_cases c99 : t537 < 0
         ·rw [if_pos c99] at H
          have c99b0 : decide (t537 < 0) = true := decide_eq_true c99
          clear c99
          rw [HRT.out] at H
          exact absurd H (by simp)
         ·rw [if_neg c99] at H
          have c99b0 : decide (t537 < 0) = false := decide_eq_false c99
          clear c99
          by_cases c100 : t537 = t534
          ·rw [if_pos c100] at H
           have c100b0 : (t537 == t534) = true := beq_iff_eq.mpr c100
           have c100b1 : (t537 != t534) = false := bne_eq_false_iff_eq.mpr c100
           clear c100
           replace H := Option.bind_eq_some_iff.mp H
           obtain ⟨⟨t538, t539, t542⟩, A1010, H⟩ := H
           replace H : ((impl_AffineJacobi.f kj65 t538 t539 t542 a1 a2).bind fun bt545 => ((laws_eqJacobi.f kj65 bt545.1 bt545.2.1 bt545.2.2.1 t495 t496 t499).bind fun t554 => (if t554 = true then (laws_FnExactAffineJacobi.j2 kj65 t534 (bt545.2.2.2 != t502) t512 t535 t536) else (laws_FnExactAffineJacobi.j2 kj65 t534 true t512 t535 t536)))) = some r := H
           have A101 := zA A1010
           clear A1010
           replace H := Option.bind_eq_some_iff.mp H
           obtain ⟨⟨t545, t546, t549, t552⟩, A1020, H⟩ := H
           replace H : ((laws_eqJacobi.f kj65 t545 t546 t549 t495 t496 t499).bind fun t554 => (if t554 = true then (laws_FnExactAffineJacobi.j2 kj65 t534 (t552 != t502) t512 t535 t536) else (laws_FnExactAffineJacobi.j2 kj65 t534 true t512 t535 t536))) = some r := H
           have A102 := zA A1020
           clear A1020
           have HC103 := zA H
           clear H
           have hnb104 := NB520_486.out; have hnc104 := NB486_520.out; have hnb105 := NB520_503.out; have hnc105 := NB503_520.out; have hnb106 := NB520_511.out; have hnc106 := NB511_520.out
           have hcz107_0 : wc.cell? ⟨gb520, 0, none⟩ = some (.int .i64 t512) := (blk_cell BK520.out 0).trans rfl
           have hcz107_1 : wc.cell? ⟨gb520, 1, none⟩ = some (.slice Ao41 t513.length co41) := (blk_cell BK520.out 1).trans rfl
           have hcz107_2 : wc.cell? ⟨gb520, 2, none⟩ = some (.slice Ao42 t516.length co42) := (blk_cell BK520.out 2).trans rfl
           have hfz107_0 := blk_frozen BK520.out 0
           have hfz107_1 := blk_frozen BK520.out 1
           have hfz107_2 := blk_frozen BK520.out 2
           go_upto_region 25 with (first | ((with_reducible refine gate_callee (f := 20) rfl ?_); refine goesL_ (some 72) rfl rfl Try.func20 (by kernel_rfl) rfl #[.agg #[.int .i64 t512, .slice Ao41 t513.length co41, .slice Ao42 t516.length co42], .int .i64 1] rfl (by (try simp only [List.map_toArray, List.map_cons, List.map_nil]); first | done | rfl | (simp only [List.length_drop, List.length_take]; rfl)) ?_; (with_reducible refine (laws_markJacobi.calls kj65 t512 (fun k_ => some k_ = (.slice Ao41 t513.length co41 : Value).ownBlock) (.slice Ao41 t513.length co41) t513 (fun k_ => some k_ = (.slice Ao42 t516.length co42 : Value).ownBlock) (.slice Ao42 t516.length co42) t516 1 t534 t535 t536 w _ ?side1 ?side2 ?side3 ?side4 ?side5 A97.out).mono ?_); (case side1 => repeat (first | (with_reducible first | exact HB.out | apply below_alloc | apply pw_below_drewN | apply below_drew1 | refine below_set ?_ GE486.out | refine below_set ?_ GE503.out | refine below_set ?_ GE511.out | refine below_set ?_ GE520.out) | exact HB.out)); (case side2 => exact Kd.R_tight rfl HO_521001.out); (case side3 => exact fun k_ e_ => (HO_521001.out.1 k_ e_.symm).2.2.2.2); (case side4 => exact Kd.R_tight rfl HO_521002.out); (case side5 => exact fun k_ e_ => (HO_521002.out.1 k_ e_.symm).2.2.2.2); rintro e w108 ⟨rfl, hy0, hy1, hb, hkp⟩; refine ⟨_, rfl, ?_⟩; have n0_ := zA (Kd.R_mono (ok' := fun k_ => some k_ ≠ (.slice Ao26 t499.length co26 : Value).ownBlock ∧ some k_ ≠ (.slice Ao33 t531.length co33 : Value).ownBlock ∧ some k_ ≠ (.slice Ao34 t532.length co34 : Value).ownBlock ∧ some k_ ≠ (.slice Ao41 t513.length co41 : Value).ownBlock ∧ some k_ ≠ (.slice Ao42 t516.length co42 : Value).ownBlock) (Kd.R_keptB (HO_504001.out) hkp (fun k_ hk_ hs_ => Or.elim hs_ (fun e_ => (hk_.2.2.2.1) e_) (fun e_ => (hk_.2.2.2.2) e_))) (fun k_ hk_ => ⟨hk_.1.1, hk_.1.2.1, hk_.1.2.2.1, hk_.1.2.2.2.1, hk_.1.2.2.2.2⟩)); have n1_ := zA (Kd.R_mono (ok' := fun k_ => some k_ ≠ (.slice Ao25 t496.length co25 : Value).ownBlock ∧ some k_ ≠ (.slice Ao33 t531.length co33 : Value).ownBlock ∧ some k_ ≠ (.slice Ao34 t532.length co34 : Value).ownBlock ∧ some k_ ≠ (.slice Ao41 t513.length co41 : Value).ownBlock ∧ some k_ ≠ (.slice Ao42 t516.length co42 : Value).ownBlock) (Kd.R_keptB (HO_504002.out) hkp (fun k_ hk_ hs_ => Or.elim hs_ (fun e_ => (hk_.2.2.2.1) e_) (fun e_ => (hk_.2.2.2.2) e_))) (fun k_ hk_ => ⟨hk_.1.1, hk_.1.2.1, hk_.1.2.2.1, hk_.1.2.2.2.1, hk_.1.2.2.2.2⟩)); have n2_ := zA (Kd.R_mono (ok' := fun k_ => some k_ ≠ (.slice Ao25 t496.length co25 : Value).ownBlock ∧ some k_ ≠ (.slice Ao26 t499.length co26 : Value).ownBlock ∧ some k_ ≠ (.slice Ao34 t532.length co34 : Value).ownBlock ∧ some k_ ≠ (.slice Ao41 t513.length co41 : Value).ownBlock ∧ some k_ ≠ (.slice Ao42 t516.length co42 : Value).ownBlock) (Kd.R_keptB (HO_512001.out) hkp (fun k_ hk_ hs_ => Or.elim hs_ (fun e_ => (hk_.2.2.2.1) e_) (fun e_ => (hk_.2.2.2.2) e_))) (fun k_ hk_ => ⟨hk_.1.1, hk_.1.2.1, hk_.1.2.2.1, hk_.1.2.2.2.1, hk_.1.2.2.2.2⟩)); have n3_ := zA (Kd.R_mono (ok' := fun k_ => some k_ ≠ (.slice Ao25 t496.length co25 : Value).ownBlock ∧ some k_ ≠ (.slice Ao26 t499.length co26 : Value).ownBlock ∧ some k_ ≠ (.slice Ao33 t531.length co33 : Value).ownBlock ∧ some k_ ≠ (.slice Ao41 t513.length co41 : Value).ownBlock ∧ some k_ ≠ (.slice Ao42 t516.length co42 : Value).ownBlock) (Kd.R_keptB (HO_512002.out) hkp (fun k_ hk_ hs_ => Or.elim hs_ (fun e_ => (hk_.2.2.2.1) e_) (fun e_ => (hk_.2.2.2.2) e_))) (fun k_ hk_ => ⟨hk_.1.1, hk_.1.2.1, hk_.1.2.2.1, hk_.1.2.2.2.1, hk_.1.2.2.2.2⟩)); have n4_ := zA (Kd.R_reok rfl hy0 (fun k_ e_ => HO_521001.out.1 k_ e_)); have n5_ := zA (Kd.R_reok rfl hy1 (fun k_ e_ => HO_521002.out.1 k_ e_)); have n6_ := zA (blk_kept (uB BK486.out) hkp (fun hs_ => Or.elim hs_ (fun e_ => (fun e_ => (Kd.R_ne HO_521001.out BK486.out (by decide)) e_) e_) (fun e_ => (fun e_ => (Kd.R_ne HO_521002.out BK486.out (by decide)) e_) e_))); have n7_ := zA (blk_kept (uB BK503.out) hkp (fun hs_ => Or.elim hs_ (fun e_ => (fun e_ => (Kd.R_ne HO_521001.out BK503.out (by decide)) e_) e_) (fun e_ => (fun e_ => (Kd.R_ne HO_521002.out BK503.out (by decide)) e_) e_))); have n8_ := zA (blk_kept (uB BK511.out) hkp (fun hs_ => Or.elim hs_ (fun e_ => (fun e_ => (Kd.R_ne HO_521001.out BK511.out (by decide)) e_) e_) (fun e_ => (fun e_ => (Kd.R_ne HO_521002.out BK511.out (by decide)) e_) e_))); have n9_ := zA (blk_kept (uB BK520.out) hkp (fun hs_ => Or.elim hs_ (fun e_ => (fun e_ => (Kd.R_ne HO_521001.out BK520.out (by decide)) e_) e_) (fun e_ => (fun e_ => (Kd.R_ne HO_521002.out BK520.out (by decide)) e_) e_))); have n10_ := zA (hb); clear HO_504001 HO_504002 HO_512001 HO_512002 HO_521001 HO_521002 BK486 BK503 BK511 BK520 HB; have HO_504001 := n0_; have HO_504002 := n1_; have HO_512001 := n2_; have HO_512002 := n3_; have HO_521001 := n4_; have HO_521002 := n5_; have BK486 := n6_; have BK503 := n7_; have BK511 := n8_; have BK520 := n9_; have HB := n10_; clear n0_ n1_ n2_ n3_ n4_ n5_ n6_ n7_ n8_ n9_ n10_; (try clear hb); (try clear hkp); (try clear hy0); (try clear hy1); have hcz109_0 : w108.cell? ⟨gb520, 0, none⟩ = some (.int .i64 t512) := (blk_cell BK520.out 0).trans rfl; have hcz109_1 : w108.cell? ⟨gb520, 1, none⟩ = some (.slice Ao41 t513.length co41) := (blk_cell BK520.out 1).trans rfl; have hcz109_2 : w108.cell? ⟨gb520, 2, none⟩ = some (.slice Ao42 t516.length co42) := (blk_cell BK520.out 2).trans rfl; have hfz109_0 := blk_frozen BK520.out 0; have hfz109_1 := blk_frozen BK520.out 1; have hfz109_2 := blk_frozen BK520.out 2) | ((with_reducible refine gate_callee (f := 21) rfl ?_); refine goesL_ (some 75) rfl rfl Try.func21 (by kernel_rfl) rfl #[.agg #[.int .i64 t512, .slice Ao41 t535.length co41, .slice Ao42 t536.length co42], .int .i64 1] rfl (by (try simp only [List.map_toArray, List.map_cons, List.map_nil]); first | done | (rw [show t535.length = t513.length from (Kd.R_reads' HO_521001.out).1.symm, show t536.length = t516.length from (Kd.R_reads' HO_521002.out).1.symm] <;> rfl) | rfl | (simp only [List.length_drop, List.length_take]; rfl)) ?_; (with_reducible refine (laws_heldJacobi.calls kj65 t512 _ _ t535 _ _ t536 1 t537 _ ?side1 ?side2 ?side3 ?side4 A98.out).mono ?_); (case side1 => exact uC ((Kd.R_reads' HO_521001.out).2.2)); (case side2 => rw [show t535.length = t513.length from (Kd.R_reads' HO_521001.out).1.symm]; exact (Kd.R_reads' HO_521001.out).2.1); (case side3 => exact uC ((Kd.R_reads' HO_521002.out).2.2)); (case side4 => rw [show t536.length = t516.length from (Kd.R_reads' HO_521002.out).1.symm]; exact (Kd.R_reads' HO_521002.out).2.1); rintro e w110 ⟨rfl, hb⟩; refine ⟨_, rfl, ?_⟩; have n0_ := xR HO_504001 hb; have n1_ := xR HO_504002 hb; have n2_ := xR HO_512001 hb; have n3_ := xR HO_512002 hb; have n4_ := xR HO_521001 hb; have n5_ := xR HO_521002 hb; have n6_ := xB BK486 hb; have n7_ := xB BK503 hb; have n8_ := xB BK511 hb; have n9_ := xB BK520 hb; have n10_ := xH HB hb; clear HO_504001 HO_504002 HO_512001 HO_512002 HO_521001 HO_521002 BK486 BK503 BK511 BK520 HB; have HO_504001 := n0_; have HO_504002 := n1_; have HO_512001 := n2_; have HO_512002 := n3_; have HO_521001 := n4_; have HO_521002 := n5_; have BK486 := n6_; have BK503 := n7_; have BK511 := n8_; have BK520 := n9_; have HB := n10_; clear n0_ n1_ n2_ n3_ n4_ n5_ n6_ n7_ n8_ n9_ n10_; (try clear hb); (try clear hb2); (try clear hk); (try clear hi); have hnb111 := NB486_503.out; have hnc111 := NB503_486.out; have hnb112 := NB486_511.out; have hnc112 := NB511_486.out; have hcz113_0 : w110.cell? ⟨gb486, 0, none⟩ = some (.int .i64 a0_0) := (blk_cell BK486.out 0).trans rfl; have hcz113_1 : w110.cell? ⟨gb486, 1, none⟩ = some (.slice A0_1 l0_1.length c0_1) := (blk_cell BK486.out 1).trans rfl; have hcz113_2 : w110.cell? ⟨gb486, 2, none⟩ = some (.slice A0_2 l0_2.length c0_2) := (blk_cell BK486.out 2).trans rfl; have hfz113_0 := blk_frozen BK486.out 0; have hfz113_1 := blk_frozen BK486.out 1; have hfz113_2 := blk_frozen BK486.out 2) | ((with_reducible refine gate_callee (f := 17) rfl ?_); refine goesL_ (some 83) rfl rfl Try.func17 (by kernel_rfl) rfl #[.agg #[.int .i64 a0_0, .slice A0_1 l0_1.length c0_1, .slice A0_2 l0_2.length c0_2]] rfl (by (try simp only [List.map_toArray, List.map_cons, List.map_nil]); first | done | rfl | (simp only [List.length_drop, List.length_take]; rfl)) ?_; (with_reducible refine (laws_toJacobi.calls kj65 a0_0 _ _ l0_1 _ _ l0_2 t538 t539 t542 _ ?side1 ?side2 ?side3 ?side4 A101.out).mono ?_); (case side1 => exact uC ((Kd.C_below HR0_1.out HB.out))); (case side2 => exact HC0_1.out); (case side3 => exact uC ((Kd.C_below HR0_2.out HB.out))); (case side4 => exact HC0_2.out); rintro e w114 ⟨v540, v543, rfl, ho0, ho1, hb⟩; refine ⟨_, rfl, ?_⟩; have n0_ := zA (Kd.R_mono (Kd.R_told (Kd.R_told (Kd.R_old (uR HO_504001.out) hb) (Kd.R_base ho0)) (Kd.R_base ho1)) (fun _ h_ => h_.1)); have n1_ := zA (Kd.R_mono (Kd.R_told (Kd.R_told (Kd.R_old (uR HO_504002.out) hb) (Kd.R_base ho0)) (Kd.R_base ho1)) (fun _ h_ => h_.1)); have n2_ := zA (Kd.R_mono (Kd.R_told (Kd.R_told (Kd.R_old (uR HO_512001.out) hb) (Kd.R_base ho0)) (Kd.R_base ho1)) (fun _ h_ => h_.1)); have n3_ := zA (Kd.R_mono (Kd.R_told (Kd.R_told (Kd.R_old (uR HO_512002.out) hb) (Kd.R_base ho0)) (Kd.R_base ho1)) (fun _ h_ => h_.1)); have n4_ := zA (Kd.R_mono (Kd.R_told (Kd.R_told (Kd.R_old (uR HO_521001.out) hb) (Kd.R_base ho0)) (Kd.R_base ho1)) (fun _ h_ => h_.1)); have n5_ := zA (Kd.R_mono (Kd.R_told (Kd.R_told (Kd.R_old (uR HO_521002.out) hb) (Kd.R_base ho0)) (Kd.R_base ho1)) (fun _ h_ => h_.1)); have n6_ := zA (Kd.R_lower (Kd.R_new' (Kd.R_new' (Kd.R_new' (Kd.R_new' (Kd.R_new' (Kd.R_new' ho0 (Kd.R_lt (uR HO_504001.out))) (Kd.R_lt (uR HO_504002.out))) (Kd.R_lt (uR HO_512001.out))) (Kd.R_lt (uR HO_512002.out))) (Kd.R_lt (uR HO_521001.out))) (Kd.R_lt (uR HO_521002.out))) (below_size (uH HB.out))); have n7_ := zA (Kd.R_lower (Kd.R_new' (Kd.R_new' (Kd.R_new' (Kd.R_new' (Kd.R_new' (Kd.R_new' ho1 (Kd.R_lt (uR HO_504001.out))) (Kd.R_lt (uR HO_504002.out))) (Kd.R_lt (uR HO_512001.out))) (Kd.R_lt (uR HO_512002.out))) (Kd.R_lt (uR HO_521001.out))) (Kd.R_lt (uR HO_521002.out))) (below_size (uH HB.out))); have n8_ := xB BK486 hb; have n9_ := xB BK503 hb; have n10_ := xB BK511 hb; have n11_ := xB BK520 hb; have n12_ := xH HB hb; clear HO_504001 HO_504002 HO_512001 HO_512002 HO_521001 HO_521002 BK486 BK503 BK511 BK520 HB; have HO_504001 := n0_; have HO_504002 := n1_; have HO_512001 := n2_; have HO_512002 := n3_; have HO_521001 := n4_; have HO_521002 := n5_; have HO541 := n6_; have HO544 := n7_; have BK486 := n8_; have BK503 := n9_; have BK511 := n10_; have BK520 := n11_; have HB := n12_; clear n0_ n1_ n2_ n3_ n4_ n5_ n6_ n7_ n8_ n9_ n10_ n11_ n12_; (try clear hb); (try clear hb2); (try clear hk); (try clear hi); (try clear ho0); (try clear ho1); obtain ⟨Ao115, co115, eo115⟩ := Kd.R_slice HO541.out; subst eo115; obtain ⟨Ao116, co116, eo116⟩ := Kd.R_slice HO544.out; subst eo116) | ((with_reducible refine gate_callee (f := 27) rfl ?_); refine goesL_ (some 86) rfl rfl Try.func27 (by kernel_rfl) rfl #[.agg #[.int .i64 t538, .slice Ao115 t539.length co115, .slice Ao116 t542.length co116], .int .i64 a1, .int .i64 a2] rfl (by (try simp only [List.map_toArray, List.map_cons, List.map_nil]); first | done | rfl | (simp only [List.length_drop, List.length_take]; rfl)) ?_; (with_reducible refine (impl_AffineJacobi.calls kj65 t538 _ _ t539 _ _ t542 a1 a2 t545 t546 t549 t552 _ ?side1 ?side2 ?side3 ?side4 A102.out).mono ?_); (case side1 => exact uC ((Kd.R_reads' HO541.out).2.2)); (case side2 => exact (Kd.R_reads' HO541.out).2.1); (case side3 => exact uC ((Kd.R_reads' HO544.out).2.2)); (case side4 => exact (Kd.R_reads' HO544.out).2.1); rintro e w117 ⟨v547, v550, rfl, ho0, ho1, hb⟩; refine ⟨_, rfl, ?_⟩; have n0_ := zA (Kd.R_mono (Kd.R_told (Kd.R_told (Kd.R_old (uR HO_504001.out) hb) (Kd.R_base ho0)) (Kd.R_base ho1)) (fun _ h_ => h_.1)); have n1_ := zA (Kd.R_mono (Kd.R_told (Kd.R_told (Kd.R_old (uR HO_504002.out) hb) (Kd.R_base ho0)) (Kd.R_base ho1)) (fun _ h_ => h_.1)); have n2_ := zA (Kd.R_mono (Kd.R_told (Kd.R_told (Kd.R_old (uR HO_512001.out) hb) (Kd.R_base ho0)) (Kd.R_base ho1)) (fun _ h_ => h_.1)); have n3_ := zA (Kd.R_mono (Kd.R_told (Kd.R_told (Kd.R_old (uR HO_512002.out) hb) (Kd.R_base ho0)) (Kd.R_base ho1)) (fun _ h_ => h_.1)); have n4_ := zA (Kd.R_mono (Kd.R_told (Kd.R_told (Kd.R_old (uR HO_521001.out) hb) (Kd.R_base ho0)) (Kd.R_base ho1)) (fun _ h_ => h_.1)); have n5_ := zA (Kd.R_mono (Kd.R_told (Kd.R_told (Kd.R_old (uR HO_521002.out) hb) (Kd.R_base ho0)) (Kd.R_base ho1)) (fun _ h_ => h_.1)); have n6_ := zA (Kd.R_mono (Kd.R_told (Kd.R_told (Kd.R_old (uR HO541.out) hb) (Kd.R_base ho0)) (Kd.R_base ho1)) (fun _ h_ => h_.1)); have n7_ := zA (Kd.R_mono (Kd.R_told (Kd.R_told (Kd.R_old (uR HO544.out) hb) (Kd.R_base ho0)) (Kd.R_base ho1)) (fun _ h_ => h_.1)); have n8_ := zA (Kd.R_lower (Kd.R_new' (Kd.R_new' (Kd.R_new' (Kd.R_new' (Kd.R_new' (Kd.R_new' (Kd.R_new' (Kd.R_new' ho0 (Kd.R_lt (uR HO_504001.out))) (Kd.R_lt (uR HO_504002.out))) (Kd.R_lt (uR HO_512001.out))) (Kd.R_lt (uR HO_512002.out))) (Kd.R_lt (uR HO_521001.out))) (Kd.R_lt (uR HO_521002.out))) (Kd.R_lt (uR HO541.out))) (Kd.R_lt (uR HO544.out))) (below_size (uH HB.out))); have n9_ := zA (Kd.R_lower (Kd.R_new' (Kd.R_new' (Kd.R_new' (Kd.R_new' (Kd.R_new' (Kd.R_new' (Kd.R_new' (Kd.R_new' ho1 (Kd.R_lt (uR HO_504001.out))) (Kd.R_lt (uR HO_504002.out))) (Kd.R_lt (uR HO_512001.out))) (Kd.R_lt (uR HO_512002.out))) (Kd.R_lt (uR HO_521001.out))) (Kd.R_lt (uR HO_521002.out))) (Kd.R_lt (uR HO541.out))) (Kd.R_lt (uR HO544.out))) (below_size (uH HB.out))); have n10_ := xB BK486 hb; have n11_ := xB BK503 hb; have n12_ := xB BK511 hb; have n13_ := xB BK520 hb; have n14_ := xH HB hb; clear HO_504001 HO_504002 HO_512001 HO_512002 HO_521001 HO_521002 HO541 HO544 BK486 BK503 BK511 BK520 HB; have HO_504001 := n0_; have HO_504002 := n1_; have HO_512001 := n2_; have HO_512002 := n3_; have HO_521001 := n4_; have HO_521002 := n5_; have HO541 := n6_; have HO544 := n7_; have HO548 := n8_; have HO551 := n9_; have BK486 := n10_; have BK503 := n11_; have BK511 := n12_; have BK520 := n13_; have HB := n14_; clear n0_ n1_ n2_ n3_ n4_ n5_ n6_ n7_ n8_ n9_ n10_ n11_ n12_ n13_ n14_; (try clear hb); (try clear hb2); (try clear hk); (try clear hi); (try clear ho0); (try clear ho1)) | ((with_reducible refine gate_dst (N := 16) rfl ?_); refine box_event ?hg (N := 16) ?hd (cs := #[.int .i64 0, .slice none 0 0, .slice none 0 0]) (t := 26) ?hr ?_; (case hd => rfl); (case hg => rfl); (case hr => first | (go_simp; done) | (go_simp; rfl)); intro gb553 hg w118 hbox hb; have n0_ := xR HO_504001 hb; have n1_ := xR HO_504002 hb; have n2_ := xR HO_512001 hb; have n3_ := xR HO_512002 hb; have n4_ := xR HO_521001 hb; have n5_ := xR HO_521002 hb; have n6_ := xR HO541 hb; have n7_ := xR HO544 hb; have n8_ := xR HO548 hb; have n9_ := xR HO551 hb; have n10_ := xB BK486 hb; have n11_ := xB BK503 hb; have n12_ := xB BK511 hb; have n13_ := xB BK520 hb; have n14_ := xH HB hb; have n15_ := zA (hbox); have n16_ := zA ((by rw [hg]; exact (below_size (uH HB.out)) : w.heap.size ≤ gb553)); have n17_ := zA ((by rw [hg]; exact (below_size (uH HB.out)) : w.heap.size ≤ gb553)); have n18_ := zA ((by rw [hg]; exact neL BK486 : gb486 ≠ gb553)); have n19_ := zA ((by rw [hg]; exact neG BK486 : gb553 ≠ gb486)); have n20_ := zA ((by rw [hg]; exact neL BK503 : gb503 ≠ gb553)); have n21_ := zA ((by rw [hg]; exact neG BK503 : gb553 ≠ gb503)); have n22_ := zA ((by rw [hg]; exact neL BK511 : gb511 ≠ gb553)); have n23_ := zA ((by rw [hg]; exact neG BK511 : gb553 ≠ gb511)); have n24_ := zA ((by rw [hg]; exact neL BK520 : gb520 ≠ gb553)); have n25_ := zA ((by rw [hg]; exact neG BK520 : gb553 ≠ gb520)); clear HO_504001 HO_504002 HO_512001 HO_512002 HO_521001 HO_521002 HO541 HO544 HO548 HO551 BK486 BK503 BK511 BK520 HB; have HO_504001 := n0_; have HO_504002 := n1_; have HO_512001 := n2_; have HO_512002 := n3_; have HO_521001 := n4_; have HO_521002 := n5_; have HO541 := n6_; have HO544 := n7_; have HO548 := n8_; have HO551 := n9_; have BK486 := n10_; have BK503 := n11_; have BK511 := n12_; have BK520 := n13_; have HB := n14_; have BK553 := n15_; have GW553 := n16_; have GE553 := n17_; have := geI GE553; have NB486_553 := n18_; have NB553_486 := n19_; have NB503_553 := n20_; have NB553_503 := n21_; have NB511_553 := n22_; have NB553_511 := n23_; have NB520_553 := n24_; have NB553_520 := n25_; clear n0_ n1_ n2_ n3_ n4_ n5_ n6_ n7_ n8_ n9_ n10_ n11_ n12_ n13_ n14_ n15_ n16_ n17_ n18_ n19_ n20_ n21_ n22_ n23_ n24_ n25_ hb hbox hg; have hnb119 := NB553_486.out; have hnc119 := NB486_553.out; have hnb120 := NB553_503.out; have hnc120 := NB503_553.out; have hnb121 := NB553_511.out; have hnc121 := NB511_553.out; have hnb122 := NB553_520.out; have hnc122 := NB520_553.out; have hcz123_0 : w118.cell? ⟨gb553, 0, none⟩ = some (.int .i64 0) := (blk_cell BK553.out 0).trans rfl; have hcz123_1 : w118.cell? ⟨gb553, 1, none⟩ = some (.slice none 0 0) := (blk_cell BK553.out 1).trans rfl; have hcz123_2 : w118.cell? ⟨gb553, 2, none⟩ = some (.slice none 0 0) := (blk_cell BK553.out 2).trans rfl; have hfz123_0 := blk_frozen BK553.out 0; have hfz123_1 := blk_frozen BK553.out 1; have hfz123_2 := blk_frozen BK553.out 2; obtain ⟨Ao124, co124, eo124⟩ := Kd.R_slice HO548.out; subst eo124; obtain ⟨Ao125, co125, eo125⟩ := Kd.R_slice HO551.out; subst eo125))
           (try simp only [Act.put, List.setIfInBounds_toArray, List.set_cons_zero, List.set_cons_succ])
           go_cut [97] (fun v97 wc => ∃ (kq : Nat) (x97_102 : Bool), v97 = .bool x97_102 ∧ Aside0 (laws_FnExactAffineJacobi.j2 kq t534 x97_102 t512 t535 t536 = some r) ∧ Aside0 (kq ≤ kj65) ∧ Aside0 (Kd.R (Kd.int .i64) 2 wc w.heap.size (fun k_ => some k_ ≠ ((.slice Ao26 t499.length co26) : Value).ownBlock ∧ some k_ ≠ ((.slice Ao33 t531.length co33) : Value).ownBlock ∧ some k_ ≠ ((.slice Ao34 t532.length co34) : Value).ownBlock ∧ some k_ ≠ ((.slice Ao41 t513.length co41) : Value).ownBlock ∧ some k_ ≠ ((.slice Ao42 t516.length co42) : Value).ownBlock ∧ some k_ ≠ ((.slice Ao124 t546.length co124) : Value).ownBlock ∧ some k_ ≠ ((.slice Ao125 t549.length co125) : Value).ownBlock) (.slice Ao25 t496.length co25) t496) ∧ Aside0 (Kd.R (Kd.int .i64) 2 wc w.heap.size (fun k_ => some k_ ≠ ((.slice Ao25 t496.length co25) : Value).ownBlock ∧ some k_ ≠ ((.slice Ao33 t531.length co33) : Value).ownBlock ∧ some k_ ≠ ((.slice Ao34 t532.length co34) : Value).ownBlock ∧ some k_ ≠ ((.slice Ao41 t513.length co41) : Value).ownBlock ∧ some k_ ≠ ((.slice Ao42 t516.length co42) : Value).ownBlock ∧ some k_ ≠ ((.slice Ao124 t546.length co124) : Value).ownBlock ∧ some k_ ≠ ((.slice Ao125 t549.length co125) : Value).ownBlock) (.slice Ao26 t499.length co26) t499) ∧ Aside0 (Kd.R (Kd.int .i64) 2 wc w.heap.size (fun k_ => some k_ ≠ ((.slice Ao25 t496.length co25) : Value).ownBlock ∧ some k_ ≠ ((.slice Ao26 t499.length co26) : Value).ownBlock ∧ some k_ ≠ ((.slice Ao34 t532.length co34) : Value).ownBlock ∧ some k_ ≠ ((.slice Ao41 t513.length co41) : Value).ownBlock ∧ some k_ ≠ ((.slice Ao42 t516.length co42) : Value).ownBlock ∧ some k_ ≠ ((.slice Ao124 t546.length co124) : Value).ownBlock ∧ some k_ ≠ ((.slice Ao125 t549.length co125) : Value).ownBlock) (.slice Ao33 t531.length co33) t531) ∧ Aside0 (Kd.R (Kd.int .i64) 2 wc w.heap.size (fun k_ => some k_ ≠ ((.slice Ao25 t496.length co25) : Value).ownBlock ∧ some k_ ≠ ((.slice Ao26 t499.length co26) : Value).ownBlock ∧ some k_ ≠ ((.slice Ao33 t531.length co33) : Value).ownBlock ∧ some k_ ≠ ((.slice Ao41 t513.length co41) : Value).ownBlock ∧ some k_ ≠ ((.slice Ao42 t516.length co42) : Value).ownBlock ∧ some k_ ≠ ((.slice Ao124 t546.length co124) : Value).ownBlock ∧ some k_ ≠ ((.slice Ao125 t549.length co125) : Value).ownBlock) (.slice Ao34 t532.length co34) t532) ∧ Aside0 (Kd.R (Kd.int .i64) 2 wc w.heap.size (fun k_ => some k_ ≠ ((.slice Ao25 t496.length co25) : Value).ownBlock ∧ some k_ ≠ ((.slice Ao26 t499.length co26) : Value).ownBlock ∧ some k_ ≠ ((.slice Ao33 t531.length co33) : Value).ownBlock ∧ some k_ ≠ ((.slice Ao34 t532.length co34) : Value).ownBlock ∧ some k_ ≠ ((.slice Ao42 t516.length co42) : Value).ownBlock ∧ some k_ ≠ ((.slice Ao124 t546.length co124) : Value).ownBlock ∧ some k_ ≠ ((.slice Ao125 t549.length co125) : Value).ownBlock) (.slice Ao41 t513.length co41) t535) ∧ Aside0 (Kd.R (Kd.int .i64) 2 wc w.heap.size (fun k_ => some k_ ≠ ((.slice Ao25 t496.length co25) : Value).ownBlock ∧ some k_ ≠ ((.slice Ao26 t499.length co26) : Value).ownBlock ∧ some k_ ≠ ((.slice Ao33 t531.length co33) : Value).ownBlock ∧ some k_ ≠ ((.slice Ao34 t532.length co34) : Value).ownBlock ∧ some k_ ≠ ((.slice Ao41 t513.length co41) : Value).ownBlock ∧ some k_ ≠ ((.slice Ao124 t546.length co124) : Value).ownBlock ∧ some k_ ≠ ((.slice Ao125 t549.length co125) : Value).ownBlock) (.slice Ao42 t516.length co42) t536) ∧ Aside0 (Kd.R (Kd.int .i64) 2 wc w.heap.size (fun k_ => some k_ ≠ ((.slice Ao25 t496.length co25) : Value).ownBlock ∧ some k_ ≠ ((.slice Ao26 t499.length co26) : Value).ownBlock ∧ some k_ ≠ ((.slice Ao33 t531.length co33) : Value).ownBlock ∧ some k_ ≠ ((.slice Ao34 t532.length co34) : Value).ownBlock ∧ some k_ ≠ ((.slice Ao41 t513.length co41) : Value).ownBlock ∧ some k_ ≠ ((.slice Ao42 t516.length co42) : Value).ownBlock ∧ some k_ ≠ ((.slice Ao125 t549.length co125) : Value).ownBlock) (.slice Ao124 t546.length co124) t546) ∧ Aside0 (Kd.R (Kd.int .i64) 2 wc w.heap.size (fun k_ => some k_ ≠ ((.slice Ao25 t496.length co25) : Value).ownBlock ∧ some k_ ≠ ((.slice Ao26 t499.length co26) : Value).ownBlock ∧ some k_ ≠ ((.slice Ao33 t531.length co33) : Value).ownBlock ∧ some k_ ≠ ((.slice Ao34 t532.length co34) : Value).ownBlock ∧ some k_ ≠ ((.slice Ao41 t513.length co41) : Value).ownBlock ∧ some k_ ≠ ((.slice Ao42 t516.length co42) : Value).ownBlock ∧ some k_ ≠ ((.slice Ao124 t546.length co124) : Value).ownBlock) (.slice Ao125 t549.length co125) t549) ∧ Aside0 (wc.heap[gb486]? = some (.cells #[.int .i64 a0_0, (.slice A0_1 l0_1.length c0_1), (.slice A0_2 l0_2.length c0_2)] 24 (0, 0))) ∧ Aside0 (wc.heap[gb503]? = some (.cells #[.int .i64 t495, (.slice Ao25 t496.length co25), (.slice Ao26 t499.length co26)] 26 (0, 0))) ∧ Aside0 (wc.heap[gb511]? = some (.cells #[.int .i64 t504, (.slice Ao33 t531.length co33), (.slice Ao34 t532.length co34)] 26 (0, 0))) ∧ Aside0 (wc.heap[gb520]? = some (.cells #[.int .i64 t512, (.slice Ao41 t513.length co41), (.slice Ao42 t516.length co42)] 26 (0, 0))) ∧ Aside0 (wc.heap[gb553]? = some (.cells #[.int .i64 t545, (.slice Ao124 t546.length co124), (.slice Ao125 t549.length co125)] 26 (0, 0))) ∧ Aside0 (Below w.heap.size w wc))
           case first =>
            have H := HC103.out
            clear HC103
            replace H := Option.bind_eq_some_iff.mp H
            obtain ⟨t554, A1260, H⟩ := H
            replace H : (if t554 = true then (laws_FnExactAffineJacobi.j2 kj65 t534 (t552 != t502) t512 t535 t536) else (laws_FnExactAffineJacobi.j2 kj65 t534 true t512 t535 t536)) = some r := H
            have A126 := zA A1260
            clear A1260
            by_cases c127 : t554 = true
            ·subst c127
             have H1 : (laws_FnExactAffineJacobi.j2 kj65 t534 (t552 != t502) t512 t535 t536) = some r := by rw [if_pos rfl] at H; exact H
             clear H
             have H := H1
             clear H1
             have H' := zA H
             clear H
             have hnb128 := NB553_486.out; have hnc128 := NB486_553.out; have hnb129 := NB553_503.out; have hnc129 := NB503_553.out; have hnb130 := NB553_511.out; have hnc130 := NB511_553.out; have hnb131 := NB553_520.out; have hnc131 := NB520_553.out
             have hcz132_0 : w118.cell? ⟨gb553, 0, none⟩ = some (.int .i64 0) := (blk_cell BK553.out 0).trans rfl
             have hcz132_1 : w118.cell? ⟨gb553, 1, none⟩ = some (.slice none 0 0) := (blk_cell BK553.out 1).trans rfl
             have hcz132_2 : w118.cell? ⟨gb553, 2, none⟩ = some (.slice none 0 0) := (blk_cell BK553.out 2).trans rfl
             have hfz132_0 := blk_frozen BK553.out 0
             have hfz132_1 := blk_frozen BK553.out 1
             have hfz132_2 := blk_frozen BK553.out 2
             have hnb133 := NB503_486.out; have hnc133 := NB486_503.out; have hnb134 := NB503_511.out; have hnc134 := NB511_503.out; have hnb135 := NB503_520.out; have hnc135 := NB520_503.out
             have hcz136_0 : w118.cell? ⟨gb503, 0, none⟩ = some (.int .i64 t495) := (blk_cell BK503.out 0).trans rfl
             have hcz136_1 : w118.cell? ⟨gb503, 1, none⟩ = some (.slice Ao25 t496.length co25) := (blk_cell BK503.out 1).trans rfl
             have hcz136_2 : w118.cell? ⟨gb503, 2, none⟩ = some (.slice Ao26 t499.length co26) := (blk_cell BK503.out 2).trans rfl
             have hfz136_0 := blk_frozen BK503.out 0
             have hfz136_1 := blk_frozen BK503.out 1
             have hfz136_2 := blk_frozen BK503.out 2
             go_wp2_with (first | ((with_reducible refine gate_callee (f := 19) rfl ?_); refine goesL_ (some 91) rfl rfl Try.func19 (by kernel_rfl) rfl #[.agg #[.int .i64 t545, .slice Ao124 t546.length co124, .slice Ao125 t549.length co125], .agg #[.int .i64 t495, .slice Ao25 t496.length co25, .slice Ao26 t499.length co26]] rfl (by (try simp only [List.map_toArray, List.map_cons, List.map_nil]); first | done | rfl | (simp only [List.length_drop, List.length_take]; rfl)) ?_; (with_reducible refine (laws_eqJacobi.calls kj65 t545 _ _ t546 _ _ t549 t495 _ _ t496 _ _ t499 true _ ?side1 ?side2 ?side3 ?side4 ?side5 ?side6 ?side7 ?side8 A126.out).mono ?_); (case side1 => refine (Kd.R_reads' (e := 2) (base := w.heap.size) (ok := fun k_ => ((((((((some k_ ≠ (.slice Ao125 t549.length co125 : Value).ownBlock ∧ some k_ ≠ (.slice Ao25 t496.length co25 : Value).ownBlock) ∧ some k_ ≠ (.slice Ao26 t499.length co26 : Value).ownBlock) ∧ some k_ ≠ (.slice Ao33 t531.length co33 : Value).ownBlock) ∧ some k_ ≠ (.slice Ao34 t532.length co34 : Value).ownBlock) ∧ some k_ ≠ (.slice Ao41 t513.length co41 : Value).ownBlock) ∧ some k_ ≠ (.slice Ao42 t516.length co42 : Value).ownBlock) ∧ some k_ ≠ (.slice Ao115 t539.length co115 : Value).ownBlock) ∧ some k_ ≠ (.slice Ao116 t542.length co116 : Value).ownBlock)) (n := t546.length) (c := co124) ?_).2.2; exact (uR ((Kd.R_mono (Kd.R_far (p := ⟨gb553, 2, none⟩) (Kd.R_far (p := ⟨gb553, 1, none⟩) (Kd.R_far (p := ⟨gb553, 0, none⟩) (Kd.R_types HO548.out BK553.out (by decide)) (fun _ hk => hk.2) (.int .i64 t545)) (fun _ hk => hk.2) (.slice Ao124 t546.length co124)) (fun _ hk => hk.2) (.slice Ao125 t549.length co125)) (fun _ h_ => h_.1))))); (case side2 => exact (Kd.R_reads' HO548.out).2.1); (case side3 => refine (Kd.R_reads' (e := 2) (base := w.heap.size) (ok := fun k_ => ((((((((some k_ ≠ (.slice Ao124 t546.length co124 : Value).ownBlock ∧ some k_ ≠ (.slice Ao25 t496.length co25 : Value).ownBlock) ∧ some k_ ≠ (.slice Ao26 t499.length co26 : Value).ownBlock) ∧ some k_ ≠ (.slice Ao33 t531.length co33 : Value).ownBlock) ∧ some k_ ≠ (.slice Ao34 t532.length co34 : Value).ownBlock) ∧ some k_ ≠ (.slice Ao41 t513.length co41 : Value).ownBlock) ∧ some k_ ≠ (.slice Ao42 t516.length co42 : Value).ownBlock) ∧ some k_ ≠ (.slice Ao115 t539.length co115 : Value).ownBlock) ∧ some k_ ≠ (.slice Ao116 t542.length co116 : Value).ownBlock)) (n := t549.length) (c := co125) ?_).2.2; exact (uR ((Kd.R_mono (Kd.R_far (p := ⟨gb553, 2, none⟩) (Kd.R_far (p := ⟨gb553, 1, none⟩) (Kd.R_far (p := ⟨gb553, 0, none⟩) (Kd.R_types HO551.out BK553.out (by decide)) (fun _ hk => hk.2) (.int .i64 t545)) (fun _ hk => hk.2) (.slice Ao124 t546.length co124)) (fun _ hk => hk.2) (.slice Ao125 t549.length co125)) (fun _ h_ => h_.1))))); (case side4 => exact (Kd.R_reads' HO551.out).2.1); (case side5 => refine (Kd.R_reads' (e := 2) (base := w.heap.size) (ok := fun k_ => (((((some k_ ≠ (.slice Ao26 t499.length co26 : Value).ownBlock ∧ (some k_ ≠ (.slice Ao33 t531.length co33 : Value).ownBlock ∧ (some k_ ≠ (.slice Ao34 t532.length co34 : Value).ownBlock ∧ (some k_ ≠ (.slice Ao41 t513.length co41 : Value).ownBlock ∧ some k_ ≠ (.slice Ao42 t516.length co42 : Value).ownBlock)))) ∧ some k_ ≠ (.slice Ao115 t539.length co115 : Value).ownBlock) ∧ some k_ ≠ (.slice Ao116 t542.length co116 : Value).ownBlock) ∧ some k_ ≠ (.slice Ao124 t546.length co124 : Value).ownBlock) ∧ some k_ ≠ (.slice Ao125 t549.length co125 : Value).ownBlock)) (n := t496.length) (c := co25) ?_).2.2; exact (uR ((Kd.R_mono (Kd.R_far (p := ⟨gb553, 2, none⟩) (Kd.R_far (p := ⟨gb553, 1, none⟩) (Kd.R_far (p := ⟨gb553, 0, none⟩) (Kd.R_types HO_504001.out BK553.out (by decide)) (fun _ hk => hk.2) (.int .i64 t545)) (fun _ hk => hk.2) (.slice Ao124 t546.length co124)) (fun _ hk => hk.2) (.slice Ao125 t549.length co125)) (fun _ h_ => h_.1))))); (case side6 => exact (Kd.R_reads' HO_504001.out).2.1); (case side7 => refine (Kd.R_reads' (e := 2) (base := w.heap.size) (ok := fun k_ => (((((some k_ ≠ (.slice Ao25 t496.length co25 : Value).ownBlock ∧ (some k_ ≠ (.slice Ao33 t531.length co33 : Value).ownBlock ∧ (some k_ ≠ (.slice Ao34 t532.length co34 : Value).ownBlock ∧ (some k_ ≠ (.slice Ao41 t513.length co41 : Value).ownBlock ∧ some k_ ≠ (.slice Ao42 t516.length co42 : Value).ownBlock)))) ∧ some k_ ≠ (.slice Ao115 t539.length co115 : Value).ownBlock) ∧ some k_ ≠ (.slice Ao116 t542.length co116 : Value).ownBlock) ∧ some k_ ≠ (.slice Ao124 t546.length co124 : Value).ownBlock) ∧ some k_ ≠ (.slice Ao125 t549.length co125 : Value).ownBlock)) (n := t499.length) (c := co26) ?_).2.2; exact (uR ((Kd.R_mono (Kd.R_far (p := ⟨gb553, 2, none⟩) (Kd.R_far (p := ⟨gb553, 1, none⟩) (Kd.R_far (p := ⟨gb553, 0, none⟩) (Kd.R_types HO_504002.out BK553.out (by decide)) (fun _ hk => hk.2) (.int .i64 t545)) (fun _ hk => hk.2) (.slice Ao124 t546.length co124)) (fun _ hk => hk.2) (.slice Ao125 t549.length co125)) (fun _ h_ => h_.1))))); (case side8 => exact (Kd.R_reads' HO_504002.out).2.1); rintro e w137 ⟨rfl, hb⟩; refine ⟨_, rfl, ?_⟩; have n0_ := zA (Kd.R_below (uR ((Kd.R_mono (Kd.R_far (p := ⟨gb553, 2, none⟩) (Kd.R_far (p := ⟨gb553, 1, none⟩) (Kd.R_far (p := ⟨gb553, 0, none⟩) (Kd.R_types HO_504001.out BK553.out (by decide)) (fun _ hk => hk.2) (.int .i64 t545)) (fun _ hk => hk.2) (.slice Ao124 t546.length co124)) (fun _ hk => hk.2) (.slice Ao125 t549.length co125)) (fun _ h_ => h_.1)))) hb); have n1_ := zA (Kd.R_below (uR ((Kd.R_mono (Kd.R_far (p := ⟨gb553, 2, none⟩) (Kd.R_far (p := ⟨gb553, 1, none⟩) (Kd.R_far (p := ⟨gb553, 0, none⟩) (Kd.R_types HO_504002.out BK553.out (by decide)) (fun _ hk => hk.2) (.int .i64 t545)) (fun _ hk => hk.2) (.slice Ao124 t546.length co124)) (fun _ hk => hk.2) (.slice Ao125 t549.length co125)) (fun _ h_ => h_.1)))) hb); have n2_ := zA (Kd.R_below (uR ((Kd.R_mono (Kd.R_far (p := ⟨gb553, 2, none⟩) (Kd.R_far (p := ⟨gb553, 1, none⟩) (Kd.R_far (p := ⟨gb553, 0, none⟩) (Kd.R_types HO_512001.out BK553.out (by decide)) (fun _ hk => hk.2) (.int .i64 t545)) (fun _ hk => hk.2) (.slice Ao124 t546.length co124)) (fun _ hk => hk.2) (.slice Ao125 t549.length co125)) (fun _ h_ => h_.1)))) hb); have n3_ := zA (Kd.R_below (uR ((Kd.R_mono (Kd.R_far (p := ⟨gb553, 2, none⟩) (Kd.R_far (p := ⟨gb553, 1, none⟩) (Kd.R_far (p := ⟨gb553, 0, none⟩) (Kd.R_types HO_512002.out BK553.out (by decide)) (fun _ hk => hk.2) (.int .i64 t545)) (fun _ hk => hk.2) (.slice Ao124 t546.length co124)) (fun _ hk => hk.2) (.slice Ao125 t549.length co125)) (fun _ h_ => h_.1)))) hb); have n4_ := zA (Kd.R_below (uR ((Kd.R_mono (Kd.R_far (p := ⟨gb553, 2, none⟩) (Kd.R_far (p := ⟨gb553, 1, none⟩) (Kd.R_far (p := ⟨gb553, 0, none⟩) (Kd.R_types HO_521001.out BK553.out (by decide)) (fun _ hk => hk.2) (.int .i64 t545)) (fun _ hk => hk.2) (.slice Ao124 t546.length co124)) (fun _ hk => hk.2) (.slice Ao125 t549.length co125)) (fun _ h_ => h_.1)))) hb); have n5_ := zA (Kd.R_below (uR ((Kd.R_mono (Kd.R_far (p := ⟨gb553, 2, none⟩) (Kd.R_far (p := ⟨gb553, 1, none⟩) (Kd.R_far (p := ⟨gb553, 0, none⟩) (Kd.R_types HO_521002.out BK553.out (by decide)) (fun _ hk => hk.2) (.int .i64 t545)) (fun _ hk => hk.2) (.slice Ao124 t546.length co124)) (fun _ hk => hk.2) (.slice Ao125 t549.length co125)) (fun _ h_ => h_.1)))) hb); have n6_ := zA (Kd.R_below (uR ((Kd.R_mono (Kd.R_far (p := ⟨gb553, 2, none⟩) (Kd.R_far (p := ⟨gb553, 1, none⟩) (Kd.R_far (p := ⟨gb553, 0, none⟩) (Kd.R_types HO541.out BK553.out (by decide)) (fun _ hk => hk.2) (.int .i64 t545)) (fun _ hk => hk.2) (.slice Ao124 t546.length co124)) (fun _ hk => hk.2) (.slice Ao125 t549.length co125)) (fun _ h_ => h_.1)))) hb); have n7_ := zA (Kd.R_below (uR ((Kd.R_mono (Kd.R_far (p := ⟨gb553, 2, none⟩) (Kd.R_far (p := ⟨gb553, 1, none⟩) (Kd.R_far (p := ⟨gb553, 0, none⟩) (Kd.R_types HO544.out BK553.out (by decide)) (fun _ hk => hk.2) (.int .i64 t545)) (fun _ hk => hk.2) (.slice Ao124 t546.length co124)) (fun _ hk => hk.2) (.slice Ao125 t549.length co125)) (fun _ h_ => h_.1)))) hb); have n8_ := zA (Kd.R_below (uR ((Kd.R_mono (Kd.R_far (p := ⟨gb553, 2, none⟩) (Kd.R_far (p := ⟨gb553, 1, none⟩) (Kd.R_far (p := ⟨gb553, 0, none⟩) (Kd.R_types HO548.out BK553.out (by decide)) (fun _ hk => hk.2) (.int .i64 t545)) (fun _ hk => hk.2) (.slice Ao124 t546.length co124)) (fun _ hk => hk.2) (.slice Ao125 t549.length co125)) (fun _ h_ => h_.1)))) hb); have n9_ := zA (Kd.R_below (uR ((Kd.R_mono (Kd.R_far (p := ⟨gb553, 2, none⟩) (Kd.R_far (p := ⟨gb553, 1, none⟩) (Kd.R_far (p := ⟨gb553, 0, none⟩) (Kd.R_types HO551.out BK553.out (by decide)) (fun _ hk => hk.2) (.int .i64 t545)) (fun _ hk => hk.2) (.slice Ao124 t546.length co124)) (fun _ hk => hk.2) (.slice Ao125 t549.length co125)) (fun _ h_ => h_.1)))) hb); have n10_ := zA (blk_below (g := gb486) (o := .cells #[.int .i64 a0_0, .slice A0_1 l0_1.length c0_1, .slice A0_2 l0_2.length c0_2] 24 (0, 0)) (by (with_reducible repeat (first | refine blk_drewN ?_ _ | refine blk_drew ?_ | refine blk_alloc ?_ _)); refine blk_far ?_ NB486_553.out _; (with_reducible repeat (first | refine blk_drewN ?_ _ | refine blk_drew ?_ | refine blk_alloc ?_ _)); refine blk_far ?_ NB486_553.out _; (with_reducible repeat (first | refine blk_drewN ?_ _ | refine blk_drew ?_ | refine blk_alloc ?_ _)); refine blk_far ?_ NB486_553.out _; (with_reducible repeat (first | refine blk_drewN ?_ _ | refine blk_drew ?_ | refine blk_alloc ?_ _)); exact BK486.out) hb); have n11_ := zA (blk_below (g := gb503) (o := .cells #[.int .i64 t495, .slice Ao25 t496.length co25, .slice Ao26 t499.length co26] 26 (0, 0)) (by (with_reducible repeat (first | refine blk_drewN ?_ _ | refine blk_drew ?_ | refine blk_alloc ?_ _)); refine blk_far ?_ NB503_553.out _; (with_reducible repeat (first | refine blk_drewN ?_ _ | refine blk_drew ?_ | refine blk_alloc ?_ _)); refine blk_far ?_ NB503_553.out _; (with_reducible repeat (first | refine blk_drewN ?_ _ | refine blk_drew ?_ | refine blk_alloc ?_ _)); refine blk_far ?_ NB503_553.out _; (with_reducible repeat (first | refine blk_drewN ?_ _ | refine blk_drew ?_ | refine blk_alloc ?_ _)); exact BK503.out) hb); have n12_ := zA (blk_below (g := gb511) (o := .cells #[.int .i64 t504, .slice Ao33 t531.length co33, .slice Ao34 t532.length co34] 26 (0, 0)) (by (with_reducible repeat (first | refine blk_drewN ?_ _ | refine blk_drew ?_ | refine blk_alloc ?_ _)); refine blk_far ?_ NB511_553.out _; (with_reducible repeat (first | refine blk_drewN ?_ _ | refine blk_drew ?_ | refine blk_alloc ?_ _)); refine blk_far ?_ NB511_553.out _; (with_reducible repeat (first | refine blk_drewN ?_ _ | refine blk_drew ?_ | refine blk_alloc ?_ _)); refine blk_far ?_ NB511_553.out _; (with_reducible repeat (first | refine blk_drewN ?_ _ | refine blk_drew ?_ | refine blk_alloc ?_ _)); exact BK511.out) hb); have n13_ := zA (blk_below (g := gb520) (o := .cells #[.int .i64 t512, .slice Ao41 t513.length co41, .slice Ao42 t516.length co42] 26 (0, 0)) (by (with_reducible repeat (first | refine blk_drewN ?_ _ | refine blk_drew ?_ | refine blk_alloc ?_ _)); refine blk_far ?_ NB520_553.out _; (with_reducible repeat (first | refine blk_drewN ?_ _ | refine blk_drew ?_ | refine blk_alloc ?_ _)); refine blk_far ?_ NB520_553.out _; (with_reducible repeat (first | refine blk_drewN ?_ _ | refine blk_drew ?_ | refine blk_alloc ?_ _)); refine blk_far ?_ NB520_553.out _; (with_reducible repeat (first | refine blk_drewN ?_ _ | refine blk_drew ?_ | refine blk_alloc ?_ _)); exact BK520.out) hb); have n14_ := zA (blk_below (g := gb553) (o := .cells #[.int .i64 t545, .slice Ao124 t546.length co124, .slice Ao125 t549.length co125] 26 (0, 0)) (by (with_reducible repeat (first | refine blk_drewN ?_ _ | refine blk_drew ?_ | refine blk_alloc ?_ _)); refine blk_put (cs := #[.int .i64 t545, .slice Ao124 t546.length co124, .slice none 0 0]) ?_ 2 _ rfl; (with_reducible repeat (first | refine blk_drewN ?_ _ | refine blk_drew ?_ | refine blk_alloc ?_ _)); refine blk_put (cs := #[.int .i64 t545, .slice none 0 0, .slice none 0 0]) ?_ 1 _ rfl; (with_reducible repeat (first | refine blk_drewN ?_ _ | refine blk_drew ?_ | refine blk_alloc ?_ _)); refine blk_put (cs := #[.int .i64 0, .slice none 0 0, .slice none 0 0]) ?_ 0 _ rfl; (with_reducible repeat (first | refine blk_drewN ?_ _ | refine blk_drew ?_ | refine blk_alloc ?_ _)); exact BK553.out) hb); have n15_ := xH HB hb; clear HO_504001 HO_504002 HO_512001 HO_512002 HO_521001 HO_521002 HO541 HO544 HO548 HO551 BK486 BK503 BK511 BK520 BK553 HB; have HO_504001 := n0_; have HO_504002 := n1_; have HO_512001 := n2_; have HO_512002 := n3_; have HO_521001 := n4_; have HO_521002 := n5_; have HO541 := n6_; have HO544 := n7_; have HO548 := n8_; have HO551 := n9_; have BK486 := n10_; have BK503 := n11_; have BK511 := n12_; have BK520 := n13_; have BK553 := n14_; have HB := n15_; clear n0_ n1_ n2_ n3_ n4_ n5_ n6_ n7_ n8_ n9_ n10_ n11_ n12_ n13_ n14_ n15_; (try clear hb); (try clear hb2); (try clear hk); (try clear hi)))
             go_meet
             case rel => exact ⟨_, ((t552 != t502)), (by first | rfl | (simp; done) | (simp [*]; done)), H', ⟨by have := HJ12.out; have := HJ65.out; first | omega | exact Nat.le_refl _⟩, ⟨by (try simp only [hl512001_65]); (try simp only [hl512002_65]); (with_reducible repeat (first | apply Kd.R_alloc | apply Kd.R_drewN | apply Kd.R_drew)); exact Kd.R_mono HO_504001.out (fun _ hk => ⟨hk.1.1.1.1.1, ⟨hk.1.1.1.1.2.1, ⟨hk.1.1.1.1.2.2.1, ⟨hk.1.1.1.1.2.2.2.1, ⟨hk.1.1.1.1.2.2.2.2, ⟨hk.1.2, hk.2⟩⟩⟩⟩⟩⟩)⟩, ⟨by (try simp only [hl512001_65]); (try simp only [hl512002_65]); (with_reducible repeat (first | apply Kd.R_alloc | apply Kd.R_drewN | apply Kd.R_drew)); exact Kd.R_mono HO_504002.out (fun _ hk => ⟨hk.1.1.1.1.1, ⟨hk.1.1.1.1.2.1, ⟨hk.1.1.1.1.2.2.1, ⟨hk.1.1.1.1.2.2.2.1, ⟨hk.1.1.1.1.2.2.2.2, ⟨hk.1.2, hk.2⟩⟩⟩⟩⟩⟩)⟩, ⟨by (try simp only [hl512001_65]); (try simp only [hl512002_65]); (with_reducible repeat (first | apply Kd.R_alloc | apply Kd.R_drewN | apply Kd.R_drew)); exact Kd.R_mono HO_512001.out (fun _ hk => ⟨hk.1.1.1.1.1, ⟨hk.1.1.1.1.2.1, ⟨hk.1.1.1.1.2.2.1, ⟨hk.1.1.1.1.2.2.2.1, ⟨hk.1.1.1.1.2.2.2.2, ⟨hk.1.2, hk.2⟩⟩⟩⟩⟩⟩)⟩, ⟨by (try simp only [hl512001_65]); (try simp only [hl512002_65]); (with_reducible repeat (first | apply Kd.R_alloc | apply Kd.R_drewN | apply Kd.R_drew)); exact Kd.R_mono HO_512002.out (fun _ hk => ⟨hk.1.1.1.1.1, ⟨hk.1.1.1.1.2.1, ⟨hk.1.1.1.1.2.2.1, ⟨hk.1.1.1.1.2.2.2.1, ⟨hk.1.1.1.1.2.2.2.2, ⟨hk.1.2, hk.2⟩⟩⟩⟩⟩⟩)⟩, ⟨by (try simp only [hl512001_65]); (try simp only [hl512002_65]); (with_reducible repeat (first | apply Kd.R_alloc | apply Kd.R_drewN | apply Kd.R_drew)); exact Kd.R_mono HO_521001.out (fun _ hk => ⟨hk.1.1.1.1.1, ⟨hk.1.1.1.1.2.1, ⟨hk.1.1.1.1.2.2.1, ⟨hk.1.1.1.1.2.2.2.1, ⟨hk.1.1.1.1.2.2.2.2, ⟨hk.1.2, hk.2⟩⟩⟩⟩⟩⟩)⟩, ⟨by (try simp only [hl512001_65]); (try simp only [hl512002_65]); (with_reducible repeat (first | apply Kd.R_alloc | apply Kd.R_drewN | apply Kd.R_drew)); exact Kd.R_mono HO_521002.out (fun _ hk => ⟨hk.1.1.1.1.1, ⟨hk.1.1.1.1.2.1, ⟨hk.1.1.1.1.2.2.1, ⟨hk.1.1.1.1.2.2.2.1, ⟨hk.1.1.1.1.2.2.2.2, ⟨hk.1.2, hk.2⟩⟩⟩⟩⟩⟩)⟩, ⟨by (try simp only [hl512001_65]); (try simp only [hl512002_65]); (with_reducible repeat (first | apply Kd.R_alloc | apply Kd.R_drewN | apply Kd.R_drew)); exact Kd.R_mono HO548.out (fun _ hk => ⟨hk.1.1.1.1.1.1.1.2, ⟨hk.1.1.1.1.1.1.2, ⟨hk.1.1.1.1.1.2, ⟨hk.1.1.1.1.2, ⟨hk.1.1.1.2, ⟨hk.1.1.2, hk.1.1.1.1.1.1.1.1⟩⟩⟩⟩⟩⟩)⟩, ⟨by (try simp only [hl512001_65]); (try simp only [hl512002_65]); (with_reducible repeat (first | apply Kd.R_alloc | apply Kd.R_drewN | apply Kd.R_drew)); exact Kd.R_mono HO551.out (fun _ hk => ⟨hk.1.1.1.1.1.1.1.2, ⟨hk.1.1.1.1.1.1.2, ⟨hk.1.1.1.1.1.2, ⟨hk.1.1.1.1.2, ⟨hk.1.1.1.2, ⟨hk.1.1.2, hk.1.1.1.1.1.1.1.1⟩⟩⟩⟩⟩⟩)⟩, ⟨by (try simp only [hl512001_65]); (try simp only [hl512002_65]); (with_reducible repeat (first | refine blk_drewN ?_ _ | refine blk_drew ?_ | refine blk_alloc ?_ _)); exact BK486.out⟩, ⟨by (try simp only [hl512001_65]); (try simp only [hl512002_65]); (with_reducible repeat (first | refine blk_drewN ?_ _ | refine blk_drew ?_ | refine blk_alloc ?_ _)); exact BK503.out⟩, ⟨by (try simp only [hl512001_65]); (try simp only [hl512002_65]); (with_reducible repeat (first | refine blk_drewN ?_ _ | refine blk_drew ?_ | refine blk_alloc ?_ _)); exact BK511.out⟩, ⟨by (try simp only [hl512001_65]); (try simp only [hl512002_65]); (with_reducible repeat (first | refine blk_drewN ?_ _ | refine blk_drew ?_ | refine blk_alloc ?_ _)); exact BK520.out⟩, ⟨by (try simp only [hl512001_65]); (try simp only [hl512002_65]); (with_reducible repeat (first | refine blk_drewN ?_ _ | refine blk_drew ?_ | refine blk_alloc ?_ _)); exact BK553.out⟩, ⟨uH HB.out⟩⟩
            ·replace c127 := Bool.eq_false_iff.mpr c127
             subst c127
             have H1 : (laws_FnExactAffineJacobi.j2 kj65 t534 true t512 t535 t536) = some r := by rw [if_neg (show ¬ (false = true) by decide)] at H; exact H
             clear H
             have H := H1
             clear H1
             have H' := zA H
             clear H
             have hnb138 := NB553_486.out; have hnc138 := NB486_553.out; have hnb139 := NB553_503.out; have hnc139 := NB503_553.out; have hnb140 := NB553_511.out; have hnc140 := NB511_553.out; have hnb141 := NB553_520.out; have hnc141 := NB520_553.out
             have hcz142_0 : w118.cell? ⟨gb553, 0, none⟩ = some (.int .i64 0) := (blk_cell BK553.out 0).trans rfl
             have hcz142_1 : w118.cell? ⟨gb553, 1, none⟩ = some (.slice none 0 0) := (blk_cell BK553.out 1).trans rfl
             have hcz142_2 : w118.cell? ⟨gb553, 2, none⟩ = some (.slice none 0 0) := (blk_cell BK553.out 2).trans rfl
             have hfz142_0 := blk_frozen BK553.out 0
             have hfz142_1 := blk_frozen BK553.out 1
             have hfz142_2 := blk_frozen BK553.out 2
             have hnb143 := NB503_486.out; have hnc143 := NB486_503.out; have hnb144 := NB503_511.out; have hnc144 := NB511_503.out; have hnb145 := NB503_520.out; have hnc145 := NB520_503.out
             have hcz146_0 : w118.cell? ⟨gb503, 0, none⟩ = some (.int .i64 t495) := (blk_cell BK503.out 0).trans rfl
             have hcz146_1 : w118.cell? ⟨gb503, 1, none⟩ = some (.slice Ao25 t496.length co25) := (blk_cell BK503.out 1).trans rfl
             have hcz146_2 : w118.cell? ⟨gb503, 2, none⟩ = some (.slice Ao26 t499.length co26) := (blk_cell BK503.out 2).trans rfl
             have hfz146_0 := blk_frozen BK503.out 0
             have hfz146_1 := blk_frozen BK503.out 1
             have hfz146_2 := blk_frozen BK503.out 2
             go_wp2_with (first | ((with_reducible refine gate_callee (f := 19) rfl ?_); refine goesL_ (some 91) rfl rfl Try.func19 (by kernel_rfl) rfl #[.agg #[.int .i64 t545, .slice Ao124 t546.length co124, .slice Ao125 t549.length co125], .agg #[.int .i64 t495, .slice Ao25 t496.length co25, .slice Ao26 t499.length co26]] rfl (by (try simp only [List.map_toArray, List.map_cons, List.map_nil]); first | done | rfl | (simp only [List.length_drop, List.length_take]; rfl)) ?_; (with_reducible refine (laws_eqJacobi.calls kj65 t545 _ _ t546 _ _ t549 t495 _ _ t496 _ _ t499 false _ ?side1 ?side2 ?side3 ?side4 ?side5 ?side6 ?side7 ?side8 A126.out).mono ?_); (case side1 => refine (Kd.R_reads' (e := 2) (base := w.heap.size) (ok := fun k_ => ((((((((some k_ ≠ (.slice Ao125 t549.length co125 : Value).ownBlock ∧ some k_ ≠ (.slice Ao25 t496.length co25 : Value).ownBlock) ∧ some k_ ≠ (.slice Ao26 t499.length co26 : Value).ownBlock) ∧ some k_ ≠ (.slice Ao33 t531.length co33 : Value).ownBlock) ∧ some k_ ≠ (.slice Ao34 t532.length co34 : Value).ownBlock) ∧ some k_ ≠ (.slice Ao41 t513.length co41 : Value).ownBlock) ∧ some k_ ≠ (.slice Ao42 t516.length co42 : Value).ownBlock) ∧ some k_ ≠ (.slice Ao115 t539.length co115 : Value).ownBlock) ∧ some k_ ≠ (.slice Ao116 t542.length co116 : Value).ownBlock)) (n := t546.length) (c := co124) ?_).2.2; exact (uR ((Kd.R_mono (Kd.R_far (p := ⟨gb553, 2, none⟩) (Kd.R_far (p := ⟨gb553, 1, none⟩) (Kd.R_far (p := ⟨gb553, 0, none⟩) (Kd.R_types HO548.out BK553.out (by decide)) (fun _ hk => hk.2) (.int .i64 t545)) (fun _ hk => hk.2) (.slice Ao124 t546.length co124)) (fun _ hk => hk.2) (.slice Ao125 t549.length co125)) (fun _ h_ => h_.1))))); (case side2 => exact (Kd.R_reads' HO548.out).2.1); (case side3 => refine (Kd.R_reads' (e := 2) (base := w.heap.size) (ok := fun k_ => ((((((((some k_ ≠ (.slice Ao124 t546.length co124 : Value).ownBlock ∧ some k_ ≠ (.slice Ao25 t496.length co25 : Value).ownBlock) ∧ some k_ ≠ (.slice Ao26 t499.length co26 : Value).ownBlock) ∧ some k_ ≠ (.slice Ao33 t531.length co33 : Value).ownBlock) ∧ some k_ ≠ (.slice Ao34 t532.length co34 : Value).ownBlock) ∧ some k_ ≠ (.slice Ao41 t513.length co41 : Value).ownBlock) ∧ some k_ ≠ (.slice Ao42 t516.length co42 : Value).ownBlock) ∧ some k_ ≠ (.slice Ao115 t539.length co115 : Value).ownBlock) ∧ some k_ ≠ (.slice Ao116 t542.length co116 : Value).ownBlock)) (n := t549.length) (c := co125) ?_).2.2; exact (uR ((Kd.R_mono (Kd.R_far (p := ⟨gb553, 2, none⟩) (Kd.R_far (p := ⟨gb553, 1, none⟩) (Kd.R_far (p := ⟨gb553, 0, none⟩) (Kd.R_types HO551.out BK553.out (by decide)) (fun _ hk => hk.2) (.int .i64 t545)) (fun _ hk => hk.2) (.slice Ao124 t546.length co124)) (fun _ hk => hk.2) (.slice Ao125 t549.length co125)) (fun _ h_ => h_.1))))); (case side4 => exact (Kd.R_reads' HO551.out).2.1); (case side5 => refine (Kd.R_reads' (e := 2) (base := w.heap.size) (ok := fun k_ => (((((some k_ ≠ (.slice Ao26 t499.length co26 : Value).ownBlock ∧ (some k_ ≠ (.slice Ao33 t531.length co33 : Value).ownBlock ∧ (some k_ ≠ (.slice Ao34 t532.length co34 : Value).ownBlock ∧ (some k_ ≠ (.slice Ao41 t513.length co41 : Value).ownBlock ∧ some k_ ≠ (.slice Ao42 t516.length co42 : Value).ownBlock)))) ∧ some k_ ≠ (.slice Ao115 t539.length co115 : Value).ownBlock) ∧ some k_ ≠ (.slice Ao116 t542.length co116 : Value).ownBlock) ∧ some k_ ≠ (.slice Ao124 t546.length co124 : Value).ownBlock) ∧ some k_ ≠ (.slice Ao125 t549.length co125 : Value).ownBlock)) (n := t496.length) (c := co25) ?_).2.2; exact (uR ((Kd.R_mono (Kd.R_far (p := ⟨gb553, 2, none⟩) (Kd.R_far (p := ⟨gb553, 1, none⟩) (Kd.R_far (p := ⟨gb553, 0, none⟩) (Kd.R_types HO_504001.out BK553.out (by decide)) (fun _ hk => hk.2) (.int .i64 t545)) (fun _ hk => hk.2) (.slice Ao124 t546.length co124)) (fun _ hk => hk.2) (.slice Ao125 t549.length co125)) (fun _ h_ => h_.1))))); (case side6 => exact (Kd.R_reads' HO_504001.out).2.1); (case side7 => refine (Kd.R_reads' (e := 2) (base := w.heap.size) (ok := fun k_ => (((((some k_ ≠ (.slice Ao25 t496.length co25 : Value).ownBlock ∧ (some k_ ≠ (.slice Ao33 t531.length co33 : Value).ownBlock ∧ (some k_ ≠ (.slice Ao34 t532.length co34 : Value).ownBlock ∧ (some k_ ≠ (.slice Ao41 t513.length co41 : Value).ownBlock ∧ some k_ ≠ (.slice Ao42 t516.length co42 : Value).ownBlock)))) ∧ some k_ ≠ (.slice Ao115 t539.length co115 : Value).ownBlock) ∧ some k_ ≠ (.slice Ao116 t542.length co116 : Value).ownBlock) ∧ some k_ ≠ (.slice Ao124 t546.length co124 : Value).ownBlock) ∧ some k_ ≠ (.slice Ao125 t549.length co125 : Value).ownBlock)) (n := t499.length) (c := co26) ?_).2.2; exact (uR ((Kd.R_mono (Kd.R_far (p := ⟨gb553, 2, none⟩) (Kd.R_far (p := ⟨gb553, 1, none⟩) (Kd.R_far (p := ⟨gb553, 0, none⟩) (Kd.R_types HO_504002.out BK553.out (by decide)) (fun _ hk => hk.2) (.int .i64 t545)) (fun _ hk => hk.2) (.slice Ao124 t546.length co124)) (fun _ hk => hk.2) (.slice Ao125 t549.length co125)) (fun _ h_ => h_.1))))); (case side8 => exact (Kd.R_reads' HO_504002.out).2.1); rintro e w147 ⟨rfl, hb⟩; refine ⟨_, rfl, ?_⟩; have n0_ := zA (Kd.R_below (uR ((Kd.R_mono (Kd.R_far (p := ⟨gb553, 2, none⟩) (Kd.R_far (p := ⟨gb553, 1, none⟩) (Kd.R_far (p := ⟨gb553, 0, none⟩) (Kd.R_types HO_504001.out BK553.out (by decide)) (fun _ hk => hk.2) (.int .i64 t545)) (fun _ hk => hk.2) (.slice Ao124 t546.length co124)) (fun _ hk => hk.2) (.slice Ao125 t549.length co125)) (fun _ h_ => h_.1)))) hb); have n1_ := zA (Kd.R_below (uR ((Kd.R_mono (Kd.R_far (p := ⟨gb553, 2, none⟩) (Kd.R_far (p := ⟨gb553, 1, none⟩) (Kd.R_far (p := ⟨gb553, 0, none⟩) (Kd.R_types HO_504002.out BK553.out (by decide)) (fun _ hk => hk.2) (.int .i64 t545)) (fun _ hk => hk.2) (.slice Ao124 t546.length co124)) (fun _ hk => hk.2) (.slice Ao125 t549.length co125)) (fun _ h_ => h_.1)))) hb); have n2_ := zA (Kd.R_below (uR ((Kd.R_mono (Kd.R_far (p := ⟨gb553, 2, none⟩) (Kd.R_far (p := ⟨gb553, 1, none⟩) (Kd.R_far (p := ⟨gb553, 0, none⟩) (Kd.R_types HO_512001.out BK553.out (by decide)) (fun _ hk => hk.2) (.int .i64 t545)) (fun _ hk => hk.2) (.slice Ao124 t546.length co124)) (fun _ hk => hk.2) (.slice Ao125 t549.length co125)) (fun _ h_ => h_.1)))) hb); have n3_ := zA (Kd.R_below (uR ((Kd.R_mono (Kd.R_far (p := ⟨gb553, 2, none⟩) (Kd.R_far (p := ⟨gb553, 1, none⟩) (Kd.R_far (p := ⟨gb553, 0, none⟩) (Kd.R_types HO_512002.out BK553.out (by decide)) (fun _ hk => hk.2) (.int .i64 t545)) (fun _ hk => hk.2) (.slice Ao124 t546.length co124)) (fun _ hk => hk.2) (.slice Ao125 t549.length co125)) (fun _ h_ => h_.1)))) hb); have n4_ := zA (Kd.R_below (uR ((Kd.R_mono (Kd.R_far (p := ⟨gb553, 2, none⟩) (Kd.R_far (p := ⟨gb553, 1, none⟩) (Kd.R_far (p := ⟨gb553, 0, none⟩) (Kd.R_types HO_521001.out BK553.out (by decide)) (fun _ hk => hk.2) (.int .i64 t545)) (fun _ hk => hk.2) (.slice Ao124 t546.length co124)) (fun _ hk => hk.2) (.slice Ao125 t549.length co125)) (fun _ h_ => h_.1)))) hb); have n5_ := zA (Kd.R_below (uR ((Kd.R_mono (Kd.R_far (p := ⟨gb553, 2, none⟩) (Kd.R_far (p := ⟨gb553, 1, none⟩) (Kd.R_far (p := ⟨gb553, 0, none⟩) (Kd.R_types HO_521002.out BK553.out (by decide)) (fun _ hk => hk.2) (.int .i64 t545)) (fun _ hk => hk.2) (.slice Ao124 t546.length co124)) (fun _ hk => hk.2) (.slice Ao125 t549.length co125)) (fun _ h_ => h_.1)))) hb); have n6_ := zA (Kd.R_below (uR ((Kd.R_mono (Kd.R_far (p := ⟨gb553, 2, none⟩) (Kd.R_far (p := ⟨gb553, 1, none⟩) (Kd.R_far (p := ⟨gb553, 0, none⟩) (Kd.R_types HO541.out BK553.out (by decide)) (fun _ hk => hk.2) (.int .i64 t545)) (fun _ hk => hk.2) (.slice Ao124 t546.length co124)) (fun _ hk => hk.2) (.slice Ao125 t549.length co125)) (fun _ h_ => h_.1)))) hb); have n7_ := zA (Kd.R_below (uR ((Kd.R_mono (Kd.R_far (p := ⟨gb553, 2, none⟩) (Kd.R_far (p := ⟨gb553, 1, none⟩) (Kd.R_far (p := ⟨gb553, 0, none⟩) (Kd.R_types HO544.out BK553.out (by decide)) (fun _ hk => hk.2) (.int .i64 t545)) (fun _ hk => hk.2) (.slice Ao124 t546.length co124)) (fun _ hk => hk.2) (.slice Ao125 t549.length co125)) (fun _ h_ => h_.1)))) hb); have n8_ := zA (Kd.R_below (uR ((Kd.R_mono (Kd.R_far (p := ⟨gb553, 2, none⟩) (Kd.R_far (p := ⟨gb553, 1, none⟩) (Kd.R_far (p := ⟨gb553, 0, none⟩) (Kd.R_types HO548.out BK553.out (by decide)) (fun _ hk => hk.2) (.int .i64 t545)) (fun _ hk => hk.2) (.slice Ao124 t546.length co124)) (fun _ hk => hk.2) (.slice Ao125 t549.length co125)) (fun _ h_ => h_.1)))) hb); have n9_ := zA (Kd.R_below (uR ((Kd.R_mono (Kd.R_far (p := ⟨gb553, 2, none⟩) (Kd.R_far (p := ⟨gb553, 1, none⟩) (Kd.R_far (p := ⟨gb553, 0, none⟩) (Kd.R_types HO551.out BK553.out (by decide)) (fun _ hk => hk.2) (.int .i64 t545)) (fun _ hk => hk.2) (.slice Ao124 t546.length co124)) (fun _ hk => hk.2) (.slice Ao125 t549.length co125)) (fun _ h_ => h_.1)))) hb); have n10_ := zA (blk_below (g := gb486) (o := .cells #[.int .i64 a0_0, .slice A0_1 l0_1.length c0_1, .slice A0_2 l0_2.length c0_2] 24 (0, 0)) (by (with_reducible repeat (first | refine blk_drewN ?_ _ | refine blk_drew ?_ | refine blk_alloc ?_ _)); refine blk_far ?_ NB486_553.out _; (with_reducible repeat (first | refine blk_drewN ?_ _ | refine blk_drew ?_ | refine blk_alloc ?_ _)); refine blk_far ?_ NB486_553.out _; (with_reducible repeat (first | refine blk_drewN ?_ _ | refine blk_drew ?_ | refine blk_alloc ?_ _)); refine blk_far ?_ NB486_553.out _; (with_reducible repeat (first | refine blk_drewN ?_ _ | refine blk_drew ?_ | refine blk_alloc ?_ _)); exact BK486.out) hb); have n11_ := zA (blk_below (g := gb503) (o := .cells #[.int .i64 t495, .slice Ao25 t496.length co25, .slice Ao26 t499.length co26] 26 (0, 0)) (by (with_reducible repeat (first | refine blk_drewN ?_ _ | refine blk_drew ?_ | refine blk_alloc ?_ _)); refine blk_far ?_ NB503_553.out _; (with_reducible repeat (first | refine blk_drewN ?_ _ | refine blk_drew ?_ | refine blk_alloc ?_ _)); refine blk_far ?_ NB503_553.out _; (with_reducible repeat (first | refine blk_drewN ?_ _ | refine blk_drew ?_ | refine blk_alloc ?_ _)); refine blk_far ?_ NB503_553.out _; (with_reducible repeat (first | refine blk_drewN ?_ _ | refine blk_drew ?_ | refine blk_alloc ?_ _)); exact BK503.out) hb); have n12_ := zA (blk_below (g := gb511) (o := .cells #[.int .i64 t504, .slice Ao33 t531.length co33, .slice Ao34 t532.length co34] 26 (0, 0)) (by (with_reducible repeat (first | refine blk_drewN ?_ _ | refine blk_drew ?_ | refine blk_alloc ?_ _)); refine blk_far ?_ NB511_553.out _; (with_reducible repeat (first | refine blk_drewN ?_ _ | refine blk_drew ?_ | refine blk_alloc ?_ _)); refine blk_far ?_ NB511_553.out _; (with_reducible repeat (first | refine blk_drewN ?_ _ | refine blk_drew ?_ | refine blk_alloc ?_ _)); refine blk_far ?_ NB511_553.out _; (with_reducible repeat (first | refine blk_drewN ?_ _ | refine blk_drew ?_ | refine blk_alloc ?_ _)); exact BK511.out) hb); have n13_ := zA (blk_below (g := gb520) (o := .cells #[.int .i64 t512, .slice Ao41 t513.length co41, .slice Ao42 t516.length co42] 26 (0, 0)) (by (with_reducible repeat (first | refine blk_drewN ?_ _ | refine blk_drew ?_ | refine blk_alloc ?_ _)); refine blk_far ?_ NB520_553.out _; (with_reducible repeat (first | refine blk_drewN ?_ _ | refine blk_drew ?_ | refine blk_alloc ?_ _)); refine blk_far ?_ NB520_553.out _; (with_reducible repeat (first | refine blk_drewN ?_ _ | refine blk_drew ?_ | refine blk_alloc ?_ _)); refine blk_far ?_ NB520_553.out _; (with_reducible repeat (first | refine blk_drewN ?_ _ | refine blk_drew ?_ | refine blk_alloc ?_ _)); exact BK520.out) hb); have n14_ := zA (blk_below (g := gb553) (o := .cells #[.int .i64 t545, .slice Ao124 t546.length co124, .slice Ao125 t549.length co125] 26 (0, 0)) (by (with_reducible repeat (first | refine blk_drewN ?_ _ | refine blk_drew ?_ | refine blk_alloc ?_ _)); refine blk_put (cs := #[.int .i64 t545, .slice Ao124 t546.length co124, .slice none 0 0]) ?_ 2 _ rfl; (with_reducible repeat (first | refine blk_drewN ?_ _ | refine blk_drew ?_ | refine blk_alloc ?_ _)); refine blk_put (cs := #[.int .i64 t545, .slice none 0 0, .slice none 0 0]) ?_ 1 _ rfl; (with_reducible repeat (first | refine blk_drewN ?_ _ | refine blk_drew ?_ | refine blk_alloc ?_ _)); refine blk_put (cs := #[.int .i64 0, .slice none 0 0, .slice none 0 0]) ?_ 0 _ rfl; (with_reducible repeat (first | refine blk_drewN ?_ _ | refine blk_drew ?_ | refine blk_alloc ?_ _)); exact BK553.out) hb); have n15_ := xH HB hb; clear HO_504001 HO_504002 HO_512001 HO_512002 HO_521001 HO_521002 HO541 HO544 HO548 HO551 BK486 BK503 BK511 BK520 BK553 HB; have HO_504001 := n0_; have HO_504002 := n1_; have HO_512001 := n2_; have HO_512002 := n3_; have HO_521001 := n4_; have HO_521002 := n5_; have HO541 := n6_; have HO544 := n7_; have HO548 := n8_; have HO551 := n9_; have BK486 := n10_; have BK503 := n11_; have BK511 := n12_; have BK520 := n13_; have BK553 := n14_; have HB := n15_; clear n0_ n1_ n2_ n3_ n4_ n5_ n6_ n7_ n8_ n9_ n10_ n11_ n12_ n13_ n14_ n15_; (try clear hb); (try clear hb2); (try clear hk); (try clear hi)))
             go_meet
             case rel => exact ⟨_, (true), (by first | rfl | (simp; done) | (simp [*]; done)), H', ⟨by have := HJ12.out; have := HJ65.out; first | omega | exact Nat.le_refl _⟩, ⟨by (try simp only [hl512001_65]); (try simp only [hl512002_65]); (with_reducible repeat (first | apply Kd.R_alloc | apply Kd.R_drewN | apply Kd.R_drew)); exact Kd.R_mono HO_504001.out (fun _ hk => ⟨hk.1.1.1.1.1, ⟨hk.1.1.1.1.2.1, ⟨hk.1.1.1.1.2.2.1, ⟨hk.1.1.1.1.2.2.2.1, ⟨hk.1.1.1.1.2.2.2.2, ⟨hk.1.2, hk.2⟩⟩⟩⟩⟩⟩)⟩, ⟨by (try simp only [hl512001_65]); (try simp only [hl512002_65]); (with_reducible repeat (first | apply Kd.R_alloc | apply Kd.R_drewN | apply Kd.R_drew)); exact Kd.R_mono HO_504002.out (fun _ hk => ⟨hk.1.1.1.1.1, ⟨hk.1.1.1.1.2.1, ⟨hk.1.1.1.1.2.2.1, ⟨hk.1.1.1.1.2.2.2.1, ⟨hk.1.1.1.1.2.2.2.2, ⟨hk.1.2, hk.2⟩⟩⟩⟩⟩⟩)⟩, ⟨by (try simp only [hl512001_65]); (try simp only [hl512002_65]); (with_reducible repeat (first | apply Kd.R_alloc | apply Kd.R_drewN | apply Kd.R_drew)); exact Kd.R_mono HO_512001.out (fun _ hk => ⟨hk.1.1.1.1.1, ⟨hk.1.1.1.1.2.1, ⟨hk.1.1.1.1.2.2.1, ⟨hk.1.1.1.1.2.2.2.1, ⟨hk.1.1.1.1.2.2.2.2, ⟨hk.1.2, hk.2⟩⟩⟩⟩⟩⟩)⟩, ⟨by (try simp only [hl512001_65]); (try simp only [hl512002_65]); (with_reducible repeat (first | apply Kd.R_alloc | apply Kd.R_drewN | apply Kd.R_drew)); exact Kd.R_mono HO_512002.out (fun _ hk => ⟨hk.1.1.1.1.1, ⟨hk.1.1.1.1.2.1, ⟨hk.1.1.1.1.2.2.1, ⟨hk.1.1.1.1.2.2.2.1, ⟨hk.1.1.1.1.2.2.2.2, ⟨hk.1.2, hk.2⟩⟩⟩⟩⟩⟩)⟩, ⟨by (try simp only [hl512001_65]); (try simp only [hl512002_65]); (with_reducible repeat (first | apply Kd.R_alloc | apply Kd.R_drewN | apply Kd.R_drew)); exact Kd.R_mono HO_521001.out (fun _ hk => ⟨hk.1.1.1.1.1, ⟨hk.1.1.1.1.2.1, ⟨hk.1.1.1.1.2.2.1, ⟨hk.1.1.1.1.2.2.2.1, ⟨hk.1.1.1.1.2.2.2.2, ⟨hk.1.2, hk.2⟩⟩⟩⟩⟩⟩)⟩, ⟨by (try simp only [hl512001_65]); (try simp only [hl512002_65]); (with_reducible repeat (first | apply Kd.R_alloc | apply Kd.R_drewN | apply Kd.R_drew)); exact Kd.R_mono HO_521002.out (fun _ hk => ⟨hk.1.1.1.1.1, ⟨hk.1.1.1.1.2.1, ⟨hk.1.1.1.1.2.2.1, ⟨hk.1.1.1.1.2.2.2.1, ⟨hk.1.1.1.1.2.2.2.2, ⟨hk.1.2, hk.2⟩⟩⟩⟩⟩⟩)⟩, ⟨by (try simp only [hl512001_65]); (try simp only [hl512002_65]); (with_reducible repeat (first | apply Kd.R_alloc | apply Kd.R_drewN | apply Kd.R_drew)); exact Kd.R_mono HO548.out (fun _ hk => ⟨hk.1.1.1.1.1.1.1.2, ⟨hk.1.1.1.1.1.1.2, ⟨hk.1.1.1.1.1.2, ⟨hk.1.1.1.1.2, ⟨hk.1.1.1.2, ⟨hk.1.1.2, hk.1.1.1.1.1.1.1.1⟩⟩⟩⟩⟩⟩)⟩, ⟨by (try simp only [hl512001_65]); (try simp only [hl512002_65]); (with_reducible repeat (first | apply Kd.R_alloc | apply Kd.R_drewN | apply Kd.R_drew)); exact Kd.R_mono HO551.out (fun _ hk => ⟨hk.1.1.1.1.1.1.1.2, ⟨hk.1.1.1.1.1.1.2, ⟨hk.1.1.1.1.1.2, ⟨hk.1.1.1.1.2, ⟨hk.1.1.1.2, ⟨hk.1.1.2, hk.1.1.1.1.1.1.1.1⟩⟩⟩⟩⟩⟩)⟩, ⟨by (try simp only [hl512001_65]); (try simp only [hl512002_65]); (with_reducible repeat (first | refine blk_drewN ?_ _ | refine blk_drew ?_ | refine blk_alloc ?_ _)); exact BK486.out⟩, ⟨by (try simp only [hl512001_65]); (try simp only [hl512002_65]); (with_reducible repeat (first | refine blk_drewN ?_ _ | refine blk_drew ?_ | refine blk_alloc ?_ _)); exact BK503.out⟩, ⟨by (try simp only [hl512001_65]); (try simp only [hl512002_65]); (with_reducible repeat (first | refine blk_drewN ?_ _ | refine blk_drew ?_ | refine blk_alloc ?_ _)); exact BK511.out⟩, ⟨by (try simp only [hl512001_65]); (try simp only [hl512002_65]); (with_reducible repeat (first | refine blk_drewN ?_ _ | refine blk_drew ?_ | refine blk_alloc ?_ _)); exact BK520.out⟩, ⟨by (try simp only [hl512001_65]); (try simp only [hl512002_65]); (with_reducible repeat (first | refine blk_drewN ?_ _ | refine blk_drew ?_ | refine blk_alloc ?_ _)); exact BK553.out⟩, ⟨uH HB.out⟩⟩
           case rest =>
            clear HC103
            try clear c1
            try clear c2
            try clear p2
            try clear c3
            try clear c4
            try clear c5
            try clear c5b0
            try clear c6
            try clear c7
            try clear c8
            try clear c9
            try clear c10
            try clear c11
            try clear c12
            try clear c13
            try clear c14
            try clear c15
            try clear c17
            try clear c19
            try clear c20
            try clear c21
            try clear c23
            try clear c26
            try clear c27
            try clear c30
            try clear c31
            try clear c37
            try clear c38
            try clear c39
            try clear c44
            try clear c45
            try clear c46
            try clear c47
            try clear c49
            try clear c50
            try clear c53
            try clear c54
            try clear c55
            try clear c57
            try clear c58
            try clear c61
            try clear c64
            try clear c72
            try clear c73
            try clear c74
            try clear c77
            try clear c77b0
            try clear c79
            try clear c80
            try clear c81
            try clear c82
            try clear c84
            try clear c85
            try clear c88
            try clear c89
            try clear c90
            try clear c92
            try clear c93
            try clear c96
            try clear c99
            try clear c99b0
            try clear c100
            try clear c100b0
            try clear c100b1
            try clear c104
            try clear c105
            try clear c106
            try clear c111
            try clear c112
            try clear c119
            try clear c120
            try clear c121
            try clear c122
            try clear c127
            try clear c128
            try clear c129
            try clear c130
            try clear c131
            try clear c133
            try clear c134
            try clear c135
            try clear c138
            try clear c139
            try clear c140
            try clear c141
            try clear c143
            try clear c144
            try clear c145
            try clear hcz107_0
            try clear hcz107_1
            try clear hcz107_2
            try clear hcz109_0
            try clear hcz109_1
            try clear hcz109_2
            try clear hcz113_0
            try clear hcz113_1
            try clear hcz113_2
            try clear hcz123_0
            try clear hcz123_1
            try clear hcz123_2
            try clear hcz132_0
            try clear hcz132_1
            try clear hcz132_2
            try clear hcz136_0
            try clear hcz136_1
            try clear hcz136_2
            try clear hcz142_0
            try clear hcz142_1
            try clear hcz142_2
            try clear hcz146_0
            try clear hcz146_1
            try clear hcz146_2
            try clear hcz15_0
            try clear hcz15_1
            try clear hcz15_2
            try clear hcz17_0
            try clear hcz17_1
            try clear hcz17_2
            try clear hcz24_0
            try clear hcz24_1
            try clear hcz24_2
            try clear hcz27_0
            try clear hcz27_1
            try clear hcz27_2
            try clear hcz32_0
            try clear hcz32_1
            try clear hcz32_2
            try clear hcz40_0
            try clear hcz40_1
            try clear hcz40_2
            try clear hcz48_0
            try clear hcz48_1
            try clear hcz48_2
            try clear hcz51_0
            try clear hcz51_1
            try clear hcz51_2
            try clear hcz56_0
            try clear hcz56_1
            try clear hcz56_2
            try clear hcz59_0
            try clear hcz59_1
            try clear hcz59_2
            try clear hcz75_0
            try clear hcz75_1
            try clear hcz75_2
            try clear hcz7_0
            try clear hcz7_1
            try clear hcz7_2
            try clear hcz83_0
            try clear hcz83_1
            try clear hcz83_2
            try clear hcz86_0
            try clear hcz86_1
            try clear hcz86_2
            try clear hcz91_0
            try clear hcz91_1
            try clear hcz91_2
            try clear hcz94_0
            try clear hcz94_1
            try clear hcz94_2
            try clear hfz107_0
            try clear hfz107_1
            try clear hfz107_2
            try clear hfz109_0
            try clear hfz109_1
            try clear hfz109_2
            try clear hfz113_0
            try clear hfz113_1
            try clear hfz113_2
            try clear hfz123_0
            try clear hfz123_1
            try clear hfz123_2
            try clear hfz132_0
            try clear hfz132_1
            try clear hfz132_2
            try clear hfz136_0
            try clear hfz136_1
            try clear hfz136_2
            try clear hfz142_0
            try clear hfz142_1
            try clear hfz142_2
            try clear hfz146_0
            try clear hfz146_1
            try clear hfz146_2
            try clear hfz15_0
            try clear hfz15_1
            try clear hfz15_2
            try clear hfz17_0
            try clear hfz17_1
            try clear hfz17_2
            try clear hfz24_0
            try clear hfz24_1
            try clear hfz24_2
            try clear hfz27_0
            try clear hfz27_1
            try clear hfz27_2
            try clear hfz32_0
            try clear hfz32_1
            try clear hfz32_2
            try clear hfz40_0
            try clear hfz40_1
            try clear hfz40_2
            try clear hfz48_0
            try clear hfz48_1
            try clear hfz48_2
            try clear hfz51_0
            try clear hfz51_1
            try clear hfz51_2
            try clear hfz56_0
            try clear hfz56_1
            try clear hfz56_2
            try clear hfz59_0
            try clear hfz59_1
            try clear hfz59_2
            try clear hfz75_0
            try clear hfz75_1
            try clear hfz75_2
            try clear hfz7_0
            try clear hfz7_1
            try clear hfz7_2
            try clear hfz83_0
            try clear hfz83_1
            try clear hfz83_2
            try clear hfz86_0
            try clear hfz86_1
            try clear hfz86_2
            try clear hfz91_0
            try clear hfz91_1
            try clear hfz91_2
            try clear hfz94_0
            try clear hfz94_1
            try clear hfz94_2
            try clear p2
            obtain ⟨kq, x97_102, rfl, HA, HJ102, HO_504001, HO_504002, HO_512001, HO_512002, HO_521001, HO_521002, HO_554001, HO_554002, BK486, BK503, BK511, BK520, BK553, HB⟩ := hcut
            have hl521001_102 := (Kd.R_reads' HO_521001.out).1
            rw [hl521001_102] at HO_521001
            (try simp only [hl521001_102])
            (try simp only [hl521001_102] at BK486)
            (try simp only [hl521001_102] at BK503)
            (try simp only [hl521001_102] at BK511)
            (try simp only [hl521001_102] at BK520)
            (try simp only [hl521001_102] at BK553)
            (try simp only [hl521001_102] at HO_504001)
            (try simp only [hl521001_102] at HO_504002)
            (try simp only [hl521001_102] at HO_512001)
            (try simp only [hl521001_102] at HO_512002)
            (try simp only [hl521001_102] at HO_521002)
            (try simp only [hl521001_102] at HO_554001)
            (try simp only [hl521001_102] at HO_554002)
            have hl521002_102 := (Kd.R_reads' HO_521002.out).1
            rw [hl521002_102] at HO_521002
            (try simp only [hl521002_102])
            (try simp only [hl521002_102] at BK486)
            (try simp only [hl521002_102] at BK503)
            (try simp only [hl521002_102] at BK511)
            (try simp only [hl521002_102] at BK520)
            (try simp only [hl521002_102] at BK553)
            (try simp only [hl521002_102] at HO_504001)
            (try simp only [hl521002_102] at HO_504002)
            (try simp only [hl521002_102] at HO_512001)
            (try simp only [hl521002_102] at HO_512002)
            (try simp only [hl521002_102] at HO_521001)
            (try simp only [hl521002_102] at HO_554001)
            (try simp only [hl521002_102] at HO_554002)
            cases kq with
            | zero => exact absurd HA.out (by simp [laws_FnExactAffineJacobi.j2])
            | succ kj102 =>
             have H := HA.out
             clear HA
             simp only [laws_FnExactAffineJacobi.j2] at H
             by_cases c148 : x97_102 = true
             ·subst c148
              have H1 : (some false) = some r := by rw [if_pos rfl] at H; exact H
              clear H
              have H := H1
              clear H1
              rw [HRT.out] at H
              exact absurd H (by simp)
             ·replace c148 := Bool.eq_false_iff.mpr c148
              subst c148
              have H1 : ((laws_heldJacobi.f kj102 t512 t535 t536 1).bind fun t555 => (if t555 < 0 then (some false) else (if t555 = t534 then (some true) else (some false)))) = some r := by rw [if_neg (show ¬ (false = true) by decide)] at H; exact H
              clear H
              have H := H1
              clear H1
              replace H := Option.bind_eq_some_iff.mp H
              obtain ⟨t555, A1490, H⟩ := H
              replace H : (if t555 < 0 then (some false) else (if t555 = t534 then (some true) else (some false))) = some r := H
              have A149 := zA A1490
              clear A1490
              by_cases c150 : t555 < 0
              ·rw [if_pos c150] at H
               have c150b0 : decide (t555 < 0) = true := decide_eq_true c150
               clear c150
               rw [HRT.out] at H
               exact absurd H (by simp)
              ·rw [if_neg c150] at H
               have c150b0 : decide (t555 < 0) = false := decide_eq_false c150
               clear c150
               by_cases c151 : t555 = t534
               ·rw [if_pos c151] at H
                have c151b0 : (t555 == t534) = true := beq_iff_eq.mpr c151
                have c151b1 : (t555 != t534) = false := bne_eq_false_iff_eq.mpr c151
                clear c151
                obtain rfl := Option.some.inj H
                have hnb152 := NB520_486.out; have hnc152 := NB486_520.out; have hnb153 := NB520_503.out; have hnc153 := NB503_520.out; have hnb154 := NB520_511.out; have hnc154 := NB511_520.out; have hnb155 := NB520_553.out; have hnc155 := NB553_520.out
                have hcz156_0 : wc.cell? ⟨gb520, 0, none⟩ = some (.int .i64 t512) := (blk_cell BK520.out 0).trans rfl
                have hcz156_1 : wc.cell? ⟨gb520, 1, none⟩ = some (.slice Ao41 t535.length co41) := (blk_cell BK520.out 1).trans rfl
                have hcz156_2 : wc.cell? ⟨gb520, 2, none⟩ = some (.slice Ao42 t536.length co42) := (blk_cell BK520.out 2).trans rfl
                have hfz156_0 := blk_frozen BK520.out 0
                have hfz156_1 := blk_frozen BK520.out 1
                have hfz156_2 := blk_frozen BK520.out 2
                go_wp2_with (first | ((with_reducible refine gate_callee (f := 21) rfl ?_); refine goesL_ (some 100) rfl rfl Try.func21 (by kernel_rfl) rfl #[.agg #[.int .i64 t512, .slice Ao41 t535.length co41, .slice Ao42 t536.length co42], .int .i64 1] rfl (by (try simp only [List.map_toArray, List.map_cons, List.map_nil]); first | done | rfl | (simp only [List.length_drop, List.length_take]; rfl)) ?_; (with_reducible refine (laws_heldJacobi.calls kj102 t512 _ _ t535 _ _ t536 1 t555 _ ?side1 ?side2 ?side3 ?side4 A149.out).mono ?_); (case side1 => exact uC ((Kd.R_reads' HO_521001.out).2.2)); (case side2 => exact (Kd.R_reads' HO_521001.out).2.1); (case side3 => exact uC ((Kd.R_reads' HO_521002.out).2.2)); (case side4 => exact (Kd.R_reads' HO_521002.out).2.1); rintro e w157 ⟨rfl, hb⟩; refine ⟨_, rfl, ?_⟩; have n0_ := xR HO_504001 hb; have n1_ := xR HO_504002 hb; have n2_ := xR HO_512001 hb; have n3_ := xR HO_512002 hb; have n4_ := xR HO_521001 hb; have n5_ := xR HO_521002 hb; have n6_ := xR HO_554001 hb; have n7_ := xR HO_554002 hb; have n8_ := xB BK486 hb; have n9_ := xB BK503 hb; have n10_ := xB BK511 hb; have n11_ := xB BK520 hb; have n12_ := xB BK553 hb; have n13_ := xH HB hb; clear HO_504001 HO_504002 HO_512001 HO_512002 HO_521001 HO_521002 HO_554001 HO_554002 BK486 BK503 BK511 BK520 BK553 HB; have HO_504001 := n0_; have HO_504002 := n1_; have HO_512001 := n2_; have HO_512002 := n3_; have HO_521001 := n4_; have HO_521002 := n5_; have HO_554001 := n6_; have HO_554002 := n7_; have BK486 := n8_; have BK503 := n9_; have BK511 := n10_; have BK520 := n11_; have BK553 := n12_; have HB := n13_; clear n0_ n1_ n2_ n3_ n4_ n5_ n6_ n7_ n8_ n9_ n10_ n11_ n12_ n13_; (try clear hb); (try clear hb2); (try clear hk); (try clear hi)))
                go_ret
                exact ⟨by first | rfl | (simp [errW_none, errW_some] <;> rfl) | (simp [*, errW_none, errW_some] <;> rfl), uH HB.out⟩
               ·rw [if_neg c151] at H
                have c151b0 : (t555 == t534) = false := beq_eq_false_iff_ne.mpr c151
                have c151b1 : (t555 != t534) = true := bne_iff_ne.mpr c151
                rw [HRT.out] at H
                exact absurd H (by simp)
          ·rw [if_neg c100] at H
           have c100b0 : (t537 == t534) = false := beq_eq_false_iff_ne.mpr c100
           have c100b1 : (t537 != t534) = true := bne_iff_ne.mpr c100
           rw [HRT.out] at H
           exact absurd H (by simp)
     ·replace c64 := Bool.eq_false_iff.mpr c64
      subst c64
      have H1 : (some false) = some r := by rw [if_neg (show ¬ (false = true) by decide)] at H; exact H
      clear H
      have H := H1
      clear H1
      rw [HRT.out] at H
      exact absurd H (by simp)

/-- THE ONE PURE STATEMENT of laws_FnExactAffineJacobi: yours. -/
def laws_FnExactAffineJacobi.Pure : Prop := ∀ (a0_0 : Int) (l0_1 : List Int) (l0_2 : List Int) (a1 : Int) (a2 : Int), (Lit.int .i64 a0_0).wf = true → l0_1.length ≤ maxLen → (∀ x ∈ l0_1, (Lit.int .i64 x).wf = true) → l0_2.length ≤ maxLen → (∀ x ∈ l0_2, (Lit.int .i64 x).wf = true) → (Lit.int .i64 a1).wf = true → (Lit.int .i64 a2).wf = true → ∃ k, laws_FnExactAffineJacobi.f k a0_0 l0_1 l0_2 a1 a2 = some true
theorem laws_FnExactAffineJacobi.walk (P : laws_FnExactAffineJacobi.Pure) (a0_0 : Int) (a0_1 : Option Addr) (len0_1 cap0_1 : Nat) (z0_1 : List Int) (a0_2 : Option Addr) (len0_2 cap0_2 : Nat) (z0_2 : List Int) (a1 : Int) (a2 : Int) (w : World) (w0_0 : (Lit.int .i64 a0_0).wf = true) (w0_1 : (a0_1 = none ∧ len0_1 = 0 ∧ cap0_1 = 0 ∧ z0_1 = []) ∨ ∃ x, a0_1 = some x ∧ len0_1 ≤ cap0_1 ∧ cap0_1 ≤ maxLen ∧ z0_1.length = cap0_1 ∧ (∀ i, i < z0_1.length → w.cell? (x.add i) = some (.int .i64 (z0_1.getD i 0))) ∧ ∀ n ∈ z0_1, (Lit.int .i64 n).wf = true) (w0_2 : (a0_2 = none ∧ len0_2 = 0 ∧ cap0_2 = 0 ∧ z0_2 = []) ∨ ∃ x, a0_2 = some x ∧ len0_2 ≤ cap0_2 ∧ cap0_2 ≤ maxLen ∧ z0_2.length = cap0_2 ∧ (∀ i, i < z0_2.length → w.cell? (x.add i) = some (.int .i64 (z0_2.getD i 0))) ∧ ∀ n ∈ z0_2, (Lit.int .i64 n).wf = true) (w1 : (Lit.int .i64 a1).wf = true) (w2 : (Lit.int .i64 a2).wf = true) :
  Calls Try.prog 6 #[.agg #[.int .i64 a0_0, .slice a0_1 len0_1 cap0_1, .slice a0_2 len0_2 cap0_2], .int .i64 a1, .int .i64 a2] w fun e w' => e = .returned (.bool true) ∧ Below w.heap.size w w' := by
 obtain ⟨l0_1, rfl, hr0_1, hm0_1, hw0_1, hc0_1⟩ := ReadsInt.ofRowC w0_1
 obtain ⟨l0_2, rfl, hr0_2, hm0_2, hw0_2, hc0_2⟩ := ReadsInt.ofRowC w0_2
 obtain ⟨k, h⟩ := P a0_0 l0_1 l0_2 a1 a2 w0_0 hm0_1 hw0_1 hm0_2 hw0_2 w1 w2
 refine (laws_FnExactAffineJacobi.calls k a0_0 _ _ l0_1 _ _ l0_2 a1 a2 true rfl w (Kd.C_of_reads (d := (0 : Int)) (h1 := fun _ => rfl) hr0_1) hc0_1 (Kd.C_of_reads (d := (0 : Int)) (h1 := fun _ => rfl) hr0_2) hc0_2 h).mono ?_
 rintro e w' ⟨rfl, hd⟩
 exact ⟨rfl, hd⟩

end Go.Proofs.Ytgneldhhlfjjaaa.Pr
