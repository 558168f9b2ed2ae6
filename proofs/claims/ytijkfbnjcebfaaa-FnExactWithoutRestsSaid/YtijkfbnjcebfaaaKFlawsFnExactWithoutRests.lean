/- Printed by a program of this session out of the translation: what these functions of the program compute, under the conditions that each theorem names. -/
import Derived.Test.YtijkfbnjcebfaaaKC01
import Derived.Test.YtijkfbnjcebfaaaKWithoutRests2
import Derived.Test.YtijkfbnjcebfaaaKWithoutRests3
import Derived.Test.YtijkfbnjcebfaaaKFimplWithoutRests
import Derived.Test.YtijkfbnjcebfaaaKWithoutRests1
namespace Go.Proofs.Ytijkfbnjcebfaaa.Pr
open Go.RowKit Go.Proofs.YtijkfbnjcebfaaaW.PrintWords Go.Proofs.YtijkfbnjcebfaaaW.PrintLast Go.Proofs.YtijkfbnjcebfaaaW.PrintMore
attribute [local go_sem] max2_int min2_int max_two min_two max_three min_three max_four min_four   -- for this text's walks alone
set_option linter.unusedVariables false
set_option linter.unusedSimpArgs false

/-! ### laws_FnExactWithoutRests: function 7 -/
mutual
def laws_FnExactWithoutRests.j0 : Nat → Int → Int → Bool → Int → List Int → List Int → Int → List Int → List Int → Int → List Int → List Int → Int → List Int → List Int → Option (Bool)
 | 0, _, _, _, _, _, _, _, _, _, _, _, _, _, _, _ => none
 | k + 1, x5, x8, x40, x726000, x726001, x726002, x743000, x743001, x743002, x751000, x751001, x751002, x760000, x760001, x760002 => if x40 = true then (some false) else ((laws_toRule.f k x726000 x726001 x726002).bind fun bt761 => ((laws_eqRule.f k x751000 x751001 x751002 bt761.1 bt761.2.1 bt761.2.2).bind fun t768 => (if t768 = true then ((laws_markRule.f k x751000 x751001 x751002 1).bind fun bt769 => (if bt769.1 < 0 then (laws_FnExactWithoutRests.j1 k x5 true x726000 x726001 x726002 x743000 x743001 x743002 x760000 x760001 x760002) else ((laws_eqRule.f k x760000 x760001 x760002 x743000 x743001 x743002).bind fun t772 => (if t772 = true then (laws_FnExactWithoutRests.j1 k x5 (x8 != x5) x726000 x726001 x726002 x743000 x743001 x743002 x760000 x760001 x760002) else (laws_FnExactWithoutRests.j1 k x5 true x726000 x726001 x726002 x743000 x743001 x743002 x760000 x760001 x760002))))) else (some false))))
def laws_FnExactWithoutRests.j1 : Nat → Int → Bool → Int → List Int → List Int → Int → List Int → List Int → Int → List Int → List Int → Option (Bool)
 | 0, _, _, _, _, _, _, _, _, _, _, _ => none
 | k + 1, x5, x61, x726000, x726001, x726002, x743000, x743001, x743002, x760000, x760001, x760002 => if x61 = true then (some false) else ((laws_markRule.f k x760000 x760001 x760002 1).bind fun bt773 => ((laws_heldRule.f k x760000 bt773.2.1 bt773.2.2 1).bind fun t776 => (if t776 < 0 then (some false) else (if t776 = bt773.1 then ((laws_toRule.f k x726000 x726001 x726002).bind fun bt777 => ((impl_WithoutRests.f k bt777.1 bt777.2.1 bt777.2.2).bind fun bt784 => ((laws_eqRule.f k bt784.1 bt784.2.1 bt784.2.2.1 x743000 x743001 x743002).bind fun t793 => (if t793 = true then (laws_FnExactWithoutRests.j2 k bt773.1 (bt784.2.2.2 != x5) x760000 bt773.2.1 bt773.2.2) else (laws_FnExactWithoutRests.j2 k bt773.1 true x760000 bt773.2.1 bt773.2.2))))) else (some false)))))
def laws_FnExactWithoutRests.j2 : Nat → Int → Bool → Int → List Int → List Int → Option (Bool)
 | 0, _, _, _, _, _ => none
 | k + 1, x10, x87, x760000, x760001, x760002 => if x87 = true then (some false) else ((laws_heldRule.f k x760000 x760001 x760002 1).bind fun t794 => (if t794 < 0 then (some false) else (if t794 = x10 then (some true) else (some false))))
end
def laws_FnExactWithoutRests.f (k : Nat) (a0_0 : Int) (l0_1 : List Int) (l0_2 : List Int) : Option (Bool) := (laws_szRule.f a0_0 l0_1 l0_2 1048576).bind fun t726 => (if t726 < 0 then (some true) else ((laws_toRule.f k a0_0 l0_1 l0_2).bind fun bt727 => ((spec_WithoutRests.f k bt727.1 bt727.2.1 bt727.2.2).bind fun bt734 => ((laws_toRule.f k a0_0 l0_1 l0_2).bind fun bt743 => ((impl_WithoutRests.f k bt743.1 bt743.2.1 bt743.2.2).bind fun bt751 => ((laws_eqRule.f k bt751.1 bt751.2.1 bt751.2.2.1 bt734.1 bt734.2.1 bt734.2.2.1).bind fun t760 => (if t760 = true then (laws_FnExactWithoutRests.j0 k bt734.2.2.2 bt751.2.2.2 (bt751.2.2.2 != bt734.2.2.2) a0_0 l0_1 l0_2 bt734.1 bt734.2.1 bt734.2.2.1 bt743.1 bt743.2.1 bt743.2.2 bt751.1 bt751.2.1 bt751.2.2.1) else (laws_FnExactWithoutRests.j0 k bt734.2.2.2 bt751.2.2.2 true a0_0 l0_1 l0_2 bt734.1 bt734.2.1 bt734.2.2.1 bt743.1 bt743.2.1 bt743.2.2 bt751.1 bt751.2.1 bt751.2.2.1))))))))
theorem laws_FnExactWithoutRests.mono_l : ∀ k, (∀ y0 y1 y2 y3 y4 y5 y6 y7 y8 y9 y10 y11 y12 y13 y14, LeO (laws_FnExactWithoutRests.j0 k y0 y1 y2 y3 y4 y5 y6 y7 y8 y9 y10 y11 y12 y13 y14) (laws_FnExactWithoutRests.j0 (k + 1) y0 y1 y2 y3 y4 y5 y6 y7 y8 y9 y10 y11 y12 y13 y14)) ∧ (∀ y0 y1 y2 y3 y4 y5 y6 y7 y8 y9 y10, LeO (laws_FnExactWithoutRests.j1 k y0 y1 y2 y3 y4 y5 y6 y7 y8 y9 y10) (laws_FnExactWithoutRests.j1 (k + 1) y0 y1 y2 y3 y4 y5 y6 y7 y8 y9 y10)) ∧ (∀ y0 y1 y2 y3 y4, LeO (laws_FnExactWithoutRests.j2 k y0 y1 y2 y3 y4) (laws_FnExactWithoutRests.j2 (k + 1) y0 y1 y2 y3 y4))
 | 0 => ⟨fun _ _ _ _ _ _ _ _ _ _ _ _ _ _ _ r h => by simp [laws_FnExactWithoutRests.j0] at h, fun _ _ _ _ _ _ _ _ _ _ _ r h => by simp [laws_FnExactWithoutRests.j1] at h, fun _ _ _ _ _ r h => by simp [laws_FnExactWithoutRests.j2] at h⟩
 | k + 1 => by
  obtain ⟨ih0, ih1, ih2⟩ := laws_FnExactWithoutRests.mono_l k
  refine ⟨?_, ?_, ?_⟩
  ·intro y0 y1 y2 y3 y4 y5 y6 y7 y8 y9 y10 y11 y12 y13 y14
   unfold laws_FnExactWithoutRests.j0
   repeat' first
   | (with_reducible exact ih0 _ _ _ _ _ _ _ _ _ _ _ _ _ _ _)
   | (with_reducible exact ih1 _ _ _ _ _ _ _ _ _ _ _)
   | (with_reducible exact ih2 _ _ _ _ _)
   | (with_reducible exact impl_WithoutRests.mono _ _ _ _)
   | (with_reducible exact laws_eqRule.mono _ _ _ _ _ _ _)
   | (with_reducible exact laws_heldRule.mono _ _ _ _ _)
   | (with_reducible exact laws_markRule.mono _ _ _ _ _)
   | (with_reducible exact laws_toRule.mono _ _ _ _)
   | (with_reducible exact spec_WithoutRests.mono _ _ _ _)
   | (with_reducible exact LeO.refl _)
   | (with_reducible exact LeO.none _)
   | (with_reducible refine LeO.ite ?_ ?_)
   | (with_reducible refine LeO.bind ?_ (fun _ => ?_))
   | exact ih0 _ _ _ _ _ _ _ _ _ _ _ _ _ _ _
   | exact ih1 _ _ _ _ _ _ _ _ _ _ _
   | exact ih2 _ _ _ _ _
   | exact impl_WithoutRests.mono _ _ _ _
   | exact laws_eqRule.mono _ _ _ _ _ _ _
   | exact laws_heldRule.mono _ _ _ _ _
   | exact laws_markRule.mono _ _ _ _ _
   | exact laws_toRule.mono _ _ _ _
   | exact spec_WithoutRests.mono _ _ _ _
   | exact LeO.none _
   | refine LeO.ite ?_ ?_
   | refine LeO.bind ?_ (fun _ => ?_)
  ·intro y0 y1 y2 y3 y4 y5 y6 y7 y8 y9 y10
   unfold laws_FnExactWithoutRests.j1
   repeat' first
   | (with_reducible exact ih0 _ _ _ _ _ _ _ _ _ _ _ _ _ _ _)
   | (with_reducible exact ih1 _ _ _ _ _ _ _ _ _ _ _)
   | (with_reducible exact ih2 _ _ _ _ _)
   | (with_reducible exact impl_WithoutRests.mono _ _ _ _)
   | (with_reducible exact laws_eqRule.mono _ _ _ _ _ _ _)
   | (with_reducible exact laws_heldRule.mono _ _ _ _ _)
   | (with_reducible exact laws_markRule.mono _ _ _ _ _)
   | (with_reducible exact laws_toRule.mono _ _ _ _)
   | (with_reducible exact spec_WithoutRests.mono _ _ _ _)
   | (with_reducible exact LeO.refl _)
   | (with_reducible exact LeO.none _)
   | (with_reducible refine LeO.ite ?_ ?_)
   | (with_reducible refine LeO.bind ?_ (fun _ => ?_))
   | exact ih0 _ _ _ _ _ _ _ _ _ _ _ _ _ _ _
   | exact ih1 _ _ _ _ _ _ _ _ _ _ _
   | exact ih2 _ _ _ _ _
   | exact impl_WithoutRests.mono _ _ _ _
   | exact laws_eqRule.mono _ _ _ _ _ _ _
   | exact laws_heldRule.mono _ _ _ _ _
   | exact laws_markRule.mono _ _ _ _ _
   | exact laws_toRule.mono _ _ _ _
   | exact spec_WithoutRests.mono _ _ _ _
   | exact LeO.none _
   | refine LeO.ite ?_ ?_
   | refine LeO.bind ?_ (fun _ => ?_)
  ·intro y0 y1 y2 y3 y4
   unfold laws_FnExactWithoutRests.j2
   repeat' first
   | (with_reducible exact ih0 _ _ _ _ _ _ _ _ _ _ _ _ _ _ _)
   | (with_reducible exact ih1 _ _ _ _ _ _ _ _ _ _ _)
   | (with_reducible exact ih2 _ _ _ _ _)
   | (with_reducible exact impl_WithoutRests.mono _ _ _ _)
   | (with_reducible exact laws_eqRule.mono _ _ _ _ _ _ _)
   | (with_reducible exact laws_heldRule.mono _ _ _ _ _)
   | (with_reducible exact laws_markRule.mono _ _ _ _ _)
   | (with_reducible exact laws_toRule.mono _ _ _ _)
   | (with_reducible exact spec_WithoutRests.mono _ _ _ _)
   | (with_reducible exact LeO.refl _)
   | (with_reducible exact LeO.none _)
   | (with_reducible refine LeO.ite ?_ ?_)
   | (with_reducible refine LeO.bind ?_ (fun _ => ?_))
   | exact ih0 _ _ _ _ _ _ _ _ _ _ _ _ _ _ _
   | exact ih1 _ _ _ _ _ _ _ _ _ _ _
   | exact ih2 _ _ _ _ _
   | exact impl_WithoutRests.mono _ _ _ _
   | exact laws_eqRule.mono _ _ _ _ _ _ _
   | exact laws_heldRule.mono _ _ _ _ _
   | exact laws_markRule.mono _ _ _ _ _
   | exact laws_toRule.mono _ _ _ _
   | exact spec_WithoutRests.mono _ _ _ _
   | exact LeO.none _
   | refine LeO.ite ?_ ?_
   | refine LeO.bind ?_ (fun _ => ?_)
theorem laws_FnExactWithoutRests.mono : ∀ a0 a1 a2 k, LeO (laws_FnExactWithoutRests.f k a0 a1 a2) (laws_FnExactWithoutRests.f (k + 1) a0 a1 a2) := by
 intro a0 a1 a2 k
 obtain ⟨ih0, ih1, ih2⟩ := laws_FnExactWithoutRests.mono_l k
 unfold laws_FnExactWithoutRests.f
 repeat' first
   | (with_reducible exact ih0 _ _ _ _ _ _ _ _ _ _ _ _ _ _ _)
   | (with_reducible exact ih1 _ _ _ _ _ _ _ _ _ _ _)
   | (with_reducible exact ih2 _ _ _ _ _)
   | (with_reducible exact impl_WithoutRests.mono _ _ _ _)
   | (with_reducible exact laws_eqRule.mono _ _ _ _ _ _ _)
   | (with_reducible exact laws_heldRule.mono _ _ _ _ _)
   | (with_reducible exact laws_markRule.mono _ _ _ _ _)
   | (with_reducible exact laws_toRule.mono _ _ _ _)
   | (with_reducible exact spec_WithoutRests.mono _ _ _ _)
   | (with_reducible exact LeO.refl _)
   | (with_reducible exact LeO.none _)
   | (with_reducible refine LeO.ite ?_ ?_)
   | (with_reducible refine LeO.bind ?_ (fun _ => ?_))
   | exact ih0 _ _ _ _ _ _ _ _ _ _ _ _ _ _ _
   | exact ih1 _ _ _ _ _ _ _ _ _ _ _
   | exact ih2 _ _ _ _ _
   | exact impl_WithoutRests.mono _ _ _ _
   | exact laws_eqRule.mono _ _ _ _ _ _ _
   | exact laws_heldRule.mono _ _ _ _ _
   | exact laws_markRule.mono _ _ _ _ _
   | exact laws_toRule.mono _ _ _ _
   | exact spec_WithoutRests.mono _ _ _ _
   | exact LeO.none _
   | refine LeO.ite ?_ ?_
   | refine LeO.bind ?_ (fun _ => ?_)
set_option maxHeartbeats 8000000 in
set_option maxRecDepth 100000 in
theorem laws_FnExactWithoutRests.calls (k : Nat) (a0_0 : Int) (A0_1 : Option Addr) (c0_1 : Nat) (l0_1 : List Int) (A0_2 : Option Addr) (c0_2 : Nat) (l0_2 : List Int) (r : Bool) (hr_ : r = true) (w : World) (hr0_1 : Kd.C (Kd.int .i64) w A0_1 l0_1.length l0_1) (hc0_1 : l0_1.length ≤ c0_1) (hr0_2 : Kd.C (Kd.int .i64) w A0_2 l0_2.length l0_2) (hc0_2 : l0_2.length ≤ c0_2) (h : laws_FnExactWithoutRests.f k a0_0 l0_1 l0_2 = some r) :
  Calls Try.prog 7 #[.agg #[.int .i64 a0_0, .slice A0_1 l0_1.length c0_1, .slice A0_2 l0_2.length c0_2]] w fun e w' => e = .returned (.bool r) ∧ Below w.heap.size w w' := by
 have hu44 := Try.underlying44
 have hu46 := Try.underlying46
 have HRT := zA hr_
 clear hr_
 have HR0_1 := zA hr0_1
 have HC0_1 := zA hc0_1
 clear hr0_1 hc0_1
 have HR0_2 := zA hr0_2
 have HC0_2 := zA hc0_2
 clear hr0_2 hc0_2
 have HB := zA (Below.refl w.heap.size w)
 have H : ((laws_szRule.f a0_0 l0_1 l0_2 1048576).bind fun t726 => (if t726 < 0 then (some true) else ((laws_toRule.f k a0_0 l0_1 l0_2).bind fun bt727 => ((spec_WithoutRests.f k bt727.1 bt727.2.1 bt727.2.2).bind fun bt734 => ((laws_toRule.f k a0_0 l0_1 l0_2).bind fun bt743 => ((impl_WithoutRests.f k bt743.1 bt743.2.1 bt743.2.2).bind fun bt751 => ((laws_eqRule.f k bt751.1 bt751.2.1 bt751.2.2.1 bt734.1 bt734.2.1 bt734.2.2.1).bind fun t760 => (if t760 = true then (laws_FnExactWithoutRests.j0 k bt734.2.2.2 bt751.2.2.2 (bt751.2.2.2 != bt734.2.2.2) a0_0 l0_1 l0_2 bt734.1 bt734.2.1 bt734.2.2.1 bt743.1 bt743.2.1 bt743.2.2 bt751.1 bt751.2.1 bt751.2.2.1) else (laws_FnExactWithoutRests.j0 k bt734.2.2.2 bt751.2.2.2 true a0_0 l0_1 l0_2 bt734.1 bt734.2.1 bt734.2.2.1 bt743.1 bt743.2.1 bt743.2.2 bt751.1 bt751.2.1 bt751.2.2.1))))))))) = some r := h
 clear h
 replace H := Option.bind_eq_some_iff.mp H
 obtain ⟨t726, A20, H⟩ := H
 replace H : (if t726 < 0 then (some true) else ((laws_toRule.f k a0_0 l0_1 l0_2).bind fun bt727 => ((spec_WithoutRests.f k bt727.1 bt727.2.1 bt727.2.2).bind fun bt734 => ((laws_toRule.f k a0_0 l0_1 l0_2).bind fun bt743 => ((impl_WithoutRests.f k bt743.1 bt743.2.1 bt743.2.2).bind fun bt751 => ((laws_eqRule.f k bt751.1 bt751.2.1 bt751.2.2.1 bt734.1 bt734.2.1 bt734.2.2.1).bind fun t760 => (if t760 = true then (laws_FnExactWithoutRests.j0 k bt734.2.2.2 bt751.2.2.2 (bt751.2.2.2 != bt734.2.2.2) a0_0 l0_1 l0_2 bt734.1 bt734.2.1 bt734.2.2.1 bt743.1 bt743.2.1 bt743.2.2 bt751.1 bt751.2.1 bt751.2.2.1) else (laws_FnExactWithoutRests.j0 k bt734.2.2.2 bt751.2.2.2 true a0_0 l0_1 l0_2 bt734.1 bt734.2.1 bt734.2.2.1 bt743.1 bt743.2.1 bt743.2.2 bt751.1 bt751.2.1 bt751.2.2.1)))))))) = some r := H
 have A2 := zA A20
 clear A20
 by_cases c3 : t726 < 0
 rotate_left
 ·rw [if_neg c3] at H
  have c3b0 : decide (t726 < 0) = false := decide_eq_false c3
  clear c3
  replace H := Option.bind_eq_some_iff.mp H
  obtain ⟨⟨t727, t728, t731⟩, A70, H⟩ := H
  replace H : ((spec_WithoutRests.f k t727 t728 t731).bind fun bt734 => ((laws_toRule.f k a0_0 l0_1 l0_2).bind fun bt743 => ((impl_WithoutRests.f k bt743.1 bt743.2.1 bt743.2.2).bind fun bt751 => ((laws_eqRule.f k bt751.1 bt751.2.1 bt751.2.2.1 bt734.1 bt734.2.1 bt734.2.2.1).bind fun t760 => (if t760 = true then (laws_FnExactWithoutRests.j0 k bt734.2.2.2 bt751.2.2.2 (bt751.2.2.2 != bt734.2.2.2) a0_0 l0_1 l0_2 bt734.1 bt734.2.1 bt734.2.2.1 bt743.1 bt743.2.1 bt743.2.2 bt751.1 bt751.2.1 bt751.2.2.1) else (laws_FnExactWithoutRests.j0 k bt734.2.2.2 bt751.2.2.2 true a0_0 l0_1 l0_2 bt734.1 bt734.2.1 bt734.2.2.1 bt743.1 bt743.2.1 bt743.2.2 bt751.1 bt751.2.1 bt751.2.2.1)))))) = some r := H
  have A7 := zA A70
  clear A70
  replace H := Option.bind_eq_some_iff.mp H
  obtain ⟨⟨t734, t735, t738, t741⟩, A80, H⟩ := H
  replace H : ((laws_toRule.f k a0_0 l0_1 l0_2).bind fun bt743 => ((impl_WithoutRests.f k bt743.1 bt743.2.1 bt743.2.2).bind fun bt751 => ((laws_eqRule.f k bt751.1 bt751.2.1 bt751.2.2.1 t734 t735 t738).bind fun t760 => (if t760 = true then (laws_FnExactWithoutRests.j0 k t741 bt751.2.2.2 (bt751.2.2.2 != t741) a0_0 l0_1 l0_2 t734 t735 t738 bt743.1 bt743.2.1 bt743.2.2 bt751.1 bt751.2.1 bt751.2.2.1) else (laws_FnExactWithoutRests.j0 k t741 bt751.2.2.2 true a0_0 l0_1 l0_2 t734 t735 t738 bt743.1 bt743.2.1 bt743.2.2 bt751.1 bt751.2.1 bt751.2.2.1))))) = some r := H
  have A8 := zA A80
  clear A80
  replace H := Option.bind_eq_some_iff.mp H
  obtain ⟨⟨t743, t744, t747⟩, A90, H⟩ := H
  replace H : ((impl_WithoutRests.f k t743 t744 t747).bind fun bt751 => ((laws_eqRule.f k bt751.1 bt751.2.1 bt751.2.2.1 t734 t735 t738).bind fun t760 => (if t760 = true then (laws_FnExactWithoutRests.j0 k t741 bt751.2.2.2 (bt751.2.2.2 != t741) a0_0 l0_1 l0_2 t734 t735 t738 t743 t744 t747 bt751.1 bt751.2.1 bt751.2.2.1) else (laws_FnExactWithoutRests.j0 k t741 bt751.2.2.2 true a0_0 l0_1 l0_2 t734 t735 t738 t743 t744 t747 bt751.1 bt751.2.1 bt751.2.2.1)))) = some r := H
  have A9 := zA A90
  clear A90
  replace H := Option.bind_eq_some_iff.mp H
  obtain ⟨⟨t751, t752, t755, t758⟩, A100, H⟩ := H
  replace H : ((laws_eqRule.f k t751 t752 t755 t734 t735 t738).bind fun t760 => (if t760 = true then (laws_FnExactWithoutRests.j0 k t741 t758 (t758 != t741) a0_0 l0_1 l0_2 t734 t735 t738 t743 t744 t747 t751 t752 t755) else (laws_FnExactWithoutRests.j0 k t741 t758 true a0_0 l0_1 l0_2 t734 t735 t738 t743 t744 t747 t751 t752 t755))) = some r := H
  have A10 := zA A100
  clear A100
  have HC11 := zA H
  clear H
  go_enter Try.func7, Try.ntmps7
  go_upto_region 8 with (first | ((with_reducible refine gate_dst (N := 1) rfl ?_); refine bx 1 #[.int .i64 a0_0, .slice A0_1 l0_1.length c0_1, .slice A0_2 l0_2.length c0_2] 44 ?_; intro gb725 hg w12 hbox hb; have BK725 := zA (hbox); have GW725 := gq HB hg; have GE725 := gq HB hg; replace HB := xH HB hb; have := geI GE725; clear hb hbox hg; have hcz13_0 := bc BK725 0; have hcz13_1 := bc BK725 1; have hcz13_2 := bc BK725 2; have hfz13_0 := bf BK725 0; have hfz13_1 := bf BK725 1; have hfz13_2 := bf BK725 2) | ((with_reducible refine gate_callee (f := 29) rfl ?_); refine gL (some 16) Try.func29 #[.agg #[.int .i64 a0_0, .slice A0_1 l0_1.length c0_1, .slice A0_2 l0_2.length c0_2], .int .i64 1048576] ?_; (with_reducible refine (laws_szRule.calls a0_0 _ _ l0_1 _ _ l0_2 1048576 t726 _ ?side1 ?side2 ?side3 ?side4 A2.out).mono ?_); (case side1 => exact uC ((Kd.C_below HR0_1.out HB.out))); (case side2 => exact HC0_1.out); (case side3 => exact uC ((Kd.C_below HR0_2.out HB.out))); (case side4 => exact HC0_2.out); rintro e w14 ⟨rfl, hb⟩; refine ⟨_, rfl, ?_⟩; replace BK725 := xB BK725 hb; replace HB := xH HB hb; (try clear hb); (try clear hb2); (try clear hk); (try clear hi); have hcz15_0 := bc BK725 0; have hcz15_1 := bc BK725 1; have hcz15_2 := bc BK725 2; have hfz15_0 := bf BK725 0; have hfz15_1 := bf BK725 1; have hfz15_2 := bf BK725 2) | ((with_reducible refine gate_callee (f := 31) rfl ?_); refine gL (some 21) Try.func31 #[.agg #[.int .i64 a0_0, .slice A0_1 l0_1.length c0_1, .slice A0_2 l0_2.length c0_2]] ?_; (with_reducible refine (laws_toRule.calls k a0_0 _ _ l0_1 _ _ l0_2 t727 t728 t731 _ ?side1 ?side2 ?side3 ?side4 A7.out).mono ?_); (case side1 => exact uC ((Kd.C_below HR0_1.out HB.out))); (case side2 => exact HC0_1.out); (case side3 => exact uC ((Kd.C_below HR0_2.out HB.out))); (case side4 => exact HC0_2.out); rintro e w16 ⟨v729, v732, rfl, ho0, ho1, hb⟩; refine ⟨_, rfl, ?_⟩; have HO730 := zA (Kd.R_lower ho0 (below_size (uH HB.out))); have HO733 := zA (Kd.R_lower ho1 (below_size (uH HB.out))); replace BK725 := xB BK725 hb; replace HB := xH HB hb; (try clear hb); (try clear hb2); (try clear hk); (try clear hi); (try clear ho0); (try clear ho1); obtain ⟨Ao17, co17, eo17⟩ := Kd.R_slice HO730.out; subst eo17; obtain ⟨Ao18, co18, eo18⟩ := Kd.R_slice HO733.out; subst eo18) | ((with_reducible refine gate_callee (f := 30) rfl ?_); refine gL (some 22) Try.func30 #[.agg #[.int .i64 t727, .slice Ao17 t728.length co17, .slice Ao18 t731.length co18]] ?_; (with_reducible refine (spec_WithoutRests.calls k t727 _ _ t728 _ _ t731 t734 t735 t738 t741 _ ?side1 ?side2 ?side3 ?side4 A8.out).mono ?_); (case side1 => exact uC ((Kd.R_reads' HO730.out).2.2)); (case side2 => exact (Kd.R_reads' HO730.out).2.1); (case side3 => exact uC ((Kd.R_reads' HO733.out).2.2)); (case side4 => exact (Kd.R_reads' HO733.out).2.1); rintro e w19 ⟨v736, v739, rfl, ho0, ho1, hb⟩; refine ⟨_, rfl, ?_⟩; have HO737 := zA (Kd.R_lower (Kd.R_new' (Kd.R_new' ho0 (Kd.R_lt (uR HO730.out))) (Kd.R_lt (uR HO733.out))) (below_size (uH HB.out))); have HO740 := zA (Kd.R_lower (Kd.R_new' (Kd.R_new' ho1 (Kd.R_lt (uR HO730.out))) (Kd.R_lt (uR HO733.out))) (below_size (uH HB.out))); replace HO730 := zA (Kd.R_mono (Kd.R_told (Kd.R_told (Kd.R_old (uR HO730.out) hb) (Kd.R_base ho0)) (Kd.R_base ho1)) (fun _ h_ => h_.1)); replace HO733 := zA (Kd.R_mono (Kd.R_told (Kd.R_told (Kd.R_old (uR HO733.out) hb) (Kd.R_base ho0)) (Kd.R_base ho1)) (fun _ h_ => h_.1)); replace BK725 := xB BK725 hb; replace HB := xH HB hb; (try clear hb); (try clear hb2); (try clear hk); (try clear hi); (try clear ho0); (try clear ho1)) | ((with_reducible refine gate_dst (N := 4) rfl ?_); refine bx 4 #[.int .i64 0, .slice none 0 0, .slice none 0 0] 46 ?_; intro gb742 hg w20 hbox hb; replace HO730 := xR HO730 hb; replace HO733 := xR HO733 hb; replace HO737 := xR HO737 hb; replace HO740 := xR HO740 hb; have BK742 := zA (hbox); have GW742 := gq HB hg; have GE742 := gq HB hg; replace HB := xH HB hb; have NB725_742 := zA ((by rw [hg]; exact neL BK725 : gb725 ≠ gb742)); have NB742_725 := zA ((by rw [hg]; exact neG BK725 : gb742 ≠ gb725)); replace BK725 := xB BK725 hb; have := geI GE742; clear hb hbox hg; have hnb21 := NB742_725.out; have hnc21 := NB725_742.out; have hcz22_0 := bc BK742 0; have hcz22_1 := bc BK742 1; have hcz22_2 := bc BK742 2; have hfz22_0 := bf BK742 0; have hfz22_1 := bf BK742 1; have hfz22_2 := bf BK742 2; obtain ⟨Ao23, co23, eo23⟩ := Kd.R_slice HO737.out; subst eo23; obtain ⟨Ao24, co24, eo24⟩ := Kd.R_slice HO740.out; subst eo24; have hcz25_0 := bc BK725 0; have hcz25_1 := bc BK725 1; have hcz25_2 := bc BK725 2; have hfz25_0 := bf BK725 0; have hfz25_1 := bf BK725 1; have hfz25_2 := bf BK725 2) | ((with_reducible refine gate_callee (f := 31) rfl ?_); refine gL (some 26) Try.func31 #[.agg #[.int .i64 a0_0, .slice A0_1 l0_1.length c0_1, .slice A0_2 l0_2.length c0_2]] ?_; (with_reducible refine (laws_toRule.calls k a0_0 _ _ l0_1 _ _ l0_2 t743 t744 t747 _ ?side1 ?side2 ?side3 ?side4 A9.out).mono ?_); (case side1 => exact Kd.C_below HR0_1.out (uH HB.out)); (case side2 => exact HC0_1.out); (case side3 => exact Kd.C_below HR0_2.out (uH HB.out)); (case side4 => exact HC0_2.out); rintro e w26 ⟨v745, v748, rfl, ho0, ho1, hb⟩; refine ⟨_, rfl, ?_⟩; have HO746 := zA (Kd.R_lower (Kd.R_new' (Kd.R_new' (Kd.R_new' (Kd.R_new' ho0 (Kd.R_lt (uR ((rf3 HO730 BK742 (by decide) (.int .i64 t734) (.slice Ao23 t735.length co23) (.slice Ao24 t738.length co24)))))) (Kd.R_lt (uR ((rf3 HO733 BK742 (by decide) (.int .i64 t734) (.slice Ao23 t735.length co23) (.slice Ao24 t738.length co24)))))) (Kd.R_lt (uR ((rf3 HO737 BK742 (by decide) (.int .i64 t734) (.slice Ao23 t735.length co23) (.slice Ao24 t738.length co24)))))) (Kd.R_lt (uR ((rf3 HO740 BK742 (by decide) (.int .i64 t734) (.slice Ao23 t735.length co23) (.slice Ao24 t738.length co24)))))) (below_size (uH HB.out))); have HO749 := zA (Kd.R_lower (Kd.R_new' (Kd.R_new' (Kd.R_new' (Kd.R_new' ho1 (Kd.R_lt (uR ((rf3 HO730 BK742 (by decide) (.int .i64 t734) (.slice Ao23 t735.length co23) (.slice Ao24 t738.length co24)))))) (Kd.R_lt (uR ((rf3 HO733 BK742 (by decide) (.int .i64 t734) (.slice Ao23 t735.length co23) (.slice Ao24 t738.length co24)))))) (Kd.R_lt (uR ((rf3 HO737 BK742 (by decide) (.int .i64 t734) (.slice Ao23 t735.length co23) (.slice Ao24 t738.length co24)))))) (Kd.R_lt (uR ((rf3 HO740 BK742 (by decide) (.int .i64 t734) (.slice Ao23 t735.length co23) (.slice Ao24 t738.length co24)))))) (below_size (uH HB.out))); replace HO730 := zA (Kd.R_mono (Kd.R_told (Kd.R_told (Kd.R_old (uR ((rf3 HO730 BK742 (by decide) (.int .i64 t734) (.slice Ao23 t735.length co23) (.slice Ao24 t738.length co24)))) hb) (Kd.R_base ho0)) (Kd.R_base ho1)) (fun _ h_ => h_.1)); replace HO733 := zA (Kd.R_mono (Kd.R_told (Kd.R_told (Kd.R_old (uR ((rf3 HO733 BK742 (by decide) (.int .i64 t734) (.slice Ao23 t735.length co23) (.slice Ao24 t738.length co24)))) hb) (Kd.R_base ho0)) (Kd.R_base ho1)) (fun _ h_ => h_.1)); replace HO737 := zA (Kd.R_mono (Kd.R_told (Kd.R_told (Kd.R_old (uR ((rf3 HO737 BK742 (by decide) (.int .i64 t734) (.slice Ao23 t735.length co23) (.slice Ao24 t738.length co24)))) hb) (Kd.R_base ho0)) (Kd.R_base ho1)) (fun _ h_ => h_.1)); replace HO740 := zA (Kd.R_mono (Kd.R_told (Kd.R_told (Kd.R_old (uR ((rf3 HO740 BK742 (by decide) (.int .i64 t734) (.slice Ao23 t735.length co23) (.slice Ao24 t738.length co24)))) hb) (Kd.R_base ho0)) (Kd.R_base ho1)) (fun _ h_ => h_.1)); replace BK725 := zA (blk_below (g := gb725) (o := .cells #[.int .i64 a0_0, .slice A0_1 l0_1.length c0_1, .slice A0_2 l0_2.length c0_2] 44 (0, 0)) (by (repeat refine up1 ?_); refine blk_far ?_ NB725_742.out _; (repeat refine up1 ?_); refine blk_far ?_ NB725_742.out _; (repeat refine up1 ?_); refine blk_far ?_ NB725_742.out _; (repeat refine up1 ?_); exact BK725.out) hb); replace BK742 := zA (blk_below (g := gb742) (o := .cells #[.int .i64 t734, .slice Ao23 t735.length co23, .slice Ao24 t738.length co24] 46 (0, 0)) (by (repeat refine up1 ?_); refine blk_put (cs := #[.int .i64 t734, .slice Ao23 t735.length co23, .slice none 0 0]) ?_ 2 _ rfl; (repeat refine up1 ?_); refine blk_put (cs := #[.int .i64 t734, .slice none 0 0, .slice none 0 0]) ?_ 1 _ rfl; (repeat refine up1 ?_); refine blk_put (cs := #[.int .i64 0, .slice none 0 0, .slice none 0 0]) ?_ 0 _ rfl; (repeat refine up1 ?_); exact BK742.out) hb); replace HB := xH HB hb; (try clear hb); (try clear hb2); (try clear hk); (try clear hi); (try clear ho0); (try clear ho1)) | ((with_reducible refine gate_dst (N := 6) rfl ?_); refine bx 6 #[.int .i64 0, .slice none 0 0, .slice none 0 0] 46 ?_; intro gb750 hg w27 hbox hb; replace HO730 := xR HO730 hb; replace HO733 := xR HO733 hb; replace HO737 := xR HO737 hb; replace HO740 := xR HO740 hb; replace HO746 := xR HO746 hb; replace HO749 := xR HO749 hb; have BK750 := zA (hbox); have GW750 := gq HB hg; have GE750 := gq HB hg; replace HB := xH HB hb; have NB725_750 := zA ((by rw [hg]; exact neL BK725 : gb725 ≠ gb750)); have NB750_725 := zA ((by rw [hg]; exact neG BK725 : gb750 ≠ gb725)); replace BK725 := xB BK725 hb; have NB742_750 := zA ((by rw [hg]; exact neL BK742 : gb742 ≠ gb750)); have NB750_742 := zA ((by rw [hg]; exact neG BK742 : gb750 ≠ gb742)); replace BK742 := xB BK742 hb; have := geI GE750; clear hb hbox hg; have hnb28 := NB750_725.out; have hnc28 := NB725_750.out; have hnb29 := NB750_742.out; have hnc29 := NB742_750.out; have hcz30_0 := bc BK750 0; have hcz30_1 := bc BK750 1; have hcz30_2 := bc BK750 2; have hfz30_0 := bf BK750 0; have hfz30_1 := bf BK750 1; have hfz30_2 := bf BK750 2; obtain ⟨Ao31, co31, eo31⟩ := Kd.R_slice HO746.out; subst eo31; obtain ⟨Ao32, co32, eo32⟩ := Kd.R_slice HO749.out; subst eo32) | ((with_reducible refine gate_callee (f := 32) rfl ?_); refine gL (some 29) Try.func32 #[.agg #[.int .i64 t743, .slice Ao31 t744.length co31, .slice Ao32 t747.length co32]] ?_; (with_reducible refine (impl_WithoutRests.calls k t743 _ _ t744 _ _ t747 t751 t752 t755 t758 _ ?side1 ?side2 ?side3 ?side4 A10.out).mono ?_); (case side1 => refine (Kd.R_reads' (e := 2) (base := w.heap.size) (ok := fun k_ => ((((ax k_ (.slice Ao32 t747.length co32) ∧ ax k_ (.slice Ao17 t728.length co17)) ∧ ax k_ (.slice Ao18 t731.length co18)) ∧ ax k_ (.slice Ao23 t735.length co23)) ∧ ax k_ (.slice Ao24 t738.length co24))) (n := t744.length) (c := co31) ?_).2.2; exact (uR ((rf3 HO746 BK750 (by decide) (.int .i64 t743) (.slice Ao31 t744.length co31) (.slice Ao32 t747.length co32))))); (case side2 => exact (Kd.R_reads' HO746.out).2.1); (case side3 => refine (Kd.R_reads' (e := 2) (base := w.heap.size) (ok := fun k_ => ((((ax k_ (.slice Ao31 t744.length co31) ∧ ax k_ (.slice Ao17 t728.length co17)) ∧ ax k_ (.slice Ao18 t731.length co18)) ∧ ax k_ (.slice Ao23 t735.length co23)) ∧ ax k_ (.slice Ao24 t738.length co24))) (n := t747.length) (c := co32) ?_).2.2; exact (uR ((rf3 HO749 BK750 (by decide) (.int .i64 t743) (.slice Ao31 t744.length co31) (.slice Ao32 t747.length co32))))); (case side4 => exact (Kd.R_reads' HO749.out).2.1); rintro e w33 ⟨v753, v756, rfl, ho0, ho1, hb⟩; refine ⟨_, rfl, ?_⟩; have HO754 := zA (Kd.R_lower (Kd.R_new' (Kd.R_new' (Kd.R_new' (Kd.R_new' (Kd.R_new' (Kd.R_new' ho0 (Kd.R_lt (uR ((rf3 HO730 BK750 (by decide) (.int .i64 t743) (.slice Ao31 t744.length co31) (.slice Ao32 t747.length co32)))))) (Kd.R_lt (uR ((rf3 HO733 BK750 (by decide) (.int .i64 t743) (.slice Ao31 t744.length co31) (.slice Ao32 t747.length co32)))))) (Kd.R_lt (uR ((rf3 HO737 BK750 (by decide) (.int .i64 t743) (.slice Ao31 t744.length co31) (.slice Ao32 t747.length co32)))))) (Kd.R_lt (uR ((rf3 HO740 BK750 (by decide) (.int .i64 t743) (.slice Ao31 t744.length co31) (.slice Ao32 t747.length co32)))))) (Kd.R_lt (uR ((rf3 HO746 BK750 (by decide) (.int .i64 t743) (.slice Ao31 t744.length co31) (.slice Ao32 t747.length co32)))))) (Kd.R_lt (uR ((rf3 HO749 BK750 (by decide) (.int .i64 t743) (.slice Ao31 t744.length co31) (.slice Ao32 t747.length co32)))))) (below_size (uH HB.out))); have HO757 := zA (Kd.R_lower (Kd.R_new' (Kd.R_new' (Kd.R_new' (Kd.R_new' (Kd.R_new' (Kd.R_new' ho1 (Kd.R_lt (uR ((rf3 HO730 BK750 (by decide) (.int .i64 t743) (.slice Ao31 t744.length co31) (.slice Ao32 t747.length co32)))))) (Kd.R_lt (uR ((rf3 HO733 BK750 (by decide) (.int .i64 t743) (.slice Ao31 t744.length co31) (.slice Ao32 t747.length co32)))))) (Kd.R_lt (uR ((rf3 HO737 BK750 (by decide) (.int .i64 t743) (.slice Ao31 t744.length co31) (.slice Ao32 t747.length co32)))))) (Kd.R_lt (uR ((rf3 HO740 BK750 (by decide) (.int .i64 t743) (.slice Ao31 t744.length co31) (.slice Ao32 t747.length co32)))))) (Kd.R_lt (uR ((rf3 HO746 BK750 (by decide) (.int .i64 t743) (.slice Ao31 t744.length co31) (.slice Ao32 t747.length co32)))))) (Kd.R_lt (uR ((rf3 HO749 BK750 (by decide) (.int .i64 t743) (.slice Ao31 t744.length co31) (.slice Ao32 t747.length co32)))))) (below_size (uH HB.out))); replace HO730 := zA (Kd.R_mono (Kd.R_told (Kd.R_told (Kd.R_old (uR ((rf3 HO730 BK750 (by decide) (.int .i64 t743) (.slice Ao31 t744.length co31) (.slice Ao32 t747.length co32)))) hb) (Kd.R_base ho0)) (Kd.R_base ho1)) (fun _ h_ => h_.1)); replace HO733 := zA (Kd.R_mono (Kd.R_told (Kd.R_told (Kd.R_old (uR ((rf3 HO733 BK750 (by decide) (.int .i64 t743) (.slice Ao31 t744.length co31) (.slice Ao32 t747.length co32)))) hb) (Kd.R_base ho0)) (Kd.R_base ho1)) (fun _ h_ => h_.1)); replace HO737 := zA (Kd.R_mono (Kd.R_told (Kd.R_told (Kd.R_old (uR ((rf3 HO737 BK750 (by decide) (.int .i64 t743) (.slice Ao31 t744.length co31) (.slice Ao32 t747.length co32)))) hb) (Kd.R_base ho0)) (Kd.R_base ho1)) (fun _ h_ => h_.1)); replace HO740 := zA (Kd.R_mono (Kd.R_told (Kd.R_told (Kd.R_old (uR ((rf3 HO740 BK750 (by decide) (.int .i64 t743) (.slice Ao31 t744.length co31) (.slice Ao32 t747.length co32)))) hb) (Kd.R_base ho0)) (Kd.R_base ho1)) (fun _ h_ => h_.1)); replace HO746 := zA (Kd.R_mono (Kd.R_told (Kd.R_told (Kd.R_old (uR ((rf3 HO746 BK750 (by decide) (.int .i64 t743) (.slice Ao31 t744.length co31) (.slice Ao32 t747.length co32)))) hb) (Kd.R_base ho0)) (Kd.R_base ho1)) (fun _ h_ => h_.1)); replace HO749 := zA (Kd.R_mono (Kd.R_told (Kd.R_told (Kd.R_old (uR ((rf3 HO749 BK750 (by decide) (.int .i64 t743) (.slice Ao31 t744.length co31) (.slice Ao32 t747.length co32)))) hb) (Kd.R_base ho0)) (Kd.R_base ho1)) (fun _ h_ => h_.1)); replace BK725 := zA (blk_below (g := gb725) (o := .cells #[.int .i64 a0_0, .slice A0_1 l0_1.length c0_1, .slice A0_2 l0_2.length c0_2] 44 (0, 0)) (by (repeat refine up1 ?_); refine blk_far ?_ NB725_750.out _; (repeat refine up1 ?_); refine blk_far ?_ NB725_750.out _; (repeat refine up1 ?_); refine blk_far ?_ NB725_750.out _; (repeat refine up1 ?_); exact BK725.out) hb); replace BK742 := zA (blk_below (g := gb742) (o := .cells #[.int .i64 t734, .slice Ao23 t735.length co23, .slice Ao24 t738.length co24] 46 (0, 0)) (by (repeat refine up1 ?_); refine blk_far ?_ NB742_750.out _; (repeat refine up1 ?_); refine blk_far ?_ NB742_750.out _; (repeat refine up1 ?_); refine blk_far ?_ NB742_750.out _; (repeat refine up1 ?_); exact BK742.out) hb); replace BK750 := zA (blk_below (g := gb750) (o := .cells #[.int .i64 t743, .slice Ao31 t744.length co31, .slice Ao32 t747.length co32] 46 (0, 0)) (by (repeat refine up1 ?_); refine blk_put (cs := #[.int .i64 t743, .slice Ao31 t744.length co31, .slice none 0 0]) ?_ 2 _ rfl; (repeat refine up1 ?_); refine blk_put (cs := #[.int .i64 t743, .slice none 0 0, .slice none 0 0]) ?_ 1 _ rfl; (repeat refine up1 ?_); refine blk_put (cs := #[.int .i64 0, .slice none 0 0, .slice none 0 0]) ?_ 0 _ rfl; (repeat refine up1 ?_); exact BK750.out) hb); replace HB := xH HB hb; (try clear hb); (try clear hb2); (try clear hk); (try clear hi); (try clear ho0); (try clear ho1)) | ((with_reducible refine gate_dst (N := 7) rfl ?_); refine bx 7 #[.int .i64 0, .slice none 0 0, .slice none 0 0] 46 ?_; intro gb759 hg w34 hbox hb; replace HO730 := xR HO730 hb; replace HO733 := xR HO733 hb; replace HO737 := xR HO737 hb; replace HO740 := xR HO740 hb; replace HO746 := xR HO746 hb; replace HO749 := xR HO749 hb; replace HO754 := xR HO754 hb; replace HO757 := xR HO757 hb; have BK759 := zA (hbox); have GW759 := gq HB hg; have GE759 := gq HB hg; replace HB := xH HB hb; have NB725_759 := zA ((by rw [hg]; exact neL BK725 : gb725 ≠ gb759)); have NB759_725 := zA ((by rw [hg]; exact neG BK725 : gb759 ≠ gb725)); replace BK725 := xB BK725 hb; have NB742_759 := zA ((by rw [hg]; exact neL BK742 : gb742 ≠ gb759)); have NB759_742 := zA ((by rw [hg]; exact neG BK742 : gb759 ≠ gb742)); replace BK742 := xB BK742 hb; have NB750_759 := zA ((by rw [hg]; exact neL BK750 : gb750 ≠ gb759)); have NB759_750 := zA ((by rw [hg]; exact neG BK750 : gb759 ≠ gb750)); replace BK750 := xB BK750 hb; have := geI GE759; clear hb hbox hg; have hnb35 := NB759_725.out; have hnc35 := NB725_759.out; have hnb36 := NB759_742.out; have hnc36 := NB742_759.out; have hnb37 := NB759_750.out; have hnc37 := NB750_759.out; have hcz38_0 := bc BK759 0; have hcz38_1 := bc BK759 1; have hcz38_2 := bc BK759 2; have hfz38_0 := bf BK759 0; have hfz38_1 := bf BK759 1; have hfz38_2 := bf BK759 2; obtain ⟨Ao39, co39, eo39⟩ := Kd.R_slice HO754.out; subst eo39; obtain ⟨Ao40, co40, eo40⟩ := Kd.R_slice HO757.out; subst eo40))
  (try simp only [Act.put, ls, lz, ln])
  go_cut [40] (fun v40 wc => ∃ (kq : Nat) (x40_10 : Bool), v40 = .bool x40_10 ∧ Aside0 (laws_FnExactWithoutRests.j0 kq t741 t758 x40_10 a0_0 l0_1 l0_2 t734 t735 t738 t743 t744 t747 t751 t752 t755 = some r) ∧ Aside0 (kq ≤ k) ∧ Aside0 (Kd.R (Kd.int .i64) 2 wc w.heap.size (fun k_ => ax k_ (.slice Ao24 t738.length co24) ∧ ax k_ (.slice Ao31 t744.length co31) ∧ ax k_ (.slice Ao32 t747.length co32) ∧ ax k_ (.slice Ao39 t752.length co39) ∧ ax k_ (.slice Ao40 t755.length co40)) (.slice Ao23 t735.length co23) t735) ∧ Aside0 (Kd.R (Kd.int .i64) 2 wc w.heap.size (fun k_ => ax k_ (.slice Ao23 t735.length co23) ∧ ax k_ (.slice Ao31 t744.length co31) ∧ ax k_ (.slice Ao32 t747.length co32) ∧ ax k_ (.slice Ao39 t752.length co39) ∧ ax k_ (.slice Ao40 t755.length co40)) (.slice Ao24 t738.length co24) t738) ∧ Aside0 (Kd.R (Kd.int .i64) 2 wc w.heap.size (fun k_ => ax k_ (.slice Ao23 t735.length co23) ∧ ax k_ (.slice Ao24 t738.length co24) ∧ ax k_ (.slice Ao32 t747.length co32) ∧ ax k_ (.slice Ao39 t752.length co39) ∧ ax k_ (.slice Ao40 t755.length co40)) (.slice Ao31 t744.length co31) t744) ∧ Aside0 (Kd.R (Kd.int .i64) 2 wc w.heap.size (fun k_ => ax k_ (.slice Ao23 t735.length co23) ∧ ax k_ (.slice Ao24 t738.length co24) ∧ ax k_ (.slice Ao31 t744.length co31) ∧ ax k_ (.slice Ao39 t752.length co39) ∧ ax k_ (.slice Ao40 t755.length co40)) (.slice Ao32 t747.length co32) t747) ∧ Aside0 (Kd.R (Kd.int .i64) 2 wc w.heap.size (fun k_ => ax k_ (.slice Ao23 t735.length co23) ∧ ax k_ (.slice Ao24 t738.length co24) ∧ ax k_ (.slice Ao31 t744.length co31) ∧ ax k_ (.slice Ao32 t747.length co32) ∧ ax k_ (.slice Ao40 t755.length co40)) (.slice Ao39 t752.length co39) t752) ∧ Aside0 (Kd.R (Kd.int .i64) 2 wc w.heap.size (fun k_ => ax k_ (.slice Ao23 t735.length co23) ∧ ax k_ (.slice Ao24 t738.length co24) ∧ ax k_ (.slice Ao31 t744.length co31) ∧ ax k_ (.slice Ao32 t747.length co32) ∧ ax k_ (.slice Ao39 t752.length co39)) (.slice Ao40 t755.length co40) t755) ∧ Aside0 (wc.heap[gb725]? = some (.cells #[.int .i64 a0_0, (.slice A0_1 l0_1.length c0_1), (.slice A0_2 l0_2.length c0_2)] 44 (0, 0))) ∧ Aside0 (wc.heap[gb742]? = some (.cells #[.int .i64 t734, (.slice Ao23 t735.length co23), (.slice Ao24 t738.length co24)] 46 (0, 0))) ∧ Aside0 (wc.heap[gb750]? = some (.cells #[.int .i64 t743, (.slice Ao31 t744.length co31), (.slice Ao32 t747.length co32)] 46 (0, 0))) ∧ Aside0 (wc.heap[gb759]? = some (.cells #[.int .i64 t751, (.slice Ao39 t752.length co39), (.slice Ao40 t755.length co40)] 46 (0, 0))) ∧ Aside0 (Below w.heap.size w wc))
  case first =>
   have H := HC11.out
   clear HC11
   replace H := Option.bind_eq_some_iff.mp H
   obtain ⟨t760, A410, H⟩ := H
   replace H : (if t760 = true then (laws_FnExactWithoutRests.j0 k t741 t758 (t758 != t741) a0_0 l0_1 l0_2 t734 t735 t738 t743 t744 t747 t751 t752 t755) else (laws_FnExactWithoutRests.j0 k t741 t758 true a0_0 l0_1 l0_2 t734 t735 t738 t743 t744 t747 t751 t752 t755)) = some r := H
   have A41 := zA A410
   clear A410
   by_cases c42 : t760 = true
   ·subst c42
    have H1 : (laws_FnExactWithoutRests.j0 k t741 t758 (t758 != t741) a0_0 l0_1 l0_2 t734 t735 t738 t743 t744 t747 t751 t752 t755) = some r := by rw [if_pos rfl] at H; exact H
    clear H
    have H := H1
    clear H1
    have H' := zA H
    clear H
    have hnb43 := NB759_725.out; have hnc43 := NB725_759.out; have hnb44 := NB759_742.out; have hnc44 := NB742_759.out; have hnb45 := NB759_750.out; have hnc45 := NB750_759.out
    have hcz46_0 := bc BK759 0
    have hcz46_1 := bc BK759 1
    have hcz46_2 := bc BK759 2
    have hfz46_0 := bf BK759 0
    have hfz46_1 := bf BK759 1
    have hfz46_2 := bf BK759 2
    have hnb47 := NB742_725.out; have hnc47 := NB725_742.out; have hnb48 := NB742_750.out; have hnc48 := NB750_742.out
    have hcz49_0 := bc BK742 0
    have hcz49_1 := bc BK742 1
    have hcz49_2 := bc BK742 2
    have hfz49_0 := bf BK742 0
    have hfz49_1 := bf BK742 1
    have hfz49_2 := bf BK742 2
    go_wp2_with (first | ((with_reducible refine gate_callee (f := 33) rfl ?_); refine gL (some 34) Try.func33 #[.agg #[.int .i64 t751, .slice Ao39 t752.length co39, .slice Ao40 t755.length co40], .agg #[.int .i64 t734, .slice Ao23 t735.length co23, .slice Ao24 t738.length co24]] ?_; (with_reducible refine (laws_eqRule.calls k t751 _ _ t752 _ _ t755 t734 _ _ t735 _ _ t738 true _ ?side1 ?side2 ?side3 ?side4 ?side5 ?side6 ?side7 ?side8 A41.out).mono ?_); (case side1 => refine (Kd.R_reads' (e := 2) (base := w.heap.size) (ok := fun k_ => ((((((ax k_ (.slice Ao40 t755.length co40) ∧ ax k_ (.slice Ao17 t728.length co17)) ∧ ax k_ (.slice Ao18 t731.length co18)) ∧ ax k_ (.slice Ao23 t735.length co23)) ∧ ax k_ (.slice Ao24 t738.length co24)) ∧ ax k_ (.slice Ao31 t744.length co31)) ∧ ax k_ (.slice Ao32 t747.length co32))) (n := t752.length) (c := co39) ?_).2.2; exact (uR ((rf3 HO754 BK759 (by decide) (.int .i64 t751) (.slice Ao39 t752.length co39) (.slice Ao40 t755.length co40))))); (case side2 => exact (Kd.R_reads' HO754.out).2.1); (case side3 => refine (Kd.R_reads' (e := 2) (base := w.heap.size) (ok := fun k_ => ((((((ax k_ (.slice Ao39 t752.length co39) ∧ ax k_ (.slice Ao17 t728.length co17)) ∧ ax k_ (.slice Ao18 t731.length co18)) ∧ ax k_ (.slice Ao23 t735.length co23)) ∧ ax k_ (.slice Ao24 t738.length co24)) ∧ ax k_ (.slice Ao31 t744.length co31)) ∧ ax k_ (.slice Ao32 t747.length co32))) (n := t755.length) (c := co40) ?_).2.2; exact (uR ((rf3 HO757 BK759 (by decide) (.int .i64 t751) (.slice Ao39 t752.length co39) (.slice Ao40 t755.length co40))))); (case side4 => exact (Kd.R_reads' HO757.out).2.1); (case side5 => refine (Kd.R_reads' (e := 2) (base := w.heap.size) (ok := fun k_ => ((((((ax k_ (.slice Ao24 t738.length co24) ∧ ax k_ (.slice Ao17 t728.length co17)) ∧ ax k_ (.slice Ao18 t731.length co18)) ∧ ax k_ (.slice Ao31 t744.length co31)) ∧ ax k_ (.slice Ao32 t747.length co32)) ∧ ax k_ (.slice Ao39 t752.length co39)) ∧ ax k_ (.slice Ao40 t755.length co40))) (n := t735.length) (c := co23) ?_).2.2; exact (uR ((rf3 HO737 BK759 (by decide) (.int .i64 t751) (.slice Ao39 t752.length co39) (.slice Ao40 t755.length co40))))); (case side6 => exact (Kd.R_reads' HO737.out).2.1); (case side7 => refine (Kd.R_reads' (e := 2) (base := w.heap.size) (ok := fun k_ => ((((((ax k_ (.slice Ao23 t735.length co23) ∧ ax k_ (.slice Ao17 t728.length co17)) ∧ ax k_ (.slice Ao18 t731.length co18)) ∧ ax k_ (.slice Ao31 t744.length co31)) ∧ ax k_ (.slice Ao32 t747.length co32)) ∧ ax k_ (.slice Ao39 t752.length co39)) ∧ ax k_ (.slice Ao40 t755.length co40))) (n := t738.length) (c := co24) ?_).2.2; exact (uR ((rf3 HO740 BK759 (by decide) (.int .i64 t751) (.slice Ao39 t752.length co39) (.slice Ao40 t755.length co40))))); (case side8 => exact (Kd.R_reads' HO740.out).2.1); rintro e w50 ⟨rfl, hb⟩; refine ⟨_, rfl, ?_⟩; replace HO730 := zA (Kd.R_below (uR ((rf3 HO730 BK759 (by decide) (.int .i64 t751) (.slice Ao39 t752.length co39) (.slice Ao40 t755.length co40)))) hb); replace HO733 := zA (Kd.R_below (uR ((rf3 HO733 BK759 (by decide) (.int .i64 t751) (.slice Ao39 t752.length co39) (.slice Ao40 t755.length co40)))) hb); replace HO737 := zA (Kd.R_below (uR ((rf3 HO737 BK759 (by decide) (.int .i64 t751) (.slice Ao39 t752.length co39) (.slice Ao40 t755.length co40)))) hb); replace HO740 := zA (Kd.R_below (uR ((rf3 HO740 BK759 (by decide) (.int .i64 t751) (.slice Ao39 t752.length co39) (.slice Ao40 t755.length co40)))) hb); replace HO746 := zA (Kd.R_below (uR ((rf3 HO746 BK759 (by decide) (.int .i64 t751) (.slice Ao39 t752.length co39) (.slice Ao40 t755.length co40)))) hb); replace HO749 := zA (Kd.R_below (uR ((rf3 HO749 BK759 (by decide) (.int .i64 t751) (.slice Ao39 t752.length co39) (.slice Ao40 t755.length co40)))) hb); replace HO754 := zA (Kd.R_below (uR ((rf3 HO754 BK759 (by decide) (.int .i64 t751) (.slice Ao39 t752.length co39) (.slice Ao40 t755.length co40)))) hb); replace HO757 := zA (Kd.R_below (uR ((rf3 HO757 BK759 (by decide) (.int .i64 t751) (.slice Ao39 t752.length co39) (.slice Ao40 t755.length co40)))) hb); replace BK725 := zA (blk_below (g := gb725) (o := .cells #[.int .i64 a0_0, .slice A0_1 l0_1.length c0_1, .slice A0_2 l0_2.length c0_2] 44 (0, 0)) (by (repeat refine up1 ?_); refine blk_far ?_ NB725_759.out _; (repeat refine up1 ?_); refine blk_far ?_ NB725_759.out _; (repeat refine up1 ?_); refine blk_far ?_ NB725_759.out _; (repeat refine up1 ?_); exact BK725.out) hb); replace BK742 := zA (blk_below (g := gb742) (o := .cells #[.int .i64 t734, .slice Ao23 t735.length co23, .slice Ao24 t738.length co24] 46 (0, 0)) (by (repeat refine up1 ?_); refine blk_far ?_ NB742_759.out _; (repeat refine up1 ?_); refine blk_far ?_ NB742_759.out _; (repeat refine up1 ?_); refine blk_far ?_ NB742_759.out _; (repeat refine up1 ?_); exact BK742.out) hb); replace BK750 := zA (blk_below (g := gb750) (o := .cells #[.int .i64 t743, .slice Ao31 t744.length co31, .slice Ao32 t747.length co32] 46 (0, 0)) (by (repeat refine up1 ?_); refine blk_far ?_ NB750_759.out _; (repeat refine up1 ?_); refine blk_far ?_ NB750_759.out _; (repeat refine up1 ?_); refine blk_far ?_ NB750_759.out _; (repeat refine up1 ?_); exact BK750.out) hb); replace BK759 := zA (blk_below (g := gb759) (o := .cells #[.int .i64 t751, .slice Ao39 t752.length co39, .slice Ao40 t755.length co40] 46 (0, 0)) (by (repeat refine up1 ?_); refine blk_put (cs := #[.int .i64 t751, .slice Ao39 t752.length co39, .slice none 0 0]) ?_ 2 _ rfl; (repeat refine up1 ?_); refine blk_put (cs := #[.int .i64 t751, .slice none 0 0, .slice none 0 0]) ?_ 1 _ rfl; (repeat refine up1 ?_); refine blk_put (cs := #[.int .i64 0, .slice none 0 0, .slice none 0 0]) ?_ 0 _ rfl; (repeat refine up1 ?_); exact BK759.out) hb); replace HB := xH HB hb; (try clear hb); (try clear hb2); (try clear hk); (try clear hi)))
    go_meet
    case rel => exact ⟨_, ((t758 != t741)), (by first | rfl | (simp; done) | (simp [*]; done)), H', ⟨by first | omega | exact Nat.le_refl _⟩, ⟨uR (Kd.R_mono HO737.out (fun _ hk => ⟨hk.1.1.1.1.1.1, ⟨hk.1.1.1.2, ⟨hk.1.1.2, ⟨hk.1.2, hk.2⟩⟩⟩⟩))⟩, ⟨uR (Kd.R_mono HO740.out (fun _ hk => ⟨hk.1.1.1.1.1.1, ⟨hk.1.1.1.2, ⟨hk.1.1.2, ⟨hk.1.2, hk.2⟩⟩⟩⟩))⟩, ⟨uR (Kd.R_mono HO746.out (fun _ hk => ⟨hk.1.1.1.2, ⟨hk.1.1.2, ⟨hk.1.1.1.1.1.1, ⟨hk.1.2, hk.2⟩⟩⟩⟩))⟩, ⟨uR (Kd.R_mono HO749.out (fun _ hk => ⟨hk.1.1.1.2, ⟨hk.1.1.2, ⟨hk.1.1.1.1.1.1, ⟨hk.1.2, hk.2⟩⟩⟩⟩))⟩, ⟨uR (Kd.R_mono HO754.out (fun _ hk => ⟨hk.1.1.1.2, ⟨hk.1.1.2, ⟨hk.1.2, ⟨hk.2, hk.1.1.1.1.1.1⟩⟩⟩⟩))⟩, ⟨uR (Kd.R_mono HO757.out (fun _ hk => ⟨hk.1.1.1.2, ⟨hk.1.1.2, ⟨hk.1.2, ⟨hk.2, hk.1.1.1.1.1.1⟩⟩⟩⟩))⟩, ⟨uB BK725.out⟩, ⟨uB BK742.out⟩, ⟨uB BK750.out⟩, ⟨uB BK759.out⟩, ⟨uH HB.out⟩⟩
   ·replace c42 := Bool.eq_false_iff.mpr c42
    subst c42
    have H1 : (laws_FnExactWithoutRests.j0 k t741 t758 true a0_0 l0_1 l0_2 t734 t735 t738 t743 t744 t747 t751 t752 t755) = some r := by rw [if_neg (show ¬ (false = true) by decide)] at H; exact H
    clear H
    have H := H1
    clear H1
    have H' := zA H
    clear H
    have hnb51 := NB759_725.out; have hnc51 := NB725_759.out; have hnb52 := NB759_742.out; have hnc52 := NB742_759.out; have hnb53 := NB759_750.out; have hnc53 := NB750_759.out
    have hcz54_0 := bc BK759 0
    have hcz54_1 := bc BK759 1
    have hcz54_2 := bc BK759 2
    have hfz54_0 := bf BK759 0
    have hfz54_1 := bf BK759 1
    have hfz54_2 := bf BK759 2
    have hnb55 := NB742_725.out; have hnc55 := NB725_742.out; have hnb56 := NB742_750.out; have hnc56 := NB750_742.out
    have hcz57_0 := bc BK742 0
    have hcz57_1 := bc BK742 1
    have hcz57_2 := bc BK742 2
    have hfz57_0 := bf BK742 0
    have hfz57_1 := bf BK742 1
    have hfz57_2 := bf BK742 2
    go_wp2_with (first | ((with_reducible refine gate_callee (f := 33) rfl ?_); refine gL (some 34) Try.func33 #[.agg #[.int .i64 t751, .slice Ao39 t752.length co39, .slice Ao40 t755.length co40], .agg #[.int .i64 t734, .slice Ao23 t735.length co23, .slice Ao24 t738.length co24]] ?_; (with_reducible refine (laws_eqRule.calls k t751 _ _ t752 _ _ t755 t734 _ _ t735 _ _ t738 false _ ?side1 ?side2 ?side3 ?side4 ?side5 ?side6 ?side7 ?side8 A41.out).mono ?_); (case side1 => refine (Kd.R_reads' (e := 2) (base := w.heap.size) (ok := fun k_ => ((((((ax k_ (.slice Ao40 t755.length co40) ∧ ax k_ (.slice Ao17 t728.length co17)) ∧ ax k_ (.slice Ao18 t731.length co18)) ∧ ax k_ (.slice Ao23 t735.length co23)) ∧ ax k_ (.slice Ao24 t738.length co24)) ∧ ax k_ (.slice Ao31 t744.length co31)) ∧ ax k_ (.slice Ao32 t747.length co32))) (n := t752.length) (c := co39) ?_).2.2; exact (uR ((rf3 HO754 BK759 (by decide) (.int .i64 t751) (.slice Ao39 t752.length co39) (.slice Ao40 t755.length co40))))); (case side2 => exact (Kd.R_reads' HO754.out).2.1); (case side3 => refine (Kd.R_reads' (e := 2) (base := w.heap.size) (ok := fun k_ => ((((((ax k_ (.slice Ao39 t752.length co39) ∧ ax k_ (.slice Ao17 t728.length co17)) ∧ ax k_ (.slice Ao18 t731.length co18)) ∧ ax k_ (.slice Ao23 t735.length co23)) ∧ ax k_ (.slice Ao24 t738.length co24)) ∧ ax k_ (.slice Ao31 t744.length co31)) ∧ ax k_ (.slice Ao32 t747.length co32))) (n := t755.length) (c := co40) ?_).2.2; exact (uR ((rf3 HO757 BK759 (by decide) (.int .i64 t751) (.slice Ao39 t752.length co39) (.slice Ao40 t755.length co40))))); (case side4 => exact (Kd.R_reads' HO757.out).2.1); (case side5 => refine (Kd.R_reads' (e := 2) (base := w.heap.size) (ok := fun k_ => ((((((ax k_ (.slice Ao24 t738.length co24) ∧ ax k_ (.slice Ao17 t728.length co17)) ∧ ax k_ (.slice Ao18 t731.length co18)) ∧ ax k_ (.slice Ao31 t744.length co31)) ∧ ax k_ (.slice Ao32 t747.length co32)) ∧ ax k_ (.slice Ao39 t752.length co39)) ∧ ax k_ (.slice Ao40 t755.length co40))) (n := t735.length) (c := co23) ?_).2.2; exact (uR ((rf3 HO737 BK759 (by decide) (.int .i64 t751) (.slice Ao39 t752.length co39) (.slice Ao40 t755.length co40))))); (case side6 => exact (Kd.R_reads' HO737.out).2.1); (case side7 => refine (Kd.R_reads' (e := 2) (base := w.heap.size) (ok := fun k_ => ((((((ax k_ (.slice Ao23 t735.length co23) ∧ ax k_ (.slice Ao17 t728.length co17)) ∧ ax k_ (.slice Ao18 t731.length co18)) ∧ ax k_ (.slice Ao31 t744.length co31)) ∧ ax k_ (.slice Ao32 t747.length co32)) ∧ ax k_ (.slice Ao39 t752.length co39)) ∧ ax k_ (.slice Ao40 t755.length co40))) (n := t738.length) (c := co24) ?_).2.2; exact (uR ((rf3 HO740 BK759 (by decide) (.int .i64 t751) (.slice Ao39 t752.length co39) (.slice Ao40 t755.length co40))))); (case side8 => exact (Kd.R_reads' HO740.out).2.1); rintro e w58 ⟨rfl, hb⟩; refine ⟨_, rfl, ?_⟩; replace HO730 := zA (Kd.R_below (uR ((rf3 HO730 BK759 (by decide) (.int .i64 t751) (.slice Ao39 t752.length co39) (.slice Ao40 t755.length co40)))) hb); replace HO733 := zA (Kd.R_below (uR ((rf3 HO733 BK759 (by decide) (.int .i64 t751) (.slice Ao39 t752.length co39) (.slice Ao40 t755.length co40)))) hb); replace HO737 := zA (Kd.R_below (uR ((rf3 HO737 BK759 (by decide) (.int .i64 t751) (.slice Ao39 t752.length co39) (.slice Ao40 t755.length co40)))) hb); replace HO740 := zA (Kd.R_below (uR ((rf3 HO740 BK759 (by decide) (.int .i64 t751) (.slice Ao39 t752.length co39) (.slice Ao40 t755.length co40)))) hb); replace HO746 := zA (Kd.R_below (uR ((rf3 HO746 BK759 (by decide) (.int .i64 t751) (.slice Ao39 t752.length co39) (.slice Ao40 t755.length co40)))) hb); replace HO749 := zA (Kd.R_below (uR ((rf3 HO749 BK759 (by decide) (.int .i64 t751) (.slice Ao39 t752.length co39) (.slice Ao40 t755.length co40)))) hb); replace HO754 := zA (Kd.R_below (uR ((rf3 HO754 BK759 (by decide) (.int .i64 t751) (.slice Ao39 t752.length co39) (.slice Ao40 t755.length co40)))) hb); replace HO757 := zA (Kd.R_below (uR ((rf3 HO757 BK759 (by decide) (.int .i64 t751) (.slice Ao39 t752.length co39) (.slice Ao40 t755.length co40)))) hb); replace BK725 := zA (blk_below (g := gb725) (o := .cells #[.int .i64 a0_0, .slice A0_1 l0_1.length c0_1, .slice A0_2 l0_2.length c0_2] 44 (0, 0)) (by (repeat refine up1 ?_); refine blk_far ?_ NB725_759.out _; (repeat refine up1 ?_); refine blk_far ?_ NB725_759.out _; (repeat refine up1 ?_); refine blk_far ?_ NB725_759.out _; (repeat refine up1 ?_); exact BK725.out) hb); replace BK742 := zA (blk_below (g := gb742) (o := .cells #[.int .i64 t734, .slice Ao23 t735.length co23, .slice Ao24 t738.length co24] 46 (0, 0)) (by (repeat refine up1 ?_); refine blk_far ?_ NB742_759.out _; (repeat refine up1 ?_); refine blk_far ?_ NB742_759.out _; (repeat refine up1 ?_); refine blk_far ?_ NB742_759.out _; (repeat refine up1 ?_); exact BK742.out) hb); replace BK750 := zA (blk_below (g := gb750) (o := .cells #[.int .i64 t743, .slice Ao31 t744.length co31, .slice Ao32 t747.length co32] 46 (0, 0)) (by (repeat refine up1 ?_); refine blk_far ?_ NB750_759.out _; (repeat refine up1 ?_); refine blk_far ?_ NB750_759.out _; (repeat refine up1 ?_); refine blk_far ?_ NB750_759.out _; (repeat refine up1 ?_); exact BK750.out) hb); replace BK759 := zA (blk_below (g := gb759) (o := .cells #[.int .i64 t751, .slice Ao39 t752.length co39, .slice Ao40 t755.length co40] 46 (0, 0)) (by (repeat refine up1 ?_); refine blk_put (cs := #[.int .i64 t751, .slice Ao39 t752.length co39, .slice none 0 0]) ?_ 2 _ rfl; (repeat refine up1 ?_); refine blk_put (cs := #[.int .i64 t751, .slice none 0 0, .slice none 0 0]) ?_ 1 _ rfl; (repeat refine up1 ?_); refine blk_put (cs := #[.int .i64 0, .slice none 0 0, .slice none 0 0]) ?_ 0 _ rfl; (repeat refine up1 ?_); exact BK759.out) hb); replace HB := xH HB hb; (try clear hb); (try clear hb2); (try clear hk); (try clear hi)))
    go_meet
    case rel => exact ⟨_, (true), (by first | rfl | (simp; done) | (simp [*]; done)), H', ⟨by first | omega | exact Nat.le_refl _⟩, ⟨uR (Kd.R_mono HO737.out (fun _ hk => ⟨hk.1.1.1.1.1.1, ⟨hk.1.1.1.2, ⟨hk.1.1.2, ⟨hk.1.2, hk.2⟩⟩⟩⟩))⟩, ⟨uR (Kd.R_mono HO740.out (fun _ hk => ⟨hk.1.1.1.1.1.1, ⟨hk.1.1.1.2, ⟨hk.1.1.2, ⟨hk.1.2, hk.2⟩⟩⟩⟩))⟩, ⟨uR (Kd.R_mono HO746.out (fun _ hk => ⟨hk.1.1.1.2, ⟨hk.1.1.2, ⟨hk.1.1.1.1.1.1, ⟨hk.1.2, hk.2⟩⟩⟩⟩))⟩, ⟨uR (Kd.R_mono HO749.out (fun _ hk => ⟨hk.1.1.1.2, ⟨hk.1.1.2, ⟨hk.1.1.1.1.1.1, ⟨hk.1.2, hk.2⟩⟩⟩⟩))⟩, ⟨uR (Kd.R_mono HO754.out (fun _ hk => ⟨hk.1.1.1.2, ⟨hk.1.1.2, ⟨hk.1.2, ⟨hk.2, hk.1.1.1.1.1.1⟩⟩⟩⟩))⟩, ⟨uR (Kd.R_mono HO757.out (fun _ hk => ⟨hk.1.1.1.2, ⟨hk.1.1.2, ⟨hk.1.2, ⟨hk.2, hk.1.1.1.1.1.1⟩⟩⟩⟩))⟩, ⟨uB BK725.out⟩, ⟨uB BK742.out⟩, ⟨uB BK750.out⟩, ⟨uB BK759.out⟩, ⟨uH HB.out⟩⟩
  case rest =>
   clear HC11
   (try clear c2);(try clear p2);(try clear c3);(try clear c3b0);(try clear c4);(try clear c5);(try clear c7);(try clear c21);(try clear c28);(try clear c29);(try clear c30);(try clear c31);(try clear c32);(try clear c33);(try clear c35);(try clear c36);(try clear c37);(try clear c42);(try clear c43);(try clear c44);(try clear c45);(try clear c47);(try clear c48);(try clear c51);(try clear c52);(try clear c53)
   (try clear c55);(try clear c56);(try clear hcz13_0);(try clear hcz13_1);(try clear hcz13_2);(try clear hcz15_0);(try clear hcz15_1);(try clear hcz15_2);(try clear hcz22_0);(try clear hcz22_1);(try clear hcz22_2);(try clear hcz25_0);(try clear hcz25_1);(try clear hcz25_2);(try clear hcz30_0);(try clear hcz30_1);(try clear hcz30_2);(try clear hcz38_0);(try clear hcz38_1);(try clear hcz38_2);(try clear hcz46_0)
   (try clear hcz46_1);(try clear hcz46_2);(try clear hcz49_0);(try clear hcz49_1);(try clear hcz49_2);(try clear hcz54_0);(try clear hcz54_1);(try clear hcz54_2);(try clear hcz57_0);(try clear hcz57_1);(try clear hcz57_2);(try clear hcz5_0);(try clear hcz5_1);(try clear hcz5_2);(try clear hfz13_0);(try clear hfz13_1);(try clear hfz13_2);(try clear hfz15_0);(try clear hfz15_1);(try clear hfz15_2);(try clear hfz22_0)
   (try clear hfz22_1);(try clear hfz22_2);(try clear hfz25_0);(try clear hfz25_1);(try clear hfz25_2);(try clear hfz30_0);(try clear hfz30_1);(try clear hfz30_2);(try clear hfz38_0);(try clear hfz38_1);(try clear hfz38_2);(try clear hfz46_0);(try clear hfz46_1);(try clear hfz46_2);(try clear hfz49_0);(try clear hfz49_1);(try clear hfz49_2);(try clear hfz54_0);(try clear hfz54_1);(try clear hfz54_2)
   (try clear hfz57_0);(try clear hfz57_1);(try clear hfz57_2);(try clear hfz5_0);(try clear hfz5_1);(try clear hfz5_2)
   obtain ⟨kq, x40_10, rfl, HA, HJ10, HO_743001, HO_743002, HO_751001, HO_751002, HO_760001, HO_760002, BK725, BK742, BK750, BK759, HB⟩ := hcut
   cases kq with
   | zero => exact absurd HA.out (by simp [laws_FnExactWithoutRests.j0])
   | succ kj10 =>
    have H := HA.out
    clear HA
    simp only [laws_FnExactWithoutRests.j0] at H
    by_cases c59 : x40_10 = true
    ·subst c59
     have H1 : (some false) = some r := by rw [if_pos rfl] at H; exact H
     clear H
     have H := H1
     clear H1
     rw [HRT.out] at H
     exact absurd H (by simp)
    ·replace c59 := Bool.eq_false_iff.mpr c59
     subst c59
     have H1 : ((laws_toRule.f kj10 a0_0 l0_1 l0_2).bind fun bt761 => ((laws_eqRule.f kj10 t743 t744 t747 bt761.1 bt761.2.1 bt761.2.2).bind fun t768 => (if t768 = true then ((laws_markRule.f kj10 t743 t744 t747 1).bind fun bt769 => (if bt769.1 < 0 then (laws_FnExactWithoutRests.j1 kj10 t741 true a0_0 l0_1 l0_2 t734 t735 t738 t751 t752 t755) else ((laws_eqRule.f kj10 t751 t752 t755 t734 t735 t738).bind fun t772 => (if t772 = true then (laws_FnExactWithoutRests.j1 kj10 t741 (t758 != t741) a0_0 l0_1 l0_2 t734 t735 t738 t751 t752 t755) else (laws_FnExactWithoutRests.j1 kj10 t741 true a0_0 l0_1 l0_2 t734 t735 t738 t751 t752 t755))))) else (some false)))) = some r := by rw [if_neg (show ¬ (false = true) by decide)] at H; exact H
     clear H
     have H := H1
     clear H1
     replace H := Option.bind_eq_some_iff.mp H
     obtain ⟨⟨t761, t762, t765⟩, A600, H⟩ := H
     replace H : ((laws_eqRule.f kj10 t743 t744 t747 t761 t762 t765).bind fun t768 => (if t768 = true then ((laws_markRule.f kj10 t743 t744 t747 1).bind fun bt769 => (if bt769.1 < 0 then (laws_FnExactWithoutRests.j1 kj10 t741 true a0_0 l0_1 l0_2 t734 t735 t738 t751 t752 t755) else ((laws_eqRule.f kj10 t751 t752 t755 t734 t735 t738).bind fun t772 => (if t772 = true then (laws_FnExactWithoutRests.j1 kj10 t741 (t758 != t741) a0_0 l0_1 l0_2 t734 t735 t738 t751 t752 t755) else (laws_FnExactWithoutRests.j1 kj10 t741 true a0_0 l0_1 l0_2 t734 t735 t738 t751 t752 t755))))) else (some false))) = some r := H
     have A60 := zA A600
     clear A600
     replace H := Option.bind_eq_some_iff.mp H
     obtain ⟨t768, A610, H⟩ := H
     replace H : (if t768 = true then ((laws_markRule.f kj10 t743 t744 t747 1).bind fun bt769 => (if bt769.1 < 0 then (laws_FnExactWithoutRests.j1 kj10 t741 true a0_0 l0_1 l0_2 t734 t735 t738 t751 t752 t755) else ((laws_eqRule.f kj10 t751 t752 t755 t734 t735 t738).bind fun t772 => (if t772 = true then (laws_FnExactWithoutRests.j1 kj10 t741 (t758 != t741) a0_0 l0_1 l0_2 t734 t735 t738 t751 t752 t755) else (laws_FnExactWithoutRests.j1 kj10 t741 true a0_0 l0_1 l0_2 t734 t735 t738 t751 t752 t755))))) else (some false)) = some r := H
     have A61 := zA A610
     clear A610
     by_cases c62 : t768 = true
     ·subst c62
      have H1 : ((laws_markRule.f kj10 t743 t744 t747 1).bind fun bt769 => (if bt769.1 < 0 then (laws_FnExactWithoutRests.j1 kj10 t741 true a0_0 l0_1 l0_2 t734 t735 t738 t751 t752 t755) else ((laws_eqRule.f kj10 t751 t752 t755 t734 t735 t738).bind fun t772 => (if t772 = true then (laws_FnExactWithoutRests.j1 kj10 t741 (t758 != t741) a0_0 l0_1 l0_2 t734 t735 t738 t751 t752 t755) else (laws_FnExactWithoutRests.j1 kj10 t741 true a0_0 l0_1 l0_2 t734 t735 t738 t751 t752 t755))))) = some r := by rw [if_pos rfl] at H; exact H
      clear H
      have H := H1
      clear H1
      replace H := Option.bind_eq_some_iff.mp H
      obtain ⟨⟨t769, t770, t771⟩, A630, H⟩ := H
      replace H : (if t769 < 0 then (laws_FnExactWithoutRests.j1 kj10 t741 true a0_0 l0_1 l0_2 t734 t735 t738 t751 t752 t755) else ((laws_eqRule.f kj10 t751 t752 t755 t734 t735 t738).bind fun t772 => (if t772 = true then (laws_FnExactWithoutRests.j1 kj10 t741 (t758 != t741) a0_0 l0_1 l0_2 t734 t735 t738 t751 t752 t755) else (laws_FnExactWithoutRests.j1 kj10 t741 true a0_0 l0_1 l0_2 t734 t735 t738 t751 t752 t755)))) = some r := H
      have A63 := zA A630
      clear A630
      have HC64 := zA H
      clear H
      try go_wp2
      replace HO_743001 := zA (Kd.R_drew HO_743001.out)
      replace HO_743002 := zA (Kd.R_drew HO_743002.out)
      replace HO_751001 := zA (Kd.R_drew HO_751001.out)
      replace HO_751002 := zA (Kd.R_drew HO_751002.out)
      replace HO_760001 := zA (Kd.R_drew HO_760001.out)
      replace HO_760002 := zA (Kd.R_drew HO_760002.out)
      replace BK725 := zA (blk_drew BK725.out)
      replace BK742 := zA (blk_drew BK742.out)
      replace BK750 := zA (blk_drew BK750.out)
      replace BK759 := zA (blk_drew BK759.out)
      replace HB := zA (below_drew1 HB.out)
      refine start_ (n := 5) (S := fun w' => w'.cell? ⟨gb750, 0, none⟩ = some (.int .i64 t743) ∧ w'.cell? ⟨gb750, 1, none⟩ = some (.slice Ao31 t744.length co31) ∧ w'.cell? ⟨gb750, 2, none⟩ = some (.slice Ao32 t747.length co32) ∧ w'.cell? ⟨gb725, 0, none⟩ = some (.int .i64 a0_0) ∧ w'.cell? ⟨gb725, 1, none⟩ = some (.slice A0_1 l0_1.length c0_1) ∧ w'.cell? ⟨gb725, 2, none⟩ = some (.slice A0_2 l0_2.length c0_2)) (ds := []) #[false, false, false, false, false] (by kernel_rfl) rfl rfl ⟨bcu BK750 0, bcu BK750 1, bcu BK750 2, bcu BK725 0, bcu BK725 1, bcu BK725 2⟩ (fun hHeld => ?_)
      generalize wc.drew = w65 at HO_743001 HO_743002 HO_751001 HO_751002 HO_760001 HO_760002 BK725 BK742 BK750 BK759 HB hHeld ⊢
      refine take_ (i := 0) (N := some 41) (v := ?_) (a' := ?_) (bl 5 1) rfl rfl (by kernel_rfl) (fun _ _ _ h => h) (Or.inl ⟨by rfl, ?_⟩) hHeld ?_ ?_
      rotate_left
      ·rintro w' ⟨s0, s1, s2, s3, s4, s5⟩
       go_simp
       with_reducible rfl
      rotate_left
      ·simp only [Act.put, ls, lz, ln, i64_w, i32_w]
       rfl
      refine take_ (i := 1) (N := some 42) (v := ?_) (a' := ?_) (bl 5 3) rfl rfl (by kernel_rfl) (fun _ _ _ h => h) (Or.inl ⟨by rfl, ?_⟩) hHeld ?_ ?_
      rotate_left
      ·rintro w' ⟨s0, s1, s2, s3, s4, s5⟩
       go_simp
       with_reducible rfl
      rotate_left
      ·simp only [Act.put, ls, lz, ln, i64_w, i32_w]
       rfl
      refine one_ (i := 2) (N := some 43) (bl 5 7) rfl rfl (by kernel_rfl) (by decide) (fun K hK => ?_)
      refine gS Try.func31 #[.agg #[.int .i64 a0_0, .slice A0_1 l0_1.length c0_1, .slice A0_2 l0_2.length c0_2]] ?_
      with_reducible refine (laws_toRule.calls kj10 a0_0 _ _ l0_1 _ _ l0_2 t761 t762 t765 _ ?side1 ?side2 ?side3 ?side4 A60.out).mono ?_
      (case side1 => exact uC ((Kd.C_below HR0_1.out HB.out)))
      (case side2 => exact HC0_1.out)
      (case side3 => exact uC ((Kd.C_below HR0_2.out HB.out)))
      (case side4 => exact HC0_2.out)
      rintro e w66 ⟨v763, v766, rfl, ho0, ho1, hb⟩
      refine ⟨_, rfl, ?_⟩
      have HO764 := zA (Kd.R_lower (Kd.R_new' (Kd.R_new' (Kd.R_new' (Kd.R_new' (Kd.R_new' (Kd.R_new' ho0 (Kd.R_lt (uR HO_743001.out))) (Kd.R_lt (uR HO_743002.out))) (Kd.R_lt (uR HO_751001.out))) (Kd.R_lt (uR HO_751002.out))) (Kd.R_lt (uR HO_760001.out))) (Kd.R_lt (uR HO_760002.out))) (below_size (uH HB.out)))
      have HO767 := zA (Kd.R_lower (Kd.R_new' (Kd.R_new' (Kd.R_new' (Kd.R_new' (Kd.R_new' (Kd.R_new' ho1 (Kd.R_lt (uR HO_743001.out))) (Kd.R_lt (uR HO_743002.out))) (Kd.R_lt (uR HO_751001.out))) (Kd.R_lt (uR HO_751002.out))) (Kd.R_lt (uR HO_760001.out))) (Kd.R_lt (uR HO_760002.out))) (below_size (uH HB.out)))
      replace HO_743001 := zA (Kd.R_mono (Kd.R_told (Kd.R_told (Kd.R_old (uR HO_743001.out) hb) (Kd.R_base ho0)) (Kd.R_base ho1)) (fun _ h_ => h_.1))
      replace HO_743002 := zA (Kd.R_mono (Kd.R_told (Kd.R_told (Kd.R_old (uR HO_743002.out) hb) (Kd.R_base ho0)) (Kd.R_base ho1)) (fun _ h_ => h_.1))
      replace HO_751001 := zA (Kd.R_mono (Kd.R_told (Kd.R_told (Kd.R_old (uR HO_751001.out) hb) (Kd.R_base ho0)) (Kd.R_base ho1)) (fun _ h_ => h_.1))
      replace HO_751002 := zA (Kd.R_mono (Kd.R_told (Kd.R_told (Kd.R_old (uR HO_751002.out) hb) (Kd.R_base ho0)) (Kd.R_base ho1)) (fun _ h_ => h_.1))
      replace HO_760001 := zA (Kd.R_mono (Kd.R_told (Kd.R_told (Kd.R_old (uR HO_760001.out) hb) (Kd.R_base ho0)) (Kd.R_base ho1)) (fun _ h_ => h_.1))
      replace HO_760002 := zA (Kd.R_mono (Kd.R_told (Kd.R_told (Kd.R_old (uR HO_760002.out) hb) (Kd.R_base ho0)) (Kd.R_base ho1)) (fun _ h_ => h_.1))
      replace BK725 := xB BK725 hb
      replace BK742 := xB BK742 hb
      replace BK750 := xB BK750 hb
      replace BK759 := xB BK759 hb
      replace HB := xH HB hb
      (try clear hb); (try clear hb2); (try clear hk); (try clear hi); (try clear ho0); (try clear ho1)
      obtain ⟨Ao67, co67, eo67⟩ := Kd.R_slice HO764.out
      (first | subst eo67 | (injection eo67 with f1_ f2_ f3_; have f4_ := f1_.symm; have f5_ := f3_.symm; clear f1_ f2_ f3_; subst f4_; subst f5_))
      obtain ⟨Ao68, co68, eo68⟩ := Kd.R_slice HO767.out
      (first | subst eo68 | (injection eo68 with f1_ f2_ f3_; have f4_ := f1_.symm; have f5_ := f3_.symm; clear f1_ f2_ f3_; subst f4_; subst f5_))
      refine hK.out _ _ ⟨bcu BK750 0, bcu BK750 1, bcu BK750 2, bcu BK725 0, bcu BK725 1, bcu BK725 2⟩ (fun hHeld => ?_)
      clear hK K
      refine no_ 43 ?_
      refine one_ (i := 3) (N := some 44) (bl 5 15) rfl rfl (by kernel_rfl) (by decide) (fun K hK => ?_)
      refine gS Try.func33 #[.agg #[.int .i64 t743, .slice Ao31 t744.length co31, .slice Ao32 t747.length co32], .agg #[.int .i64 t761, .slice Ao67 t762.length co67, .slice Ao68 t765.length co68]] ?_
      with_reducible refine (laws_eqRule.calls kj10 t743 _ _ t744 _ _ t747 t761 _ _ t762 _ _ t765 true _ ?side1 ?side2 ?side3 ?side4 ?side5 ?side6 ?side7 ?side8 A61.out).mono ?_
      (case side1 => exact uC ((Kd.R_reads' HO_751001.out).2.2))
      (case side2 => exact (Kd.R_reads' HO_751001.out).2.1)
      (case side3 => exact uC ((Kd.R_reads' HO_751002.out).2.2))
      (case side4 => exact (Kd.R_reads' HO_751002.out).2.1)
      (case side5 => exact uC ((Kd.R_reads' HO764.out).2.2))
      (case side6 => exact (Kd.R_reads' HO764.out).2.1)
      (case side7 => exact uC ((Kd.R_reads' HO767.out).2.2))
      (case side8 => exact (Kd.R_reads' HO767.out).2.1)
      rintro e w69 ⟨rfl, hb⟩
      refine ⟨_, rfl, ?_⟩
      replace HO_743001 := xR HO_743001 hb
      replace HO_743002 := xR HO_743002 hb
      replace HO_751001 := xR HO_751001 hb
      replace HO_751002 := xR HO_751002 hb
      replace HO_760001 := xR HO_760001 hb
      replace HO_760002 := xR HO_760002 hb
      replace HO764 := xR HO764 hb
      replace HO767 := xR HO767 hb
      replace BK725 := xB BK725 hb
      replace BK742 := xB BK742 hb
      replace BK750 := xB BK750 hb
      replace BK759 := xB BK759 hb
      replace HB := xH HB hb
      (try clear hb); (try clear hb2); (try clear hk); (try clear hi)
      refine hK.out _ _ ⟨bcu BK750 0, bcu BK750 1, bcu BK750 2, bcu BK725 0, bcu BK725 1, bcu BK725 2⟩ (fun hHeld => ?_)
      clear hK K
      refine no_ 44 ?_
      refine pure_ (i := 4) (N := some 45) (v := ?_) (a' := ?_) (bl 5 31) rfl rfl (by kernel_rfl) (fun _ _ _ h => h) (Or.inl ⟨by rfl, ?_⟩) ?_ ?_
      rotate_left
      ·intro w'
       go_simp
       with_reducible rfl
      rotate_left
      ·simp only [Act.put, ls, lz, ln, i64_w, i32_w]
       rfl
      refine done_ (by kernel_rfl) ?_
      have hnb70 := NB750_725.out; have hnc70 := NB725_750.out; have hnb71 := NB750_742.out; have hnc71 := NB742_750.out; have hnb72 := NB750_759.out; have hnc72 := NB759_750.out
      have hcz73_0 := bc BK750 0
      have hcz73_1 := bc BK750 1
      have hcz73_2 := bc BK750 2
      have hfz73_0 := bf BK750 0
      have hfz73_1 := bf BK750 1
      have hfz73_2 := bf BK750 2
      go_upto_region 14 with (first | ((with_reducible refine gate_callee (f := 34) rfl ?_); refine gL (some 48) Try.func34 #[.agg #[.int .i64 t743, .slice Ao31 t744.length co31, .slice Ao32 t747.length co32], .int .i64 1] ?_; (with_reducible refine (laws_markRule.calls kj10 t743 (fun k_ => some k_ = (.slice Ao31 t744.length co31 : Value).ownBlock) (.slice Ao31 t744.length co31) t744 (fun k_ => some k_ = (.slice Ao32 t747.length co32 : Value).ownBlock) (.slice Ao32 t747.length co32) t747 1 t769 t770 t771 w _ ?side1 ?side2 ?side3 ?side4 ?side5 A63.out).mono ?_); (case side1 => repeat (first | (with_reducible first | exact HB.out | apply below_alloc | apply pw_below_drewN | apply below_drew1 | refine below_set ?_ GE725.out | refine below_set ?_ GE742.out | refine below_set ?_ GE750.out | refine below_set ?_ GE759.out) | exact HB.out)); (case side2 => exact Kd.R_tight rfl HO_751001.out); (case side3 => exact fun k_ e_ => (HO_751001.out.1 k_ e_.symm).1.1.2.2.1); (case side4 => exact Kd.R_tight rfl HO_751002.out); (case side5 => exact fun k_ e_ => (HO_751002.out.1 k_ e_.symm).1.1.2.2.1); rintro e w74 ⟨rfl, hy0, hy1, hb, hkp⟩; refine ⟨_, rfl, ?_⟩; replace HO_743001 := zA (Kd.R_mono (ok' := fun k_ => ax k_ (.slice Ao24 t738.length co24) ∧ ax k_ (.slice Ao31 t744.length co31) ∧ ax k_ (.slice Ao32 t747.length co32) ∧ ax k_ (.slice Ao39 t752.length co39) ∧ ax k_ (.slice Ao40 t755.length co40) ∧ ax k_ (.slice Ao67 t762.length co67) ∧ ax k_ (.slice Ao68 t765.length co68)) (Kd.R_keptB (HO_743001.out) hkp (fun k_ hk_ hs_ => Or.elim hs_ (fun e_ => (hk_.1.1.2.1) e_) (fun e_ => (hk_.1.1.2.2.1) e_))) (fun k_ hk_ => ⟨hk_.1.1.1.1, hk_.1.1.1.2.1, hk_.1.1.1.2.2.1, hk_.1.1.1.2.2.2.1, hk_.1.1.1.2.2.2.2, hk_.1.1.2, hk_.1.2⟩)); replace HO_743002 := zA (Kd.R_mono (ok' := fun k_ => ax k_ (.slice Ao23 t735.length co23) ∧ ax k_ (.slice Ao31 t744.length co31) ∧ ax k_ (.slice Ao32 t747.length co32) ∧ ax k_ (.slice Ao39 t752.length co39) ∧ ax k_ (.slice Ao40 t755.length co40) ∧ ax k_ (.slice Ao67 t762.length co67) ∧ ax k_ (.slice Ao68 t765.length co68)) (Kd.R_keptB (HO_743002.out) hkp (fun k_ hk_ hs_ => Or.elim hs_ (fun e_ => (hk_.1.1.2.1) e_) (fun e_ => (hk_.1.1.2.2.1) e_))) (fun k_ hk_ => ⟨hk_.1.1.1.1, hk_.1.1.1.2.1, hk_.1.1.1.2.2.1, hk_.1.1.1.2.2.2.1, hk_.1.1.1.2.2.2.2, hk_.1.1.2, hk_.1.2⟩)); replace HO_760001 := zA (Kd.R_mono (ok' := fun k_ => ax k_ (.slice Ao23 t735.length co23) ∧ ax k_ (.slice Ao24 t738.length co24) ∧ ax k_ (.slice Ao31 t744.length co31) ∧ ax k_ (.slice Ao32 t747.length co32) ∧ ax k_ (.slice Ao40 t755.length co40) ∧ ax k_ (.slice Ao67 t762.length co67) ∧ ax k_ (.slice Ao68 t765.length co68)) (Kd.R_keptB (HO_760001.out) hkp (fun k_ hk_ hs_ => Or.elim hs_ (fun e_ => (hk_.1.1.2.2.1) e_) (fun e_ => (hk_.1.1.2.2.2.1) e_))) (fun k_ hk_ => ⟨hk_.1.1.1.1, hk_.1.1.1.2.1, hk_.1.1.1.2.2.1, hk_.1.1.1.2.2.2.1, hk_.1.1.1.2.2.2.2, hk_.1.1.2, hk_.1.2⟩)); replace HO_760002 := zA (Kd.R_mono (ok' := fun k_ => ax k_ (.slice Ao23 t735.length co23) ∧ ax k_ (.slice Ao24 t738.length co24) ∧ ax k_ (.slice Ao31 t744.length co31) ∧ ax k_ (.slice Ao32 t747.length co32) ∧ ax k_ (.slice Ao39 t752.length co39) ∧ ax k_ (.slice Ao67 t762.length co67) ∧ ax k_ (.slice Ao68 t765.length co68)) (Kd.R_keptB (HO_760002.out) hkp (fun k_ hk_ hs_ => Or.elim hs_ (fun e_ => (hk_.1.1.2.2.1) e_) (fun e_ => (hk_.1.1.2.2.2.1) e_))) (fun k_ hk_ => ⟨hk_.1.1.1.1, hk_.1.1.1.2.1, hk_.1.1.1.2.2.1, hk_.1.1.1.2.2.2.1, hk_.1.1.1.2.2.2.2, hk_.1.1.2, hk_.1.2⟩)); replace BK725 := zA (blk_kept (uB BK725.out) hkp (fun hs_ => Or.elim hs_ (fun e_ => (fun e_ => (Kd.R_ne HO_751001.out BK725.out (by decide)) e_) e_) (fun e_ => (fun e_ => (Kd.R_ne HO_751002.out BK725.out (by decide)) e_) e_))); replace BK742 := zA (blk_kept (uB BK742.out) hkp (fun hs_ => Or.elim hs_ (fun e_ => (fun e_ => (Kd.R_ne HO_751001.out BK742.out (by decide)) e_) e_) (fun e_ => (fun e_ => (Kd.R_ne HO_751002.out BK742.out (by decide)) e_) e_))); replace BK750 := zA (blk_kept (uB BK750.out) hkp (fun hs_ => Or.elim hs_ (fun e_ => (fun e_ => (Kd.R_ne HO_751001.out BK750.out (by decide)) e_) e_) (fun e_ => (fun e_ => (Kd.R_ne HO_751002.out BK750.out (by decide)) e_) e_))); replace BK759 := zA (blk_kept (uB BK759.out) hkp (fun hs_ => Or.elim hs_ (fun e_ => (fun e_ => (Kd.R_ne HO_751001.out BK759.out (by decide)) e_) e_) (fun e_ => (fun e_ => (Kd.R_ne HO_751002.out BK759.out (by decide)) e_) e_))); replace HO_751001 := zA (Kd.R_reok rfl hy0 (fun k_ e_ => HO_751001.out.1 k_ e_)); replace HO_751002 := zA (Kd.R_reok rfl hy1 (fun k_ e_ => HO_751002.out.1 k_ e_)); replace HO764 := zA (Kd.R_mono (ok' := fun k_ => ax k_ (.slice Ao23 t735.length co23) ∧ ax k_ (.slice Ao24 t738.length co24) ∧ ax k_ (.slice Ao31 t744.length co31) ∧ ax k_ (.slice Ao32 t747.length co32) ∧ ax k_ (.slice Ao39 t752.length co39) ∧ ax k_ (.slice Ao40 t755.length co40) ∧ ax k_ (.slice Ao68 t765.length co68)) (Kd.R_keptB (HO764.out) hkp (fun k_ hk_ hs_ => Or.elim hs_ (fun e_ => (hk_.1.1.1.2) e_) (fun e_ => (hk_.1.1.2) e_))) (fun k_ hk_ => ⟨hk_.1.1.1.1.1.1.2, hk_.1.1.1.1.1.2, hk_.1.1.1.1.2, hk_.1.1.1.2, hk_.1.1.2, hk_.1.2, hk_.1.1.1.1.1.1.1⟩)); replace HO767 := zA (Kd.R_mono (ok' := fun k_ => ax k_ (.slice Ao23 t735.length co23) ∧ ax k_ (.slice Ao24 t738.length co24) ∧ ax k_ (.slice Ao31 t744.length co31) ∧ ax k_ (.slice Ao32 t747.length co32) ∧ ax k_ (.slice Ao39 t752.length co39) ∧ ax k_ (.slice Ao40 t755.length co40) ∧ ax k_ (.slice Ao67 t762.length co67)) (Kd.R_keptB (HO767.out) hkp (fun k_ hk_ hs_ => Or.elim hs_ (fun e_ => (hk_.1.1.1.2) e_) (fun e_ => (hk_.1.1.2) e_))) (fun k_ hk_ => ⟨hk_.1.1.1.1.1.1.2, hk_.1.1.1.1.1.2, hk_.1.1.1.1.2, hk_.1.1.1.2, hk_.1.1.2, hk_.1.2, hk_.1.1.1.1.1.1.1⟩)); replace HB := zA (hb); (try clear hb); (try clear hkp); (try clear hy0); (try clear hy1)))
      (try simp only [Act.put, ls, lz, ln])
      go_cut [61] (fun v61 wc => ∃ (kq : Nat) (x61_63 : Bool), v61 = .bool x61_63 ∧ Aside0 (laws_FnExactWithoutRests.j1 kq t741 x61_63 a0_0 l0_1 l0_2 t734 t735 t738 t751 t752 t755 = some r) ∧ Aside0 (kq ≤ kj10) ∧ Aside0 (Kd.R (Kd.int .i64) 2 wc w.heap.size (fun k_ => ax k_ (.slice Ao24 t738.length co24) ∧ ax k_ (.slice Ao31 t744.length co31) ∧ ax k_ (.slice Ao32 t747.length co32) ∧ ax k_ (.slice Ao39 t752.length co39) ∧ ax k_ (.slice Ao40 t755.length co40)) (.slice Ao23 t735.length co23) t735) ∧ Aside0 (Kd.R (Kd.int .i64) 2 wc w.heap.size (fun k_ => ax k_ (.slice Ao23 t735.length co23) ∧ ax k_ (.slice Ao31 t744.length co31) ∧ ax k_ (.slice Ao32 t747.length co32) ∧ ax k_ (.slice Ao39 t752.length co39) ∧ ax k_ (.slice Ao40 t755.length co40)) (.slice Ao24 t738.length co24) t738) ∧ Aside0 (Kd.R (Kd.int .i64) 2 wc w.heap.size (fun k_ => ax k_ (.slice Ao23 t735.length co23) ∧ ax k_ (.slice Ao24 t738.length co24) ∧ ax k_ (.slice Ao32 t747.length co32) ∧ ax k_ (.slice Ao39 t752.length co39) ∧ ax k_ (.slice Ao40 t755.length co40)) (.slice Ao31 t744.length co31) t770) ∧ Aside0 (Kd.R (Kd.int .i64) 2 wc w.heap.size (fun k_ => ax k_ (.slice Ao23 t735.length co23) ∧ ax k_ (.slice Ao24 t738.length co24) ∧ ax k_ (.slice Ao31 t744.length co31) ∧ ax k_ (.slice Ao39 t752.length co39) ∧ ax k_ (.slice Ao40 t755.length co40)) (.slice Ao32 t747.length co32) t771) ∧ Aside0 (Kd.R (Kd.int .i64) 2 wc w.heap.size (fun k_ => ax k_ (.slice Ao23 t735.length co23) ∧ ax k_ (.slice Ao24 t738.length co24) ∧ ax k_ (.slice Ao31 t744.length co31) ∧ ax k_ (.slice Ao32 t747.length co32) ∧ ax k_ (.slice Ao40 t755.length co40)) (.slice Ao39 t752.length co39) t752) ∧ Aside0 (Kd.R (Kd.int .i64) 2 wc w.heap.size (fun k_ => ax k_ (.slice Ao23 t735.length co23) ∧ ax k_ (.slice Ao24 t738.length co24) ∧ ax k_ (.slice Ao31 t744.length co31) ∧ ax k_ (.slice Ao32 t747.length co32) ∧ ax k_ (.slice Ao39 t752.length co39)) (.slice Ao40 t755.length co40) t755) ∧ Aside0 (wc.heap[gb725]? = some (.cells #[.int .i64 a0_0, (.slice A0_1 l0_1.length c0_1), (.slice A0_2 l0_2.length c0_2)] 44 (0, 0))) ∧ Aside0 (wc.heap[gb742]? = some (.cells #[.int .i64 t734, (.slice Ao23 t735.length co23), (.slice Ao24 t738.length co24)] 46 (0, 0))) ∧ Aside0 (wc.heap[gb750]? = some (.cells #[.int .i64 t743, (.slice Ao31 t744.length co31), (.slice Ao32 t747.length co32)] 46 (0, 0))) ∧ Aside0 (wc.heap[gb759]? = some (.cells #[.int .i64 t751, (.slice Ao39 t752.length co39), (.slice Ao40 t755.length co40)] 46 (0, 0))) ∧ Aside0 (Below w.heap.size w wc))
      case first =>
       have H := HC64.out
       clear HC64
       by_cases c75 : t769 < 0
       rotate_left
       ·rw [if_neg c75] at H
        have c75b0 : decide (t769 < 0) = false := decide_eq_false c75
        clear c75
        (first | rw [c75b0] | (simp only [i64_w, i32_w]; rw [c75b0]) | skip)
        replace H := Option.bind_eq_some_iff.mp H
        obtain ⟨t772, A760, H⟩ := H
        replace H : (if t772 = true then (laws_FnExactWithoutRests.j1 kj10 t741 (t758 != t741) a0_0 l0_1 l0_2 t734 t735 t738 t751 t752 t755) else (laws_FnExactWithoutRests.j1 kj10 t741 true a0_0 l0_1 l0_2 t734 t735 t738 t751 t752 t755)) = some r := H
        have A76 := zA A760
        clear A760
        by_cases c77 : t772 = true
        ·subst c77
         have H1 : (laws_FnExactWithoutRests.j1 kj10 t741 (t758 != t741) a0_0 l0_1 l0_2 t734 t735 t738 t751 t752 t755) = some r := by rw [if_pos rfl] at H; exact H
         clear H
         have H := H1
         clear H1
         have H' := zA H
         clear H
         have hnb78 := NB759_725.out; have hnc78 := NB725_759.out; have hnb79 := NB759_742.out; have hnc79 := NB742_759.out; have hnb80 := NB759_750.out; have hnc80 := NB750_759.out
         have hcz81_0 := bc BK759 0
         have hcz81_1 := bc BK759 1
         have hcz81_2 := bc BK759 2
         have hfz81_0 := bf BK759 0
         have hfz81_1 := bf BK759 1
         have hfz81_2 := bf BK759 2
         have hnb82 := NB742_725.out; have hnc82 := NB725_742.out; have hnb83 := NB742_750.out; have hnc83 := NB750_742.out
         have hcz84_0 := bc BK742 0
         have hcz84_1 := bc BK742 1
         have hcz84_2 := bc BK742 2
         have hfz84_0 := bf BK742 0
         have hfz84_1 := bf BK742 1
         have hfz84_2 := bf BK742 2
         go_wp2_with (first | (go_at_call 33; (with_reducible refine (laws_eqRule.calls kj10 t751 _ _ t752 _ _ t755 t734 _ _ t735 _ _ t738 true _ ?side1 ?side2 ?side3 ?side4 ?side5 ?side6 ?side7 ?side8 A76.out).mono ?_); (case side1 => exact uC ((Kd.R_reads' HO_760001.out).2.2)); (case side2 => exact (Kd.R_reads' HO_760001.out).2.1); (case side3 => exact uC ((Kd.R_reads' HO_760002.out).2.2)); (case side4 => exact (Kd.R_reads' HO_760002.out).2.1); (case side5 => exact uC ((Kd.R_reads' HO_743001.out).2.2)); (case side6 => exact (Kd.R_reads' HO_743001.out).2.1); (case side7 => exact uC ((Kd.R_reads' HO_743002.out).2.2)); (case side8 => exact (Kd.R_reads' HO_743002.out).2.1); rintro e w85 ⟨rfl, hb⟩; replace HO_743001 := xR HO_743001 hb; replace HO_743002 := xR HO_743002 hb; replace HO_751001 := xR HO_751001 hb; replace HO_751002 := xR HO_751002 hb; replace HO_760001 := xR HO_760001 hb; replace HO_760002 := xR HO_760002 hb; replace HO764 := xR HO764 hb; replace HO767 := xR HO767 hb; replace BK725 := xB BK725 hb; replace BK742 := xB BK742 hb; replace BK750 := xB BK750 hb; replace BK759 := xB BK759 hb; replace HB := xH HB hb; (try clear hb); (try clear hb2); (try clear hk); (try clear hi)))
         go_meet
         case rel => exact ⟨_, ((t758 != t741)), (by first | rfl | (simp; done) | (simp [*]; done)), H', ⟨by have := HJ10.out; first | omega | exact Nat.le_refl _⟩, ⟨uR (Kd.R_mono HO_743001.out (fun _ hk => ⟨hk.1, ⟨hk.2.1, ⟨hk.2.2.1, ⟨hk.2.2.2.1, hk.2.2.2.2.1⟩⟩⟩⟩))⟩, ⟨uR (Kd.R_mono HO_743002.out (fun _ hk => ⟨hk.1, ⟨hk.2.1, ⟨hk.2.2.1, ⟨hk.2.2.2.1, hk.2.2.2.2.1⟩⟩⟩⟩))⟩, ⟨uR (Kd.R_mono HO_751001.out (fun _ hk => ⟨hk.1.1.1, ⟨hk.1.1.2.1, ⟨hk.1.1.2.2.1, ⟨hk.1.1.2.2.2.1, hk.1.1.2.2.2.2⟩⟩⟩⟩))⟩, ⟨uR (Kd.R_mono HO_751002.out (fun _ hk => ⟨hk.1.1.1, ⟨hk.1.1.2.1, ⟨hk.1.1.2.2.1, ⟨hk.1.1.2.2.2.1, hk.1.1.2.2.2.2⟩⟩⟩⟩))⟩, ⟨uR (Kd.R_mono HO_760001.out (fun _ hk => ⟨hk.1, ⟨hk.2.1, ⟨hk.2.2.1, ⟨hk.2.2.2.1, hk.2.2.2.2.1⟩⟩⟩⟩))⟩, ⟨uR (Kd.R_mono HO_760002.out (fun _ hk => ⟨hk.1, ⟨hk.2.1, ⟨hk.2.2.1, ⟨hk.2.2.2.1, hk.2.2.2.2.1⟩⟩⟩⟩))⟩, ⟨uB BK725.out⟩, ⟨uB BK742.out⟩, ⟨uB BK750.out⟩, ⟨uB BK759.out⟩, ⟨uH HB.out⟩⟩
        ·replace c77 := Bool.eq_false_iff.mpr c77
         subst c77
         have H1 : (laws_FnExactWithoutRests.j1 kj10 t741 true a0_0 l0_1 l0_2 t734 t735 t738 t751 t752 t755) = some r := by rw [if_neg (show ¬ (false = true) by decide)] at H; exact H
         clear H
         have H := H1
         clear H1
         have H' := zA H
         clear H
         have hnb86 := NB759_725.out; have hnc86 := NB725_759.out; have hnb87 := NB759_742.out; have hnc87 := NB742_759.out; have hnb88 := NB759_750.out; have hnc88 := NB750_759.out
         have hcz89_0 := bc BK759 0
         have hcz89_1 := bc BK759 1
         have hcz89_2 := bc BK759 2
         have hfz89_0 := bf BK759 0
         have hfz89_1 := bf BK759 1
         have hfz89_2 := bf BK759 2
         have hnb90 := NB742_725.out; have hnc90 := NB725_742.out; have hnb91 := NB742_750.out; have hnc91 := NB750_742.out
         have hcz92_0 := bc BK742 0
         have hcz92_1 := bc BK742 1
         have hcz92_2 := bc BK742 2
         have hfz92_0 := bf BK742 0
         have hfz92_1 := bf BK742 1
         have hfz92_2 := bf BK742 2
         go_wp2_with (first | (go_at_call 33; (with_reducible refine (laws_eqRule.calls kj10 t751 _ _ t752 _ _ t755 t734 _ _ t735 _ _ t738 false _ ?side1 ?side2 ?side3 ?side4 ?side5 ?side6 ?side7 ?side8 A76.out).mono ?_); (case side1 => exact uC ((Kd.R_reads' HO_760001.out).2.2)); (case side2 => exact (Kd.R_reads' HO_760001.out).2.1); (case side3 => exact uC ((Kd.R_reads' HO_760002.out).2.2)); (case side4 => exact (Kd.R_reads' HO_760002.out).2.1); (case side5 => exact uC ((Kd.R_reads' HO_743001.out).2.2)); (case side6 => exact (Kd.R_reads' HO_743001.out).2.1); (case side7 => exact uC ((Kd.R_reads' HO_743002.out).2.2)); (case side8 => exact (Kd.R_reads' HO_743002.out).2.1); rintro e w93 ⟨rfl, hb⟩; replace HO_743001 := xR HO_743001 hb; replace HO_743002 := xR HO_743002 hb; replace HO_751001 := xR HO_751001 hb; replace HO_751002 := xR HO_751002 hb; replace HO_760001 := xR HO_760001 hb; replace HO_760002 := xR HO_760002 hb; replace HO764 := xR HO764 hb; replace HO767 := xR HO767 hb; replace BK725 := xB BK725 hb; replace BK742 := xB BK742 hb; replace BK750 := xB BK750 hb; replace BK759 := xB BK759 hb; replace HB := xH HB hb; (try clear hb); (try clear hb2); (try clear hk); (try clear hi)))
         go_meet
         case rel => exact ⟨_, (true), (by first | rfl | (simp; done) | (simp [*]; done)), H', ⟨by have := HJ10.out; first | omega | exact Nat.le_refl _⟩, ⟨uR (Kd.R_mono HO_743001.out (fun _ hk => ⟨hk.1, ⟨hk.2.1, ⟨hk.2.2.1, ⟨hk.2.2.2.1, hk.2.2.2.2.1⟩⟩⟩⟩))⟩, ⟨uR (Kd.R_mono HO_743002.out (fun _ hk => ⟨hk.1, ⟨hk.2.1, ⟨hk.2.2.1, ⟨hk.2.2.2.1, hk.2.2.2.2.1⟩⟩⟩⟩))⟩, ⟨uR (Kd.R_mono HO_751001.out (fun _ hk => ⟨hk.1.1.1, ⟨hk.1.1.2.1, ⟨hk.1.1.2.2.1, ⟨hk.1.1.2.2.2.1, hk.1.1.2.2.2.2⟩⟩⟩⟩))⟩, ⟨uR (Kd.R_mono HO_751002.out (fun _ hk => ⟨hk.1.1.1, ⟨hk.1.1.2.1, ⟨hk.1.1.2.2.1, ⟨hk.1.1.2.2.2.1, hk.1.1.2.2.2.2⟩⟩⟩⟩))⟩, ⟨uR (Kd.R_mono HO_760001.out (fun _ hk => ⟨hk.1, ⟨hk.2.1, ⟨hk.2.2.1, ⟨hk.2.2.2.1, hk.2.2.2.2.1⟩⟩⟩⟩))⟩, ⟨uR (Kd.R_mono HO_760002.out (fun _ hk => ⟨hk.1, ⟨hk.2.1, ⟨hk.2.2.1, ⟨hk.2.2.2.1, hk.2.2.2.2.1⟩⟩⟩⟩))⟩, ⟨uB BK725.out⟩, ⟨uB BK742.out⟩, ⟨uB BK750.out⟩, ⟨uB BK759.out⟩, ⟨uH HB.out⟩⟩
       rw [if_pos c75] at H
       have c75b0 : decide (t769 < 0) = true := decide_eq_true c75
       clear c75
       (first | rw [c75b0] | (simp only [i64_w, i32_w]; rw [c75b0]) | skip)
       have H' := zA H
       clear H
       go_wp2
       go_meet
       case rel => exact ⟨_, (true), (by first | rfl | (simp; done) | (simp [*]; done)), H', ⟨by have := HJ10.out; first | omega | exact Nat.le_refl _⟩, ⟨uR (Kd.R_mono HO_743001.out (fun _ hk => ⟨hk.1, ⟨hk.2.1, ⟨hk.2.2.1, ⟨hk.2.2.2.1, hk.2.2.2.2.1⟩⟩⟩⟩))⟩, ⟨uR (Kd.R_mono HO_743002.out (fun _ hk => ⟨hk.1, ⟨hk.2.1, ⟨hk.2.2.1, ⟨hk.2.2.2.1, hk.2.2.2.2.1⟩⟩⟩⟩))⟩, ⟨uR (Kd.R_mono HO_751001.out (fun _ hk => ⟨hk.1.1.1, ⟨hk.1.1.2.1, ⟨hk.1.1.2.2.1, ⟨hk.1.1.2.2.2.1, hk.1.1.2.2.2.2⟩⟩⟩⟩))⟩, ⟨uR (Kd.R_mono HO_751002.out (fun _ hk => ⟨hk.1.1.1, ⟨hk.1.1.2.1, ⟨hk.1.1.2.2.1, ⟨hk.1.1.2.2.2.1, hk.1.1.2.2.2.2⟩⟩⟩⟩))⟩, ⟨uR (Kd.R_mono HO_760001.out (fun _ hk => ⟨hk.1, ⟨hk.2.1, ⟨hk.2.2.1, ⟨hk.2.2.2.1, hk.2.2.2.2.1⟩⟩⟩⟩))⟩, ⟨uR (Kd.R_mono HO_760002.out (fun _ hk => ⟨hk.1, ⟨hk.2.1, ⟨hk.2.2.1, ⟨hk.2.2.2.1, hk.2.2.2.2.1⟩⟩⟩⟩))⟩, ⟨uB BK725.out⟩, ⟨uB BK742.out⟩, ⟨uB BK750.out⟩, ⟨uB BK759.out⟩, ⟨uH HB.out⟩⟩
      case rest =>
       clear HC64
       (try clear c2);(try clear p2);(try clear c3);(try clear c3b0);(try clear c4);(try clear c5);(try clear c6);(try clear c7);(try clear c8);(try clear c9);(try clear c21);(try clear c28);(try clear c29);(try clear c30);(try clear c31);(try clear c32);(try clear c33);(try clear c34);(try clear c35);(try clear c36);(try clear c37);(try clear c42);(try clear c43);(try clear c44);(try clear c45);(try clear c47)
       (try clear c48);(try clear c51);(try clear c52);(try clear c53);(try clear c55);(try clear c56);(try clear c59);(try clear c62);(try clear c70);(try clear c71);(try clear c72);(try clear c75);(try clear c75b0);(try clear c77);(try clear c78);(try clear c79);(try clear c80);(try clear c82);(try clear c83);(try clear c86);(try clear c87);(try clear c88);(try clear c90);(try clear c91);(try clear hcz13_0)
       (try clear hcz13_1);(try clear hcz13_2);(try clear hcz15_0);(try clear hcz15_1);(try clear hcz15_2);(try clear hcz22_0);(try clear hcz22_1);(try clear hcz22_2);(try clear hcz25_0);(try clear hcz25_1);(try clear hcz25_2);(try clear hcz30_0);(try clear hcz30_1);(try clear hcz30_2);(try clear hcz38_0);(try clear hcz38_1);(try clear hcz38_2);(try clear hcz46_0);(try clear hcz46_1);(try clear hcz46_2)
       (try clear hcz49_0);(try clear hcz49_1);(try clear hcz49_2);(try clear hcz54_0);(try clear hcz54_1);(try clear hcz54_2);(try clear hcz57_0);(try clear hcz57_1);(try clear hcz57_2);(try clear hcz5_0);(try clear hcz5_1);(try clear hcz5_2);(try clear hcz73_0);(try clear hcz73_1);(try clear hcz73_2);(try clear hcz81_0);(try clear hcz81_1);(try clear hcz81_2);(try clear hcz84_0);(try clear hcz84_1)
       (try clear hcz84_2);(try clear hcz89_0);(try clear hcz89_1);(try clear hcz89_2);(try clear hcz92_0);(try clear hcz92_1);(try clear hcz92_2);(try clear hfz13_0);(try clear hfz13_1);(try clear hfz13_2);(try clear hfz15_0);(try clear hfz15_1);(try clear hfz15_2);(try clear hfz22_0);(try clear hfz22_1);(try clear hfz22_2);(try clear hfz25_0);(try clear hfz25_1);(try clear hfz25_2);(try clear hfz30_0)
       (try clear hfz30_1);(try clear hfz30_2);(try clear hfz38_0);(try clear hfz38_1);(try clear hfz38_2);(try clear hfz46_0);(try clear hfz46_1);(try clear hfz46_2);(try clear hfz49_0);(try clear hfz49_1);(try clear hfz49_2);(try clear hfz54_0);(try clear hfz54_1);(try clear hfz54_2);(try clear hfz57_0);(try clear hfz57_1);(try clear hfz57_2);(try clear hfz5_0);(try clear hfz5_1);(try clear hfz5_2)
       (try clear hfz73_0);(try clear hfz73_1);(try clear hfz73_2);(try clear hfz81_0);(try clear hfz81_1);(try clear hfz81_2);(try clear hfz84_0);(try clear hfz84_1);(try clear hfz84_2);(try clear hfz89_0);(try clear hfz89_1);(try clear hfz89_2);(try clear hfz92_0);(try clear hfz92_1);(try clear hfz92_2);(try clear p2)
       obtain ⟨kq, x61_63, rfl, HA, HJ63, HO_743001, HO_743002, HO_751001, HO_751002, HO_760001, HO_760002, BK725, BK742, BK750, BK759, HB⟩ := hcut
       have hl751001_63 := (Kd.R_reads' HO_751001.out).1
       rw [hl751001_63] at HO_751001
       (try simp only [hl751001_63])
       (try simp only [hl751001_63] at BK725)
       (try simp only [hl751001_63] at BK742)
       (try simp only [hl751001_63] at BK750)
       (try simp only [hl751001_63] at BK759)
       (try simp only [hl751001_63] at HO_743001)
       (try simp only [hl751001_63] at HO_743002)
       (try simp only [hl751001_63] at HO_751002)
       (try simp only [hl751001_63] at HO_760001)
       (try simp only [hl751001_63] at HO_760002)
       have hl751002_63 := (Kd.R_reads' HO_751002.out).1
       rw [hl751002_63] at HO_751002
       (try simp only [hl751002_63])
       (try simp only [hl751002_63] at BK725)
       (try simp only [hl751002_63] at BK742)
       (try simp only [hl751002_63] at BK750)
       (try simp only [hl751002_63] at BK759)
       (try simp only [hl751002_63] at HO_743001)
       (try simp only [hl751002_63] at HO_743002)
       (try simp only [hl751002_63] at HO_751001)
       (try simp only [hl751002_63] at HO_760001)
       (try simp only [hl751002_63] at HO_760002)
       cases kq with
       | zero => exact absurd HA.out (by simp [laws_FnExactWithoutRests.j1])
       | succ kj63 =>
        have H := HA.out
        clear HA
        simp only [laws_FnExactWithoutRests.j1] at H
        by_cases c94 : x61_63 = true
        ·subst c94
         have H1 : (some false) = some r := by rw [if_pos rfl] at H; exact H
         clear H
         have H := H1
         clear H1
         rw [HRT.out] at H
         exact absurd H (by simp)
        ·replace c94 := Bool.eq_false_iff.mpr c94
         subst c94
         have H1 : ((laws_markRule.f kj63 t751 t752 t755 1).bind fun bt773 => ((laws_heldRule.f kj63 t751 bt773.2.1 bt773.2.2 1).bind fun t776 => (if t776 < 0 then (some false) else (if t776 = bt773.1 then ((laws_toRule.f kj63 a0_0 l0_1 l0_2).bind fun bt777 => ((impl_WithoutRests.f kj63 bt777.1 bt777.2.1 bt777.2.2).bind fun bt784 => ((laws_eqRule.f kj63 bt784.1 bt784.2.1 bt784.2.2.1 t734 t735 t738).bind fun t793 => (if t793 = true then (laws_FnExactWithoutRests.j2 kj63 bt773.1 (bt784.2.2.2 != t741) t751 bt773.2.1 bt773.2.2) else (laws_FnExactWithoutRests.j2 kj63 bt773.1 true t751 bt773.2.1 bt773.2.2))))) else (some false))))) = some r := by rw [if_neg (show ¬ (false = true) by decide)] at H; exact H
         clear H
         have H := H1
         clear H1
         replace H := Option.bind_eq_some_iff.mp H
         obtain ⟨⟨t773, t774, t775⟩, A950, H⟩ := H
         replace H : ((laws_heldRule.f kj63 t751 t774 t775 1).bind fun t776 => (if t776 < 0 then (some false) else (if t776 = t773 then ((laws_toRule.f kj63 a0_0 l0_1 l0_2).bind fun bt777 => ((impl_WithoutRests.f kj63 bt777.1 bt777.2.1 bt777.2.2).bind fun bt784 => ((laws_eqRule.f kj63 bt784.1 bt784.2.1 bt784.2.2.1 t734 t735 t738).bind fun t793 => (if t793 = true then (laws_FnExactWithoutRests.j2 kj63 t773 (bt784.2.2.2 != t741) t751 t774 t775) else (laws_FnExactWithoutRests.j2 kj63 t773 true t751 t774 t775))))) else (some false)))) = some r := H
         have A95 := zA A950
         clear A950
         replace H := Option.bind_eq_some_iff.mp H
         obtain ⟨t776, A960, H⟩ := H
         replace H : (if t776 < 0 then (some false) else (if t776 = t773 then ((laws_toRule.f kj63 a0_0 l0_1 l0_2).bind fun bt777 => ((impl_WithoutRests.f kj63 bt777.1 bt777.2.1 bt777.2.2).bind fun bt784 => ((laws_eqRule.f kj63 bt784.1 bt784.2.1 bt784.2.2.1 t734 t735 t738).bind fun t793 => (if t793 = true then (laws_FnExactWithoutRests.j2 kj63 t773 (bt784.2.2.2 != t741) t751 t774 t775) else (laws_FnExactWithoutRests.j2 kj63 t773 true t751 t774 t775))))) else (some false))) = some r := H
         have A96 := zA A960
         clear A960
         by_cases c97 : t776 < 0
         rotate_left
         ·rw [if_neg c97] at H
          have c97b0 : decide (t776 < 0) = false := decide_eq_false c97
          clear c97
          by_cases c98 : t776 = t773
          rotate_left
          ·rw [if_neg c98] at H
           have c98b0 : (t776 == t773) = false := beq_eq_false_iff_ne.mpr c98
           have c98b1 : (t776 != t773) = true := bne_iff_ne.mpr c98
           rw [HRT.out] at H
           exact absurd H (by simp)
          rw [if_pos c98] at H
          have c98b0 : (t776 == t773) = true := beq_iff_eq.mpr c98
          have c98b1 : (t776 != t773) = false := bne_eq_false_iff_eq.mpr c98
          clear c98
          replace H := Option.bind_eq_some_iff.mp H
          obtain ⟨⟨t777, t778, t781⟩, A990, H⟩ := H
          replace H : ((impl_WithoutRests.f kj63 t777 t778 t781).bind fun bt784 => ((laws_eqRule.f kj63 bt784.1 bt784.2.1 bt784.2.2.1 t734 t735 t738).bind fun t793 => (if t793 = true then (laws_FnExactWithoutRests.j2 kj63 t773 (bt784.2.2.2 != t741) t751 t774 t775) else (laws_FnExactWithoutRests.j2 kj63 t773 true t751 t774 t775)))) = some r := H
          have A99 := zA A990
          clear A990
          replace H := Option.bind_eq_some_iff.mp H
          obtain ⟨⟨t784, t785, t788, t791⟩, A1000, H⟩ := H
          replace H : ((laws_eqRule.f kj63 t784 t785 t788 t734 t735 t738).bind fun t793 => (if t793 = true then (laws_FnExactWithoutRests.j2 kj63 t773 (t791 != t741) t751 t774 t775) else (laws_FnExactWithoutRests.j2 kj63 t773 true t751 t774 t775))) = some r := H
          have A100 := zA A1000
          clear A1000
          have HC101 := zA H
          clear H
          have hnb102 := NB759_725.out; have hnc102 := NB725_759.out; have hnb103 := NB759_742.out; have hnc103 := NB742_759.out; have hnb104 := NB759_750.out; have hnc104 := NB750_759.out
          have hcz105_0 := bc BK759 0
          have hcz105_1 := bc BK759 1
          have hcz105_2 := bc BK759 2
          have hfz105_0 := bf BK759 0
          have hfz105_1 := bf BK759 1
          have hfz105_2 := bf BK759 2
          go_upto_region 25 with (first | ((with_reducible refine gate_callee (f := 34) rfl ?_); refine gL (some 64) Try.func34 #[.agg #[.int .i64 t751, .slice Ao39 t752.length co39, .slice Ao40 t755.length co40], .int .i64 1] ?_; (with_reducible refine (laws_markRule.calls kj63 t751 (fun k_ => some k_ = (.slice Ao39 t752.length co39 : Value).ownBlock) (.slice Ao39 t752.length co39) t752 (fun k_ => some k_ = (.slice Ao40 t755.length co40 : Value).ownBlock) (.slice Ao40 t755.length co40) t755 1 t773 t774 t775 w _ ?side1 ?side2 ?side3 ?side4 ?side5 A95.out).mono ?_); (case side1 => repeat (first | (with_reducible first | exact HB.out | apply below_alloc | apply pw_below_drewN | apply below_drew1 | refine below_set ?_ GE725.out | refine below_set ?_ GE742.out | refine below_set ?_ GE750.out | refine below_set ?_ GE759.out) | exact HB.out)); (case side2 => exact Kd.R_tight rfl HO_760001.out); (case side3 => exact fun k_ e_ => (HO_760001.out.1 k_ e_.symm).2.2.2.2); (case side4 => exact Kd.R_tight rfl HO_760002.out); (case side5 => exact fun k_ e_ => (HO_760002.out.1 k_ e_.symm).2.2.2.2); rintro e w106 ⟨rfl, hy0, hy1, hb, hkp⟩; refine ⟨_, rfl, ?_⟩; replace HO_743001 := zA (Kd.R_mono (ok' := fun k_ => ax k_ (.slice Ao24 t738.length co24) ∧ ax k_ (.slice Ao31 t770.length co31) ∧ ax k_ (.slice Ao32 t771.length co32) ∧ ax k_ (.slice Ao39 t752.length co39) ∧ ax k_ (.slice Ao40 t755.length co40)) (Kd.R_keptB (HO_743001.out) hkp (fun k_ hk_ hs_ => Or.elim hs_ (fun e_ => (hk_.2.2.2.1) e_) (fun e_ => (hk_.2.2.2.2) e_))) (fun k_ hk_ => ⟨hk_.1.1, hk_.1.2.1, hk_.1.2.2.1, hk_.1.2.2.2.1, hk_.1.2.2.2.2⟩)); replace HO_743002 := zA (Kd.R_mono (ok' := fun k_ => ax k_ (.slice Ao23 t735.length co23) ∧ ax k_ (.slice Ao31 t770.length co31) ∧ ax k_ (.slice Ao32 t771.length co32) ∧ ax k_ (.slice Ao39 t752.length co39) ∧ ax k_ (.slice Ao40 t755.length co40)) (Kd.R_keptB (HO_743002.out) hkp (fun k_ hk_ hs_ => Or.elim hs_ (fun e_ => (hk_.2.2.2.1) e_) (fun e_ => (hk_.2.2.2.2) e_))) (fun k_ hk_ => ⟨hk_.1.1, hk_.1.2.1, hk_.1.2.2.1, hk_.1.2.2.2.1, hk_.1.2.2.2.2⟩)); replace HO_751001 := zA (Kd.R_mono (ok' := fun k_ => ax k_ (.slice Ao23 t735.length co23) ∧ ax k_ (.slice Ao24 t738.length co24) ∧ ax k_ (.slice Ao32 t771.length co32) ∧ ax k_ (.slice Ao39 t752.length co39) ∧ ax k_ (.slice Ao40 t755.length co40)) (Kd.R_keptB (HO_751001.out) hkp (fun k_ hk_ hs_ => Or.elim hs_ (fun e_ => (hk_.2.2.2.1) e_) (fun e_ => (hk_.2.2.2.2) e_))) (fun k_ hk_ => ⟨hk_.1.1, hk_.1.2.1, hk_.1.2.2.1, hk_.1.2.2.2.1, hk_.1.2.2.2.2⟩)); replace HO_751002 := zA (Kd.R_mono (ok' := fun k_ => ax k_ (.slice Ao23 t735.length co23) ∧ ax k_ (.slice Ao24 t738.length co24) ∧ ax k_ (.slice Ao31 t770.length co31) ∧ ax k_ (.slice Ao39 t752.length co39) ∧ ax k_ (.slice Ao40 t755.length co40)) (Kd.R_keptB (HO_751002.out) hkp (fun k_ hk_ hs_ => Or.elim hs_ (fun e_ => (hk_.2.2.2.1) e_) (fun e_ => (hk_.2.2.2.2) e_))) (fun k_ hk_ => ⟨hk_.1.1, hk_.1.2.1, hk_.1.2.2.1, hk_.1.2.2.2.1, hk_.1.2.2.2.2⟩)); replace BK725 := zA (blk_kept (uB BK725.out) hkp (fun hs_ => Or.elim hs_ (fun e_ => (fun e_ => (Kd.R_ne HO_760001.out BK725.out (by decide)) e_) e_) (fun e_ => (fun e_ => (Kd.R_ne HO_760002.out BK725.out (by decide)) e_) e_))); replace BK742 := zA (blk_kept (uB BK742.out) hkp (fun hs_ => Or.elim hs_ (fun e_ => (fun e_ => (Kd.R_ne HO_760001.out BK742.out (by decide)) e_) e_) (fun e_ => (fun e_ => (Kd.R_ne HO_760002.out BK742.out (by decide)) e_) e_))); replace BK750 := zA (blk_kept (uB BK750.out) hkp (fun hs_ => Or.elim hs_ (fun e_ => (fun e_ => (Kd.R_ne HO_760001.out BK750.out (by decide)) e_) e_) (fun e_ => (fun e_ => (Kd.R_ne HO_760002.out BK750.out (by decide)) e_) e_))); replace BK759 := zA (blk_kept (uB BK759.out) hkp (fun hs_ => Or.elim hs_ (fun e_ => (fun e_ => (Kd.R_ne HO_760001.out BK759.out (by decide)) e_) e_) (fun e_ => (fun e_ => (Kd.R_ne HO_760002.out BK759.out (by decide)) e_) e_))); replace HO_760001 := zA (Kd.R_reok rfl hy0 (fun k_ e_ => HO_760001.out.1 k_ e_)); replace HO_760002 := zA (Kd.R_reok rfl hy1 (fun k_ e_ => HO_760002.out.1 k_ e_)); replace HB := zA (hb); (try clear hb); (try clear hkp); (try clear hy0); (try clear hy1); have hcz107_0 := bc BK759 0; have hcz107_1 := bc BK759 1; have hcz107_2 := bc BK759 2; have hfz107_0 := bf BK759 0; have hfz107_1 := bf BK759 1; have hfz107_2 := bf BK759 2) | ((with_reducible refine gate_callee (f := 35) rfl ?_); refine goesL_ (some 67) rfl rfl Try.func35 (by kernel_rfl) rfl #[.agg #[.int .i64 t751, .slice Ao39 t774.length co39, .slice Ao40 t775.length co40], .int .i64 1] rfl (by (try simp only [la, lb, lc]); first | done | (rw [show t774.length = t752.length from (Kd.R_reads' HO_760001.out).1.symm, show t775.length = t755.length from (Kd.R_reads' HO_760002.out).1.symm] <;> rfl) | rfl | (simp only [ld, le]; rfl)) ?_; (with_reducible refine (laws_heldRule.calls kj63 t751 _ _ t774 _ _ t775 1 t776 _ ?side1 ?side2 ?side3 ?side4 A96.out).mono ?_); (case side1 => exact uC ((Kd.R_reads' HO_760001.out).2.2)); (case side2 => rw [show t774.length = t752.length from (Kd.R_reads' HO_760001.out).1.symm]; exact (Kd.R_reads' HO_760001.out).2.1); (case side3 => exact uC ((Kd.R_reads' HO_760002.out).2.2)); (case side4 => rw [show t775.length = t755.length from (Kd.R_reads' HO_760002.out).1.symm]; exact (Kd.R_reads' HO_760002.out).2.1); rintro e w108 ⟨rfl, hb⟩; refine ⟨_, rfl, ?_⟩; replace HO_743001 := xR HO_743001 hb; replace HO_743002 := xR HO_743002 hb; replace HO_751001 := xR HO_751001 hb; replace HO_751002 := xR HO_751002 hb; replace HO_760001 := xR HO_760001 hb; replace HO_760002 := xR HO_760002 hb; replace BK725 := xB BK725 hb; replace BK742 := xB BK742 hb; replace BK750 := xB BK750 hb; replace BK759 := xB BK759 hb; replace HB := xH HB hb; (try clear hb); (try clear hb2); (try clear hk); (try clear hi); have hnb109 := NB725_742.out; have hnc109 := NB742_725.out; have hnb110 := NB725_750.out; have hnc110 := NB750_725.out; have hcz111_0 := bc BK725 0; have hcz111_1 := bc BK725 1; have hcz111_2 := bc BK725 2; have hfz111_0 := bf BK725 0; have hfz111_1 := bf BK725 1; have hfz111_2 := bf BK725 2) | ((with_reducible refine gate_callee (f := 31) rfl ?_); refine gL (some 75) Try.func31 #[.agg #[.int .i64 a0_0, .slice A0_1 l0_1.length c0_1, .slice A0_2 l0_2.length c0_2]] ?_; (with_reducible refine (laws_toRule.calls kj63 a0_0 _ _ l0_1 _ _ l0_2 t777 t778 t781 _ ?side1 ?side2 ?side3 ?side4 A99.out).mono ?_); (case side1 => exact uC ((Kd.C_below HR0_1.out HB.out))); (case side2 => exact HC0_1.out); (case side3 => exact uC ((Kd.C_below HR0_2.out HB.out))); (case side4 => exact HC0_2.out); rintro e w112 ⟨v779, v782, rfl, ho0, ho1, hb⟩; refine ⟨_, rfl, ?_⟩; have HO780 := zA (Kd.R_lower (Kd.R_new' (Kd.R_new' (Kd.R_new' (Kd.R_new' (Kd.R_new' (Kd.R_new' ho0 (Kd.R_lt (uR HO_743001.out))) (Kd.R_lt (uR HO_743002.out))) (Kd.R_lt (uR HO_751001.out))) (Kd.R_lt (uR HO_751002.out))) (Kd.R_lt (uR HO_760001.out))) (Kd.R_lt (uR HO_760002.out))) (below_size (uH HB.out))); have HO783 := zA (Kd.R_lower (Kd.R_new' (Kd.R_new' (Kd.R_new' (Kd.R_new' (Kd.R_new' (Kd.R_new' ho1 (Kd.R_lt (uR HO_743001.out))) (Kd.R_lt (uR HO_743002.out))) (Kd.R_lt (uR HO_751001.out))) (Kd.R_lt (uR HO_751002.out))) (Kd.R_lt (uR HO_760001.out))) (Kd.R_lt (uR HO_760002.out))) (below_size (uH HB.out))); replace HO_743001 := zA (Kd.R_mono (Kd.R_told (Kd.R_told (Kd.R_old (uR HO_743001.out) hb) (Kd.R_base ho0)) (Kd.R_base ho1)) (fun _ h_ => h_.1)); replace HO_743002 := zA (Kd.R_mono (Kd.R_told (Kd.R_told (Kd.R_old (uR HO_743002.out) hb) (Kd.R_base ho0)) (Kd.R_base ho1)) (fun _ h_ => h_.1)); replace HO_751001 := zA (Kd.R_mono (Kd.R_told (Kd.R_told (Kd.R_old (uR HO_751001.out) hb) (Kd.R_base ho0)) (Kd.R_base ho1)) (fun _ h_ => h_.1)); replace HO_751002 := zA (Kd.R_mono (Kd.R_told (Kd.R_told (Kd.R_old (uR HO_751002.out) hb) (Kd.R_base ho0)) (Kd.R_base ho1)) (fun _ h_ => h_.1)); replace HO_760001 := zA (Kd.R_mono (Kd.R_told (Kd.R_told (Kd.R_old (uR HO_760001.out) hb) (Kd.R_base ho0)) (Kd.R_base ho1)) (fun _ h_ => h_.1)); replace HO_760002 := zA (Kd.R_mono (Kd.R_told (Kd.R_told (Kd.R_old (uR HO_760002.out) hb) (Kd.R_base ho0)) (Kd.R_base ho1)) (fun _ h_ => h_.1)); replace BK725 := xB BK725 hb; replace BK742 := xB BK742 hb; replace BK750 := xB BK750 hb; replace BK759 := xB BK759 hb; replace HB := xH HB hb; (try clear hb); (try clear hb2); (try clear hk); (try clear hi); (try clear ho0); (try clear ho1); obtain ⟨Ao113, co113, eo113⟩ := Kd.R_slice HO780.out; subst eo113; obtain ⟨Ao114, co114, eo114⟩ := Kd.R_slice HO783.out; subst eo114) | ((with_reducible refine gate_callee (f := 32) rfl ?_); refine gL (some 76) Try.func32 #[.agg #[.int .i64 t777, .slice Ao113 t778.length co113, .slice Ao114 t781.length co114]] ?_; (with_reducible refine (impl_WithoutRests.calls kj63 t777 _ _ t778 _ _ t781 t784 t785 t788 t791 _ ?side1 ?side2 ?side3 ?side4 A100.out).mono ?_); (case side1 => exact uC ((Kd.R_reads' HO780.out).2.2)); (case side2 => exact (Kd.R_reads' HO780.out).2.1); (case side3 => exact uC ((Kd.R_reads' HO783.out).2.2)); (case side4 => exact (Kd.R_reads' HO783.out).2.1); rintro e w115 ⟨v786, v789, rfl, ho0, ho1, hb⟩; refine ⟨_, rfl, ?_⟩; have HO787 := zA (Kd.R_lower (Kd.R_new' (Kd.R_new' (Kd.R_new' (Kd.R_new' (Kd.R_new' (Kd.R_new' (Kd.R_new' (Kd.R_new' ho0 (Kd.R_lt (uR HO_743001.out))) (Kd.R_lt (uR HO_743002.out))) (Kd.R_lt (uR HO_751001.out))) (Kd.R_lt (uR HO_751002.out))) (Kd.R_lt (uR HO_760001.out))) (Kd.R_lt (uR HO_760002.out))) (Kd.R_lt (uR HO780.out))) (Kd.R_lt (uR HO783.out))) (below_size (uH HB.out))); have HO790 := zA (Kd.R_lower (Kd.R_new' (Kd.R_new' (Kd.R_new' (Kd.R_new' (Kd.R_new' (Kd.R_new' (Kd.R_new' (Kd.R_new' ho1 (Kd.R_lt (uR HO_743001.out))) (Kd.R_lt (uR HO_743002.out))) (Kd.R_lt (uR HO_751001.out))) (Kd.R_lt (uR HO_751002.out))) (Kd.R_lt (uR HO_760001.out))) (Kd.R_lt (uR HO_760002.out))) (Kd.R_lt (uR HO780.out))) (Kd.R_lt (uR HO783.out))) (below_size (uH HB.out))); replace HO_743001 := zA (Kd.R_mono (Kd.R_told (Kd.R_told (Kd.R_old (uR HO_743001.out) hb) (Kd.R_base ho0)) (Kd.R_base ho1)) (fun _ h_ => h_.1)); replace HO_743002 := zA (Kd.R_mono (Kd.R_told (Kd.R_told (Kd.R_old (uR HO_743002.out) hb) (Kd.R_base ho0)) (Kd.R_base ho1)) (fun _ h_ => h_.1)); replace HO_751001 := zA (Kd.R_mono (Kd.R_told (Kd.R_told (Kd.R_old (uR HO_751001.out) hb) (Kd.R_base ho0)) (Kd.R_base ho1)) (fun _ h_ => h_.1)); replace HO_751002 := zA (Kd.R_mono (Kd.R_told (Kd.R_told (Kd.R_old (uR HO_751002.out) hb) (Kd.R_base ho0)) (Kd.R_base ho1)) (fun _ h_ => h_.1)); replace HO_760001 := zA (Kd.R_mono (Kd.R_told (Kd.R_told (Kd.R_old (uR HO_760001.out) hb) (Kd.R_base ho0)) (Kd.R_base ho1)) (fun _ h_ => h_.1)); replace HO_760002 := zA (Kd.R_mono (Kd.R_told (Kd.R_told (Kd.R_old (uR HO_760002.out) hb) (Kd.R_base ho0)) (Kd.R_base ho1)) (fun _ h_ => h_.1)); replace HO780 := zA (Kd.R_mono (Kd.R_told (Kd.R_told (Kd.R_old (uR HO780.out) hb) (Kd.R_base ho0)) (Kd.R_base ho1)) (fun _ h_ => h_.1)); replace HO783 := zA (Kd.R_mono (Kd.R_told (Kd.R_told (Kd.R_old (uR HO783.out) hb) (Kd.R_base ho0)) (Kd.R_base ho1)) (fun _ h_ => h_.1)); replace BK725 := xB BK725 hb; replace BK742 := xB BK742 hb; replace BK750 := xB BK750 hb; replace BK759 := xB BK759 hb; replace HB := xH HB hb; (try clear hb); (try clear hb2); (try clear hk); (try clear hi); (try clear ho0); (try clear ho1)) | ((with_reducible refine gate_dst (N := 12) rfl ?_); refine bx 12 #[.int .i64 0, .slice none 0 0, .slice none 0 0] 46 ?_; intro gb792 hg w116 hbox hb; replace HO_743001 := xR HO_743001 hb; replace HO_743002 := xR HO_743002 hb; replace HO_751001 := xR HO_751001 hb; replace HO_751002 := xR HO_751002 hb; replace HO_760001 := xR HO_760001 hb; replace HO_760002 := xR HO_760002 hb; replace HO780 := xR HO780 hb; replace HO783 := xR HO783 hb; replace HO787 := xR HO787 hb; replace HO790 := xR HO790 hb; have BK792 := zA (hbox); have GW792 := gq HB hg; have GE792 := gq HB hg; replace HB := xH HB hb; have NB725_792 := zA ((by rw [hg]; exact neL BK725 : gb725 ≠ gb792)); have NB792_725 := zA ((by rw [hg]; exact neG BK725 : gb792 ≠ gb725)); replace BK725 := xB BK725 hb; have NB742_792 := zA ((by rw [hg]; exact neL BK742 : gb742 ≠ gb792)); have NB792_742 := zA ((by rw [hg]; exact neG BK742 : gb792 ≠ gb742)); replace BK742 := xB BK742 hb; have NB750_792 := zA ((by rw [hg]; exact neL BK750 : gb750 ≠ gb792)); have NB792_750 := zA ((by rw [hg]; exact neG BK750 : gb792 ≠ gb750)); replace BK750 := xB BK750 hb; have NB759_792 := zA ((by rw [hg]; exact neL BK759 : gb759 ≠ gb792)); have NB792_759 := zA ((by rw [hg]; exact neG BK759 : gb792 ≠ gb759)); replace BK759 := xB BK759 hb; have := geI GE792; clear hb hbox hg; have hnb117 := NB792_725.out; have hnc117 := NB725_792.out; have hnb118 := NB792_742.out; have hnc118 := NB742_792.out; have hnb119 := NB792_750.out; have hnc119 := NB750_792.out; have hnb120 := NB792_759.out; have hnc120 := NB759_792.out; have hcz121_0 := bc BK792 0; have hcz121_1 := bc BK792 1; have hcz121_2 := bc BK792 2; have hfz121_0 := bf BK792 0; have hfz121_1 := bf BK792 1; have hfz121_2 := bf BK792 2; obtain ⟨Ao122, co122, eo122⟩ := Kd.R_slice HO787.out; subst eo122; obtain ⟨Ao123, co123, eo123⟩ := Kd.R_slice HO790.out; subst eo123))
          (try simp only [Act.put, ls, lz, ln])
          go_cut [87] (fun v87 wc => ∃ (kq : Nat) (x87_100 : Bool), v87 = .bool x87_100 ∧ Aside0 (laws_FnExactWithoutRests.j2 kq t773 x87_100 t751 t774 t775 = some r) ∧ Aside0 (kq ≤ kj63) ∧ Aside0 (Kd.R (Kd.int .i64) 2 wc w.heap.size (fun k_ => ax k_ (.slice Ao24 t738.length co24) ∧ ax k_ (.slice Ao31 t770.length co31) ∧ ax k_ (.slice Ao32 t771.length co32) ∧ ax k_ (.slice Ao39 t752.length co39) ∧ ax k_ (.slice Ao40 t755.length co40) ∧ ax k_ (.slice Ao122 t785.length co122) ∧ ax k_ (.slice Ao123 t788.length co123)) (.slice Ao23 t735.length co23) t735) ∧ Aside0 (Kd.R (Kd.int .i64) 2 wc w.heap.size (fun k_ => ax k_ (.slice Ao23 t735.length co23) ∧ ax k_ (.slice Ao31 t770.length co31) ∧ ax k_ (.slice Ao32 t771.length co32) ∧ ax k_ (.slice Ao39 t752.length co39) ∧ ax k_ (.slice Ao40 t755.length co40) ∧ ax k_ (.slice Ao122 t785.length co122) ∧ ax k_ (.slice Ao123 t788.length co123)) (.slice Ao24 t738.length co24) t738) ∧ Aside0 (Kd.R (Kd.int .i64) 2 wc w.heap.size (fun k_ => ax k_ (.slice Ao23 t735.length co23) ∧ ax k_ (.slice Ao24 t738.length co24) ∧ ax k_ (.slice Ao32 t771.length co32) ∧ ax k_ (.slice Ao39 t752.length co39) ∧ ax k_ (.slice Ao40 t755.length co40) ∧ ax k_ (.slice Ao122 t785.length co122) ∧ ax k_ (.slice Ao123 t788.length co123)) (.slice Ao31 t770.length co31) t770) ∧ Aside0 (Kd.R (Kd.int .i64) 2 wc w.heap.size (fun k_ => ax k_ (.slice Ao23 t735.length co23) ∧ ax k_ (.slice Ao24 t738.length co24) ∧ ax k_ (.slice Ao31 t770.length co31) ∧ ax k_ (.slice Ao39 t752.length co39) ∧ ax k_ (.slice Ao40 t755.length co40) ∧ ax k_ (.slice Ao122 t785.length co122) ∧ ax k_ (.slice Ao123 t788.length co123)) (.slice Ao32 t771.length co32) t771) ∧ Aside0 (Kd.R (Kd.int .i64) 2 wc w.heap.size (fun k_ => ax k_ (.slice Ao23 t735.length co23) ∧ ax k_ (.slice Ao24 t738.length co24) ∧ ax k_ (.slice Ao31 t770.length co31) ∧ ax k_ (.slice Ao32 t771.length co32) ∧ ax k_ (.slice Ao40 t755.length co40) ∧ ax k_ (.slice Ao122 t785.length co122) ∧ ax k_ (.slice Ao123 t788.length co123)) (.slice Ao39 t752.length co39) t774) ∧ Aside0 (Kd.R (Kd.int .i64) 2 wc w.heap.size (fun k_ => ax k_ (.slice Ao23 t735.length co23) ∧ ax k_ (.slice Ao24 t738.length co24) ∧ ax k_ (.slice Ao31 t770.length co31) ∧ ax k_ (.slice Ao32 t771.length co32) ∧ ax k_ (.slice Ao39 t752.length co39) ∧ ax k_ (.slice Ao122 t785.length co122) ∧ ax k_ (.slice Ao123 t788.length co123)) (.slice Ao40 t755.length co40) t775) ∧ Aside0 (Kd.R (Kd.int .i64) 2 wc w.heap.size (fun k_ => ax k_ (.slice Ao23 t735.length co23) ∧ ax k_ (.slice Ao24 t738.length co24) ∧ ax k_ (.slice Ao31 t770.length co31) ∧ ax k_ (.slice Ao32 t771.length co32) ∧ ax k_ (.slice Ao39 t752.length co39) ∧ ax k_ (.slice Ao40 t755.length co40) ∧ ax k_ (.slice Ao123 t788.length co123)) (.slice Ao122 t785.length co122) t785) ∧ Aside0 (Kd.R (Kd.int .i64) 2 wc w.heap.size (fun k_ => ax k_ (.slice Ao23 t735.length co23) ∧ ax k_ (.slice Ao24 t738.length co24) ∧ ax k_ (.slice Ao31 t770.length co31) ∧ ax k_ (.slice Ao32 t771.length co32) ∧ ax k_ (.slice Ao39 t752.length co39) ∧ ax k_ (.slice Ao40 t755.length co40) ∧ ax k_ (.slice Ao122 t785.length co122)) (.slice Ao123 t788.length co123) t788) ∧ Aside0 (wc.heap[gb725]? = some (.cells #[.int .i64 a0_0, (.slice A0_1 l0_1.length c0_1), (.slice A0_2 l0_2.length c0_2)] 44 (0, 0))) ∧ Aside0 (wc.heap[gb742]? = some (.cells #[.int .i64 t734, (.slice Ao23 t735.length co23), (.slice Ao24 t738.length co24)] 46 (0, 0))) ∧ Aside0 (wc.heap[gb750]? = some (.cells #[.int .i64 t743, (.slice Ao31 t770.length co31), (.slice Ao32 t771.length co32)] 46 (0, 0))) ∧ Aside0 (wc.heap[gb759]? = some (.cells #[.int .i64 t751, (.slice Ao39 t752.length co39), (.slice Ao40 t755.length co40)] 46 (0, 0))) ∧ Aside0 (wc.heap[gb792]? = some (.cells #[.int .i64 t784, (.slice Ao122 t785.length co122), (.slice Ao123 t788.length co123)] 46 (0, 0))) ∧ Aside0 (Below w.heap.size w wc))
          case first =>
           have H := HC101.out
           clear HC101
           replace H := Option.bind_eq_some_iff.mp H
           obtain ⟨t793, A1240, H⟩ := H
           replace H : (if t793 = true then (laws_FnExactWithoutRests.j2 kj63 t773 (t791 != t741) t751 t774 t775) else (laws_FnExactWithoutRests.j2 kj63 t773 true t751 t774 t775)) = some r := H
           have A124 := zA A1240
           clear A1240
           by_cases c125 : t793 = true
           ·subst c125
            have H1 : (laws_FnExactWithoutRests.j2 kj63 t773 (t791 != t741) t751 t774 t775) = some r := by rw [if_pos rfl] at H; exact H
            clear H
            have H := H1
            clear H1
            have H' := zA H
            clear H
            have hnb126 := NB792_725.out; have hnc126 := NB725_792.out; have hnb127 := NB792_742.out; have hnc127 := NB742_792.out; have hnb128 := NB792_750.out; have hnc128 := NB750_792.out; have hnb129 := NB792_759.out; have hnc129 := NB759_792.out
            have hcz130_0 := bc BK792 0
            have hcz130_1 := bc BK792 1
            have hcz130_2 := bc BK792 2
            have hfz130_0 := bf BK792 0
            have hfz130_1 := bf BK792 1
            have hfz130_2 := bf BK792 2
            have hnb131 := NB742_725.out; have hnc131 := NB725_742.out; have hnb132 := NB742_750.out; have hnc132 := NB750_742.out; have hnb133 := NB742_759.out; have hnc133 := NB759_742.out
            have hcz134_0 := bc BK742 0
            have hcz134_1 := bc BK742 1
            have hcz134_2 := bc BK742 2
            have hfz134_0 := bf BK742 0
            have hfz134_1 := bf BK742 1
            have hfz134_2 := bf BK742 2
            go_wp2_with (first | ((with_reducible refine gate_callee (f := 33) rfl ?_); refine gL (some 81) Try.func33 #[.agg #[.int .i64 t784, .slice Ao122 t785.length co122, .slice Ao123 t788.length co123], .agg #[.int .i64 t734, .slice Ao23 t735.length co23, .slice Ao24 t738.length co24]] ?_; (with_reducible refine (laws_eqRule.calls kj63 t784 _ _ t785 _ _ t788 t734 _ _ t735 _ _ t738 true _ ?side1 ?side2 ?side3 ?side4 ?side5 ?side6 ?side7 ?side8 A124.out).mono ?_); (case side1 => refine (Kd.R_reads' (e := 2) (base := w.heap.size) (ok := fun k_ => ((((((((ax k_ (.slice Ao123 t788.length co123) ∧ ax k_ (.slice Ao23 t735.length co23)) ∧ ax k_ (.slice Ao24 t738.length co24)) ∧ ax k_ (.slice Ao31 t770.length co31)) ∧ ax k_ (.slice Ao32 t771.length co32)) ∧ ax k_ (.slice Ao39 t752.length co39)) ∧ ax k_ (.slice Ao40 t755.length co40)) ∧ ax k_ (.slice Ao113 t778.length co113)) ∧ ax k_ (.slice Ao114 t781.length co114))) (n := t785.length) (c := co122) ?_).2.2; exact (uR ((rf3 HO787 BK792 (by decide) (.int .i64 t784) (.slice Ao122 t785.length co122) (.slice Ao123 t788.length co123))))); (case side2 => exact (Kd.R_reads' HO787.out).2.1); (case side3 => refine (Kd.R_reads' (e := 2) (base := w.heap.size) (ok := fun k_ => ((((((((ax k_ (.slice Ao122 t785.length co122) ∧ ax k_ (.slice Ao23 t735.length co23)) ∧ ax k_ (.slice Ao24 t738.length co24)) ∧ ax k_ (.slice Ao31 t770.length co31)) ∧ ax k_ (.slice Ao32 t771.length co32)) ∧ ax k_ (.slice Ao39 t752.length co39)) ∧ ax k_ (.slice Ao40 t755.length co40)) ∧ ax k_ (.slice Ao113 t778.length co113)) ∧ ax k_ (.slice Ao114 t781.length co114))) (n := t788.length) (c := co123) ?_).2.2; exact (uR ((rf3 HO790 BK792 (by decide) (.int .i64 t784) (.slice Ao122 t785.length co122) (.slice Ao123 t788.length co123))))); (case side4 => exact (Kd.R_reads' HO790.out).2.1); (case side5 => refine (Kd.R_reads' (e := 2) (base := w.heap.size) (ok := fun k_ => (((((ax k_ (.slice Ao24 t738.length co24) ∧ (ax k_ (.slice Ao31 t770.length co31) ∧ (ax k_ (.slice Ao32 t771.length co32) ∧ (ax k_ (.slice Ao39 t752.length co39) ∧ ax k_ (.slice Ao40 t755.length co40))))) ∧ ax k_ (.slice Ao113 t778.length co113)) ∧ ax k_ (.slice Ao114 t781.length co114)) ∧ ax k_ (.slice Ao122 t785.length co122)) ∧ ax k_ (.slice Ao123 t788.length co123))) (n := t735.length) (c := co23) ?_).2.2; exact (uR ((rf3 HO_743001 BK792 (by decide) (.int .i64 t784) (.slice Ao122 t785.length co122) (.slice Ao123 t788.length co123))))); (case side6 => exact (Kd.R_reads' HO_743001.out).2.1); (case side7 => refine (Kd.R_reads' (e := 2) (base := w.heap.size) (ok := fun k_ => (((((ax k_ (.slice Ao23 t735.length co23) ∧ (ax k_ (.slice Ao31 t770.length co31) ∧ (ax k_ (.slice Ao32 t771.length co32) ∧ (ax k_ (.slice Ao39 t752.length co39) ∧ ax k_ (.slice Ao40 t755.length co40))))) ∧ ax k_ (.slice Ao113 t778.length co113)) ∧ ax k_ (.slice Ao114 t781.length co114)) ∧ ax k_ (.slice Ao122 t785.length co122)) ∧ ax k_ (.slice Ao123 t788.length co123))) (n := t738.length) (c := co24) ?_).2.2; exact (uR ((rf3 HO_743002 BK792 (by decide) (.int .i64 t784) (.slice Ao122 t785.length co122) (.slice Ao123 t788.length co123))))); (case side8 => exact (Kd.R_reads' HO_743002.out).2.1); rintro e w135 ⟨rfl, hb⟩; refine ⟨_, rfl, ?_⟩; replace HO_743001 := zA (Kd.R_below (uR ((rf3 HO_743001 BK792 (by decide) (.int .i64 t784) (.slice Ao122 t785.length co122) (.slice Ao123 t788.length co123)))) hb); replace HO_743002 := zA (Kd.R_below (uR ((rf3 HO_743002 BK792 (by decide) (.int .i64 t784) (.slice Ao122 t785.length co122) (.slice Ao123 t788.length co123)))) hb); replace HO_751001 := zA (Kd.R_below (uR ((rf3 HO_751001 BK792 (by decide) (.int .i64 t784) (.slice Ao122 t785.length co122) (.slice Ao123 t788.length co123)))) hb); replace HO_751002 := zA (Kd.R_below (uR ((rf3 HO_751002 BK792 (by decide) (.int .i64 t784) (.slice Ao122 t785.length co122) (.slice Ao123 t788.length co123)))) hb); replace HO_760001 := zA (Kd.R_below (uR ((rf3 HO_760001 BK792 (by decide) (.int .i64 t784) (.slice Ao122 t785.length co122) (.slice Ao123 t788.length co123)))) hb); replace HO_760002 := zA (Kd.R_below (uR ((rf3 HO_760002 BK792 (by decide) (.int .i64 t784) (.slice Ao122 t785.length co122) (.slice Ao123 t788.length co123)))) hb); replace HO780 := zA (Kd.R_below (uR ((rf3 HO780 BK792 (by decide) (.int .i64 t784) (.slice Ao122 t785.length co122) (.slice Ao123 t788.length co123)))) hb); replace HO783 := zA (Kd.R_below (uR ((rf3 HO783 BK792 (by decide) (.int .i64 t784) (.slice Ao122 t785.length co122) (.slice Ao123 t788.length co123)))) hb); replace HO787 := zA (Kd.R_below (uR ((rf3 HO787 BK792 (by decide) (.int .i64 t784) (.slice Ao122 t785.length co122) (.slice Ao123 t788.length co123)))) hb); replace HO790 := zA (Kd.R_below (uR ((rf3 HO790 BK792 (by decide) (.int .i64 t784) (.slice Ao122 t785.length co122) (.slice Ao123 t788.length co123)))) hb); replace BK725 := zA (blk_below (g := gb725) (o := .cells #[.int .i64 a0_0, .slice A0_1 l0_1.length c0_1, .slice A0_2 l0_2.length c0_2] 44 (0, 0)) (by (repeat refine up1 ?_); refine blk_far ?_ NB725_792.out _; (repeat refine up1 ?_); refine blk_far ?_ NB725_792.out _; (repeat refine up1 ?_); refine blk_far ?_ NB725_792.out _; (repeat refine up1 ?_); exact BK725.out) hb); replace BK742 := zA (blk_below (g := gb742) (o := .cells #[.int .i64 t734, .slice Ao23 t735.length co23, .slice Ao24 t738.length co24] 46 (0, 0)) (by (repeat refine up1 ?_); refine blk_far ?_ NB742_792.out _; (repeat refine up1 ?_); refine blk_far ?_ NB742_792.out _; (repeat refine up1 ?_); refine blk_far ?_ NB742_792.out _; (repeat refine up1 ?_); exact BK742.out) hb); replace BK750 := zA (blk_below (g := gb750) (o := .cells #[.int .i64 t743, .slice Ao31 t770.length co31, .slice Ao32 t771.length co32] 46 (0, 0)) (by (repeat refine up1 ?_); refine blk_far ?_ NB750_792.out _; (repeat refine up1 ?_); refine blk_far ?_ NB750_792.out _; (repeat refine up1 ?_); refine blk_far ?_ NB750_792.out _; (repeat refine up1 ?_); exact BK750.out) hb); replace BK759 := zA (blk_below (g := gb759) (o := .cells #[.int .i64 t751, .slice Ao39 t752.length co39, .slice Ao40 t755.length co40] 46 (0, 0)) (by (repeat refine up1 ?_); refine blk_far ?_ NB759_792.out _; (repeat refine up1 ?_); refine blk_far ?_ NB759_792.out _; (repeat refine up1 ?_); refine blk_far ?_ NB759_792.out _; (repeat refine up1 ?_); exact BK759.out) hb); replace BK792 := zA (blk_below (g := gb792) (o := .cells #[.int .i64 t784, .slice Ao122 t785.length co122, .slice Ao123 t788.length co123] 46 (0, 0)) (by (repeat refine up1 ?_); refine blk_put (cs := #[.int .i64 t784, .slice Ao122 t785.length co122, .slice none 0 0]) ?_ 2 _ rfl; (repeat refine up1 ?_); refine blk_put (cs := #[.int .i64 t784, .slice none 0 0, .slice none 0 0]) ?_ 1 _ rfl; (repeat refine up1 ?_); refine blk_put (cs := #[.int .i64 0, .slice none 0 0, .slice none 0 0]) ?_ 0 _ rfl; (repeat refine up1 ?_); exact BK792.out) hb); replace HB := xH HB hb; (try clear hb); (try clear hb2); (try clear hk); (try clear hi)))
            go_meet
            case rel => exact ⟨_, ((t791 != t741)), (by first | rfl | (simp; done) | (simp [*]; done)), H', ⟨by have := HJ10.out; have := HJ63.out; first | omega | exact Nat.le_refl _⟩, ⟨by (try simp only [hl751001_63]); (try simp only [hl751002_63]); (with_reducible repeat (first | apply Kd.R_alloc | apply Kd.R_drewN | apply Kd.R_drew)); exact Kd.R_mono HO_743001.out (fun _ hk => ⟨hk.1.1.1.1.1, ⟨hk.1.1.1.1.2.1, ⟨hk.1.1.1.1.2.2.1, ⟨hk.1.1.1.1.2.2.2.1, ⟨hk.1.1.1.1.2.2.2.2, ⟨hk.1.2, hk.2⟩⟩⟩⟩⟩⟩)⟩, ⟨by (try simp only [hl751001_63]); (try simp only [hl751002_63]); (with_reducible repeat (first | apply Kd.R_alloc | apply Kd.R_drewN | apply Kd.R_drew)); exact Kd.R_mono HO_743002.out (fun _ hk => ⟨hk.1.1.1.1.1, ⟨hk.1.1.1.1.2.1, ⟨hk.1.1.1.1.2.2.1, ⟨hk.1.1.1.1.2.2.2.1, ⟨hk.1.1.1.1.2.2.2.2, ⟨hk.1.2, hk.2⟩⟩⟩⟩⟩⟩)⟩, ⟨by (try simp only [hl751001_63]); (try simp only [hl751002_63]); (with_reducible repeat (first | apply Kd.R_alloc | apply Kd.R_drewN | apply Kd.R_drew)); exact Kd.R_mono HO_751001.out (fun _ hk => ⟨hk.1.1.1.1.1, ⟨hk.1.1.1.1.2.1, ⟨hk.1.1.1.1.2.2.1, ⟨hk.1.1.1.1.2.2.2.1, ⟨hk.1.1.1.1.2.2.2.2, ⟨hk.1.2, hk.2⟩⟩⟩⟩⟩⟩)⟩, ⟨by (try simp only [hl751001_63]); (try simp only [hl751002_63]); (with_reducible repeat (first | apply Kd.R_alloc | apply Kd.R_drewN | apply Kd.R_drew)); exact Kd.R_mono HO_751002.out (fun _ hk => ⟨hk.1.1.1.1.1, ⟨hk.1.1.1.1.2.1, ⟨hk.1.1.1.1.2.2.1, ⟨hk.1.1.1.1.2.2.2.1, ⟨hk.1.1.1.1.2.2.2.2, ⟨hk.1.2, hk.2⟩⟩⟩⟩⟩⟩)⟩, ⟨by (try simp only [hl751001_63]); (try simp only [hl751002_63]); (with_reducible repeat (first | apply Kd.R_alloc | apply Kd.R_drewN | apply Kd.R_drew)); exact Kd.R_mono HO_760001.out (fun _ hk => ⟨hk.1.1.1.1.1, ⟨hk.1.1.1.1.2.1, ⟨hk.1.1.1.1.2.2.1, ⟨hk.1.1.1.1.2.2.2.1, ⟨hk.1.1.1.1.2.2.2.2, ⟨hk.1.2, hk.2⟩⟩⟩⟩⟩⟩)⟩, ⟨by (try simp only [hl751001_63]); (try simp only [hl751002_63]); (with_reducible repeat (first | apply Kd.R_alloc | apply Kd.R_drewN | apply Kd.R_drew)); exact Kd.R_mono HO_760002.out (fun _ hk => ⟨hk.1.1.1.1.1, ⟨hk.1.1.1.1.2.1, ⟨hk.1.1.1.1.2.2.1, ⟨hk.1.1.1.1.2.2.2.1, ⟨hk.1.1.1.1.2.2.2.2, ⟨hk.1.2, hk.2⟩⟩⟩⟩⟩⟩)⟩, ⟨by (try simp only [hl751001_63]); (try simp only [hl751002_63]); (with_reducible repeat (first | apply Kd.R_alloc | apply Kd.R_drewN | apply Kd.R_drew)); exact Kd.R_mono HO787.out (fun _ hk => ⟨hk.1.1.1.1.1.1.1.2, ⟨hk.1.1.1.1.1.1.2, ⟨hk.1.1.1.1.1.2, ⟨hk.1.1.1.1.2, ⟨hk.1.1.1.2, ⟨hk.1.1.2, hk.1.1.1.1.1.1.1.1⟩⟩⟩⟩⟩⟩)⟩, ⟨by (try simp only [hl751001_63]); (try simp only [hl751002_63]); (with_reducible repeat (first | apply Kd.R_alloc | apply Kd.R_drewN | apply Kd.R_drew)); exact Kd.R_mono HO790.out (fun _ hk => ⟨hk.1.1.1.1.1.1.1.2, ⟨hk.1.1.1.1.1.1.2, ⟨hk.1.1.1.1.1.2, ⟨hk.1.1.1.1.2, ⟨hk.1.1.1.2, ⟨hk.1.1.2, hk.1.1.1.1.1.1.1.1⟩⟩⟩⟩⟩⟩)⟩, ⟨by (try simp only [hl751001_63]); (try simp only [hl751002_63]); (repeat refine up1 ?_); exact BK725.out⟩, ⟨by (try simp only [hl751001_63]); (try simp only [hl751002_63]); (repeat refine up1 ?_); exact BK742.out⟩, ⟨by (try simp only [hl751001_63]); (try simp only [hl751002_63]); (repeat refine up1 ?_); exact BK750.out⟩, ⟨by (try simp only [hl751001_63]); (try simp only [hl751002_63]); (repeat refine up1 ?_); exact BK759.out⟩, ⟨by (try simp only [hl751001_63]); (try simp only [hl751002_63]); (repeat refine up1 ?_); exact BK792.out⟩, ⟨uH HB.out⟩⟩
           ·replace c125 := Bool.eq_false_iff.mpr c125
            subst c125
            have H1 : (laws_FnExactWithoutRests.j2 kj63 t773 true t751 t774 t775) = some r := by rw [if_neg (show ¬ (false = true) by decide)] at H; exact H
            clear H
            have H := H1
            clear H1
            have H' := zA H
            clear H
            have hnb136 := NB792_725.out; have hnc136 := NB725_792.out; have hnb137 := NB792_742.out; have hnc137 := NB742_792.out; have hnb138 := NB792_750.out; have hnc138 := NB750_792.out; have hnb139 := NB792_759.out; have hnc139 := NB759_792.out
            have hcz140_0 := bc BK792 0
            have hcz140_1 := bc BK792 1
            have hcz140_2 := bc BK792 2
            have hfz140_0 := bf BK792 0
            have hfz140_1 := bf BK792 1
            have hfz140_2 := bf BK792 2
            have hnb141 := NB742_725.out; have hnc141 := NB725_742.out; have hnb142 := NB742_750.out; have hnc142 := NB750_742.out; have hnb143 := NB742_759.out; have hnc143 := NB759_742.out
            have hcz144_0 := bc BK742 0
            have hcz144_1 := bc BK742 1
            have hcz144_2 := bc BK742 2
            have hfz144_0 := bf BK742 0
            have hfz144_1 := bf BK742 1
            have hfz144_2 := bf BK742 2
            go_wp2_with (first | ((with_reducible refine gate_callee (f := 33) rfl ?_); refine gL (some 81) Try.func33 #[.agg #[.int .i64 t784, .slice Ao122 t785.length co122, .slice Ao123 t788.length co123], .agg #[.int .i64 t734, .slice Ao23 t735.length co23, .slice Ao24 t738.length co24]] ?_; (with_reducible refine (laws_eqRule.calls kj63 t784 _ _ t785 _ _ t788 t734 _ _ t735 _ _ t738 false _ ?side1 ?side2 ?side3 ?side4 ?side5 ?side6 ?side7 ?side8 A124.out).mono ?_); (case side1 => refine (Kd.R_reads' (e := 2) (base := w.heap.size) (ok := fun k_ => ((((((((ax k_ (.slice Ao123 t788.length co123) ∧ ax k_ (.slice Ao23 t735.length co23)) ∧ ax k_ (.slice Ao24 t738.length co24)) ∧ ax k_ (.slice Ao31 t770.length co31)) ∧ ax k_ (.slice Ao32 t771.length co32)) ∧ ax k_ (.slice Ao39 t752.length co39)) ∧ ax k_ (.slice Ao40 t755.length co40)) ∧ ax k_ (.slice Ao113 t778.length co113)) ∧ ax k_ (.slice Ao114 t781.length co114))) (n := t785.length) (c := co122) ?_).2.2; exact (uR ((rf3 HO787 BK792 (by decide) (.int .i64 t784) (.slice Ao122 t785.length co122) (.slice Ao123 t788.length co123))))); (case side2 => exact (Kd.R_reads' HO787.out).2.1); (case side3 => refine (Kd.R_reads' (e := 2) (base := w.heap.size) (ok := fun k_ => ((((((((ax k_ (.slice Ao122 t785.length co122) ∧ ax k_ (.slice Ao23 t735.length co23)) ∧ ax k_ (.slice Ao24 t738.length co24)) ∧ ax k_ (.slice Ao31 t770.length co31)) ∧ ax k_ (.slice Ao32 t771.length co32)) ∧ ax k_ (.slice Ao39 t752.length co39)) ∧ ax k_ (.slice Ao40 t755.length co40)) ∧ ax k_ (.slice Ao113 t778.length co113)) ∧ ax k_ (.slice Ao114 t781.length co114))) (n := t788.length) (c := co123) ?_).2.2; exact (uR ((rf3 HO790 BK792 (by decide) (.int .i64 t784) (.slice Ao122 t785.length co122) (.slice Ao123 t788.length co123))))); (case side4 => exact (Kd.R_reads' HO790.out).2.1); (case side5 => refine (Kd.R_reads' (e := 2) (base := w.heap.size) (ok := fun k_ => (((((ax k_ (.slice Ao24 t738.length co24) ∧ (ax k_ (.slice Ao31 t770.length co31) ∧ (ax k_ (.slice Ao32 t771.length co32) ∧ (ax k_ (.slice Ao39 t752.length co39) ∧ ax k_ (.slice Ao40 t755.length co40))))) ∧ ax k_ (.slice Ao113 t778.length co113)) ∧ ax k_ (.slice Ao114 t781.length co114)) ∧ ax k_ (.slice Ao122 t785.length co122)) ∧ ax k_ (.slice Ao123 t788.length co123))) (n := t735.length) (c := co23) ?_).2.2; exact (uR ((rf3 HO_743001 BK792 (by decide) (.int .i64 t784) (.slice Ao122 t785.length co122) (.slice Ao123 t788.length co123))))); (case side6 => exact (Kd.R_reads' HO_743001.out).2.1); (case side7 => refine (Kd.R_reads' (e := 2) (base := w.heap.size) (ok := fun k_ => (((((ax k_ (.slice Ao23 t735.length co23) ∧ (ax k_ (.slice Ao31 t770.length co31) ∧ (ax k_ (.slice Ao32 t771.length co32) ∧ (ax k_ (.slice Ao39 t752.length co39) ∧ ax k_ (.slice Ao40 t755.length co40))))) ∧ ax k_ (.slice Ao113 t778.length co113)) ∧ ax k_ (.slice Ao114 t781.length co114)) ∧ ax k_ (.slice Ao122 t785.length co122)) ∧ ax k_ (.slice Ao123 t788.length co123))) (n := t738.length) (c := co24) ?_).2.2; exact (uR ((rf3 HO_743002 BK792 (by decide) (.int .i64 t784) (.slice Ao122 t785.length co122) (.slice Ao123 t788.length co123))))); (case side8 => exact (Kd.R_reads' HO_743002.out).2.1); rintro e w145 ⟨rfl, hb⟩; refine ⟨_, rfl, ?_⟩; replace HO_743001 := zA (Kd.R_below (uR ((rf3 HO_743001 BK792 (by decide) (.int .i64 t784) (.slice Ao122 t785.length co122) (.slice Ao123 t788.length co123)))) hb); replace HO_743002 := zA (Kd.R_below (uR ((rf3 HO_743002 BK792 (by decide) (.int .i64 t784) (.slice Ao122 t785.length co122) (.slice Ao123 t788.length co123)))) hb); replace HO_751001 := zA (Kd.R_below (uR ((rf3 HO_751001 BK792 (by decide) (.int .i64 t784) (.slice Ao122 t785.length co122) (.slice Ao123 t788.length co123)))) hb); replace HO_751002 := zA (Kd.R_below (uR ((rf3 HO_751002 BK792 (by decide) (.int .i64 t784) (.slice Ao122 t785.length co122) (.slice Ao123 t788.length co123)))) hb); replace HO_760001 := zA (Kd.R_below (uR ((rf3 HO_760001 BK792 (by decide) (.int .i64 t784) (.slice Ao122 t785.length co122) (.slice Ao123 t788.length co123)))) hb); replace HO_760002 := zA (Kd.R_below (uR ((rf3 HO_760002 BK792 (by decide) (.int .i64 t784) (.slice Ao122 t785.length co122) (.slice Ao123 t788.length co123)))) hb); replace HO780 := zA (Kd.R_below (uR ((rf3 HO780 BK792 (by decide) (.int .i64 t784) (.slice Ao122 t785.length co122) (.slice Ao123 t788.length co123)))) hb); replace HO783 := zA (Kd.R_below (uR ((rf3 HO783 BK792 (by decide) (.int .i64 t784) (.slice Ao122 t785.length co122) (.slice Ao123 t788.length co123)))) hb); replace HO787 := zA (Kd.R_below (uR ((rf3 HO787 BK792 (by decide) (.int .i64 t784) (.slice Ao122 t785.length co122) (.slice Ao123 t788.length co123)))) hb); replace HO790 := zA (Kd.R_below (uR ((rf3 HO790 BK792 (by decide) (.int .i64 t784) (.slice Ao122 t785.length co122) (.slice Ao123 t788.length co123)))) hb); replace BK725 := zA (blk_below (g := gb725) (o := .cells #[.int .i64 a0_0, .slice A0_1 l0_1.length c0_1, .slice A0_2 l0_2.length c0_2] 44 (0, 0)) (by (repeat refine up1 ?_); refine blk_far ?_ NB725_792.out _; (repeat refine up1 ?_); refine blk_far ?_ NB725_792.out _; (repeat refine up1 ?_); refine blk_far ?_ NB725_792.out _; (repeat refine up1 ?_); exact BK725.out) hb); replace BK742 := zA (blk_below (g := gb742) (o := .cells #[.int .i64 t734, .slice Ao23 t735.length co23, .slice Ao24 t738.length co24] 46 (0, 0)) (by (repeat refine up1 ?_); refine blk_far ?_ NB742_792.out _; (repeat refine up1 ?_); refine blk_far ?_ NB742_792.out _; (repeat refine up1 ?_); refine blk_far ?_ NB742_792.out _; (repeat refine up1 ?_); exact BK742.out) hb); replace BK750 := zA (blk_below (g := gb750) (o := .cells #[.int .i64 t743, .slice Ao31 t770.length co31, .slice Ao32 t771.length co32] 46 (0, 0)) (by (repeat refine up1 ?_); refine blk_far ?_ NB750_792.out _; (repeat refine up1 ?_); refine blk_far ?_ NB750_792.out _; (repeat refine up1 ?_); refine blk_far ?_ NB750_792.out _; (repeat refine up1 ?_); exact BK750.out) hb); replace BK759 := zA (blk_below (g := gb759) (o := .cells #[.int .i64 t751, .slice Ao39 t752.length co39, .slice Ao40 t755.length co40] 46 (0, 0)) (by (repeat refine up1 ?_); refine blk_far ?_ NB759_792.out _; (repeat refine up1 ?_); refine blk_far ?_ NB759_792.out _; (repeat refine up1 ?_); refine blk_far ?_ NB759_792.out _; (repeat refine up1 ?_); exact BK759.out) hb); replace BK792 := zA (blk_below (g := gb792) (o := .cells #[.int .i64 t784, .slice Ao122 t785.length co122, .slice Ao123 t788.length co123] 46 (0, 0)) (by (repeat refine up1 ?_); refine blk_put (cs := #[.int .i64 t784, .slice Ao122 t785.length co122, .slice none 0 0]) ?_ 2 _ rfl; (repeat refine up1 ?_); refine blk_put (cs := #[.int .i64 t784, .slice none 0 0, .slice none 0 0]) ?_ 1 _ rfl; (repeat refine up1 ?_); refine blk_put (cs := #[.int .i64 0, .slice none 0 0, .slice none 0 0]) ?_ 0 _ rfl; (repeat refine up1 ?_); exact BK792.out) hb); replace HB := xH HB hb; (try clear hb); (try clear hb2); (try clear hk); (try clear hi)))
            go_meet
            case rel => exact ⟨_, (true), (by first | rfl | (simp; done) | (simp [*]; done)), H', ⟨by have := HJ10.out; have := HJ63.out; first | omega | exact Nat.le_refl _⟩, ⟨by (try simp only [hl751001_63]); (try simp only [hl751002_63]); (with_reducible repeat (first | apply Kd.R_alloc | apply Kd.R_drewN | apply Kd.R_drew)); exact Kd.R_mono HO_743001.out (fun _ hk => ⟨hk.1.1.1.1.1, ⟨hk.1.1.1.1.2.1, ⟨hk.1.1.1.1.2.2.1, ⟨hk.1.1.1.1.2.2.2.1, ⟨hk.1.1.1.1.2.2.2.2, ⟨hk.1.2, hk.2⟩⟩⟩⟩⟩⟩)⟩, ⟨by (try simp only [hl751001_63]); (try simp only [hl751002_63]); (with_reducible repeat (first | apply Kd.R_alloc | apply Kd.R_drewN | apply Kd.R_drew)); exact Kd.R_mono HO_743002.out (fun _ hk => ⟨hk.1.1.1.1.1, ⟨hk.1.1.1.1.2.1, ⟨hk.1.1.1.1.2.2.1, ⟨hk.1.1.1.1.2.2.2.1, ⟨hk.1.1.1.1.2.2.2.2, ⟨hk.1.2, hk.2⟩⟩⟩⟩⟩⟩)⟩, ⟨by (try simp only [hl751001_63]); (try simp only [hl751002_63]); (with_reducible repeat (first | apply Kd.R_alloc | apply Kd.R_drewN | apply Kd.R_drew)); exact Kd.R_mono HO_751001.out (fun _ hk => ⟨hk.1.1.1.1.1, ⟨hk.1.1.1.1.2.1, ⟨hk.1.1.1.1.2.2.1, ⟨hk.1.1.1.1.2.2.2.1, ⟨hk.1.1.1.1.2.2.2.2, ⟨hk.1.2, hk.2⟩⟩⟩⟩⟩⟩)⟩, ⟨by (try simp only [hl751001_63]); (try simp only [hl751002_63]); (with_reducible repeat (first | apply Kd.R_alloc | apply Kd.R_drewN | apply Kd.R_drew)); exact Kd.R_mono HO_751002.out (fun _ hk => ⟨hk.1.1.1.1.1, ⟨hk.1.1.1.1.2.1, ⟨hk.1.1.1.1.2.2.1, ⟨hk.1.1.1.1.2.2.2.1, ⟨hk.1.1.1.1.2.2.2.2, ⟨hk.1.2, hk.2⟩⟩⟩⟩⟩⟩)⟩, ⟨by (try simp only [hl751001_63]); (try simp only [hl751002_63]); (with_reducible repeat (first | apply Kd.R_alloc | apply Kd.R_drewN | apply Kd.R_drew)); exact Kd.R_mono HO_760001.out (fun _ hk => ⟨hk.1.1.1.1.1, ⟨hk.1.1.1.1.2.1, ⟨hk.1.1.1.1.2.2.1, ⟨hk.1.1.1.1.2.2.2.1, ⟨hk.1.1.1.1.2.2.2.2, ⟨hk.1.2, hk.2⟩⟩⟩⟩⟩⟩)⟩, ⟨by (try simp only [hl751001_63]); (try simp only [hl751002_63]); (with_reducible repeat (first | apply Kd.R_alloc | apply Kd.R_drewN | apply Kd.R_drew)); exact Kd.R_mono HO_760002.out (fun _ hk => ⟨hk.1.1.1.1.1, ⟨hk.1.1.1.1.2.1, ⟨hk.1.1.1.1.2.2.1, ⟨hk.1.1.1.1.2.2.2.1, ⟨hk.1.1.1.1.2.2.2.2, ⟨hk.1.2, hk.2⟩⟩⟩⟩⟩⟩)⟩, ⟨by (try simp only [hl751001_63]); (try simp only [hl751002_63]); (with_reducible repeat (first | apply Kd.R_alloc | apply Kd.R_drewN | apply Kd.R_drew)); exact Kd.R_mono HO787.out (fun _ hk => ⟨hk.1.1.1.1.1.1.1.2, ⟨hk.1.1.1.1.1.1.2, ⟨hk.1.1.1.1.1.2, ⟨hk.1.1.1.1.2, ⟨hk.1.1.1.2, ⟨hk.1.1.2, hk.1.1.1.1.1.1.1.1⟩⟩⟩⟩⟩⟩)⟩, ⟨by (try simp only [hl751001_63]); (try simp only [hl751002_63]); (with_reducible repeat (first | apply Kd.R_alloc | apply Kd.R_drewN | apply Kd.R_drew)); exact Kd.R_mono HO790.out (fun _ hk => ⟨hk.1.1.1.1.1.1.1.2, ⟨hk.1.1.1.1.1.1.2, ⟨hk.1.1.1.1.1.2, ⟨hk.1.1.1.1.2, ⟨hk.1.1.1.2, ⟨hk.1.1.2, hk.1.1.1.1.1.1.1.1⟩⟩⟩⟩⟩⟩)⟩, ⟨by (try simp only [hl751001_63]); (try simp only [hl751002_63]); (repeat refine up1 ?_); exact BK725.out⟩, ⟨by (try simp only [hl751001_63]); (try simp only [hl751002_63]); (repeat refine up1 ?_); exact BK742.out⟩, ⟨by (try simp only [hl751001_63]); (try simp only [hl751002_63]); (repeat refine up1 ?_); exact BK750.out⟩, ⟨by (try simp only [hl751001_63]); (try simp only [hl751002_63]); (repeat refine up1 ?_); exact BK759.out⟩, ⟨by (try simp only [hl751001_63]); (try simp only [hl751002_63]); (repeat refine up1 ?_); exact BK792.out⟩, ⟨uH HB.out⟩⟩
          case rest =>
           clear HC101
           (try clear c1);(try clear c2);(try clear p2);(try clear c3);(try clear c3b0);(try clear c4);(try clear c5);(try clear c6);(try clear c7);(try clear c8);(try clear c9);(try clear c10);(try clear c11);(try clear c12);(try clear c13);(try clear c14);(try clear c21);(try clear c28);(try clear c29);(try clear c30);(try clear c31);(try clear c32);(try clear c33);(try clear c34);(try clear c35)
           (try clear c36);(try clear c37);(try clear c42);(try clear c43);(try clear c44);(try clear c45);(try clear c47);(try clear c48);(try clear c51);(try clear c52);(try clear c53);(try clear c55);(try clear c56);(try clear c59);(try clear c62);(try clear c70);(try clear c71);(try clear c72);(try clear c75);(try clear c75b0);(try clear c77);(try clear c78);(try clear c79);(try clear c80);(try clear c82)
           (try clear c83);(try clear c86);(try clear c87);(try clear c88);(try clear c90);(try clear c91);(try clear c94);(try clear c97);(try clear c97b0);(try clear c98);(try clear c98b0);(try clear c98b1);(try clear c102);(try clear c103);(try clear c104);(try clear c109);(try clear c110);(try clear c117);(try clear c118);(try clear c119);(try clear c120);(try clear c125);(try clear c126);(try clear c127)
           (try clear c128);(try clear c129);(try clear c131);(try clear c132);(try clear c133);(try clear c136);(try clear c137);(try clear c138);(try clear c139);(try clear c141);(try clear c142);(try clear c143);(try clear hcz105_0);(try clear hcz105_1);(try clear hcz105_2);(try clear hcz107_0);(try clear hcz107_1);(try clear hcz107_2);(try clear hcz111_0);(try clear hcz111_1);(try clear hcz111_2)
           (try clear hcz121_0);(try clear hcz121_1);(try clear hcz121_2);(try clear hcz130_0);(try clear hcz130_1);(try clear hcz130_2);(try clear hcz134_0);(try clear hcz134_1);(try clear hcz134_2);(try clear hcz13_0);(try clear hcz13_1);(try clear hcz13_2);(try clear hcz140_0);(try clear hcz140_1);(try clear hcz140_2);(try clear hcz144_0);(try clear hcz144_1);(try clear hcz144_2);(try clear hcz15_0)
           (try clear hcz15_1);(try clear hcz15_2);(try clear hcz22_0);(try clear hcz22_1);(try clear hcz22_2);(try clear hcz25_0);(try clear hcz25_1);(try clear hcz25_2);(try clear hcz30_0);(try clear hcz30_1);(try clear hcz30_2);(try clear hcz38_0);(try clear hcz38_1);(try clear hcz38_2);(try clear hcz46_0);(try clear hcz46_1);(try clear hcz46_2);(try clear hcz49_0);(try clear hcz49_1);(try clear hcz49_2)
           (try clear hcz54_0);(try clear hcz54_1);(try clear hcz54_2);(try clear hcz57_0);(try clear hcz57_1);(try clear hcz57_2);(try clear hcz5_0);(try clear hcz5_1);(try clear hcz5_2);(try clear hcz73_0);(try clear hcz73_1);(try clear hcz73_2);(try clear hcz81_0);(try clear hcz81_1);(try clear hcz81_2);(try clear hcz84_0);(try clear hcz84_1);(try clear hcz84_2);(try clear hcz89_0);(try clear hcz89_1)
           (try clear hcz89_2);(try clear hcz92_0);(try clear hcz92_1);(try clear hcz92_2);(try clear hfz105_0);(try clear hfz105_1);(try clear hfz105_2);(try clear hfz107_0);(try clear hfz107_1);(try clear hfz107_2);(try clear hfz111_0);(try clear hfz111_1);(try clear hfz111_2);(try clear hfz121_0);(try clear hfz121_1);(try clear hfz121_2);(try clear hfz130_0);(try clear hfz130_1);(try clear hfz130_2)
           (try clear hfz134_0);(try clear hfz134_1);(try clear hfz134_2);(try clear hfz13_0);(try clear hfz13_1);(try clear hfz13_2);(try clear hfz140_0);(try clear hfz140_1);(try clear hfz140_2);(try clear hfz144_0);(try clear hfz144_1);(try clear hfz144_2);(try clear hfz15_0);(try clear hfz15_1);(try clear hfz15_2);(try clear hfz22_0);(try clear hfz22_1);(try clear hfz22_2);(try clear hfz25_0);(try clear hfz25_1)
           (try clear hfz25_2);(try clear hfz30_0);(try clear hfz30_1);(try clear hfz30_2);(try clear hfz38_0);(try clear hfz38_1);(try clear hfz38_2);(try clear hfz46_0);(try clear hfz46_1);(try clear hfz46_2);(try clear hfz49_0);(try clear hfz49_1);(try clear hfz49_2);(try clear hfz54_0);(try clear hfz54_1);(try clear hfz54_2);(try clear hfz57_0);(try clear hfz57_1);(try clear hfz57_2);(try clear hfz5_0)
           (try clear hfz5_1);(try clear hfz5_2);(try clear hfz73_0);(try clear hfz73_1);(try clear hfz73_2);(try clear hfz81_0);(try clear hfz81_1);(try clear hfz81_2);(try clear hfz84_0);(try clear hfz84_1);(try clear hfz84_2);(try clear hfz89_0);(try clear hfz89_1);(try clear hfz89_2);(try clear hfz92_0);(try clear hfz92_1);(try clear hfz92_2);(try clear p2)
           obtain ⟨kq, x87_100, rfl, HA, HJ100, HO_743001, HO_743002, HO_751001, HO_751002, HO_760001, HO_760002, HO_793001, HO_793002, BK725, BK742, BK750, BK759, BK792, HB⟩ := hcut
           have hl760001_100 := (Kd.R_reads' HO_760001.out).1
           rw [hl760001_100] at HO_760001
           (try simp only [hl760001_100])
           (try simp only [hl760001_100] at BK725)
           (try simp only [hl760001_100] at BK742)
           (try simp only [hl760001_100] at BK750)
           (try simp only [hl760001_100] at BK759)
           (try simp only [hl760001_100] at BK792)
           (try simp only [hl760001_100] at HO_743001)
           (try simp only [hl760001_100] at HO_743002)
           (try simp only [hl760001_100] at HO_751001)
           (try simp only [hl760001_100] at HO_751002)
           (try simp only [hl760001_100] at HO_760002)
           (try simp only [hl760001_100] at HO_793001)
           (try simp only [hl760001_100] at HO_793002)
           have hl760002_100 := (Kd.R_reads' HO_760002.out).1
           rw [hl760002_100] at HO_760002
           (try simp only [hl760002_100])
           (try simp only [hl760002_100] at BK725)
           (try simp only [hl760002_100] at BK742)
           (try simp only [hl760002_100] at BK750)
           (try simp only [hl760002_100] at BK759)
           (try simp only [hl760002_100] at BK792)
           (try simp only [hl760002_100] at HO_743001)
           (try simp only [hl760002_100] at HO_743002)
           (try simp only [hl760002_100] at HO_751001)
           (try simp only [hl760002_100] at HO_751002)
           (try simp only [hl760002_100] at HO_760001)
           (try simp only [hl760002_100] at HO_793001)
           (try simp only [hl760002_100] at HO_793002)
           cases kq with
           | zero => exact absurd HA.out (by simp [laws_FnExactWithoutRests.j2])
           | succ kj100 =>
            have H := HA.out
            clear HA
            simp only [laws_FnExactWithoutRests.j2] at H
            by_cases c146 : x87_100 = true
            ·subst c146
             have H1 : (some false) = some r := by rw [if_pos rfl] at H; exact H
             clear H
             have H := H1
             clear H1
             rw [HRT.out] at H
             exact absurd H (by simp)
            ·replace c146 := Bool.eq_false_iff.mpr c146
             subst c146
             have H1 : ((laws_heldRule.f kj100 t751 t774 t775 1).bind fun t794 => (if t794 < 0 then (some false) else (if t794 = t773 then (some true) else (some false)))) = some r := by rw [if_neg (show ¬ (false = true) by decide)] at H; exact H
             clear H
             have H := H1
             clear H1
             replace H := Option.bind_eq_some_iff.mp H
             obtain ⟨t794, A1470, H⟩ := H
             replace H : (if t794 < 0 then (some false) else (if t794 = t773 then (some true) else (some false))) = some r := H
             have A147 := zA A1470
             clear A1470
             by_cases c148 : t794 < 0
             rotate_left
             ·rw [if_neg c148] at H
              have c148b0 : decide (t794 < 0) = false := decide_eq_false c148
              clear c148
              by_cases c149 : t794 = t773
              rotate_left
              ·rw [if_neg c149] at H
               have c149b0 : (t794 == t773) = false := beq_eq_false_iff_ne.mpr c149
               have c149b1 : (t794 != t773) = true := bne_iff_ne.mpr c149
               rw [HRT.out] at H
               exact absurd H (by simp)
              rw [if_pos c149] at H
              have c149b0 : (t794 == t773) = true := beq_iff_eq.mpr c149
              have c149b1 : (t794 != t773) = false := bne_eq_false_iff_eq.mpr c149
              clear c149
              obtain rfl := Option.some.inj H
              have hnb150 := NB759_725.out; have hnc150 := NB725_759.out; have hnb151 := NB759_742.out; have hnc151 := NB742_759.out; have hnb152 := NB759_750.out; have hnc152 := NB750_759.out; have hnb153 := NB759_792.out; have hnc153 := NB792_759.out
              have hcz154_0 := bc BK759 0
              have hcz154_1 := bc BK759 1
              have hcz154_2 := bc BK759 2
              have hfz154_0 := bf BK759 0
              have hfz154_1 := bf BK759 1
              have hfz154_2 := bf BK759 2
              go_wp2_with (first | ((with_reducible refine gate_callee (f := 35) rfl ?_); refine gL (some 90) Try.func35 #[.agg #[.int .i64 t751, .slice Ao39 t774.length co39, .slice Ao40 t775.length co40], .int .i64 1] ?_; (with_reducible refine (laws_heldRule.calls kj100 t751 _ _ t774 _ _ t775 1 t794 _ ?side1 ?side2 ?side3 ?side4 A147.out).mono ?_); (case side1 => exact uC ((Kd.R_reads' HO_760001.out).2.2)); (case side2 => exact (Kd.R_reads' HO_760001.out).2.1); (case side3 => exact uC ((Kd.R_reads' HO_760002.out).2.2)); (case side4 => exact (Kd.R_reads' HO_760002.out).2.1); rintro e w155 ⟨rfl, hb⟩; refine ⟨_, rfl, ?_⟩; replace HO_743001 := xR HO_743001 hb; replace HO_743002 := xR HO_743002 hb; replace HO_751001 := xR HO_751001 hb; replace HO_751002 := xR HO_751002 hb; replace HO_760001 := xR HO_760001 hb; replace HO_760002 := xR HO_760002 hb; replace HO_793001 := xR HO_793001 hb; replace HO_793002 := xR HO_793002 hb; replace BK725 := xB BK725 hb; replace BK742 := xB BK742 hb; replace BK750 := xB BK750 hb; replace BK759 := xB BK759 hb; replace BK792 := xB BK792 hb; replace HB := xH HB hb; (try clear hb); (try clear hb2); (try clear hk); (try clear hi)))
              go_ret
              exact ⟨by first | rfl | (simp [errW_none, errW_some] <;> rfl) | (simp [*, errW_none, errW_some] <;> rfl), uH HB.out⟩
             rw [if_pos c148] at H
             have c148b0 : decide (t794 < 0) = true := decide_eq_true c148
             clear c148
             rw [HRT.out] at H
             exact absurd H (by simp)
         rw [if_pos c97] at H
         have c97b0 : decide (t776 < 0) = true := decide_eq_true c97
         clear c97
         rw [HRT.out] at H
         exact absurd H (by simp)
     ·replace c62 := Bool.eq_false_iff.mpr c62
      subst c62
      have H1 : (some false) = some r := by rw [if_neg (show ¬ (false = true) by decide)] at H; exact H
      clear H
      have H := H1
      clear H1
      rw [HRT.out] at H
      exact absurd H (by simp)

 rw [if_pos c3] at H
 have c3b0 : decide (t726 < 0) = true := decide_eq_true c3
 clear c3
 obtain rfl := Option.some.inj H
 go_enter Try.func7, Try.ntmps7
 go_wp2_with (first | ((with_reducible refine gate_dst (N := 1) rfl ?_); refine bx 1 #[.int .i64 a0_0, .slice A0_1 l0_1.length c0_1, .slice A0_2 l0_2.length c0_2] 44 ?_; intro gb725 hg w4 hbox hb; have BK725 := zA (hbox); have GW725 := gq HB hg; have GE725 := gq HB hg; replace HB := xH HB hb; have := geI GE725; clear hb hbox hg; have hcz5_0 := bc BK725 0; have hcz5_1 := bc BK725 1; have hcz5_2 := bc BK725 2; have hfz5_0 := bf BK725 0; have hfz5_1 := bf BK725 1; have hfz5_2 := bf BK725 2) | ((with_reducible refine gate_callee (f := 29) rfl ?_); refine gL (some 16) Try.func29 #[.agg #[.int .i64 a0_0, .slice A0_1 l0_1.length c0_1, .slice A0_2 l0_2.length c0_2], .int .i64 1048576] ?_; (with_reducible refine (laws_szRule.calls a0_0 _ _ l0_1 _ _ l0_2 1048576 t726 _ ?side1 ?side2 ?side3 ?side4 A2.out).mono ?_); (case side1 => exact uC ((Kd.C_below HR0_1.out HB.out))); (case side2 => exact HC0_1.out); (case side3 => exact uC ((Kd.C_below HR0_2.out HB.out))); (case side4 => exact HC0_2.out); rintro e w6 ⟨rfl, hb⟩; refine ⟨_, rfl, ?_⟩; replace BK725 := xB BK725 hb; replace HB := xH HB hb; (try clear hb); (try clear hb2); (try clear hk); (try clear hi)))
 go_ret
 exact ⟨by first | rfl | (simp [errW_none, errW_some] <;> rfl) | (simp [*, errW_none, errW_some] <;> rfl), uH HB.out⟩
/-- THE ONE PURE STATEMENT of laws_FnExactWithoutRests: yours. -/
def laws_FnExactWithoutRests.Pure : Prop := ∀ (a0_0 : Int) (l0_1 : List Int) (l0_2 : List Int), (Lit.int .i64 a0_0).wf = true → l0_1.length ≤ maxLen → (∀ x ∈ l0_1, (Lit.int .i64 x).wf = true) → l0_2.length ≤ maxLen → (∀ x ∈ l0_2, (Lit.int .i64 x).wf = true) → ∃ k, laws_FnExactWithoutRests.f k a0_0 l0_1 l0_2 = some true
theorem laws_FnExactWithoutRests.walk (P : laws_FnExactWithoutRests.Pure) (a0_0 : Int) (a0_1 : Option Addr) (len0_1 cap0_1 : Nat) (z0_1 : List Int) (a0_2 : Option Addr) (len0_2 cap0_2 : Nat) (z0_2 : List Int) (w : World) (w0_0 : (Lit.int .i64 a0_0).wf = true) (w0_1 : (a0_1 = none ∧ len0_1 = 0 ∧ cap0_1 = 0 ∧ z0_1 = []) ∨ ∃ x, a0_1 = some x ∧ len0_1 ≤ cap0_1 ∧ cap0_1 ≤ maxLen ∧ z0_1.length = cap0_1 ∧ (∀ i, i < z0_1.length → w.cell? (x.add i) = some (.int .i64 (z0_1.getD i 0))) ∧ ∀ n ∈ z0_1, (Lit.int .i64 n).wf = true) (w0_2 : (a0_2 = none ∧ len0_2 = 0 ∧ cap0_2 = 0 ∧ z0_2 = []) ∨ ∃ x, a0_2 = some x ∧ len0_2 ≤ cap0_2 ∧ cap0_2 ≤ maxLen ∧ z0_2.length = cap0_2 ∧ (∀ i, i < z0_2.length → w.cell? (x.add i) = some (.int .i64 (z0_2.getD i 0))) ∧ ∀ n ∈ z0_2, (Lit.int .i64 n).wf = true) :
  Calls Try.prog 7 #[.agg #[.int .i64 a0_0, .slice a0_1 len0_1 cap0_1, .slice a0_2 len0_2 cap0_2]] w fun e w' => e = .returned (.bool true) ∧ Below w.heap.size w w' := by
 obtain ⟨l0_1, rfl, hr0_1, hm0_1, hw0_1, hc0_1⟩ := ReadsInt.ofRowC w0_1
 obtain ⟨l0_2, rfl, hr0_2, hm0_2, hw0_2, hc0_2⟩ := ReadsInt.ofRowC w0_2
 obtain ⟨k, h⟩ := P a0_0 l0_1 l0_2 w0_0 hm0_1 hw0_1 hm0_2 hw0_2
 refine (laws_FnExactWithoutRests.calls k a0_0 _ _ l0_1 _ _ l0_2 true rfl w (Kd.C_of_reads (d := (0 : Int)) (h1 := fun _ => rfl) hr0_1) hc0_1 (Kd.C_of_reads (d := (0 : Int)) (h1 := fun _ => rfl) hr0_2) hc0_2 h).mono ?_
 rintro e w' ⟨rfl, hd⟩
 exact ⟨rfl, hd⟩

end Go.Proofs.Ytijkfbnjcebfaaa.Pr
