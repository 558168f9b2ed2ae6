/- Printed by a program of this session out of the translation: what these functions of the program compute, under the conditions that each theorem names. -/
import Derived.Test.YtokkabgkjhpecaaKC01
import Derived.Test.YtokkabgkjhpecaaKC04
import Derived.Test.YtokkabgkjhpecaaKRadauJacobi1
import Derived.Test.YtokkabgkjhpecaaKC06
namespace Go.Proofs.Ytokkabgkjhpecaa.Pr
open Go.RowKit Go.Proofs.YtokkabgkjhpecaaW.PrintWords Go.Proofs.YtokkabgkjhpecaaW.PrintLast Go.Proofs.YtokkabgkjhpecaaW.PrintMore
attribute [local go_sem] max2_int min2_int max_two min_two max_three min_three max_four min_four   -- for this text's walks alone
set_option linter.unusedVariables false
set_option linter.unusedSimpArgs false

/-! ### spec_RadauJacobi: function 34 -/
def spec_RadauJacobi.f (k : Nat) (a0_0 : Int) (l0_1 : List Int) (l0_2 : List Int) (a1 : Int) : Option (Int × List Int × List Int × Int) := (spec_l03Is.f k a0_0 l0_1 l0_2).bind fun t745 => (if t745 = true then ((spec_l01In.f a1 0 (wrap64 (a0_0 - 1))).bind fun t746 => (if t746 = true then ((spec_l03Cut.f a0_0 l0_1 l0_2 (l0_1.length : Int)).bind fun bt747 => (if (l0_1.length : Int) = 1 then (if 0 < (bt747.2.1.length : Int) then (some (bt747.1, (bt747.2.1.set (0 : Int).toNat a1), bt747.2.2, 0)) else (none)) else ((spec_l03Poly.f k a0_0 l0_1 l0_2 (wrap64 ((l0_1.length : Int) - 1))).bind fun t756 => ((spec_l01At.f k a0_0 t756 a1).bind fun t759 => (if t759 = 0 then (some (0, ([] : List Int), ([] : List Int), 5)) else (if 0 ≤ (wrap64 ((l0_1.length : Int) - 1)) then (if (wrap64 ((l0_1.length : Int) - 1)) < (l0_2.length : Int) then ((spec_l03Poly.f k a0_0 l0_1 l0_2 (wrap64 ((l0_1.length : Int) - 2))).bind fun t761 => ((spec_l01At.f k a0_0 t761 a1).bind fun t764 => (if a0_0 = 0 then (none) else ((spec_l01Inverse.f k a0_0 t759).bind fun t765 => ((spec_l01Mod.f a0_0 (wrap64 (a1 - (wrap64 ((Int.tmod (wrap64 ((rd l0_2 (wrap64 ((l0_1.length : Int) - 1))) * t764)) a0_0) * t765))))).bind fun t766 => (if (wrap64 ((l0_1.length : Int) - 1)) < (bt747.2.1.length : Int) then (some (bt747.1, (bt747.2.1.set ((wrap64 ((l0_1.length : Int) - 1)) : Int).toNat t766), bt747.2.2, 0)) else (none))))))) else (none)) else (none))))))) else (some (0, ([] : List Int), ([] : List Int), 2)))) else (some (0, ([] : List Int), ([] : List Int), 1)))
theorem spec_RadauJacobi.mono : ∀ a0 a1 a2 a3 k, LeO (spec_RadauJacobi.f k a0 a1 a2 a3) (spec_RadauJacobi.f (k + 1) a0 a1 a2 a3) := by
 intro a0 a1 a2 a3 k
 unfold spec_RadauJacobi.f
 repeat' first
   | (with_reducible exact spec_l01At.mono _ _ _ _)
   | (with_reducible exact spec_l01Inverse.mono _ _ _)
   | (with_reducible exact spec_l03Is.mono _ _ _ _)
   | (with_reducible exact spec_l03Poly.mono _ _ _ _ _)
   | (with_reducible exact LeO.refl _)
   | (with_reducible exact LeO.none _)
   | (with_reducible refine LeO.ite ?_ ?_)
   | (with_reducible refine LeO.bind ?_ (fun _ => ?_))
   | exact spec_l01At.mono _ _ _ _
   | exact spec_l01Inverse.mono _ _ _
   | exact spec_l03Is.mono _ _ _ _
   | exact spec_l03Poly.mono _ _ _ _ _
   | exact LeO.none _
   | refine LeO.ite ?_ ?_
   | refine LeO.bind ?_ (fun _ => ?_)
def spec_RadauJacobi.T13 : Bool × List (List Nat × List Nat) := (true, [([], []), ([0], [0]), ([], []), ([2], [2]), ([], []), ([], []), ([], []), ([6], [6]), ([], []), ([8], [8]), ([7, 9], [7, 9]), ([10], [10]), ([], []), ([], []), ([], []), ([14], [14]), ([13, 15], [13, 15]), ([], []), ([12, 16, 17, 16], [12, 16, 17]), ([11, 18], [11, 18]), ([], []), ([19, 20], [19, 20]), ([], []), ([], []), ([22, 23, 18], [22, 23]), ([21, 24], [21, 24]), ([5, 25], [5, 25]), ([4, 26, 24], [4, 26]), ([1, 3, 0, 1, 2, 3, 4, 5, 6, 7, 8, 9, 10, 11, 12, 13, 14, 15, 16, 17, 18, 19, 20, 21, 22, 23, 24, 25, 26, 27], [1, 3]), ([28, 27, 27, 0, 1, 2, 3, 4, 5, 6, 7, 8, 9, 10, 11, 12, 13, 14, 15, 16, 17, 18, 19, 20, 21, 22, 23, 24, 25, 26, 27], [27, 28])])
def spec_RadauJacobi.B13 : List Nat := [0, 1, 0, 4, 0, 0, 0, 64, 0, 256, 960, 1984, 0, 0, 0, 16384, 57344, 0, 258048, 524224, 0, 2097088, 0, 0, 13103104, 33554368, 67108832, 134217712, 268435455, 536870911]
theorem spec_RadauJacobi.tab13 : rtab .any (opsOf Try.f34 13) = spec_RadauJacobi.T13 := by kernel_rfl
theorem spec_RadauJacobi.bits13 : waitsOk spec_RadauJacobi.T13.2 spec_RadauJacobi.B13 = true := by kernel_rfl
set_option maxHeartbeats 8000000 in
set_option maxRecDepth 100000 in
theorem spec_RadauJacobi.calls (k : Nat) (a0_0 : Int) (A0_1 : Option Addr) (c0_1 : Nat) (l0_1 : List Int) (A0_2 : Option Addr) (c0_2 : Nat) (l0_2 : List Int) (a1 : Int) (r1 : Int) (r2 : List Int) (r3 : List Int) (r4 : Int) (w : World) (hr0_1 : Kd.C (Kd.int .i64) w A0_1 l0_1.length l0_1) (hc0_1 : l0_1.length ≤ c0_1) (hr0_2 : Kd.C (Kd.int .i64) w A0_2 l0_2.length l0_2) (hc0_2 : l0_2.length ≤ c0_2) (h : spec_RadauJacobi.f k a0_0 l0_1 l0_2 a1 = some (r1, r2, r3, r4)) :
  Calls Try.prog 34 #[.agg #[.int .i64 a0_0, .slice A0_1 l0_1.length c0_1, .slice A0_2 l0_2.length c0_2], .int .i64 a1] w fun e w' => ∃ v1_ v2_ : Value, e = .returned (.tuple #[.agg #[.int .i64 r1, v1_, v2_], .int .i64 r4]) ∧ Kd.R (Kd.int .i64) 2 w' w.heap.size (fun k_ => some k_ ≠ (v2_ : Value).ownBlock) v1_ r2 ∧ Kd.R (Kd.int .i64) 2 w' w.heap.size (fun k_ => some k_ ≠ (v1_ : Value).ownBlock) v2_ r3 ∧ Below w.heap.size w w' := by
 have hu46 := Try.underlying46
 have HR0_1 := zA hr0_1
 have HC0_1 := zA hc0_1
 clear hr0_1 hc0_1
 have HR0_2 := zA hr0_2
 have HC0_2 := zA hc0_2
 clear hr0_2 hc0_2
 have HB := zA (Below.refl w.heap.size w)
 have H : ((spec_l03Is.f k a0_0 l0_1 l0_2).bind fun t745 => (if t745 = true then ((spec_l01In.f a1 0 (wrap64 (a0_0 - 1))).bind fun t746 => (if t746 = true then ((spec_l03Cut.f a0_0 l0_1 l0_2 (l0_1.length : Int)).bind fun bt747 => (if (l0_1.length : Int) = 1 then (if 0 < (bt747.2.1.length : Int) then (some (bt747.1, (bt747.2.1.set (0 : Int).toNat a1), bt747.2.2, 0)) else (none)) else ((spec_l03Poly.f k a0_0 l0_1 l0_2 (wrap64 ((l0_1.length : Int) - 1))).bind fun t756 => ((spec_l01At.f k a0_0 t756 a1).bind fun t759 => (if t759 = 0 then (some (0, ([] : List Int), ([] : List Int), 5)) else (if 0 ≤ (wrap64 ((l0_1.length : Int) - 1)) then (if (wrap64 ((l0_1.length : Int) - 1)) < (l0_2.length : Int) then ((spec_l03Poly.f k a0_0 l0_1 l0_2 (wrap64 ((l0_1.length : Int) - 2))).bind fun t761 => ((spec_l01At.f k a0_0 t761 a1).bind fun t764 => (if a0_0 = 0 then (none) else ((spec_l01Inverse.f k a0_0 t759).bind fun t765 => ((spec_l01Mod.f a0_0 (wrap64 (a1 - (wrap64 ((Int.tmod (wrap64 ((rd l0_2 (wrap64 ((l0_1.length : Int) - 1))) * t764)) a0_0) * t765))))).bind fun t766 => (if (wrap64 ((l0_1.length : Int) - 1)) < (bt747.2.1.length : Int) then (some (bt747.1, (bt747.2.1.set ((wrap64 ((l0_1.length : Int) - 1)) : Int).toNat t766), bt747.2.2, 0)) else (none))))))) else (none)) else (none))))))) else (some (0, ([] : List Int), ([] : List Int), 2)))) else (some (0, ([] : List Int), ([] : List Int), 1)))) = some (r1, r2, r3, r4) := h
 clear h
 replace H := Option.bind_eq_some_iff.mp H
 obtain ⟨t745, A30, H⟩ := H
 replace H : (if t745 = true then ((spec_l01In.f a1 0 (wrap64 (a0_0 - 1))).bind fun t746 => (if t746 = true then ((spec_l03Cut.f a0_0 l0_1 l0_2 (l0_1.length : Int)).bind fun bt747 => (if (l0_1.length : Int) = 1 then (if 0 < (bt747.2.1.length : Int) then (some (bt747.1, (bt747.2.1.set (0 : Int).toNat a1), bt747.2.2, 0)) else (none)) else ((spec_l03Poly.f k a0_0 l0_1 l0_2 (wrap64 ((l0_1.length : Int) - 1))).bind fun t756 => ((spec_l01At.f k a0_0 t756 a1).bind fun t759 => (if t759 = 0 then (some (0, ([] : List Int), ([] : List Int), 5)) else (if 0 ≤ (wrap64 ((l0_1.length : Int) - 1)) then (if (wrap64 ((l0_1.length : Int) - 1)) < (l0_2.length : Int) then ((spec_l03Poly.f k a0_0 l0_1 l0_2 (wrap64 ((l0_1.length : Int) - 2))).bind fun t761 => ((spec_l01At.f k a0_0 t761 a1).bind fun t764 => (if a0_0 = 0 then (none) else ((spec_l01Inverse.f k a0_0 t759).bind fun t765 => ((spec_l01Mod.f a0_0 (wrap64 (a1 - (wrap64 ((Int.tmod (wrap64 ((rd l0_2 (wrap64 ((l0_1.length : Int) - 1))) * t764)) a0_0) * t765))))).bind fun t766 => (if (wrap64 ((l0_1.length : Int) - 1)) < (bt747.2.1.length : Int) then (some (bt747.1, (bt747.2.1.set ((wrap64 ((l0_1.length : Int) - 1)) : Int).toNat t766), bt747.2.2, 0)) else (none))))))) else (none)) else (none))))))) else (some (0, ([] : List Int), ([] : List Int), 2)))) else (some (0, ([] : List Int), ([] : List Int), 1))) = some (r1, r2, r3, r4) := H
 have A3 := zA A30
 clear A30
 by_cases c4 : t745 = true
 ·subst c4
  have H1 : ((spec_l01In.f a1 0 (wrap64 (a0_0 - 1))).bind fun t746 => (if t746 = true then ((spec_l03Cut.f a0_0 l0_1 l0_2 (l0_1.length : Int)).bind fun bt747 => (if (l0_1.length : Int) = 1 then (if 0 < (bt747.2.1.length : Int) then (some (bt747.1, (bt747.2.1.set (0 : Int).toNat a1), bt747.2.2, 0)) else (none)) else ((spec_l03Poly.f k a0_0 l0_1 l0_2 (wrap64 ((l0_1.length : Int) - 1))).bind fun t756 => ((spec_l01At.f k a0_0 t756 a1).bind fun t759 => (if t759 = 0 then (some (0, ([] : List Int), ([] : List Int), 5)) else (if 0 ≤ (wrap64 ((l0_1.length : Int) - 1)) then (if (wrap64 ((l0_1.length : Int) - 1)) < (l0_2.length : Int) then ((spec_l03Poly.f k a0_0 l0_1 l0_2 (wrap64 ((l0_1.length : Int) - 2))).bind fun t761 => ((spec_l01At.f k a0_0 t761 a1).bind fun t764 => (if a0_0 = 0 then (none) else ((spec_l01Inverse.f k a0_0 t759).bind fun t765 => ((spec_l01Mod.f a0_0 (wrap64 (a1 - (wrap64 ((Int.tmod (wrap64 ((rd l0_2 (wrap64 ((l0_1.length : Int) - 1))) * t764)) a0_0) * t765))))).bind fun t766 => (if (wrap64 ((l0_1.length : Int) - 1)) < (bt747.2.1.length : Int) then (some (bt747.1, (bt747.2.1.set ((wrap64 ((l0_1.length : Int) - 1)) : Int).toNat t766), bt747.2.2, 0)) else (none))))))) else (none)) else (none))))))) else (some (0, ([] : List Int), ([] : List Int), 2)))) = some (r1, r2, r3, r4) := by rw [if_pos rfl] at H; exact H
  clear H
  have H := H1
  clear H1
  replace H := Option.bind_eq_some_iff.mp H
  obtain ⟨t746, A50, H⟩ := H
  replace H : (if t746 = true then ((spec_l03Cut.f a0_0 l0_1 l0_2 (l0_1.length : Int)).bind fun bt747 => (if (l0_1.length : Int) = 1 then (if 0 < (bt747.2.1.length : Int) then (some (bt747.1, (bt747.2.1.set (0 : Int).toNat a1), bt747.2.2, 0)) else (none)) else ((spec_l03Poly.f k a0_0 l0_1 l0_2 (wrap64 ((l0_1.length : Int) - 1))).bind fun t756 => ((spec_l01At.f k a0_0 t756 a1).bind fun t759 => (if t759 = 0 then (some (0, ([] : List Int), ([] : List Int), 5)) else (if 0 ≤ (wrap64 ((l0_1.length : Int) - 1)) then (if (wrap64 ((l0_1.length : Int) - 1)) < (l0_2.length : Int) then ((spec_l03Poly.f k a0_0 l0_1 l0_2 (wrap64 ((l0_1.length : Int) - 2))).bind fun t761 => ((spec_l01At.f k a0_0 t761 a1).bind fun t764 => (if a0_0 = 0 then (none) else ((spec_l01Inverse.f k a0_0 t759).bind fun t765 => ((spec_l01Mod.f a0_0 (wrap64 (a1 - (wrap64 ((Int.tmod (wrap64 ((rd l0_2 (wrap64 ((l0_1.length : Int) - 1))) * t764)) a0_0) * t765))))).bind fun t766 => (if (wrap64 ((l0_1.length : Int) - 1)) < (bt747.2.1.length : Int) then (some (bt747.1, (bt747.2.1.set ((wrap64 ((l0_1.length : Int) - 1)) : Int).toNat t766), bt747.2.2, 0)) else (none))))))) else (none)) else (none))))))) else (some (0, ([] : List Int), ([] : List Int), 2))) = some (r1, r2, r3, r4) := H
  have A5 := zA A50
  clear A50
  by_cases c6 : t746 = true
  ·subst c6
   have H1 : ((spec_l03Cut.f a0_0 l0_1 l0_2 (l0_1.length : Int)).bind fun bt747 => (if (l0_1.length : Int) = 1 then (if 0 < (bt747.2.1.length : Int) then (some (bt747.1, (bt747.2.1.set (0 : Int).toNat a1), bt747.2.2, 0)) else (none)) else ((spec_l03Poly.f k a0_0 l0_1 l0_2 (wrap64 ((l0_1.length : Int) - 1))).bind fun t756 => ((spec_l01At.f k a0_0 t756 a1).bind fun t759 => (if t759 = 0 then (some (0, ([] : List Int), ([] : List Int), 5)) else (if 0 ≤ (wrap64 ((l0_1.length : Int) - 1)) then (if (wrap64 ((l0_1.length : Int) - 1)) < (l0_2.length : Int) then ((spec_l03Poly.f k a0_0 l0_1 l0_2 (wrap64 ((l0_1.length : Int) - 2))).bind fun t761 => ((spec_l01At.f k a0_0 t761 a1).bind fun t764 => (if a0_0 = 0 then (none) else ((spec_l01Inverse.f k a0_0 t759).bind fun t765 => ((spec_l01Mod.f a0_0 (wrap64 (a1 - (wrap64 ((Int.tmod (wrap64 ((rd l0_2 (wrap64 ((l0_1.length : Int) - 1))) * t764)) a0_0) * t765))))).bind fun t766 => (if (wrap64 ((l0_1.length : Int) - 1)) < (bt747.2.1.length : Int) then (some (bt747.1, (bt747.2.1.set ((wrap64 ((l0_1.length : Int) - 1)) : Int).toNat t766), bt747.2.2, 0)) else (none))))))) else (none)) else (none))))))) = some (r1, r2, r3, r4) := by rw [if_pos rfl] at H; exact H
   clear H
   have H := H1
   clear H1
   replace H := Option.bind_eq_some_iff.mp H
   obtain ⟨⟨t747, t748, t751⟩, A70, H⟩ := H
   replace H : (if (l0_1.length : Int) = 1 then (if 0 < (t748.length : Int) then (some (t747, (t748.set (0 : Int).toNat a1), t751, 0)) else (none)) else ((spec_l03Poly.f k a0_0 l0_1 l0_2 (wrap64 ((l0_1.length : Int) - 1))).bind fun t756 => ((spec_l01At.f k a0_0 t756 a1).bind fun t759 => (if t759 = 0 then (some (0, ([] : List Int), ([] : List Int), 5)) else (if 0 ≤ (wrap64 ((l0_1.length : Int) - 1)) then (if (wrap64 ((l0_1.length : Int) - 1)) < (l0_2.length : Int) then ((spec_l03Poly.f k a0_0 l0_1 l0_2 (wrap64 ((l0_1.length : Int) - 2))).bind fun t761 => ((spec_l01At.f k a0_0 t761 a1).bind fun t764 => (if a0_0 = 0 then (none) else ((spec_l01Inverse.f k a0_0 t759).bind fun t765 => ((spec_l01Mod.f a0_0 (wrap64 (a1 - (wrap64 ((Int.tmod (wrap64 ((rd l0_2 (wrap64 ((l0_1.length : Int) - 1))) * t764)) a0_0) * t765))))).bind fun t766 => (if (wrap64 ((l0_1.length : Int) - 1)) < (t748.length : Int) then (some (t747, (t748.set ((wrap64 ((l0_1.length : Int) - 1)) : Int).toNat t766), t751, 0)) else (none))))))) else (none)) else (none)))))) = some (r1, r2, r3, r4) := H
   have A7 := zA A70
   clear A70
   by_cases c8 : (l0_1.length : Int) = 1
   rotate_left
   ·rw [if_neg c8] at H
    have c8b0 : ((l0_1.length : Int) == 1) = false := beq_eq_false_iff_ne.mpr c8
    have c8b1 : ((l0_1.length : Int) != 1) = true := bne_iff_ne.mpr c8
    replace H := Option.bind_eq_some_iff.mp H
    obtain ⟨t756, A330, H⟩ := H
    replace H : ((spec_l01At.f k a0_0 t756 a1).bind fun t759 => (if t759 = 0 then (some (0, ([] : List Int), ([] : List Int), 5)) else (if 0 ≤ (wrap64 ((l0_1.length : Int) - 1)) then (if (wrap64 ((l0_1.length : Int) - 1)) < (l0_2.length : Int) then ((spec_l03Poly.f k a0_0 l0_1 l0_2 (wrap64 ((l0_1.length : Int) - 2))).bind fun t761 => ((spec_l01At.f k a0_0 t761 a1).bind fun t764 => (if a0_0 = 0 then (none) else ((spec_l01Inverse.f k a0_0 t759).bind fun t765 => ((spec_l01Mod.f a0_0 (wrap64 (a1 - (wrap64 ((Int.tmod (wrap64 ((rd l0_2 (wrap64 ((l0_1.length : Int) - 1))) * t764)) a0_0) * t765))))).bind fun t766 => (if (wrap64 ((l0_1.length : Int) - 1)) < (t748.length : Int) then (some (t747, (t748.set ((wrap64 ((l0_1.length : Int) - 1)) : Int).toNat t766), t751, 0)) else (none))))))) else (none)) else (none)))) = some (r1, r2, r3, r4) := H
    have A33 := zA A330
    clear A330
    replace H := Option.bind_eq_some_iff.mp H
    obtain ⟨t759, A340, H⟩ := H
    replace H : (if t759 = 0 then (some (0, ([] : List Int), ([] : List Int), 5)) else (if 0 ≤ (wrap64 ((l0_1.length : Int) - 1)) then (if (wrap64 ((l0_1.length : Int) - 1)) < (l0_2.length : Int) then ((spec_l03Poly.f k a0_0 l0_1 l0_2 (wrap64 ((l0_1.length : Int) - 2))).bind fun t761 => ((spec_l01At.f k a0_0 t761 a1).bind fun t764 => (if a0_0 = 0 then (none) else ((spec_l01Inverse.f k a0_0 t759).bind fun t765 => ((spec_l01Mod.f a0_0 (wrap64 (a1 - (wrap64 ((Int.tmod (wrap64 ((rd l0_2 (wrap64 ((l0_1.length : Int) - 1))) * t764)) a0_0) * t765))))).bind fun t766 => (if (wrap64 ((l0_1.length : Int) - 1)) < (t748.length : Int) then (some (t747, (t748.set ((wrap64 ((l0_1.length : Int) - 1)) : Int).toNat t766), t751, 0)) else (none))))))) else (none)) else (none))) = some (r1, r2, r3, r4) := H
    have A34 := zA A340
    clear A340
    by_cases c35 : t759 = 0
    rotate_left
    ·rw [if_neg c35] at H
     have c35b0 : (t759 == 0) = false := beq_eq_false_iff_ne.mpr c35
     have c35b1 : (t759 != 0) = true := bne_iff_ne.mpr c35
     obtain ⟨ji56, hji56⟩ : ∃ j_ : Int, (wrap64 ((l0_1.length : Int) - 1)) = j_ := ⟨_, rfl⟩
     replace H : (if 0 ≤ (ji56) then (if (ji56) < (l0_2.length : Int) then ((spec_l03Poly.f k a0_0 l0_1 l0_2 (wrap64 ((l0_1.length : Int) - 2))).bind fun t761 => ((spec_l01At.f k a0_0 t761 a1).bind fun t764 => (if a0_0 = 0 then (none) else ((spec_l01Inverse.f k a0_0 t759).bind fun t765 => ((spec_l01Mod.f a0_0 (wrap64 (a1 - (wrap64 ((Int.tmod (wrap64 ((rd l0_2 (ji56)) * t764)) a0_0) * t765))))).bind fun t766 => (if (ji56) < (t748.length : Int) then (some (t747, (t748.set ((ji56) : Int).toNat t766), t751, 0)) else (none))))))) else (none)) else (none)) = some (r1, r2, r3, r4) := by first | (rw [hji56] at H; exact H) | (simp only [hji56] at H ⊢; exact H)
     (try rw [hji56] at A3)
     (try rw [hji56] at A5)
     (try rw [hji56] at A7)
     (try rw [hji56] at A33)
     (try rw [hji56] at A34)
     have hji56w : (IntKind.i64.wrap ((l0_1.length : Int) - 1)) = ji56 := (i64_w _).trans hji56
     by_cases c57 : 0 ≤ (ji56)
     rotate_left
     ·rw [if_neg c57] at H
      exact absurd H (by simp)
     rw [if_pos c57] at H
     have c57b0 : decide (0 ≤ (ji56)) = true := decide_eq_true c57
     clear c57
     by_cases c58 : (ji56) < (l0_2.length : Int)
     rotate_left
     ·rw [if_neg c58] at H
      exact absurd H (by simp)
     rw [if_pos c58] at H
     have c58b0 : decide ((ji56) < (l0_2.length : Int)) = true := decide_eq_true c58
     clear c58
     replace H := Option.bind_eq_some_iff.mp H
     obtain ⟨t761, A590, H⟩ := H
     replace H : ((spec_l01At.f k a0_0 t761 a1).bind fun t764 => (if a0_0 = 0 then (none) else ((spec_l01Inverse.f k a0_0 t759).bind fun t765 => ((spec_l01Mod.f a0_0 (wrap64 (a1 - (wrap64 ((Int.tmod (wrap64 ((rd l0_2 (ji56)) * t764)) a0_0) * t765))))).bind fun t766 => (if (ji56) < (t748.length : Int) then (some (t747, (t748.set ((ji56) : Int).toNat t766), t751, 0)) else (none)))))) = some (r1, r2, r3, r4) := H
     have A59 := zA A590
     clear A590
     replace H := Option.bind_eq_some_iff.mp H
     obtain ⟨t764, A600, H⟩ := H
     replace H : (if a0_0 = 0 then (none) else ((spec_l01Inverse.f k a0_0 t759).bind fun t765 => ((spec_l01Mod.f a0_0 (wrap64 (a1 - (wrap64 ((Int.tmod (wrap64 ((rd l0_2 (ji56)) * t764)) a0_0) * t765))))).bind fun t766 => (if (ji56) < (t748.length : Int) then (some (t747, (t748.set ((ji56) : Int).toNat t766), t751, 0)) else (none))))) = some (r1, r2, r3, r4) := H
     have A60 := zA A600
     clear A600
     by_cases c61 : a0_0 = 0
     rotate_left
     ·rw [if_neg c61] at H
      have c61b0 : (a0_0 == 0) = false := beq_eq_false_iff_ne.mpr c61
      have c61b1 : (a0_0 != 0) = true := bne_iff_ne.mpr c61
      replace H := Option.bind_eq_some_iff.mp H
      obtain ⟨t765, A620, H⟩ := H
      replace H : ((spec_l01Mod.f a0_0 (wrap64 (a1 - (wrap64 ((Int.tmod (wrap64 ((rd l0_2 (ji56)) * t764)) a0_0) * t765))))).bind fun t766 => (if (ji56) < (t748.length : Int) then (some (t747, (t748.set ((ji56) : Int).toNat t766), t751, 0)) else (none))) = some (r1, r2, r3, r4) := H
      have A62 := zA A620
      clear A620
      replace H := Option.bind_eq_some_iff.mp H
      obtain ⟨t766, A630, H⟩ := H
      replace H : (if (ji56) < (t748.length : Int) then (some (t747, (t748.set ((ji56) : Int).toNat t766), t751, 0)) else (none)) = some (r1, r2, r3, r4) := H
      have A63 := zA A630
      clear A630
      by_cases c64 : (ji56) < (t748.length : Int)
      rotate_left
      ·rw [if_neg c64] at H
       exact absurd H (by simp)
      rw [if_pos c64] at H
      have c64b0 : decide ((ji56) < (t748.length : Int)) = true := decide_eq_true c64
      clear c64
      obtain ⟨y767, hy767⟩ : ∃ y_ : List Int, y_ = (t748.set ((ji56) : Int).toNat t766) := ⟨_, rfl⟩
      replace H : (some (t747, y767, t751, 0)) = some (r1, r2, r3, r4) := by first | (rw [hy767]; exact H) | exact H
      have Ny767 := zA hy767
      clear hy767
      simp only [Option.some.injEq, Prod.mk.injEq] at H
      obtain ⟨rfl, rfl, rfl, rfl⟩ := H
      go_enter Try.func34, Try.ntmps34
      try go_wp2_with (first | ((with_reducible refine gate_dst (N := 2) rfl ?_); refine bx 2 #[.int .i64 a0_0, .slice A0_1 l0_1.length c0_1, .slice A0_2 l0_2.length c0_2] 46 ?_; intro gb743 hg w66 hbox hb; have BK743 := zA (hbox); have GW743 := gq HB hg; have GE743 := gq HB hg; replace HB := xH HB hb; have := geI GE743; clear hb hbox hg) | ((with_reducible refine gate_dst (N := 4) rfl ?_); refine bx 4 #[.int .i64 0, .slice none 0 0, .slice none 0 0] 46 ?_; intro gb744 hg w67 hbox hb; have BK744 := zA (hbox); have GW744 := gq HB hg; have GE744 := gq HB hg; replace HB := xH HB hb; have NB743_744 := zA ((by rw [hg]; exact neL BK743 : gb743 ≠ gb744)); have NB744_743 := zA ((by rw [hg]; exact neG BK743 : gb744 ≠ gb743)); replace BK743 := xB BK743 hb; have := geI GE744; clear hb hbox hg; have hnb68 := NB743_744.out; have hnc68 := NB744_743.out; have hcz69_0 := bc BK743 0; have hcz69_1 := bc BK743 1; have hcz69_2 := bc BK743 2; have hfz69_0 := bf BK743 0; have hfz69_1 := bf BK743 1; have hfz69_2 := bf BK743 2) | ((with_reducible refine gate_callee (f := 80) rfl ?_); refine gL (some 12) Try.func80 #[.agg #[.int .i64 a0_0, .slice A0_1 l0_1.length c0_1, .slice A0_2 l0_2.length c0_2]] ?_; (with_reducible refine (spec_l03Is.calls k a0_0 _ _ l0_1 _ _ l0_2 true _ ?side1 ?side2 ?side3 ?side4 A3.out).mono ?_); (case side1 => exact uC ((Kd.C_below HR0_1.out HB.out))); (case side2 => exact HC0_1.out); (case side3 => exact uC ((Kd.C_below HR0_2.out HB.out))); (case side4 => exact HC0_2.out); rintro e w70 ⟨rfl, hb⟩; refine ⟨_, rfl, ?_⟩; replace BK743 := xB BK743 hb; replace BK744 := xB BK744 hb; replace HB := xH HB hb; (try clear hb); (try clear hb2); (try clear hk); (try clear hi); have hcz71_0 := bc BK743 0; have hcz71_1 := bc BK743 1; have hcz71_2 := bc BK743 2; have hfz71_0 := bf BK743 0; have hfz71_1 := bf BK743 1; have hfz71_2 := bf BK743 2) | ((with_reducible refine gate_callee (f := 70) rfl ?_); refine gL (some 20) Try.func70 #[.int .i64 a1, .int .i64 0, .int .i64 (wrap64 (a0_0 - 1))] ?_; (with_reducible refine (spec_l01In.calls a1 0 (wrap64 (a0_0 - 1)) true _ A5.out).mono ?_); rintro e w' ⟨rfl, ⟨nd, rfl⟩⟩; refine ⟨_, rfl, ?_⟩; (try (rw [drewN_self w70]; generalize hq_ : World.drewN w70 _ = w70; have n0_ : Aside0 (w70.heap[gb743]? = some (.cells #[.int .i64 a0_0, .slice A0_1 l0_1.length c0_1, .slice A0_2 l0_2.length c0_2] 46 (0, 0))) := ⟨by rw [← hq_]; exact (uB BK743.out)⟩; have n1_ : Aside0 (w70.heap[gb744]? = some (.cells #[.int .i64 0, .slice none 0 0, .slice none 0 0] 46 (0, 0))) := ⟨by rw [← hq_]; exact (uB BK744.out)⟩; have n2_ : Aside0 (Below w.heap.size w w70) := ⟨by rw [← hq_]; exact (uH HB.out)⟩; clear BK743 BK744 HB hq_; have BK743 := n0_; have BK744 := n1_; have HB := n2_; clear n0_ n1_ n2_)); (try have hcuy72_0 : w70.cell? ⟨gb743, 0, none⟩ = some (.int .i64 a0_0) := (blk_cell BK743.out 0).trans rfl); (try have hcuy72_1 : w70.cell? ⟨gb743, 1, none⟩ = some (.slice A0_1 l0_1.length c0_1) := (blk_cell BK743.out 1).trans rfl); (try have hcuy72_2 : w70.cell? ⟨gb743, 2, none⟩ = some (.slice A0_2 l0_2.length c0_2) := (blk_cell BK743.out 2).trans rfl)))
      replace BK743 := zA (blk_drew BK743.out)
      replace BK744 := zA (blk_drew BK744.out)
      replace HB := zA (below_drew1 HB.out)
      refine start_ (n := 7) (S := fun w' => w'.cell? ⟨gb743, 0, none⟩ = some (.int .i64 a0_0) ∧ w'.cell? ⟨gb743, 1, none⟩ = some (.slice A0_1 l0_1.length c0_1) ∧ w'.cell? ⟨gb743, 2, none⟩ = some (.slice A0_2 l0_2.length c0_2)) (ds := []) #[false, false, false, false, false, false, false] (by kernel_rfl) rfl rfl ⟨bcu BK743 0, bcu BK743 1, bcu BK743 2⟩ (fun hHeld => ?_)
      generalize w70.drew = w73 at BK743 BK744 HB hHeld ⊢
      refine pure_ (i := 0) (N := some 23) (v := ?_) (a' := ?_) (bl 7 1) rfl rfl (by kernel_rfl) (fun _ _ _ h => h) (Or.inl ⟨by rfl, ?_⟩) ?_ ?_
      rotate_left
      ·intro w'
       go_simp
       with_reducible rfl
      rotate_left
      ·simp only [Act.put, ls, lz, ln, i64_w, i32_w]
       rfl
      refine pure_ (i := 2) (N := some 25) (v := ?_) (a' := ?_) (bl 7 5) rfl rfl (by kernel_rfl) (fun _ _ _ h => h) (Or.inl ⟨by rfl, ?_⟩) ?_ ?_
      rotate_left
      ·intro w'
       go_simp
       with_reducible rfl
      rotate_left
      ·simp only [Act.put, ls, lz, ln, i64_w, i32_w]
       rfl
      refine take_ (i := 1) (N := some 24) (v := ?_) (a' := ?_) (bl 7 7) rfl rfl (by kernel_rfl) (fun _ _ _ h => h) (Or.inl ⟨by rfl, ?_⟩) hHeld ?_ ?_
      rotate_left
      ·rintro w' ⟨s0, s1, s2⟩
       go_simp
       with_reducible rfl
      rotate_left
      ·simp only [Act.put, ls, lz, ln, i64_w, i32_w]
       rfl
      refine pure_ (i := 5) (N := some 6) (v := ?_) (a' := ?_) (bl 7 39) rfl rfl (by kernel_rfl) (fun _ _ _ h => h) (Or.inl ⟨by rfl, ?_⟩) ?_ ?_
      rotate_left
      ·intro w'
       go_simp
       with_reducible rfl
      rotate_left
      ·simp only [Act.put, ls, lz, ln, i64_w, i32_w]
       rfl
      refine take_ (i := 3) (N := some 26) (v := ?_) (a' := ?_) (bl 7 47) rfl rfl (by kernel_rfl) (fun _ _ _ h => h) (Or.inl ⟨by rfl, ?_⟩) hHeld ?_ ?_
      rotate_left
      ·rintro w' ⟨s0, s1, s2⟩
       go_simp
       with_reducible rfl
      rotate_left
      ·simp only [Act.put, ls, lz, ln, i64_w, i32_w]
       rfl
      refine pure_ (i := 4) (N := some 27) (v := ?_) (a' := ?_) (bl 7 63) rfl rfl (by kernel_rfl) (fun _ _ _ h => h) (Or.inl ⟨by rfl, ?_⟩) ?_ ?_
      rotate_left
      ·intro w'
       go_simp
       with_reducible rfl
      rotate_left
      ·simp only [Act.put, ls, lz, ln, i64_w, i32_w]
       rfl
      refine pure_ (i := 6) (N := some 7) (v := ?_) (a' := ?_) (bl 7 127) rfl rfl (by kernel_rfl) (fun _ _ _ h => h) (Or.inl ⟨by rfl, ?_⟩) ?_ ?_
      rotate_left
      ·intro w'
       go_simp
       with_reducible rfl
      rotate_left
      ·simp only [Act.put, ls, lz, ln, i64_w, i32_w]
       rfl
      refine done_ (by kernel_rfl) ?_
      have hcz74_0 := bc BK743 0
      have hcz74_1 := bc BK743 1
      have hcz74_2 := bc BK743 2
      have hfz74_0 := bf BK743 0
      have hfz74_1 := bf BK743 1
      have hfz74_2 := bf BK743 2
      try go_wp2_with (first | ((with_reducible refine gate_callee (f := 85) rfl ?_); refine gL (some 30) Try.func85 #[.agg #[.int .i64 a0_0, .slice A0_1 l0_1.length c0_1, .slice A0_2 l0_2.length c0_2], .int .i64 (l0_1.length : Int)] ?_; (with_reducible refine (spec_l03Cut.calls a0_0 _ _ l0_1 _ _ l0_2 (l0_1.length : Int) t747 t748 t751 _ ?side1 ?side2 ?side3 ?side4 A7.out).mono ?_); (case side1 => exact uC ((Kd.C_below HR0_1.out HB.out))); (case side2 => exact HC0_1.out); (case side3 => exact uC ((Kd.C_below HR0_2.out HB.out))); (case side4 => exact HC0_2.out); rintro e w75 ⟨v749, v752, rfl, ho0, ho1, hb⟩; refine ⟨_, rfl, ?_⟩; have HO750 := zA (Kd.R_lower ho0 (below_size (uH HB.out))); have HO753 := zA (Kd.R_lower ho1 (below_size (uH HB.out))); replace BK743 := xB BK743 hb; replace BK744 := xB BK744 hb; replace HB := xH HB hb; (try clear hb); (try clear hb2); (try clear hk); (try clear hi); (try clear ho0); (try clear ho1)) | ((with_reducible refine gate_dst (N := 8) rfl ?_); refine bx 8 #[.int .i64 0, .slice none 0 0, .slice none 0 0] 46 ?_; intro gb754 hg w76 hbox hb; replace HO750 := xR HO750 hb; replace HO753 := xR HO753 hb; have BK754 := zA (hbox); have GW754 := gq HB hg; have GE754 := gq HB hg; replace HB := xH HB hb; have NB743_754 := zA ((by rw [hg]; exact neL BK743 : gb743 ≠ gb754)); have NB754_743 := zA ((by rw [hg]; exact neG BK743 : gb754 ≠ gb743)); replace BK743 := xB BK743 hb; have NB744_754 := zA ((by rw [hg]; exact neL BK744 : gb744 ≠ gb754)); have NB754_744 := zA ((by rw [hg]; exact neG BK744 : gb754 ≠ gb744)); replace BK744 := xB BK744 hb; have := geI GE754; clear hb hbox hg; have hnb77 := NB754_743.out; have hnc77 := NB743_754.out; have hnb78 := NB754_744.out; have hnc78 := NB744_754.out; have hcz79_0 := bc BK754 0; have hcz79_1 := bc BK754 1; have hcz79_2 := bc BK754 2; have hfz79_0 := bf BK754 0; have hfz79_1 := bf BK754 1; have hfz79_2 := bf BK754 2; obtain ⟨Ao80, co80, eo80⟩ := Kd.R_slice HO750.out; subst eo80; obtain ⟨Ao81, co81, eo81⟩ := Kd.R_slice HO753.out; subst eo81; have hcz82_0 := bc BK743 0; have hcz82_1 := bc BK743 1; have hcz82_2 := bc BK743 2; have hfz82_0 := bf BK743 0; have hfz82_1 := bf BK743 1; have hfz82_2 := bf BK743 2) | ((with_reducible refine gate_callee (f := 72) rfl ?_); refine goesL_ (some 42) rfl rfl Try.func72 (by kernel_rfl) rfl #[.agg #[.int .i64 a0_0, .slice A0_1 l0_1.length c0_1, .slice A0_2 l0_2.length c0_2], .int .i64 ji56] rfl (by (try simp only [la, lb, lc]); first | done | (simp only [hji56]; rfl) | rfl | (simp only [ld, le]; rfl)) ?_; (with_reducible refine (spec_l03Poly.calls k a0_0 _ _ l0_1 _ _ l0_2 ji56 t756 _ ?side1 ?side2 ?side3 ?side4 A33.out).mono ?_); (case side1 => exact Kd.C_below HR0_1.out (uH HB.out)); (case side2 => exact HC0_1.out); (case side3 => exact Kd.C_below HR0_2.out (uH HB.out)); (case side4 => exact HC0_2.out); rintro e w83 ⟨v757, rfl, ho0, hb⟩; refine ⟨_, rfl, ?_⟩; have HO758 := zA (Kd.R_lower (Kd.R_new' (Kd.R_new' ho0 (Kd.R_lt (uR ((rf3 HO750 BK754 (by decide) (.int .i64 t747) (.slice Ao80 t748.length co80) (.slice Ao81 t751.length co81)))))) (Kd.R_lt (uR ((rf3 HO753 BK754 (by decide) (.int .i64 t747) (.slice Ao80 t748.length co80) (.slice Ao81 t751.length co81)))))) (below_size (uH HB.out))); replace HO750 := zA (Kd.R_elder' (uR ((rf3 HO750 BK754 (by decide) (.int .i64 t747) (.slice Ao80 t748.length co80) (.slice Ao81 t751.length co81)))) (Kd.R_base ho0) hb); replace HO753 := zA (Kd.R_elder' (uR ((rf3 HO753 BK754 (by decide) (.int .i64 t747) (.slice Ao80 t748.length co80) (.slice Ao81 t751.length co81)))) (Kd.R_base ho0) hb); replace BK743 := zA (blk_below (g := gb743) (o := .cells #[.int .i64 a0_0, .slice A0_1 l0_1.length c0_1, .slice A0_2 l0_2.length c0_2] 46 (0, 0)) (by (repeat refine up1 ?_); refine blk_far ?_ NB743_754.out _; (repeat refine up1 ?_); refine blk_far ?_ NB743_754.out _; (repeat refine up1 ?_); refine blk_far ?_ NB743_754.out _; (repeat refine up1 ?_); exact BK743.out) hb); replace BK744 := zA (blk_below (g := gb744) (o := .cells #[.int .i64 0, .slice none 0 0, .slice none 0 0] 46 (0, 0)) (by (repeat refine up1 ?_); refine blk_far ?_ NB744_754.out _; (repeat refine up1 ?_); refine blk_far ?_ NB744_754.out _; (repeat refine up1 ?_); refine blk_far ?_ NB744_754.out _; (repeat refine up1 ?_); exact BK744.out) hb); replace BK754 := zA (blk_below (g := gb754) (o := .cells #[.int .i64 t747, .slice Ao80 t748.length co80, .slice Ao81 t751.length co81] 46 (0, 0)) (by (repeat refine up1 ?_); refine blk_put (cs := #[.int .i64 t747, .slice Ao80 t748.length co80, .slice none 0 0]) ?_ 2 _ rfl; (repeat refine up1 ?_); refine blk_put (cs := #[.int .i64 t747, .slice none 0 0, .slice none 0 0]) ?_ 1 _ rfl; (repeat refine up1 ?_); refine blk_put (cs := #[.int .i64 0, .slice none 0 0, .slice none 0 0]) ?_ 0 _ rfl; (repeat refine up1 ?_); exact BK754.out) hb); replace HB := xH HB hb; (try clear hb); (try clear hb2); (try clear hk); (try clear hi); (try clear ho0); obtain ⟨Ao84, co84, eo84⟩ := Kd.R_slice HO758.out; subst eo84) | ((with_reducible refine gate_callee (f := 71) rfl ?_); refine gL (some 44) Try.func71 #[.int .i64 a0_0, .slice Ao84 t756.length co84, .int .i64 a1] ?_; (with_reducible refine (spec_l01At.calls k a0_0 _ _ t756 a1 t759 _ ?side1 ?side2 A34.out).mono ?_); (case side1 => exact uC ((Kd.R_reads' HO758.out).2.2)); (case side2 => exact (Kd.R_reads' HO758.out).2.1); rintro e w' ⟨rfl, ⟨nd, rfl⟩⟩; refine ⟨_, rfl, ?_⟩; (try (rw [drewN_self w83]; generalize hq_ : World.drewN w83 _ = w83; have n0_ : Aside0 (Kd.R (Kd.int .i64) 2 w83 w.heap.size (fun k_ => ax k_ (.slice Ao81 t751.length co81) ∧ ax k_ (.slice Ao84 t756.length co84)) (.slice Ao80 t748.length co80) t748) := ⟨by rw [← hq_]; exact (uR HO750.out)⟩; have n1_ : Aside0 (Kd.R (Kd.int .i64) 2 w83 w.heap.size (fun k_ => ax k_ (.slice Ao80 t748.length co80) ∧ ax k_ (.slice Ao84 t756.length co84)) (.slice Ao81 t751.length co81) t751) := ⟨by rw [← hq_]; exact (uR HO753.out)⟩; have n2_ : Aside0 (Kd.R (Kd.int .i64) 2 w83 w.heap.size (fun k_ => ax k_ (.slice Ao80 t748.length co80) ∧ ax k_ (.slice Ao81 t751.length co81)) (.slice Ao84 t756.length co84) t756) := ⟨by rw [← hq_]; exact (uR (Kd.R_mono HO758.out (fun _ hk => ⟨hk.1.2, hk.2⟩)))⟩; have n3_ : Aside0 (w83.heap[gb743]? = some (.cells #[.int .i64 a0_0, .slice A0_1 l0_1.length c0_1, .slice A0_2 l0_2.length c0_2] 46 (0, 0))) := ⟨by rw [← hq_]; exact (uB BK743.out)⟩; have n4_ : Aside0 (w83.heap[gb744]? = some (.cells #[.int .i64 0, .slice none 0 0, .slice none 0 0] 46 (0, 0))) := ⟨by rw [← hq_]; exact (uB BK744.out)⟩; have n5_ : Aside0 (w83.heap[gb754]? = some (.cells #[.int .i64 t747, .slice Ao80 t748.length co80, .slice Ao81 t751.length co81] 46 (0, 0))) := ⟨by rw [← hq_]; exact (uB BK754.out)⟩; have n6_ : Aside0 (Below w.heap.size w w83) := ⟨by rw [← hq_]; exact (uH HB.out)⟩; clear HO750 HO753 HO758 BK743 BK744 BK754 HB hq_; have HO750 := n0_; have HO753 := n1_; have HO758 := n2_; have BK743 := n3_; have BK744 := n4_; have BK754 := n5_; have HB := n6_; clear n0_ n1_ n2_ n3_ n4_ n5_ n6_))))
      replace HO750 := zA (Kd.R_drew HO750.out)
      replace HO753 := zA (Kd.R_drew HO753.out)
      replace HO758 := zA (Kd.R_drew HO758.out)
      replace BK743 := zA (blk_drew BK743.out)
      replace BK744 := zA (blk_drew BK744.out)
      replace BK754 := zA (blk_drew BK754.out)
      replace HB := zA (below_drew1 HB.out)
      have p760 : 0 ≤ ((ji56) : Int) := of_decide_eq_true (by first | (with_reducible assumption) | assumption)
      have q760 : (ji56) < (l0_2.length : Int) := of_decide_eq_true (by first | (with_reducible assumption) | assumption)
      obtain ⟨ad760, e760, hx760_0⟩ := Kd.at_int HR0_2.out (ji56) p760 q760
      have hw760_0 := hx760_0
      cases e760
      replace hx760_0 := hc HB hx760_0
      replace p760 := eq_true p760
      replace q760 := eq_true q760
      refine start_ (n := 30) (S := fun w' => w'.cell? ⟨gb754, 0, none⟩ = some (.int .i64 t747) ∧ w'.cell? ⟨gb754, 1, none⟩ = some (.slice Ao80 t748.length co80) ∧ w'.cell? ⟨gb754, 2, none⟩ = some (.slice Ao81 t751.length co81) ∧ w'.cell? ⟨gb743, 0, none⟩ = some (.int .i64 a0_0) ∧ w'.cell? ⟨gb743, 1, none⟩ = some (.slice A0_1 l0_1.length c0_1) ∧ w'.cell? ⟨gb743, 2, none⟩ = some (.slice (some ad760) l0_2.length c0_2) ∧ w'.cell? (ad760.add ((ji56)).toNat) = some (.int .i64 (rd l0_2 (ji56)))) (ds := [29]) #[false, false, false, false, false, false, false, false, false, false, false, false, false, false, false, false, false, false, false, false, false, false, false, false, false, false, false, false, false, false] (by kernel_rfl) rfl rfl ⟨bcu BK754 0, bcu BK754 1, bcu BK754 2, bcu BK743 0, bcu BK743 1, bcu BK743 2, (hcu HB hw760_0)⟩ (fun hHeld => ?_); refine with_tabW spec_RadauJacobi.tab13 spec_RadauJacobi.bits13 (fun HT_ HW_ => ?_)
      generalize w83.drew = w85 at HO750 HO753 HO758 BK743 BK744 BK754 HB hx760_0 hHeld ⊢
      refine pu_ 0 48 (bl 30 1) HT_ ?_
      refine pu_ 2 50 (bl 30 5) HT_ ?_
      refine pu_ 3 51 (bl 30 13) HT_ ?_
      refine pu_ 4 52 (bl 30 29) HT_ ?_
      refine pu_ 5 53 (bl 30 61) HT_ ?_
      refine pu_ 6 54 (bl 30 125) HT_ ?_
      refine pu_ 8 56 (bl 30 381) HT_ ?_
      refine pu_ 9 57 (bl 30 893) HT_ ?_
      refine pu_ 12 60 (bl 30 4989) HT_ ?_
      refine pu_ 14 62 (bl 30 21373) HT_ ?_
      refine pu_ 15 63 (bl 30 54141) HT_ ?_
      refine pu_ 17 65 (bl 30 185213) HT_ ?_
      refine pu_ 20 68 (bl 30 1233789) HT_ ?_
      refine pu_ 22 70 (bl 30 5428093) HT_ ?_
      refine pu_ 23 71 (bl 30 13816701) HT_ ?_
      refine ta_ 1 49 (bl 30 13816703) HT_ HW_ hHeld ?_
      refine ta_ 7 55 (bl 30 13816831) HT_ HW_ hHeld ?_
      refine pu_ 10 58 (bl 30 13817855) HT_ ?_
      refine ta_ 11 59 (bl 30 13819903) HT_ HW_ hHeld ?_
      refine ta_ 13 61 (bl 30 13828095) HT_ HW_ hHeld ?_
      refine on_ 16 (some 64) (bl 30 13893631) HT_ (fun K hK => ?_)
      refine gS Try.func72 #[.agg #[.int .i64 a0_0, .slice A0_1 l0_1.length c0_1, .slice (some ad760) l0_2.length c0_2], .int .i64 (wrap64 ((l0_1.length : Int) - 2))] ?_
      with_reducible refine (spec_l03Poly.calls k a0_0 _ _ l0_1 _ _ l0_2 (wrap64 ((l0_1.length : Int) - 2)) t761 _ ?side1 ?side2 ?side3 ?side4 A59.out).mono ?_
      (case side1 => exact uC ((Kd.C_below HR0_1.out HB.out)))
      (case side2 => exact HC0_1.out)
      (case side3 => exact uC ((Kd.C_below HR0_2.out HB.out)))
      (case side4 => exact HC0_2.out)
      rintro e w86 ⟨v762, rfl, ho0, hb⟩
      refine ⟨_, rfl, ?_⟩
      have HO763 := zA (Kd.R_lower (Kd.R_new' (Kd.R_new' (Kd.R_new' ho0 (Kd.R_lt (uR HO750.out))) (Kd.R_lt (uR HO753.out))) (Kd.R_lt (uR HO758.out))) (below_size (uH HB.out)))
      replace HO750 := zA (Kd.R_elder' (uR HO750.out) (Kd.R_base ho0) hb)
      replace HO753 := zA (Kd.R_elder' (uR HO753.out) (Kd.R_base ho0) hb)
      replace HO758 := zA (Kd.R_elder' (uR HO758.out) (Kd.R_base ho0) hb)
      replace BK743 := xB BK743 hb
      replace BK744 := xB BK744 hb
      replace BK754 := xB BK754 hb
      replace HB := xH HB hb
      (try clear hb); (try clear hb2); (try clear hk); (try clear hi); (try clear ho0)
      obtain ⟨Ao87, co87, eo87⟩ := Kd.R_slice HO763.out
      (first | subst eo87 | (injection eo87 with f1_ f2_ f3_; have f4_ := f1_.symm; have f5_ := f3_.symm; clear f1_ f2_ f3_; subst f4_; subst f5_))
      refine hK.out _ _ ⟨bcu BK754 0, bcu BK754 1, bcu BK754 2, bcu BK743 0, bcu BK743 1, bcu BK743 2, (hcu HB hw760_0)⟩ (fun hHeld => ?_)
      clear hK K
      refine no_ 64 ?_
      refine on_ 18 (some 66) (bl 30 14155775) HT_ (fun K hK => ?_)
      refine gS Try.func71 #[.int .i64 a0_0, .slice Ao87 t761.length co87, .int .i64 a1] ?_
      with_reducible refine (spec_l01At.calls k a0_0 _ _ t761 a1 t764 _ ?side1 ?side2 A60.out).mono ?_
      (case side1 => exact uC ((Kd.R_reads' HO763.out).2.2))
      (case side2 => exact (Kd.R_reads' HO763.out).2.1)
      rintro e w' ⟨rfl, ⟨nd, rfl⟩⟩
      refine ⟨_, rfl, ?_⟩
      refine hK.out _ _ ⟨bcu BK754 0, bcu BK754 1, bcu BK754 2, bcu BK743 0, bcu BK743 1, bcu BK743 2, (hcu HB hw760_0)⟩ (fun hHeld => ?_)
      clear hK K
      refine no_ 66 ?_
      refine pu_ 19 67 (bl 30 14680063) HT_ ?_
      refine pu_ 21 69 (bl 30 16777215) HT_ ?_
      refine on_ 24 (some 72) (bl 30 33554431) HT_ (fun K hK => ?_)
      refine gS Try.func86 #[.int .i64 a0_0, .int .i64 t759] ?_
      with_reducible refine (spec_l01Inverse.calls k a0_0 t759 t765 _ A62.out).mono ?_
      rintro e w' ⟨rfl, ⟨nd, rfl⟩⟩
      refine ⟨_, rfl, ?_⟩
      refine hK.out _ _ ⟨bcu BK754 0, bcu BK754 1, bcu BK754 2, bcu BK743 0, bcu BK743 1, bcu BK743 2, (hcu HB hw760_0)⟩ (fun hHeld => ?_)
      clear hK K
      refine no_ 72 ?_
      refine pu_ 25 73 (bl 30 67108863) HT_ ?_
      refine pu_ 26 74 (bl 30 134217727) HT_ ?_
      refine on_ 27 (some 75) (bl 30 268435455) HT_ (fun K hK => ?_)
      refine goes_ Try.func60 (by kernel_rfl) rfl #[.int .i64 a0_0, .int .i64 (wrap64 (a1 - (wrap64 ((Int.tmod (wrap64 ((rd l0_2 (ji56)) * t764)) a0_0) * t765))))] (by rfl) rfl rfl (by (try simp only [la, lb, lc]); first | done | (simp only [hji56]; rfl) | rfl | (simp only [ld, le]; rfl)) ?_
      with_reducible refine (spec_l01Mod.calls a0_0 (wrap64 (a1 - (wrap64 ((Int.tmod (wrap64 ((rd l0_2 (ji56)) * t764)) a0_0) * t765)))) t766 _ A63.out).mono ?_
      rintro e w' ⟨rfl, ⟨nd, rfl⟩⟩
      refine ⟨_, rfl, ?_⟩
      have p65 : 0 ≤ ((ji56) : Int) := of_decide_eq_true (by first | (with_reducible assumption) | assumption)
      have q65 : ((ji56) : Int) < ((t748.length : Int) : Int) := of_decide_eq_true (by first | (with_reducible assumption) | assumption)
      obtain ⟨go65, co65, eo65, gb65, gl65, cl65, HG65⟩ := Kd.R_form HO750.out (by omega)
      (first | cases eo65 | (injection eo65 with ea_ en_ ec_; (first | subst ea_ | (injection ea_ with ea_; subst ea_)); subst ec_; clear en_))
      have GB65 := zA gb65; have := geI GB65
      have GG65 := zA HG65
      clear gb65 gl65 HG65
      obtain ⟨hx65_0, hf65_0⟩ := Kd.R_celln 0 HO750.out ((ji56) : Int) p65 q65
      replace p65 := eq_true p65
      replace q65 := eq_true q65
      have HP88 := Kd.R_putn HO750.out ((ji56) : Int) t766
      rw [← Ny767.out] at HP88
      have HQ88 := zA HP88
      clear HP88
      refine hK.out _ _ ⟨bcu BK754 0, bcu BK754 1, bcu BK754 2, bcu BK743 0, bcu BK743 1, bcu BK743 2, (hcu HB hw760_0)⟩ (fun hHeld => ?_)
      clear hK K
      refine no_ 75 ?_
      refine pu_ 28 76 (bl 30 536870911) HT_ ?_
      refine last_ (i := 29) (N := none) (bl 30 1073741823) rfl rfl (one_of HT_.out (by kernel_rfl)) (by decide) (fun K hK => ?_)
      refine skip_ (w1 := ?_) (by rfl) rfl ?_ ?_
      rotate_left
      ·go_simp
       rfl
      refine hK.out _ _ ?_
      clear hK K
      refine done_ (done_of HT_.out (by kernel_rfl)) ?_
      have n0_ : Aside0 (Kd.R (Kd.int .i64) 2 (w86.setCell ⟨go65, ((ji56) : Int).toNat, none⟩ (.int .i64 t766)) w.heap.size (fun k_ => ax k_ (.slice Ao81 t751.length co81) ∧ ax k_ (.slice Ao84 t756.length co84) ∧ ax k_ (.slice Ao87 t761.length co87)) (.slice (some ⟨go65, 0, none⟩) t748.length co80) y767) := ⟨uR (Kd.R_mono HQ88.out (fun _ hk => by simp_all))⟩
      have n1_ : Aside0 (Kd.R (Kd.int .i64) 2 (w86.setCell ⟨go65, ((ji56) : Int).toNat, none⟩ (.int .i64 t766)) w.heap.size (fun k_ => ax k_ (.slice (some ⟨go65, 0, none⟩) t748.length co80) ∧ ax k_ (.slice Ao84 t756.length co84) ∧ ax k_ (.slice Ao87 t761.length co87)) (.slice Ao81 t751.length co81) t751) := ⟨uR (Kd.R_mono (Kd.R_far (p := ⟨go65, ((ji56) : Int).toNat, none⟩) (Kd.R_mono HO753.out (fun k_ hk => (⟨hk, fun e_ => by subst e_; simp [Value.ownBlock] at hk⟩ : _ ∧ k_ ≠ go65))) (fun _ hk => hk.2) (.int .i64 t766)) (fun _ hk => by simp_all))⟩
      have n2_ : Aside0 (Kd.R (Kd.int .i64) 2 (w86.setCell ⟨go65, ((ji56) : Int).toNat, none⟩ (.int .i64 t766)) w.heap.size (fun k_ => ax k_ (.slice (some ⟨go65, 0, none⟩) t748.length co80) ∧ ax k_ (.slice Ao81 t751.length co81) ∧ ax k_ (.slice Ao87 t761.length co87)) (.slice Ao84 t756.length co84) t756) := ⟨uR (Kd.R_mono (Kd.R_far (p := ⟨go65, ((ji56) : Int).toNat, none⟩) (Kd.R_mono HO758.out (fun k_ hk => (⟨hk, fun e_ => by subst e_; simp [Value.ownBlock] at hk⟩ : _ ∧ k_ ≠ go65))) (fun _ hk => hk.2) (.int .i64 t766)) (fun _ hk => by simp_all))⟩
      have n3_ : Aside0 (Kd.R (Kd.int .i64) 2 (w86.setCell ⟨go65, ((ji56) : Int).toNat, none⟩ (.int .i64 t766)) w.heap.size (fun k_ => ax k_ (.slice (some ⟨go65, 0, none⟩) t748.length co80) ∧ ax k_ (.slice Ao81 t751.length co81) ∧ ax k_ (.slice Ao84 t756.length co84)) (.slice Ao87 t761.length co87) t761) := ⟨uR (Kd.R_mono (Kd.R_far (p := ⟨go65, ((ji56) : Int).toNat, none⟩) (Kd.R_mono HO763.out (fun k_ hk => (⟨hk, fun e_ => by subst e_; simp [Value.ownBlock] at hk⟩ : _ ∧ k_ ≠ go65))) (fun _ hk => hk.2) (.int .i64 t766)) (fun _ hk => by simp_all))⟩
      have n4_ : Aside0 ((w86.setCell ⟨go65, ((ji56) : Int).toNat, none⟩ (.int .i64 t766)).heap[gb743]? = some (.cells #[.int .i64 a0_0, .slice A0_1 l0_1.length c0_1, .slice (some ad760) l0_2.length c0_2] 46 (0, 0))) := ⟨by (repeat refine up1 ?_); refine blk_far ?_ (by have h_ := Kd.R_ne HO750.out BK743.out (by decide); intro e_; exact h_ (by rw [e_]; rfl)) _; (repeat refine up1 ?_); exact BK743.out⟩
      have n5_ : Aside0 ((w86.setCell ⟨go65, ((ji56) : Int).toNat, none⟩ (.int .i64 t766)).heap[gb744]? = some (.cells #[.int .i64 0, .slice none 0 0, .slice none 0 0] 46 (0, 0))) := ⟨by (repeat refine up1 ?_); refine blk_far ?_ (by have h_ := Kd.R_ne HO750.out BK744.out (by decide); intro e_; exact h_ (by rw [e_]; rfl)) _; (repeat refine up1 ?_); exact BK744.out⟩
      have n6_ : Aside0 ((w86.setCell ⟨go65, ((ji56) : Int).toNat, none⟩ (.int .i64 t766)).heap[gb754]? = some (.cells #[.int .i64 t747, .slice (some ⟨go65, 0, none⟩) t748.length co80, .slice Ao81 t751.length co81] 46 (0, 0))) := ⟨by (repeat refine up1 ?_); refine blk_far ?_ (by have h_ := Kd.R_ne HO750.out BK754.out (by decide); intro e_; exact h_ (by rw [e_]; rfl)) _; (repeat refine up1 ?_); exact BK754.out⟩
      have n7_ : Aside0 (Below w.heap.size w (w86.setCell ⟨go65, ((ji56) : Int).toNat, none⟩ (.int .i64 t766))) := ⟨uH HB.out⟩
      (try clear HO750); (try clear HO753); (try clear HO758); (try clear HO763); (try clear BK743); (try clear BK744); (try clear BK754); (try clear HB)
      (try rw [setCell_drewN])
      generalize (w86.setCell ⟨go65, ((ji56) : Int).toNat, none⟩ (.int .i64 t766)) = w89 at n0_ n1_ n2_ n3_ n4_ n5_ n6_ n7_ ⊢
      have HO750 := n0_
      have HO753 := n1_
      have HO758 := n2_
      have HO763 := n3_
      have BK743 := n4_
      have BK744 := n5_
      have BK754 := n6_
      have HB := n7_
      clear n0_ n1_ n2_ n3_ n4_ n5_ n6_ n7_
      have hcz90_0 := bc BK754 0
      have hcz90_1 := bc BK754 1
      have hcz90_2 := bc BK754 2
      have hfz90_0 := bf BK754 0
      have hfz90_1 := bf BK754 1
      have hfz90_2 := bf BK754 2
      have hcz91_0 := bc BK744 0
      have hcz91_1 := bc BK744 1
      have hcz91_2 := bc BK744 2
      have hfz91_0 := bf BK744 0
      have hfz91_1 := bf BK744 1
      have hfz91_2 := bf BK744 2
      try go_wp2
      refine bodyPost_ret (results_ct rfl _ _ gb744 46 #[.int .i64 t747, .slice (some ⟨go65, 0, none⟩) t748.length co80, .slice Ao81 t751.length co81] (0, 0) _ rfl (by (repeat refine up1 ?_); refine blk_put (cs := #[.int .i64 t747, .slice (some ⟨go65, 0, none⟩) t748.length co80, .slice none 0 0]) ?_ 2 _ rfl; (repeat refine up1 ?_); refine blk_put (cs := #[.int .i64 t747, .slice none 0 0, .slice none 0 0]) ?_ 1 _ rfl; (repeat refine up1 ?_); refine blk_put (cs := #[.int .i64 0, .slice none 0 0, .slice none 0 0]) ?_ 0 _ rfl; (repeat refine up1 ?_); exact BK744.out) Try.underlying46 rfl (by kernel_rfl)) rfl ?_
      exact ⟨_, _, by first | rfl | (simp [errW_none, errW_some] <;> rfl) | (simp only [← hji56]; first | rfl | (simp [errW_none, errW_some] <;> rfl)) | (simp [*, errW_none, errW_some] <;> rfl), uR (Kd.R_mono (Kd.R_far (p := ⟨gb744, 2, none⟩) (Kd.R_far (p := ⟨gb744, 1, none⟩) (Kd.R_far (p := ⟨gb744, 0, none⟩) (Kd.R_types HO750.out BK744.out (by decide)) (fun _ hk => hk.2) (.int .i64 t747)) (fun _ hk => hk.2) (.slice (some ⟨go65, 0, none⟩) t748.length co80)) (fun _ hk => hk.2) (.slice Ao81 t751.length co81)) (fun _ hk => hk.1.1)), uR (Kd.R_mono (Kd.R_far (p := ⟨gb744, 2, none⟩) (Kd.R_far (p := ⟨gb744, 1, none⟩) (Kd.R_far (p := ⟨gb744, 0, none⟩) (Kd.R_types HO753.out BK744.out (by decide)) (fun _ hk => hk.2) (.int .i64 t747)) (fun _ hk => hk.2) (.slice (some ⟨go65, 0, none⟩) t748.length co80)) (fun _ hk => hk.2) (.slice Ao81 t751.length co81)) (fun _ hk => hk.1.1)), uH HB.out⟩
     rw [if_pos c61] at H
     exact absurd H (by simp)
    rw [if_pos c35] at H
    have c35b0 : (t759 == 0) = true := beq_iff_eq.mpr c35
    have c35b1 : (t759 != 0) = false := bne_eq_false_iff_eq.mpr c35
    clear c35
    simp only [Option.some.injEq, Prod.mk.injEq] at H
    obtain ⟨rfl, rfl, rfl, rfl⟩ := H
    go_enter Try.func34, Try.ntmps34
    try go_wp2_with (first | ((with_reducible refine gate_dst (N := 2) rfl ?_); refine bx 2 #[.int .i64 a0_0, .slice A0_1 l0_1.length c0_1, .slice A0_2 l0_2.length c0_2] 46 ?_; intro gb743 hg w36 hbox hb; have BK743 := zA (hbox); have GW743 := gq HB hg; have GE743 := gq HB hg; replace HB := xH HB hb; have := geI GE743; clear hb hbox hg) | ((with_reducible refine gate_dst (N := 4) rfl ?_); refine bx 4 #[.int .i64 0, .slice none 0 0, .slice none 0 0] 46 ?_; intro gb744 hg w37 hbox hb; have BK744 := zA (hbox); have GW744 := gq HB hg; have GE744 := gq HB hg; replace HB := xH HB hb; have NB743_744 := zA ((by rw [hg]; exact neL BK743 : gb743 ≠ gb744)); have NB744_743 := zA ((by rw [hg]; exact neG BK743 : gb744 ≠ gb743)); replace BK743 := xB BK743 hb; have := geI GE744; clear hb hbox hg; have hnb38 := NB743_744.out; have hnc38 := NB744_743.out; have hcz39_0 := bc BK743 0; have hcz39_1 := bc BK743 1; have hcz39_2 := bc BK743 2; have hfz39_0 := bf BK743 0; have hfz39_1 := bf BK743 1; have hfz39_2 := bf BK743 2) | ((with_reducible refine gate_callee (f := 80) rfl ?_); refine gL (some 12) Try.func80 #[.agg #[.int .i64 a0_0, .slice A0_1 l0_1.length c0_1, .slice A0_2 l0_2.length c0_2]] ?_; (with_reducible refine (spec_l03Is.calls k a0_0 _ _ l0_1 _ _ l0_2 true _ ?side1 ?side2 ?side3 ?side4 A3.out).mono ?_); (case side1 => exact uC ((Kd.C_below HR0_1.out HB.out))); (case side2 => exact HC0_1.out); (case side3 => exact uC ((Kd.C_below HR0_2.out HB.out))); (case side4 => exact HC0_2.out); rintro e w40 ⟨rfl, hb⟩; refine ⟨_, rfl, ?_⟩; replace BK743 := xB BK743 hb; replace BK744 := xB BK744 hb; replace HB := xH HB hb; (try clear hb); (try clear hb2); (try clear hk); (try clear hi); have hcz41_0 := bc BK743 0; have hcz41_1 := bc BK743 1; have hcz41_2 := bc BK743 2; have hfz41_0 := bf BK743 0; have hfz41_1 := bf BK743 1; have hfz41_2 := bf BK743 2) | ((with_reducible refine gate_callee (f := 70) rfl ?_); refine gL (some 20) Try.func70 #[.int .i64 a1, .int .i64 0, .int .i64 (wrap64 (a0_0 - 1))] ?_; (with_reducible refine (spec_l01In.calls a1 0 (wrap64 (a0_0 - 1)) true _ A5.out).mono ?_); rintro e w' ⟨rfl, ⟨nd, rfl⟩⟩; refine ⟨_, rfl, ?_⟩; (try (rw [drewN_self w40]; generalize hq_ : World.drewN w40 _ = w40; have n0_ : Aside0 (w40.heap[gb743]? = some (.cells #[.int .i64 a0_0, .slice A0_1 l0_1.length c0_1, .slice A0_2 l0_2.length c0_2] 46 (0, 0))) := ⟨by rw [← hq_]; exact (uB BK743.out)⟩; have n1_ : Aside0 (w40.heap[gb744]? = some (.cells #[.int .i64 0, .slice none 0 0, .slice none 0 0] 46 (0, 0))) := ⟨by rw [← hq_]; exact (uB BK744.out)⟩; have n2_ : Aside0 (Below w.heap.size w w40) := ⟨by rw [← hq_]; exact (uH HB.out)⟩; clear BK743 BK744 HB hq_; have BK743 := n0_; have BK744 := n1_; have HB := n2_; clear n0_ n1_ n2_)); (try have hcuy42_0 : w40.cell? ⟨gb743, 0, none⟩ = some (.int .i64 a0_0) := (blk_cell BK743.out 0).trans rfl); (try have hcuy42_1 : w40.cell? ⟨gb743, 1, none⟩ = some (.slice A0_1 l0_1.length c0_1) := (blk_cell BK743.out 1).trans rfl); (try have hcuy42_2 : w40.cell? ⟨gb743, 2, none⟩ = some (.slice A0_2 l0_2.length c0_2) := (blk_cell BK743.out 2).trans rfl)))
    replace BK743 := zA (blk_drew BK743.out)
    replace BK744 := zA (blk_drew BK744.out)
    replace HB := zA (below_drew1 HB.out)
    refine start_ (n := 7) (S := fun w' => w'.cell? ⟨gb743, 0, none⟩ = some (.int .i64 a0_0) ∧ w'.cell? ⟨gb743, 1, none⟩ = some (.slice A0_1 l0_1.length c0_1) ∧ w'.cell? ⟨gb743, 2, none⟩ = some (.slice A0_2 l0_2.length c0_2)) (ds := []) #[false, false, false, false, false, false, false] (by kernel_rfl) rfl rfl ⟨bcu BK743 0, bcu BK743 1, bcu BK743 2⟩ (fun hHeld => ?_)
    generalize w40.drew = w43 at BK743 BK744 HB hHeld ⊢
    refine pure_ (i := 0) (N := some 23) (v := ?_) (a' := ?_) (bl 7 1) rfl rfl (by kernel_rfl) (fun _ _ _ h => h) (Or.inl ⟨by rfl, ?_⟩) ?_ ?_
    rotate_left
    ·intro w'
     go_simp
     with_reducible rfl
    rotate_left
    ·simp only [Act.put, ls, lz, ln, i64_w, i32_w]
     rfl
    refine pure_ (i := 2) (N := some 25) (v := ?_) (a' := ?_) (bl 7 5) rfl rfl (by kernel_rfl) (fun _ _ _ h => h) (Or.inl ⟨by rfl, ?_⟩) ?_ ?_
    rotate_left
    ·intro w'
     go_simp
     with_reducible rfl
    rotate_left
    ·simp only [Act.put, ls, lz, ln, i64_w, i32_w]
     rfl
    refine take_ (i := 1) (N := some 24) (v := ?_) (a' := ?_) (bl 7 7) rfl rfl (by kernel_rfl) (fun _ _ _ h => h) (Or.inl ⟨by rfl, ?_⟩) hHeld ?_ ?_
    rotate_left
    ·rintro w' ⟨s0, s1, s2⟩
     go_simp
     with_reducible rfl
    rotate_left
    ·simp only [Act.put, ls, lz, ln, i64_w, i32_w]
     rfl
    refine pure_ (i := 5) (N := some 6) (v := ?_) (a' := ?_) (bl 7 39) rfl rfl (by kernel_rfl) (fun _ _ _ h => h) (Or.inl ⟨by rfl, ?_⟩) ?_ ?_
    rotate_left
    ·intro w'
     go_simp
     with_reducible rfl
    rotate_left
    ·simp only [Act.put, ls, lz, ln, i64_w, i32_w]
     rfl
    refine take_ (i := 3) (N := some 26) (v := ?_) (a' := ?_) (bl 7 47) rfl rfl (by kernel_rfl) (fun _ _ _ h => h) (Or.inl ⟨by rfl, ?_⟩) hHeld ?_ ?_
    rotate_left
    ·rintro w' ⟨s0, s1, s2⟩
     go_simp
     with_reducible rfl
    rotate_left
    ·simp only [Act.put, ls, lz, ln, i64_w, i32_w]
     rfl
    refine pure_ (i := 4) (N := some 27) (v := ?_) (a' := ?_) (bl 7 63) rfl rfl (by kernel_rfl) (fun _ _ _ h => h) (Or.inl ⟨by rfl, ?_⟩) ?_ ?_
    rotate_left
    ·intro w'
     go_simp
     with_reducible rfl
    rotate_left
    ·simp only [Act.put, ls, lz, ln, i64_w, i32_w]
     rfl
    refine pure_ (i := 6) (N := some 7) (v := ?_) (a' := ?_) (bl 7 127) rfl rfl (by kernel_rfl) (fun _ _ _ h => h) (Or.inl ⟨by rfl, ?_⟩) ?_ ?_
    rotate_left
    ·intro w'
     go_simp
     with_reducible rfl
    rotate_left
    ·simp only [Act.put, ls, lz, ln, i64_w, i32_w]
     rfl
    refine done_ (by kernel_rfl) ?_
    have hcz44_0 := bc BK743 0
    have hcz44_1 := bc BK743 1
    have hcz44_2 := bc BK743 2
    have hfz44_0 := bf BK743 0
    have hfz44_1 := bf BK743 1
    have hfz44_2 := bf BK743 2
    try go_wp2_with (first | ((with_reducible refine gate_callee (f := 85) rfl ?_); refine gL (some 30) Try.func85 #[.agg #[.int .i64 a0_0, .slice A0_1 l0_1.length c0_1, .slice A0_2 l0_2.length c0_2], .int .i64 (l0_1.length : Int)] ?_; (with_reducible refine (spec_l03Cut.calls a0_0 _ _ l0_1 _ _ l0_2 (l0_1.length : Int) t747 t748 t751 _ ?side1 ?side2 ?side3 ?side4 A7.out).mono ?_); (case side1 => exact uC ((Kd.C_below HR0_1.out HB.out))); (case side2 => exact HC0_1.out); (case side3 => exact uC ((Kd.C_below HR0_2.out HB.out))); (case side4 => exact HC0_2.out); rintro e w45 ⟨v749, v752, rfl, ho0, ho1, hb⟩; refine ⟨_, rfl, ?_⟩; have HO750 := zA (Kd.R_lower ho0 (below_size (uH HB.out))); have HO753 := zA (Kd.R_lower ho1 (below_size (uH HB.out))); replace BK743 := xB BK743 hb; replace BK744 := xB BK744 hb; replace HB := xH HB hb; (try clear hb); (try clear hb2); (try clear hk); (try clear hi); (try clear ho0); (try clear ho1)) | ((with_reducible refine gate_dst (N := 8) rfl ?_); refine bx 8 #[.int .i64 0, .slice none 0 0, .slice none 0 0] 46 ?_; intro gb754 hg w46 hbox hb; replace HO750 := xR HO750 hb; replace HO753 := xR HO753 hb; have BK754 := zA (hbox); have GW754 := gq HB hg; have GE754 := gq HB hg; replace HB := xH HB hb; have NB743_754 := zA ((by rw [hg]; exact neL BK743 : gb743 ≠ gb754)); have NB754_743 := zA ((by rw [hg]; exact neG BK743 : gb754 ≠ gb743)); replace BK743 := xB BK743 hb; have NB744_754 := zA ((by rw [hg]; exact neL BK744 : gb744 ≠ gb754)); have NB754_744 := zA ((by rw [hg]; exact neG BK744 : gb754 ≠ gb744)); replace BK744 := xB BK744 hb; have := geI GE754; clear hb hbox hg; have hnb47 := NB754_743.out; have hnc47 := NB743_754.out; have hnb48 := NB754_744.out; have hnc48 := NB744_754.out; have hcz49_0 := bc BK754 0; have hcz49_1 := bc BK754 1; have hcz49_2 := bc BK754 2; have hfz49_0 := bf BK754 0; have hfz49_1 := bf BK754 1; have hfz49_2 := bf BK754 2; obtain ⟨Ao50, co50, eo50⟩ := Kd.R_slice HO750.out; subst eo50; obtain ⟨Ao51, co51, eo51⟩ := Kd.R_slice HO753.out; subst eo51; have hcz52_0 := bc BK743 0; have hcz52_1 := bc BK743 1; have hcz52_2 := bc BK743 2; have hfz52_0 := bf BK743 0; have hfz52_1 := bf BK743 1; have hfz52_2 := bf BK743 2) | ((with_reducible refine gate_callee (f := 72) rfl ?_); refine gL (some 42) Try.func72 #[.agg #[.int .i64 a0_0, .slice A0_1 l0_1.length c0_1, .slice A0_2 l0_2.length c0_2], .int .i64 (wrap64 ((l0_1.length : Int) - 1))] ?_; (with_reducible refine (spec_l03Poly.calls k a0_0 _ _ l0_1 _ _ l0_2 (wrap64 ((l0_1.length : Int) - 1)) t756 _ ?side1 ?side2 ?side3 ?side4 A33.out).mono ?_); (case side1 => exact Kd.C_below HR0_1.out (uH HB.out)); (case side2 => exact HC0_1.out); (case side3 => exact Kd.C_below HR0_2.out (uH HB.out)); (case side4 => exact HC0_2.out); rintro e w53 ⟨v757, rfl, ho0, hb⟩; refine ⟨_, rfl, ?_⟩; have HO758 := zA (Kd.R_lower (Kd.R_new' (Kd.R_new' ho0 (Kd.R_lt (uR ((rf3 HO750 BK754 (by decide) (.int .i64 t747) (.slice Ao50 t748.length co50) (.slice Ao51 t751.length co51)))))) (Kd.R_lt (uR ((rf3 HO753 BK754 (by decide) (.int .i64 t747) (.slice Ao50 t748.length co50) (.slice Ao51 t751.length co51)))))) (below_size (uH HB.out))); replace HO750 := zA (Kd.R_elder' (uR ((rf3 HO750 BK754 (by decide) (.int .i64 t747) (.slice Ao50 t748.length co50) (.slice Ao51 t751.length co51)))) (Kd.R_base ho0) hb); replace HO753 := zA (Kd.R_elder' (uR ((rf3 HO753 BK754 (by decide) (.int .i64 t747) (.slice Ao50 t748.length co50) (.slice Ao51 t751.length co51)))) (Kd.R_base ho0) hb); replace BK743 := zA (blk_below (g := gb743) (o := .cells #[.int .i64 a0_0, .slice A0_1 l0_1.length c0_1, .slice A0_2 l0_2.length c0_2] 46 (0, 0)) (by (repeat refine up1 ?_); refine blk_far ?_ NB743_754.out _; (repeat refine up1 ?_); refine blk_far ?_ NB743_754.out _; (repeat refine up1 ?_); refine blk_far ?_ NB743_754.out _; (repeat refine up1 ?_); exact BK743.out) hb); replace BK744 := zA (blk_below (g := gb744) (o := .cells #[.int .i64 0, .slice none 0 0, .slice none 0 0] 46 (0, 0)) (by (repeat refine up1 ?_); refine blk_far ?_ NB744_754.out _; (repeat refine up1 ?_); refine blk_far ?_ NB744_754.out _; (repeat refine up1 ?_); refine blk_far ?_ NB744_754.out _; (repeat refine up1 ?_); exact BK744.out) hb); replace BK754 := zA (blk_below (g := gb754) (o := .cells #[.int .i64 t747, .slice Ao50 t748.length co50, .slice Ao51 t751.length co51] 46 (0, 0)) (by (repeat refine up1 ?_); refine blk_put (cs := #[.int .i64 t747, .slice Ao50 t748.length co50, .slice none 0 0]) ?_ 2 _ rfl; (repeat refine up1 ?_); refine blk_put (cs := #[.int .i64 t747, .slice none 0 0, .slice none 0 0]) ?_ 1 _ rfl; (repeat refine up1 ?_); refine blk_put (cs := #[.int .i64 0, .slice none 0 0, .slice none 0 0]) ?_ 0 _ rfl; (repeat refine up1 ?_); exact BK754.out) hb); replace HB := xH HB hb; (try clear hb); (try clear hb2); (try clear hk); (try clear hi); (try clear ho0); obtain ⟨Ao54, co54, eo54⟩ := Kd.R_slice HO758.out; subst eo54) | ((with_reducible refine gate_callee (f := 71) rfl ?_); refine gL (some 44) Try.func71 #[.int .i64 a0_0, .slice Ao54 t756.length co54, .int .i64 a1] ?_; (with_reducible refine (spec_l01At.calls k a0_0 _ _ t756 a1 t759 _ ?side1 ?side2 A34.out).mono ?_); (case side1 => exact uC ((Kd.R_reads' HO758.out).2.2)); (case side2 => exact (Kd.R_reads' HO758.out).2.1); rintro e w' ⟨rfl, ⟨nd, rfl⟩⟩; refine ⟨_, rfl, ?_⟩; (try (rw [drewN_self w53]; generalize hq_ : World.drewN w53 _ = w53; have n0_ : Aside0 (Kd.R (Kd.int .i64) 2 w53 w.heap.size (fun k_ => ax k_ (.slice Ao51 t751.length co51) ∧ ax k_ (.slice Ao54 t756.length co54)) (.slice Ao50 t748.length co50) t748) := ⟨by rw [← hq_]; exact (uR HO750.out)⟩; have n1_ : Aside0 (Kd.R (Kd.int .i64) 2 w53 w.heap.size (fun k_ => ax k_ (.slice Ao50 t748.length co50) ∧ ax k_ (.slice Ao54 t756.length co54)) (.slice Ao51 t751.length co51) t751) := ⟨by rw [← hq_]; exact (uR HO753.out)⟩; have n2_ : Aside0 (Kd.R (Kd.int .i64) 2 w53 w.heap.size (fun k_ => ax k_ (.slice Ao50 t748.length co50) ∧ ax k_ (.slice Ao51 t751.length co51)) (.slice Ao54 t756.length co54) t756) := ⟨by rw [← hq_]; exact (uR (Kd.R_mono HO758.out (fun _ hk => ⟨hk.1.2, hk.2⟩)))⟩; have n3_ : Aside0 (w53.heap[gb743]? = some (.cells #[.int .i64 a0_0, .slice A0_1 l0_1.length c0_1, .slice A0_2 l0_2.length c0_2] 46 (0, 0))) := ⟨by rw [← hq_]; exact (uB BK743.out)⟩; have n4_ : Aside0 (w53.heap[gb744]? = some (.cells #[.int .i64 0, .slice none 0 0, .slice none 0 0] 46 (0, 0))) := ⟨by rw [← hq_]; exact (uB BK744.out)⟩; have n5_ : Aside0 (w53.heap[gb754]? = some (.cells #[.int .i64 t747, .slice Ao50 t748.length co50, .slice Ao51 t751.length co51] 46 (0, 0))) := ⟨by rw [← hq_]; exact (uB BK754.out)⟩; have n6_ : Aside0 (Below w.heap.size w w53) := ⟨by rw [← hq_]; exact (uH HB.out)⟩; clear HO750 HO753 HO758 BK743 BK744 BK754 HB hq_; have HO750 := n0_; have HO753 := n1_; have HO758 := n2_; have BK743 := n3_; have BK744 := n4_; have BK754 := n5_; have HB := n6_; clear n0_ n1_ n2_ n3_ n4_ n5_ n6_)); have hcz55_0 := bc BK744 0; have hcz55_1 := bc BK744 1; have hcz55_2 := bc BK744 2; have hfz55_0 := bf BK744 0; have hfz55_1 := bf BK744 1; have hfz55_2 := bf BK744 2))
    refine bodyPost_ret (results_ct rfl _ _ gb744 46 #[.int .i64 0, .slice none 0 0, .slice none 0 0] (0, 0) _ rfl (by (repeat refine up1 ?_); refine blk_put (cs := #[.int .i64 0, .slice none 0 0, .slice none 0 0]) ?_ 2 _ rfl; (repeat refine up1 ?_); refine blk_put (cs := #[.int .i64 0, .slice none 0 0, .slice none 0 0]) ?_ 1 _ rfl; (repeat refine up1 ?_); refine blk_put (cs := #[.int .i64 0, .slice none 0 0, .slice none 0 0]) ?_ 0 _ rfl; (repeat refine up1 ?_); exact BK744.out) Try.underlying46 rfl (by kernel_rfl)) rfl ?_
    exact ⟨_, _, by first | rfl | (simp [errW_none, errW_some] <;> rfl) | (simp [*, errW_none, errW_some] <;> rfl), by first | exact Kd.R_nil _ _ _ _ _ | exact Kd.N_nil _ _ _ _ _ | exact Kd.V_nil _ _ _ _ _ | exact Kd.Q_nil _ _ _ _ _ | exact Kd.S_nil _ _ _ _ _, by first | exact Kd.R_nil _ _ _ _ _ | exact Kd.N_nil _ _ _ _ _ | exact Kd.V_nil _ _ _ _ _ | exact Kd.Q_nil _ _ _ _ _ | exact Kd.S_nil _ _ _ _ _, uH HB.out⟩
   rw [if_pos c8] at H
   have c8b0 : ((l0_1.length : Int) == 1) = true := beq_iff_eq.mpr c8
   have c8b1 : ((l0_1.length : Int) != 1) = false := bne_eq_false_iff_eq.mpr c8
   clear c8
   by_cases c9 : 0 < (t748.length : Int)
   rotate_left
   ·rw [if_neg c9] at H
    exact absurd H (by simp)
   rw [if_pos c9] at H
   have c9b0 : decide (0 < (t748.length : Int)) = true := decide_eq_true c9
   have c9b1 : decide (0 < t748.length) = true := decide_eq_true (by omega)
   clear c9
   obtain ⟨y755, hy755⟩ : ∃ y_ : List Int, y_ = (t748.set (0 : Int).toNat a1) := ⟨_, rfl⟩
   replace H : (some (t747, y755, t751, 0)) = some (r1, r2, r3, r4) := by first | (rw [hy755]; exact H) | exact H
   have Ny755 := zA hy755
   clear hy755
   simp only [Option.some.injEq, Prod.mk.injEq] at H
   obtain ⟨rfl, rfl, rfl, rfl⟩ := H
   go_enter Try.func34, Try.ntmps34
   try go_wp2_with (first | ((with_reducible refine gate_dst (N := 2) rfl ?_); refine bx 2 #[.int .i64 a0_0, .slice A0_1 l0_1.length c0_1, .slice A0_2 l0_2.length c0_2] 46 ?_; intro gb743 hg w11 hbox hb; have BK743 := zA (hbox); have GW743 := gq HB hg; have GE743 := gq HB hg; replace HB := xH HB hb; have := geI GE743; clear hb hbox hg) | ((with_reducible refine gate_dst (N := 4) rfl ?_); refine bx 4 #[.int .i64 0, .slice none 0 0, .slice none 0 0] 46 ?_; intro gb744 hg w12 hbox hb; have BK744 := zA (hbox); have GW744 := gq HB hg; have GE744 := gq HB hg; replace HB := xH HB hb; have NB743_744 := zA ((by rw [hg]; exact neL BK743 : gb743 ≠ gb744)); have NB744_743 := zA ((by rw [hg]; exact neG BK743 : gb744 ≠ gb743)); replace BK743 := xB BK743 hb; have := geI GE744; clear hb hbox hg; have hnb13 := NB743_744.out; have hnc13 := NB744_743.out; have hcz14_0 := bc BK743 0; have hcz14_1 := bc BK743 1; have hcz14_2 := bc BK743 2; have hfz14_0 := bf BK743 0; have hfz14_1 := bf BK743 1; have hfz14_2 := bf BK743 2) | ((with_reducible refine gate_callee (f := 80) rfl ?_); refine gL (some 12) Try.func80 #[.agg #[.int .i64 a0_0, .slice A0_1 l0_1.length c0_1, .slice A0_2 l0_2.length c0_2]] ?_; (with_reducible refine (spec_l03Is.calls k a0_0 _ _ l0_1 _ _ l0_2 true _ ?side1 ?side2 ?side3 ?side4 A3.out).mono ?_); (case side1 => exact uC ((Kd.C_below HR0_1.out HB.out))); (case side2 => exact HC0_1.out); (case side3 => exact uC ((Kd.C_below HR0_2.out HB.out))); (case side4 => exact HC0_2.out); rintro e w15 ⟨rfl, hb⟩; refine ⟨_, rfl, ?_⟩; replace BK743 := xB BK743 hb; replace BK744 := xB BK744 hb; replace HB := xH HB hb; (try clear hb); (try clear hb2); (try clear hk); (try clear hi); have hcz16_0 := bc BK743 0; have hcz16_1 := bc BK743 1; have hcz16_2 := bc BK743 2; have hfz16_0 := bf BK743 0; have hfz16_1 := bf BK743 1; have hfz16_2 := bf BK743 2) | ((with_reducible refine gate_callee (f := 70) rfl ?_); refine gL (some 20) Try.func70 #[.int .i64 a1, .int .i64 0, .int .i64 (wrap64 (a0_0 - 1))] ?_; (with_reducible refine (spec_l01In.calls a1 0 (wrap64 (a0_0 - 1)) true _ A5.out).mono ?_); rintro e w' ⟨rfl, ⟨nd, rfl⟩⟩; refine ⟨_, rfl, ?_⟩; (try (rw [drewN_self w15]; generalize hq_ : World.drewN w15 _ = w15; have n0_ : Aside0 (w15.heap[gb743]? = some (.cells #[.int .i64 a0_0, .slice A0_1 l0_1.length c0_1, .slice A0_2 l0_2.length c0_2] 46 (0, 0))) := ⟨by rw [← hq_]; exact (uB BK743.out)⟩; have n1_ : Aside0 (w15.heap[gb744]? = some (.cells #[.int .i64 0, .slice none 0 0, .slice none 0 0] 46 (0, 0))) := ⟨by rw [← hq_]; exact (uB BK744.out)⟩; have n2_ : Aside0 (Below w.heap.size w w15) := ⟨by rw [← hq_]; exact (uH HB.out)⟩; clear BK743 BK744 HB hq_; have BK743 := n0_; have BK744 := n1_; have HB := n2_; clear n0_ n1_ n2_)); (try have hcuy17_0 : w15.cell? ⟨gb743, 0, none⟩ = some (.int .i64 a0_0) := (blk_cell BK743.out 0).trans rfl); (try have hcuy17_1 : w15.cell? ⟨gb743, 1, none⟩ = some (.slice A0_1 l0_1.length c0_1) := (blk_cell BK743.out 1).trans rfl); (try have hcuy17_2 : w15.cell? ⟨gb743, 2, none⟩ = some (.slice A0_2 l0_2.length c0_2) := (blk_cell BK743.out 2).trans rfl)))
   replace BK743 := zA (blk_drew BK743.out)
   replace BK744 := zA (blk_drew BK744.out)
   replace HB := zA (below_drew1 HB.out)
   refine start_ (n := 7) (S := fun w' => w'.cell? ⟨gb743, 0, none⟩ = some (.int .i64 a0_0) ∧ w'.cell? ⟨gb743, 1, none⟩ = some (.slice A0_1 l0_1.length c0_1) ∧ w'.cell? ⟨gb743, 2, none⟩ = some (.slice A0_2 l0_2.length c0_2)) (ds := []) #[false, false, false, false, false, false, false] (by kernel_rfl) rfl rfl ⟨bcu BK743 0, bcu BK743 1, bcu BK743 2⟩ (fun hHeld => ?_)
   generalize w15.drew = w18 at BK743 BK744 HB hHeld ⊢
   refine pure_ (i := 0) (N := some 23) (v := ?_) (a' := ?_) (bl 7 1) rfl rfl (by kernel_rfl) (fun _ _ _ h => h) (Or.inl ⟨by rfl, ?_⟩) ?_ ?_
   rotate_left
   ·intro w'
    go_simp
    with_reducible rfl
   rotate_left
   ·simp only [Act.put, ls, lz, ln, i64_w, i32_w]
    rfl
   refine pure_ (i := 2) (N := some 25) (v := ?_) (a' := ?_) (bl 7 5) rfl rfl (by kernel_rfl) (fun _ _ _ h => h) (Or.inl ⟨by rfl, ?_⟩) ?_ ?_
   rotate_left
   ·intro w'
    go_simp
    with_reducible rfl
   rotate_left
   ·simp only [Act.put, ls, lz, ln, i64_w, i32_w]
    rfl
   refine take_ (i := 1) (N := some 24) (v := ?_) (a' := ?_) (bl 7 7) rfl rfl (by kernel_rfl) (fun _ _ _ h => h) (Or.inl ⟨by rfl, ?_⟩) hHeld ?_ ?_
   rotate_left
   ·rintro w' ⟨s0, s1, s2⟩
    go_simp
    with_reducible rfl
   rotate_left
   ·simp only [Act.put, ls, lz, ln, i64_w, i32_w]
    rfl
   refine pure_ (i := 5) (N := some 6) (v := ?_) (a' := ?_) (bl 7 39) rfl rfl (by kernel_rfl) (fun _ _ _ h => h) (Or.inl ⟨by rfl, ?_⟩) ?_ ?_
   rotate_left
   ·intro w'
    go_simp
    with_reducible rfl
   rotate_left
   ·simp only [Act.put, ls, lz, ln, i64_w, i32_w]
    rfl
   refine take_ (i := 3) (N := some 26) (v := ?_) (a' := ?_) (bl 7 47) rfl rfl (by kernel_rfl) (fun _ _ _ h => h) (Or.inl ⟨by rfl, ?_⟩) hHeld ?_ ?_
   rotate_left
   ·rintro w' ⟨s0, s1, s2⟩
    go_simp
    with_reducible rfl
   rotate_left
   ·simp only [Act.put, ls, lz, ln, i64_w, i32_w]
    rfl
   refine pure_ (i := 4) (N := some 27) (v := ?_) (a' := ?_) (bl 7 63) rfl rfl (by kernel_rfl) (fun _ _ _ h => h) (Or.inl ⟨by rfl, ?_⟩) ?_ ?_
   rotate_left
   ·intro w'
    go_simp
    with_reducible rfl
   rotate_left
   ·simp only [Act.put, ls, lz, ln, i64_w, i32_w]
    rfl
   refine pure_ (i := 6) (N := some 7) (v := ?_) (a' := ?_) (bl 7 127) rfl rfl (by kernel_rfl) (fun _ _ _ h => h) (Or.inl ⟨by rfl, ?_⟩) ?_ ?_
   rotate_left
   ·intro w'
    go_simp
    with_reducible rfl
   rotate_left
   ·simp only [Act.put, ls, lz, ln, i64_w, i32_w]
    rfl
   refine done_ (by kernel_rfl) ?_
   have hcz19_0 := bc BK743 0
   have hcz19_1 := bc BK743 1
   have hcz19_2 := bc BK743 2
   have hfz19_0 := bf BK743 0
   have hfz19_1 := bf BK743 1
   have hfz19_2 := bf BK743 2
   try go_wp2_with (first | ((with_reducible refine gate_callee (f := 85) rfl ?_); refine gL (some 30) Try.func85 #[.agg #[.int .i64 a0_0, .slice A0_1 l0_1.length c0_1, .slice A0_2 l0_2.length c0_2], .int .i64 (l0_1.length : Int)] ?_; (with_reducible refine (spec_l03Cut.calls a0_0 _ _ l0_1 _ _ l0_2 (l0_1.length : Int) t747 t748 t751 _ ?side1 ?side2 ?side3 ?side4 A7.out).mono ?_); (case side1 => exact uC ((Kd.C_below HR0_1.out HB.out))); (case side2 => exact HC0_1.out); (case side3 => exact uC ((Kd.C_below HR0_2.out HB.out))); (case side4 => exact HC0_2.out); rintro e w20 ⟨v749, v752, rfl, ho0, ho1, hb⟩; refine ⟨_, rfl, ?_⟩; have HO750 := zA (Kd.R_lower ho0 (below_size (uH HB.out))); have HO753 := zA (Kd.R_lower ho1 (below_size (uH HB.out))); replace BK743 := xB BK743 hb; replace BK744 := xB BK744 hb; replace HB := xH HB hb; (try clear hb); (try clear hb2); (try clear hk); (try clear hi); (try clear ho0); (try clear ho1)) | ((with_reducible refine gate_dst (N := 8) rfl ?_); refine bx 8 #[.int .i64 0, .slice none 0 0, .slice none 0 0] 46 ?_; intro gb754 hg w21 hbox hb; replace HO750 := xR HO750 hb; replace HO753 := xR HO753 hb; have BK754 := zA (hbox); have GW754 := gq HB hg; have GE754 := gq HB hg; replace HB := xH HB hb; have NB743_754 := zA ((by rw [hg]; exact neL BK743 : gb743 ≠ gb754)); have NB754_743 := zA ((by rw [hg]; exact neG BK743 : gb754 ≠ gb743)); replace BK743 := xB BK743 hb; have NB744_754 := zA ((by rw [hg]; exact neL BK744 : gb744 ≠ gb754)); have NB754_744 := zA ((by rw [hg]; exact neG BK744 : gb754 ≠ gb744)); replace BK744 := xB BK744 hb; have := geI GE754; clear hb hbox hg; have hnb22 := NB754_743.out; have hnc22 := NB743_754.out; have hnb23 := NB754_744.out; have hnc23 := NB744_754.out; have hcz24_0 := bc BK754 0; have hcz24_1 := bc BK754 1; have hcz24_2 := bc BK754 2; have hfz24_0 := bf BK754 0; have hfz24_1 := bf BK754 1; have hfz24_2 := bf BK754 2; obtain ⟨Ao25, co25, eo25⟩ := Kd.R_slice HO750.out; subst eo25; obtain ⟨Ao26, co26, eo26⟩ := Kd.R_slice HO753.out; subst eo26) | ((with_reducible refine gate_store (t := 46) (p := 8) rfl ?_); refine store_event (t := 46) (p := 8) (v := ?vo_w27) (w1 := (((w21.setCell ⟨gb754, 0, none⟩ (.int .i64 t747)).setCell ⟨gb754, 1, none⟩ (.slice Ao25 t748.length co25)).setCell ⟨gb754, 2, none⟩ (.slice Ao26 t751.length co26))) ?hg ?ho ?hn ?hr ?_; (case ho => rfl); (case hg => rfl); (case hn => rfl); (case hr => first | (go_simp; done) | (go_simp; rfl)); intro w27 hw; have n0_ : Aside0 (Kd.R (Kd.int .i64) 2 w27 w.heap.size (fun k_ => ax k_ (.slice Ao26 t751.length co26)) (.slice Ao25 t748.length co25) t748) := ⟨(by rw [hw]; exact (uR (rf3 HO750 BK754 (by decide) (.int .i64 t747) (.slice Ao25 t748.length co25) (.slice Ao26 t751.length co26))))⟩; have n1_ : Aside0 (Kd.R (Kd.int .i64) 2 w27 w.heap.size (fun k_ => ax k_ (.slice Ao25 t748.length co25)) (.slice Ao26 t751.length co26) t751) := ⟨(by rw [hw]; exact (uR (rf3 HO753 BK754 (by decide) (.int .i64 t747) (.slice Ao25 t748.length co25) (.slice Ao26 t751.length co26))))⟩; have n2_ : Aside0 (w27.heap[gb743]? = some (.cells #[.int .i64 a0_0, .slice A0_1 l0_1.length c0_1, .slice A0_2 l0_2.length c0_2] 46 (0, 0))) := ⟨(by rw [hw]; exact (by (repeat refine up1 ?_); refine blk_far ?_ NB743_754.out _; (repeat refine up1 ?_); refine blk_far ?_ NB743_754.out _; (repeat refine up1 ?_); refine blk_far ?_ NB743_754.out _; (repeat refine up1 ?_); exact BK743.out))⟩; have n3_ : Aside0 (w27.heap[gb744]? = some (.cells #[.int .i64 0, .slice none 0 0, .slice none 0 0] 46 (0, 0))) := ⟨(by rw [hw]; exact (by (repeat refine up1 ?_); refine blk_far ?_ NB744_754.out _; (repeat refine up1 ?_); refine blk_far ?_ NB744_754.out _; (repeat refine up1 ?_); refine blk_far ?_ NB744_754.out _; (repeat refine up1 ?_); exact BK744.out))⟩; have n4_ : Aside0 (w27.heap[gb754]? = some (.cells #[.int .i64 t747, .slice Ao25 t748.length co25, .slice Ao26 t751.length co26] 46 (0, 0))) := ⟨(by rw [hw]; exact (by (repeat refine up1 ?_); refine blk_put (cs := #[.int .i64 t747, .slice Ao25 t748.length co25, .slice none 0 0]) ?_ 2 _ rfl; (repeat refine up1 ?_); refine blk_put (cs := #[.int .i64 t747, .slice none 0 0, .slice none 0 0]) ?_ 1 _ rfl; (repeat refine up1 ?_); refine blk_put (cs := #[.int .i64 0, .slice none 0 0, .slice none 0 0]) ?_ 0 _ rfl; (repeat refine up1 ?_); exact BK754.out))⟩; have n5_ : Aside0 (Below w.heap.size w w27) := ⟨(by rw [hw]; exact (uH HB.out))⟩; clear hw HO750 HO753 BK743 BK744 BK754 HB; have HO750 := n0_; have HO753 := n1_; have BK743 := n2_; have BK744 := n3_; have BK754 := n4_; have HB := n5_; clear n0_ n1_ n2_ n3_ n4_ n5_; have hcz28_0 := bc BK754 0; have hcz28_1 := bc BK754 1; have hcz28_2 := bc BK754 2; have hfz28_0 := bf BK754 0; have hfz28_1 := bf BK754 1; have hfz28_2 := bf BK754 2; have p10 : 0 ≤ (0 : Int) := (by omega); have q10 : (0 : Int) < ((t748.length : Int) : Int) := of_decide_eq_true (by first | (with_reducible assumption) | assumption); have qi10 : (0 < t748.length) = True := eq_true (by omega); obtain ⟨go10, co10, eo10, gb10, gl10, cl10, HG10⟩ := Kd.R_form HO750.out (by omega); (first | cases eo10 | (injection eo10 with ea_ en_ ec_; (first | subst ea_ | (injection ea_ with ea_; subst ea_)); subst ec_; clear en_)); have GB10 := zA gb10; have := geI GB10; have GG10 := zA HG10; clear gb10 gl10 HG10; obtain ⟨hx10_0, hf10_0⟩ := Kd.R_celln 0 HO750.out (0 : Int) p10 q10; (try rw [show ((0 : Int)).toNat = 0 from rfl] at hx10_0); (try simp only [Nat.reduceMul, Nat.zero_mul, Nat.zero_add, Nat.reduceAdd] at hx10_0); (try rw [show ((0 : Int)).toNat = 0 from rfl] at hf10_0); (try simp only [Nat.reduceMul, Nat.zero_mul, Nat.zero_add, Nat.reduceAdd] at hf10_0); replace p10 := eq_true p10; replace q10 := eq_true q10; obtain ⟨hy29_, hz29_⟩ := Kd.R_celln 0 HO750.out (0 : Int) (by omega) (of_decide_eq_true (by first | (with_reducible assumption) | assumption)); (try simp only [Int.reduceToNat, Int.toNat_zero, Int.toNat_ofNat, Nat.reduceMul, Nat.zero_mul, Nat.zero_add] at hy29_ hz29_); (try rw [show ((0 : Int)).toNat = 0 from rfl] at hy29_); (try rw [show ((0 : Int)).toNat = 0 from rfl] at hz29_); have HP29 := Kd.R_putg HO750.out (0 : Int) a1) | ((with_reducible refine gate_store (t := 2) (p := 36) rfl ?_); refine store_event (t := 2) (p := 36) (v := ?vo_w30) (w1 := (w27.setCell ⟨go10, (0 : Int).toNat, none⟩ (.int .i64 a1))) ?hg ?ho ?hn ?hr ?_; (case ho => rfl); (case hg => rfl); (case hn => rfl); (case hr => first | (go_simp; done) | (go_simp; rfl)); intro w30 hw; have hg : w27.grownBy w30 (some go10) := (by rw [hw]; exact HP29.2); have hp_ : Kd.R (Kd.int .i64) 2 w30 w.heap.size (fun k_ => ax k_ (.slice Ao26 t751.length co26)) (.slice (some ⟨go10, 0, none⟩) t748.length co25) y755 := (by rw [hw, Ny755.out]; exact HP29.1); clear HP29; replace BK743 := zA (blk_grown (g := gb743) (o := .cells #[.int .i64 a0_0, .slice A0_1 l0_1.length c0_1, .slice A0_2 l0_2.length c0_2] 46 (0, 0)) (uB BK743.out) hg (Kd.R_ne HO750.out BK743.out (by decide))); replace BK744 := zA (blk_grown (g := gb744) (o := .cells #[.int .i64 0, .slice none 0 0, .slice none 0 0] 46 (0, 0)) (uB BK744.out) hg (Kd.R_ne HO750.out BK744.out (by decide))); replace HO753 := zA (Kd.R_after (v := (.slice (some ⟨go10, 0, none⟩) t748.length co25)) (v1 := (.slice (some ⟨go10, 0, none⟩) t748.length co25)) (ok := (fun _ => True)) (uR (Kd.R_mono HO753.out (fun _ hk => ⟨trivial, hk⟩))) hg (.inl rfl)); replace BK754 := zA (blk_grown (g := gb754) (o := .cells #[.int .i64 t747, .slice (some ⟨go10, 0, none⟩) t748.length co25, .slice Ao26 t751.length co26] 46 (0, 0)) (uB BK754.out) hg (Kd.R_ne HO750.out BK754.out (by decide))); replace HO750 := zA (hp_); replace HB := zA ((by rw [hw]; exact below_set (HB.out) GB10.out : Below w.heap.size w w30)); clear hg hw hp_; have hcz31_0 := bc BK754 0; have hcz31_1 := bc BK754 1; have hcz31_2 := bc BK754 2; have hfz31_0 := bf BK754 0; have hfz31_1 := bf BK754 1; have hfz31_2 := bf BK754 2; have hcz32_0 := bc BK744 0; have hcz32_1 := bc BK744 1; have hcz32_2 := bc BK744 2; have hfz32_0 := bf BK744 0; have hfz32_1 := bf BK744 1; have hfz32_2 := bf BK744 2))
   refine bodyPost_ret (results_ct rfl _ _ gb744 46 #[.int .i64 t747, .slice (some ⟨go10, 0, none⟩) t748.length co25, .slice Ao26 t751.length co26] (0, 0) _ rfl (by (repeat refine up1 ?_); refine blk_put (cs := #[.int .i64 t747, .slice (some ⟨go10, 0, none⟩) t748.length co25, .slice none 0 0]) ?_ 2 _ rfl; (repeat refine up1 ?_); refine blk_put (cs := #[.int .i64 t747, .slice none 0 0, .slice none 0 0]) ?_ 1 _ rfl; (repeat refine up1 ?_); refine blk_put (cs := #[.int .i64 0, .slice none 0 0, .slice none 0 0]) ?_ 0 _ rfl; (repeat refine up1 ?_); exact BK744.out) Try.underlying46 rfl (by kernel_rfl)) rfl ?_
   exact ⟨_, _, by first | rfl | (simp [errW_none, errW_some] <;> rfl) | (simp [*, errW_none, errW_some] <;> rfl), uR (rf3 HO750 BK744 (by decide) (.int .i64 t747) (.slice (some ⟨go10, 0, none⟩) t748.length co25) (.slice Ao26 t751.length co26)), uR (Kd.R_mono (Kd.R_far (p := ⟨gb744, 2, none⟩) (Kd.R_far (p := ⟨gb744, 1, none⟩) (Kd.R_far (p := ⟨gb744, 0, none⟩) (Kd.R_types HO753.out BK744.out (by decide)) (fun _ hk => hk.2) (.int .i64 t747)) (fun _ hk => hk.2) (.slice (some ⟨go10, 0, none⟩) t748.length co25)) (fun _ hk => hk.2) (.slice Ao26 t751.length co26)) (fun _ hk => hk.1.2)), uH HB.out⟩
  ·replace c6 := Bool.eq_false_iff.mpr c6
   subst c6
   have H1 : (some (0, ([] : List Int), ([] : List Int), 2)) = some (r1, r2, r3, r4) := by rw [if_neg (show ¬ (false = true) by decide)] at H; exact H
   clear H
   have H := H1
   clear H1
   simp only [Option.some.injEq, Prod.mk.injEq] at H
   obtain ⟨rfl, rfl, rfl, rfl⟩ := H
   go_enter Try.func34, Try.ntmps34
   go_wp2_with (first | ((with_reducible refine gate_dst (N := 2) rfl ?_); refine bx 2 #[.int .i64 a0_0, .slice A0_1 l0_1.length c0_1, .slice A0_2 l0_2.length c0_2] 46 ?_; intro gb743 hg w92 hbox hb; have BK743 := zA (hbox); have GW743 := gq HB hg; have GE743 := gq HB hg; replace HB := xH HB hb; have := geI GE743; clear hb hbox hg) | ((with_reducible refine gate_dst (N := 4) rfl ?_); refine bx 4 #[.int .i64 0, .slice none 0 0, .slice none 0 0] 46 ?_; intro gb744 hg w93 hbox hb; have BK744 := zA (hbox); have GW744 := gq HB hg; have GE744 := gq HB hg; replace HB := xH HB hb; have NB743_744 := zA ((by rw [hg]; exact neL BK743 : gb743 ≠ gb744)); have NB744_743 := zA ((by rw [hg]; exact neG BK743 : gb744 ≠ gb743)); replace BK743 := xB BK743 hb; have := geI GE744; clear hb hbox hg; have hnb94 := NB743_744.out; have hnc94 := NB744_743.out; have hcz95_0 := bc BK743 0; have hcz95_1 := bc BK743 1; have hcz95_2 := bc BK743 2; have hfz95_0 := bf BK743 0; have hfz95_1 := bf BK743 1; have hfz95_2 := bf BK743 2) | ((with_reducible refine gate_callee (f := 80) rfl ?_); refine gL (some 12) Try.func80 #[.agg #[.int .i64 a0_0, .slice A0_1 l0_1.length c0_1, .slice A0_2 l0_2.length c0_2]] ?_; (with_reducible refine (spec_l03Is.calls k a0_0 _ _ l0_1 _ _ l0_2 true _ ?side1 ?side2 ?side3 ?side4 A3.out).mono ?_); (case side1 => exact uC ((Kd.C_below HR0_1.out HB.out))); (case side2 => exact HC0_1.out); (case side3 => exact uC ((Kd.C_below HR0_2.out HB.out))); (case side4 => exact HC0_2.out); rintro e w96 ⟨rfl, hb⟩; refine ⟨_, rfl, ?_⟩; replace BK743 := xB BK743 hb; replace BK744 := xB BK744 hb; replace HB := xH HB hb; (try clear hb); (try clear hb2); (try clear hk); (try clear hi); have hcz97_0 := bc BK743 0; have hcz97_1 := bc BK743 1; have hcz97_2 := bc BK743 2; have hfz97_0 := bf BK743 0; have hfz97_1 := bf BK743 1; have hfz97_2 := bf BK743 2) | ((with_reducible refine gate_callee (f := 70) rfl ?_); refine gL (some 20) Try.func70 #[.int .i64 a1, .int .i64 0, .int .i64 (wrap64 (a0_0 - 1))] ?_; (with_reducible refine (spec_l01In.calls a1 0 (wrap64 (a0_0 - 1)) false _ A5.out).mono ?_); rintro e w' ⟨rfl, ⟨nd, rfl⟩⟩; refine ⟨_, rfl, ?_⟩; (try (rw [drewN_self w96]; generalize hq_ : World.drewN w96 _ = w96; have n0_ : Aside0 (w96.heap[gb743]? = some (.cells #[.int .i64 a0_0, .slice A0_1 l0_1.length c0_1, .slice A0_2 l0_2.length c0_2] 46 (0, 0))) := ⟨by rw [← hq_]; exact (uB BK743.out)⟩; have n1_ : Aside0 (w96.heap[gb744]? = some (.cells #[.int .i64 0, .slice none 0 0, .slice none 0 0] 46 (0, 0))) := ⟨by rw [← hq_]; exact (uB BK744.out)⟩; have n2_ : Aside0 (Below w.heap.size w w96) := ⟨by rw [← hq_]; exact (uH HB.out)⟩; clear BK743 BK744 HB hq_; have BK743 := n0_; have BK744 := n1_; have HB := n2_; clear n0_ n1_ n2_)); (try have hcuy98_0 : w96.cell? ⟨gb743, 0, none⟩ = some (.int .i64 a0_0) := (blk_cell BK743.out 0).trans rfl); (try have hcuy98_1 : w96.cell? ⟨gb743, 1, none⟩ = some (.slice A0_1 l0_1.length c0_1) := (blk_cell BK743.out 1).trans rfl); (try have hcuy98_2 : w96.cell? ⟨gb743, 2, none⟩ = some (.slice A0_2 l0_2.length c0_2) := (blk_cell BK743.out 2).trans rfl); have hcz99_0 := bc BK744 0; have hcz99_1 := bc BK744 1; have hcz99_2 := bc BK744 2; have hfz99_0 := bf BK744 0; have hfz99_1 := bf BK744 1; have hfz99_2 := bf BK744 2))
   refine bodyPost_ret (results_ct rfl _ _ gb744 46 #[.int .i64 0, .slice none 0 0, .slice none 0 0] (0, 0) _ rfl (by (repeat refine up1 ?_); refine blk_put (cs := #[.int .i64 0, .slice none 0 0, .slice none 0 0]) ?_ 2 _ rfl; (repeat refine up1 ?_); refine blk_put (cs := #[.int .i64 0, .slice none 0 0, .slice none 0 0]) ?_ 1 _ rfl; (repeat refine up1 ?_); refine blk_put (cs := #[.int .i64 0, .slice none 0 0, .slice none 0 0]) ?_ 0 _ rfl; (repeat refine up1 ?_); exact BK744.out) Try.underlying46 rfl (by kernel_rfl)) rfl ?_
   exact ⟨_, _, by first | rfl | (simp [errW_none, errW_some] <;> rfl) | (simp [*, errW_none, errW_some] <;> rfl), by first | exact Kd.R_nil _ _ _ _ _ | exact Kd.N_nil _ _ _ _ _ | exact Kd.V_nil _ _ _ _ _ | exact Kd.Q_nil _ _ _ _ _ | exact Kd.S_nil _ _ _ _ _, by first | exact Kd.R_nil _ _ _ _ _ | exact Kd.N_nil _ _ _ _ _ | exact Kd.V_nil _ _ _ _ _ | exact Kd.Q_nil _ _ _ _ _ | exact Kd.S_nil _ _ _ _ _, uH HB.out⟩
 ·replace c4 := Bool.eq_false_iff.mpr c4
  subst c4
  have H1 : (some (0, ([] : List Int), ([] : List Int), 1)) = some (r1, r2, r3, r4) := by rw [if_neg (show ¬ (false = true) by decide)] at H; exact H
  clear H
  have H := H1
  clear H1
  simp only [Option.some.injEq, Prod.mk.injEq] at H
  obtain ⟨rfl, rfl, rfl, rfl⟩ := H
  go_enter Try.func34, Try.ntmps34
  go_wp2_with (first | ((with_reducible refine gate_dst (N := 2) rfl ?_); refine bx 2 #[.int .i64 a0_0, .slice A0_1 l0_1.length c0_1, .slice A0_2 l0_2.length c0_2] 46 ?_; intro gb743 hg w100 hbox hb; have BK743 := zA (hbox); have GW743 := gq HB hg; have GE743 := gq HB hg; replace HB := xH HB hb; have := geI GE743; clear hb hbox hg) | ((with_reducible refine gate_dst (N := 4) rfl ?_); refine bx 4 #[.int .i64 0, .slice none 0 0, .slice none 0 0] 46 ?_; intro gb744 hg w101 hbox hb; have BK744 := zA (hbox); have GW744 := gq HB hg; have GE744 := gq HB hg; replace HB := xH HB hb; have NB743_744 := zA ((by rw [hg]; exact neL BK743 : gb743 ≠ gb744)); have NB744_743 := zA ((by rw [hg]; exact neG BK743 : gb744 ≠ gb743)); replace BK743 := xB BK743 hb; have := geI GE744; clear hb hbox hg; have hnb102 := NB743_744.out; have hnc102 := NB744_743.out; have hcz103_0 := bc BK743 0; have hcz103_1 := bc BK743 1; have hcz103_2 := bc BK743 2; have hfz103_0 := bf BK743 0; have hfz103_1 := bf BK743 1; have hfz103_2 := bf BK743 2) | ((with_reducible refine gate_callee (f := 80) rfl ?_); refine gL (some 12) Try.func80 #[.agg #[.int .i64 a0_0, .slice A0_1 l0_1.length c0_1, .slice A0_2 l0_2.length c0_2]] ?_; (with_reducible refine (spec_l03Is.calls k a0_0 _ _ l0_1 _ _ l0_2 false _ ?side1 ?side2 ?side3 ?side4 A3.out).mono ?_); (case side1 => exact uC ((Kd.C_below HR0_1.out HB.out))); (case side2 => exact HC0_1.out); (case side3 => exact uC ((Kd.C_below HR0_2.out HB.out))); (case side4 => exact HC0_2.out); rintro e w104 ⟨rfl, hb⟩; refine ⟨_, rfl, ?_⟩; replace BK743 := xB BK743 hb; replace BK744 := xB BK744 hb; replace HB := xH HB hb; (try clear hb); (try clear hb2); (try clear hk); (try clear hi); have hcz105_0 := bc BK744 0; have hcz105_1 := bc BK744 1; have hcz105_2 := bc BK744 2; have hfz105_0 := bf BK744 0; have hfz105_1 := bf BK744 1; have hfz105_2 := bf BK744 2))
  refine bodyPost_ret (results_ct rfl _ _ gb744 46 #[.int .i64 0, .slice none 0 0, .slice none 0 0] (0, 0) _ rfl (by (repeat refine up1 ?_); refine blk_put (cs := #[.int .i64 0, .slice none 0 0, .slice none 0 0]) ?_ 2 _ rfl; (repeat refine up1 ?_); refine blk_put (cs := #[.int .i64 0, .slice none 0 0, .slice none 0 0]) ?_ 1 _ rfl; (repeat refine up1 ?_); refine blk_put (cs := #[.int .i64 0, .slice none 0 0, .slice none 0 0]) ?_ 0 _ rfl; (repeat refine up1 ?_); exact BK744.out) Try.underlying46 rfl (by kernel_rfl)) rfl ?_
  exact ⟨_, _, by first | rfl | (simp [errW_none, errW_some] <;> rfl) | (simp [*, errW_none, errW_some] <;> rfl), by first | exact Kd.R_nil _ _ _ _ _ | exact Kd.N_nil _ _ _ _ _ | exact Kd.V_nil _ _ _ _ _ | exact Kd.Q_nil _ _ _ _ _ | exact Kd.S_nil _ _ _ _ _, by first | exact Kd.R_nil _ _ _ _ _ | exact Kd.N_nil _ _ _ _ _ | exact Kd.V_nil _ _ _ _ _ | exact Kd.Q_nil _ _ _ _ _ | exact Kd.S_nil _ _ _ _ _, uH HB.out⟩

end Go.Proofs.Ytokkabgkjhpecaa.Pr
