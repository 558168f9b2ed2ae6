/- Printed by a program of this session out of the translation: what these functions of the program compute, under the conditions that each theorem names. -/
import Derived.Test.YtfbnkebgdmfcfaaKGaussRule1
import Derived.Test.YtfbnkebgdmfcfaaKGaussRule4
import Derived.Test.YtfbnkebgdmfcfaaKGaussRule6
import Derived.Test.YtfbnkebgdmfcfaaKGaussRule7
namespace Go.Proofs.Ytfbnkebgdmfcfaa.Pr
open Go.RowKit Go.Proofs.YtfbnkebgdmfcfaaW.PrintWords Go.Proofs.YtfbnkebgdmfcfaaW.PrintLast Go.Proofs.YtfbnkebgdmfcfaaW.PrintMore
attribute [local go_sem] max2_int min2_int max_two min_two max_three min_three max_four min_four   -- for this text's walks alone
set_option linter.unusedVariables false
set_option linter.unusedSimpArgs false

/-! ### spec_GaussRule: function 34 -/
mutual
def spec_GaussRule.l0 : Nat → List Int → Int → Int → List Int → List Int → Int → List Int → List Int → Option (Int × List Int × List Int × Int)
 | 0, _, _, _, _, _, _, _, _ => none
 | k + 1, x5, x6, x1421000, x1421001, x1421002, x1433000, x1433001, x1433002 => if x6 < x1421000 then ((spec_l01At.f k x1421000 x5 x6).bind fun t1433 => (if t1433 = 0 then (if x1433001.length < 17592186044416 then (spec_GaussRule.l0 k x5 (wrap64 (x6 + 1)) x1421000 x1421001 x1421002 x1433000 (x1433001 ++ [x6]) x1433002) else (none)) else (spec_GaussRule.l0 k x5 (wrap64 (x6 + 1)) x1421000 x1421001 x1421002 x1433000 x1433001 x1433002))) else (if (x1433001.length : Int) = (x1421001.length : Int) then (spec_GaussRule.l1 k 0 x1421000 x1421001 x1421002 x1433000 x1433001 x1433002) else (some (0, ([] : List Int), ([] : List Int), 4)))
def spec_GaussRule.l1 : Nat → Int → Int → List Int → List Int → Int → List Int → List Int → Option (Int × List Int × List Int × Int)
 | 0, _, _, _, _, _, _, _ => none
 | k + 1, x7, x1421000, x1421001, x1421002, x1433000, x1433001, x1433002 => if x7 < (x1433001.length : Int) then (if 0 ≤ x7 then ((spec_l07Christoffel.f k x1421000 x1421001 x1421002 (rd x1433001 x7)).bind fun t1438 => (if x1433002.length < 17592186044416 then (spec_GaussRule.l1 k (wrap64 (x7 + 1)) x1421000 x1421001 x1421002 x1433000 x1433001 (x1433002 ++ [t1438])) else (none))) else (none)) else (some (x1433000, x1433001, x1433002, 0))
end
def spec_GaussRule.f (k : Nat) (a0_0 : Int) (l0_1 : List Int) (l0_2 : List Int) : Option (Int × List Int × List Int × Int) := (spec_l03Is.f k a0_0 l0_1 l0_2).bind fun t1422 => (if t1422 = true then ((spec_l03Poly.f k a0_0 l0_1 l0_2 (l0_1.length : Int)).bind fun t1429 => (spec_GaussRule.l0 k t1429 0 a0_0 l0_1 l0_2 a0_0 (([] : List Int)) (([] : List Int)))) else (some (0, ([] : List Int), ([] : List Int), 1)))
def spec_GaussRule.T3 : Bool × List (List Nat × List Nat) := (true, [([], []), ([0], [0]), ([], []), ([], []), ([1, 2, 3], [1, 2, 3]), ([], []), ([], []), ([6], [6]), ([7], [7]), ([5, 8], [5, 8]), ([], []), ([10, 4, 9, 0, 1, 2, 3, 4, 10], [4, 10]), ([9, 11, 0, 1, 2, 3, 4, 5, 6, 7, 8, 9, 10, 11], [9])])
def spec_GaussRule.B3 : List Nat := [0, 1, 0, 0, 15, 0, 0, 64, 192, 480, 0, 2047, 4095]
theorem spec_GaussRule.tab3 : rtab .any (opsOf Try.f34 3) = spec_GaussRule.T3 := by kernel_rfl
theorem spec_GaussRule.bits3 : waitsOk spec_GaussRule.T3.2 spec_GaussRule.B3 = true := by kernel_rfl
def spec_GaussRule.T14 : Bool × List (List Nat × List Nat) := (true, [([], []), ([0], [0]), ([], []), ([], []), ([3], [3]), ([], []), ([4, 5], [4, 5]), ([6], [6]), ([2, 7], [2, 7]), ([8], [8]), ([1, 9, 8], [1, 9]), ([0, 1, 2, 3, 4, 5, 6, 7, 8, 9, 10], []), ([11, 10, 10, 0, 1, 2, 3, 4, 5, 6, 7, 8, 9, 10], [10, 11])])
def spec_GaussRule.B14 : List Nat := [0, 1, 0, 0, 8, 0, 56, 120, 252, 508, 1023, 2047, 4095]
theorem spec_GaussRule.tab14 : rtab .any (opsOf Try.f34 14) = spec_GaussRule.T14 := by kernel_rfl
theorem spec_GaussRule.bits14 : waitsOk spec_GaussRule.T14.2 spec_GaussRule.B14 = true := by kernel_rfl
set_option maxHeartbeats 8000000 in
set_option maxRecDepth 100000 in
theorem spec_GaussRule.calls (k : Nat) (a0_0 : Int) (A0_1 : Option Addr) (c0_1 : Nat) (l0_1 : List Int) (A0_2 : Option Addr) (c0_2 : Nat) (l0_2 : List Int) (r1 : Int) (r2 : List Int) (r3 : List Int) (r4 : Int) (w : World) (hr0_1 : Kd.C (Kd.int .i64) w A0_1 l0_1.length l0_1) (hc0_1 : l0_1.length ≤ c0_1) (hr0_2 : Kd.C (Kd.int .i64) w A0_2 l0_2.length l0_2) (hc0_2 : l0_2.length ≤ c0_2) (h : spec_GaussRule.f k a0_0 l0_1 l0_2 = some (r1, r2, r3, r4)) :
  Calls Try.prog 34 #[.agg #[.int .i64 a0_0, .slice A0_1 l0_1.length c0_1, .slice A0_2 l0_2.length c0_2]] w fun e w' => ∃ v1_ v2_ : Value, e = .returned (.tuple #[.agg #[.int .i64 r1, v1_, v2_], .int .i64 r4]) ∧ Kd.R (Kd.int .i64) 2 w' w.heap.size (fun k_ => some k_ ≠ (v2_ : Value).ownBlock) v1_ r2 ∧ Kd.R (Kd.int .i64) 2 w' w.heap.size (fun k_ => some k_ ≠ (v1_ : Value).ownBlock) v2_ r3 ∧ Below w.heap.size w w' := by
 have hu26 := Try.underlying26
 have hu37 := Try.underlying37
 have HR0_1 := zA hr0_1
 have HC0_1 := zA hc0_1
 clear hr0_1 hc0_1
 have HR0_2 := zA hr0_2
 have HC0_2 := zA hc0_2
 clear hr0_2 hc0_2
 have HB := zA (Below.refl w.heap.size w)
 have H : ((spec_l03Is.f k a0_0 l0_1 l0_2).bind fun t1422 => (if t1422 = true then ((spec_l03Poly.f k a0_0 l0_1 l0_2 (l0_1.length : Int)).bind fun t1429 => (spec_GaussRule.l0 k t1429 0 a0_0 l0_1 l0_2 a0_0 (([] : List Int)) (([] : List Int)))) else (some (0, ([] : List Int), ([] : List Int), 1)))) = some (r1, r2, r3, r4) := h
 clear h
 replace H := Option.bind_eq_some_iff.mp H
 obtain ⟨t1422, A20, H⟩ := H
 replace H : (if t1422 = true then ((spec_l03Poly.f k a0_0 l0_1 l0_2 (l0_1.length : Int)).bind fun t1429 => (spec_GaussRule.l0 k t1429 0 a0_0 l0_1 l0_2 a0_0 (([] : List Int)) (([] : List Int)))) else (some (0, ([] : List Int), ([] : List Int), 1))) = some (r1, r2, r3, r4) := H
 have A2 := zA A20
 clear A20
 by_cases c3 : t1422 = true
 ·subst c3
  have H1 : ((spec_l03Poly.f k a0_0 l0_1 l0_2 (l0_1.length : Int)).bind fun t1429 => (spec_GaussRule.l0 k t1429 0 a0_0 l0_1 l0_2 a0_0 (([] : List Int)) (([] : List Int)))) = some (r1, r2, r3, r4) := by rw [if_pos rfl] at H; exact H
  clear H
  have H := H1
  clear H1
  obtain ⟨y1423, hy1423⟩ : ∃ y_ : List Int, y_ = (([] : List Int)) := ⟨_, rfl⟩
  replace H : ((spec_l03Poly.f k a0_0 l0_1 l0_2 (l0_1.length : Int)).bind fun t1429 => (spec_GaussRule.l0 k t1429 0 a0_0 l0_1 l0_2 a0_0 y1423 (([] : List Int)))) = some (r1, r2, r3, r4) := by first | (rw [hy1423]; exact H) | exact H
  have Ny1423 := zA hy1423
  clear hy1423
  obtain ⟨y1426, hy1426⟩ : ∃ y_ : List Int, y_ = (([] : List Int)) := ⟨_, rfl⟩
  replace H : ((spec_l03Poly.f k a0_0 l0_1 l0_2 (l0_1.length : Int)).bind fun t1429 => (spec_GaussRule.l0 k t1429 0 a0_0 l0_1 l0_2 a0_0 y1423 y1426)) = some (r1, r2, r3, r4) := by first | (rw [hy1426]; exact H) | exact H
  have Ny1426 := zA hy1426
  clear hy1426
  replace H := Option.bind_eq_some_iff.mp H
  obtain ⟨t1429, A40, H⟩ := H
  replace H : (spec_GaussRule.l0 k t1429 0 a0_0 l0_1 l0_2 a0_0 y1423 y1426) = some (r1, r2, r3, r4) := H
  have A4 := zA A40
  clear A40
  have H' := zA H
  clear H
  go_enter Try.func34, Try.ntmps34
  try go_wp2_with (first | ((with_reducible refine gate_dst (N := 1) rfl ?_); refine bx 1 #[.int .i64 a0_0, .slice A0_1 l0_1.length c0_1, .slice A0_2 l0_2.length c0_2] 26 ?_; intro gb1420 hg w5 hbox hb; have BK1420 := zA (hbox); have GW1420 := gq HB hg; have GE1420 := gq HB hg; replace HB := xH HB hb; have := geI GE1420; clear hb hbox hg) | ((with_reducible refine gate_dst (N := 2) rfl ?_); refine bx 2 #[.int .i64 0, .slice none 0 0, .slice none 0 0] 37 ?_; intro gb1421 hg w6 hbox hb; have BK1421 := zA (hbox); have GW1421 := gq HB hg; have GE1421 := gq HB hg; replace HB := xH HB hb; have NB1420_1421 := zA ((by rw [hg]; exact neL BK1420 : gb1420 ≠ gb1421)); have NB1421_1420 := zA ((by rw [hg]; exact neG BK1420 : gb1421 ≠ gb1420)); replace BK1420 := xB BK1420 hb; have := geI GE1421; clear hb hbox hg; have hnb7 := NB1420_1421.out; have hnc7 := NB1421_1420.out; have hcz8_0 := bc BK1420 0; have hcz8_1 := bc BK1420 1; have hcz8_2 := bc BK1420 2; have hfz8_0 := bf BK1420 0; have hfz8_1 := bf BK1420 1; have hfz8_2 := bf BK1420 2) | ((with_reducible refine gate_callee (f := 56) rfl ?_); refine gL (some 9) Try.func56 #[.agg #[.int .i64 a0_0, .slice A0_1 l0_1.length c0_1, .slice A0_2 l0_2.length c0_2]] ?_; (with_reducible refine (spec_l03Is.calls k a0_0 _ _ l0_1 _ _ l0_2 true _ ?side1 ?side2 ?side3 ?side4 A2.out).mono ?_); (case side1 => exact uC ((Kd.C_below HR0_1.out HB.out))); (case side2 => exact HC0_1.out); (case side3 => exact uC ((Kd.C_below HR0_2.out HB.out))); (case side4 => exact HC0_2.out); rintro e w9 ⟨rfl, hb⟩; refine ⟨_, rfl, ?_⟩; replace BK1420 := xB BK1420 hb; replace BK1421 := xB BK1421 hb; replace HB := xH HB hb; (try clear hb); (try clear hb2); (try clear hk); (try clear hi)))
  replace BK1420 := zA (blk_drew BK1420.out)
  replace BK1421 := zA (blk_drew BK1421.out)
  replace HB := zA (below_drew1 HB.out)
  refine start_ (n := 13) (S := fun w' => w'.cell? ⟨gb1420, 0, none⟩ = some (.int .i64 a0_0) ∧ w'.cell? ⟨gb1420, 1, none⟩ = some (.slice A0_1 l0_1.length c0_1) ∧ w'.cell? ⟨gb1420, 2, none⟩ = some (.slice A0_2 l0_2.length c0_2)) (ds := []) #[false, false, false, false, false, false, false, false, false, false, false, false, false] (by kernel_rfl) rfl rfl ⟨bcu BK1420 0, bcu BK1420 1, bcu BK1420 2⟩ (fun hHeld => ?_); refine with_tabW spec_GaussRule.tab3 spec_GaussRule.bits3 (fun HT_ HW_ => ?_)
  generalize w9.drew = w10 at BK1420 BK1421 HB hHeld ⊢
  refine pu_ 0 12 (bl 13 1) HT_ ?_
  refine pu_ 6 18 (bl 13 65) HT_ ?_
  refine ta_ 1 13 (bl 13 67) HT_ HW_ hHeld ?_
  refine ta_ 5 17 (bl 13 99) HT_ HW_ hHeld ?_
  refine ta_ 7 19 (bl 13 227) HT_ HW_ hHeld ?_
  refine pu_ 8 20 (bl 13 483) HT_ ?_
  refine join_ (σ := Value × Value × Value × Nat) 2 (bl 13 2047) (fun s_ => [(14, s_.1), (15, s_.2.1), (21, s_.2.2.1), (4, .pointer (some ⟨s_.2.2.2, 0, none⟩)), (16, .agg #[.int .i64 a0_0, s_.1, s_.2.1])]) (fun s_ w' => (w'.cell? ⟨gb1420, 0, none⟩ = some (.int .i64 a0_0) ∧ w'.cell? ⟨gb1420, 1, none⟩ = some (.slice A0_1 l0_1.length c0_1) ∧ w'.cell? ⟨gb1420, 2, none⟩ = some (.slice A0_2 l0_2.length c0_2)) ∧ (Kd.R (Kd.int .i64) 2 w' w.heap.size (fun k_ => some k_ ≠ (s_.2.1 : Value).ownBlock ∧ some k_ ≠ (s_.2.2.1 : Value).ownBlock) s_.1 y1423) ∧ (Kd.R (Kd.int .i64) 2 w' w.heap.size (fun k_ => some k_ ≠ (s_.1 : Value).ownBlock ∧ some k_ ≠ (s_.2.2.1 : Value).ownBlock) s_.2.1 y1426) ∧ (Kd.R (Kd.int .i64) 2 w' w.heap.size (fun k_ => some k_ ≠ (s_.1 : Value).ownBlock ∧ some k_ ≠ (s_.2.1 : Value).ownBlock) s_.2.2.1 t1429) ∧ (w'.heap[gb1420]? = some (.cells #[.int .i64 a0_0, .slice A0_1 l0_1.length c0_1, .slice A0_2 l0_2.length c0_2] 26 (0, 0))) ∧ (w'.heap[gb1421]? = some (.cells #[.int .i64 0, .slice none 0 0, .slice none 0 0] 37 (0, 0))) ∧ (w'.heap[s_.2.2.2]? = some (.cells #[.int .i64 0, .slice none 0 0, .slice none 0 0] 37 (0, 0))) ∧ (w.heap.size ≤ s_.2.2.2) ∧ (w.heap.size ≤ s_.2.2.2) ∧ (gb1420 ≠ s_.2.2.2) ∧ (s_.2.2.2 ≠ gb1420) ∧ (gb1421 ≠ s_.2.2.2) ∧ (s_.2.2.2 ≠ gb1421) ∧ (Below w.heap.size w w')) ?_ ?_
  rotate_left
  ·intro hJ2_3_9_10
   refine join_ (σ := Value × Value × Value) 3 (bl 13 1023) (fun s_ => [(14, s_.1), (15, s_.2.1), (21, s_.2.2), (16, .agg #[.int .i64 a0_0, s_.1, s_.2.1])]) (fun s_ w' => (w'.cell? ⟨gb1420, 0, none⟩ = some (.int .i64 a0_0) ∧ w'.cell? ⟨gb1420, 1, none⟩ = some (.slice A0_1 l0_1.length c0_1) ∧ w'.cell? ⟨gb1420, 2, none⟩ = some (.slice A0_2 l0_2.length c0_2)) ∧ (Kd.R (Kd.int .i64) 2 w' w.heap.size (fun k_ => some k_ ≠ (s_.2.1 : Value).ownBlock ∧ some k_ ≠ (s_.2.2 : Value).ownBlock) s_.1 y1423) ∧ (Kd.R (Kd.int .i64) 2 w' w.heap.size (fun k_ => some k_ ≠ (s_.1 : Value).ownBlock ∧ some k_ ≠ (s_.2.2 : Value).ownBlock) s_.2.1 y1426) ∧ (Kd.R (Kd.int .i64) 2 w' w.heap.size (fun k_ => some k_ ≠ (s_.1 : Value).ownBlock ∧ some k_ ≠ (s_.2.1 : Value).ownBlock) s_.2.2 t1429) ∧ (w'.heap[gb1420]? = some (.cells #[.int .i64 a0_0, .slice A0_1 l0_1.length c0_1, .slice A0_2 l0_2.length c0_2] 26 (0, 0))) ∧ (w'.heap[gb1421]? = some (.cells #[.int .i64 0, .slice none 0 0, .slice none 0 0] 37 (0, 0))) ∧ (Below w.heap.size w w')) ?_ ?_
   rotate_left
   ·intro hJ2_3_9
    refine join_ (σ := Value × Value × Nat) 3 (bl 13 1535) (fun s_ => [(14, s_.1), (15, s_.2.1), (4, .pointer (some ⟨s_.2.2, 0, none⟩)), (16, .agg #[.int .i64 a0_0, s_.1, s_.2.1])]) (fun s_ w' => (w'.cell? ⟨gb1420, 0, none⟩ = some (.int .i64 a0_0) ∧ w'.cell? ⟨gb1420, 1, none⟩ = some (.slice A0_1 l0_1.length c0_1) ∧ w'.cell? ⟨gb1420, 2, none⟩ = some (.slice A0_2 l0_2.length c0_2)) ∧ (Kd.R (Kd.int .i64) 2 w' w.heap.size (fun k_ => some k_ ≠ (s_.2.1 : Value).ownBlock) s_.1 y1423) ∧ (Kd.R (Kd.int .i64) 2 w' w.heap.size (fun k_ => some k_ ≠ (s_.1 : Value).ownBlock) s_.2.1 y1426) ∧ (w'.heap[gb1420]? = some (.cells #[.int .i64 a0_0, .slice A0_1 l0_1.length c0_1, .slice A0_2 l0_2.length c0_2] 26 (0, 0))) ∧ (w'.heap[gb1421]? = some (.cells #[.int .i64 0, .slice none 0 0, .slice none 0 0] 37 (0, 0))) ∧ (w'.heap[s_.2.2]? = some (.cells #[.int .i64 0, .slice none 0 0, .slice none 0 0] 37 (0, 0))) ∧ (w.heap.size ≤ s_.2.2) ∧ (w.heap.size ≤ s_.2.2) ∧ (gb1420 ≠ s_.2.2) ∧ (s_.2.2 ≠ gb1420) ∧ (gb1421 ≠ s_.2.2) ∧ (s_.2.2 ≠ gb1421) ∧ (Below w.heap.size w w')) ?_ ?_
    rotate_left
    ·intro hJ2_3_10
     refine join_ (σ := Value × Value × Nat) 4 (bl 13 2023) (fun s_ => [(14, s_.1), (21, s_.2.1), (4, .pointer (some ⟨s_.2.2, 0, none⟩))]) (fun s_ w' => (w'.cell? ⟨gb1420, 0, none⟩ = some (.int .i64 a0_0) ∧ w'.cell? ⟨gb1420, 1, none⟩ = some (.slice A0_1 l0_1.length c0_1) ∧ w'.cell? ⟨gb1420, 2, none⟩ = some (.slice A0_2 l0_2.length c0_2)) ∧ (Kd.R (Kd.int .i64) 2 w' w.heap.size (fun k_ => some k_ ≠ (s_.2.1 : Value).ownBlock) s_.1 y1423) ∧ (Kd.R (Kd.int .i64) 2 w' w.heap.size (fun k_ => some k_ ≠ (s_.1 : Value).ownBlock) s_.2.1 t1429) ∧ (w'.heap[gb1420]? = some (.cells #[.int .i64 a0_0, .slice A0_1 l0_1.length c0_1, .slice A0_2 l0_2.length c0_2] 26 (0, 0))) ∧ (w'.heap[gb1421]? = some (.cells #[.int .i64 0, .slice none 0 0, .slice none 0 0] 37 (0, 0))) ∧ (w'.heap[s_.2.2]? = some (.cells #[.int .i64 0, .slice none 0 0, .slice none 0 0] 37 (0, 0))) ∧ (w.heap.size ≤ s_.2.2) ∧ (w.heap.size ≤ s_.2.2) ∧ (gb1420 ≠ s_.2.2) ∧ (s_.2.2 ≠ gb1420) ∧ (gb1421 ≠ s_.2.2) ∧ (s_.2.2 ≠ gb1421) ∧ (Below w.heap.size w w')) ?_ ?_
     rotate_left
     ·intro hJ2_9_10
      refine join_ (σ := Value × Value × Nat) 4 (bl 13 2027) (fun s_ => [(15, s_.1), (21, s_.2.1), (4, .pointer (some ⟨s_.2.2, 0, none⟩))]) (fun s_ w' => (w'.cell? ⟨gb1420, 0, none⟩ = some (.int .i64 a0_0) ∧ w'.cell? ⟨gb1420, 1, none⟩ = some (.slice A0_1 l0_1.length c0_1) ∧ w'.cell? ⟨gb1420, 2, none⟩ = some (.slice A0_2 l0_2.length c0_2)) ∧ (Kd.R (Kd.int .i64) 2 w' w.heap.size (fun k_ => some k_ ≠ (s_.2.1 : Value).ownBlock) s_.1 y1426) ∧ (Kd.R (Kd.int .i64) 2 w' w.heap.size (fun k_ => some k_ ≠ (s_.1 : Value).ownBlock) s_.2.1 t1429) ∧ (w'.heap[gb1420]? = some (.cells #[.int .i64 a0_0, .slice A0_1 l0_1.length c0_1, .slice A0_2 l0_2.length c0_2] 26 (0, 0))) ∧ (w'.heap[gb1421]? = some (.cells #[.int .i64 0, .slice none 0 0, .slice none 0 0] 37 (0, 0))) ∧ (w'.heap[s_.2.2]? = some (.cells #[.int .i64 0, .slice none 0 0, .slice none 0 0] 37 (0, 0))) ∧ (w.heap.size ≤ s_.2.2) ∧ (w.heap.size ≤ s_.2.2) ∧ (gb1420 ≠ s_.2.2) ∧ (s_.2.2 ≠ gb1420) ∧ (gb1421 ≠ s_.2.2) ∧ (s_.2.2 ≠ gb1421) ∧ (Below w.heap.size w w')) ?_ ?_
      rotate_left
      ·intro hJ3_9_10
       refine join_ (σ := Value × Value) 4 (bl 13 511) (fun s_ => [(14, s_.1), (15, s_.2), (16, .agg #[.int .i64 a0_0, s_.1, s_.2])]) (fun s_ w' => (w'.cell? ⟨gb1420, 0, none⟩ = some (.int .i64 a0_0) ∧ w'.cell? ⟨gb1420, 1, none⟩ = some (.slice A0_1 l0_1.length c0_1) ∧ w'.cell? ⟨gb1420, 2, none⟩ = some (.slice A0_2 l0_2.length c0_2)) ∧ (Kd.R (Kd.int .i64) 2 w' w.heap.size (fun k_ => some k_ ≠ (s_.2 : Value).ownBlock) s_.1 y1423) ∧ (Kd.R (Kd.int .i64) 2 w' w.heap.size (fun k_ => some k_ ≠ (s_.1 : Value).ownBlock) s_.2 y1426) ∧ (w'.heap[gb1420]? = some (.cells #[.int .i64 a0_0, .slice A0_1 l0_1.length c0_1, .slice A0_2 l0_2.length c0_2] 26 (0, 0))) ∧ (w'.heap[gb1421]? = some (.cells #[.int .i64 0, .slice none 0 0, .slice none 0 0] 37 (0, 0))) ∧ (Below w.heap.size w w')) ?_ ?_
       rotate_left
       ·intro hJ2_3
        refine join_ (σ := Value × Value) 5 (bl 13 999) (fun s_ => [(14, s_.1), (21, s_.2)]) (fun s_ w' => (w'.cell? ⟨gb1420, 0, none⟩ = some (.int .i64 a0_0) ∧ w'.cell? ⟨gb1420, 1, none⟩ = some (.slice A0_1 l0_1.length c0_1) ∧ w'.cell? ⟨gb1420, 2, none⟩ = some (.slice A0_2 l0_2.length c0_2)) ∧ (Kd.R (Kd.int .i64) 2 w' w.heap.size (fun k_ => some k_ ≠ (s_.2 : Value).ownBlock) s_.1 y1423) ∧ (Kd.R (Kd.int .i64) 2 w' w.heap.size (fun k_ => some k_ ≠ (s_.1 : Value).ownBlock) s_.2 t1429) ∧ (w'.heap[gb1420]? = some (.cells #[.int .i64 a0_0, .slice A0_1 l0_1.length c0_1, .slice A0_2 l0_2.length c0_2] 26 (0, 0))) ∧ (w'.heap[gb1421]? = some (.cells #[.int .i64 0, .slice none 0 0, .slice none 0 0] 37 (0, 0))) ∧ (Below w.heap.size w w')) ?_ ?_
        rotate_left
        ·intro hJ2_9
         refine join_ (σ := Value × Nat) 5 (bl 13 1511) (fun s_ => [(14, s_.1), (4, .pointer (some ⟨s_.2, 0, none⟩))]) (fun s_ w' => (w'.cell? ⟨gb1420, 0, none⟩ = some (.int .i64 a0_0) ∧ w'.cell? ⟨gb1420, 1, none⟩ = some (.slice A0_1 l0_1.length c0_1) ∧ w'.cell? ⟨gb1420, 2, none⟩ = some (.slice A0_2 l0_2.length c0_2)) ∧ (Kd.R (Kd.int .i64) 2 w' w.heap.size (fun _ => True) s_.1 y1423) ∧ (w'.heap[gb1420]? = some (.cells #[.int .i64 a0_0, .slice A0_1 l0_1.length c0_1, .slice A0_2 l0_2.length c0_2] 26 (0, 0))) ∧ (w'.heap[gb1421]? = some (.cells #[.int .i64 0, .slice none 0 0, .slice none 0 0] 37 (0, 0))) ∧ (w'.heap[s_.2]? = some (.cells #[.int .i64 0, .slice none 0 0, .slice none 0 0] 37 (0, 0))) ∧ (w.heap.size ≤ s_.2) ∧ (w.heap.size ≤ s_.2) ∧ (gb1420 ≠ s_.2) ∧ (s_.2 ≠ gb1420) ∧ (gb1421 ≠ s_.2) ∧ (s_.2 ≠ gb1421) ∧ (Below w.heap.size w w')) ?_ ?_
         rotate_left
         ·intro hJ2_10
          refine join_ (σ := Value × Value) 5 (bl 13 1003) (fun s_ => [(15, s_.1), (21, s_.2)]) (fun s_ w' => (w'.cell? ⟨gb1420, 0, none⟩ = some (.int .i64 a0_0) ∧ w'.cell? ⟨gb1420, 1, none⟩ = some (.slice A0_1 l0_1.length c0_1) ∧ w'.cell? ⟨gb1420, 2, none⟩ = some (.slice A0_2 l0_2.length c0_2)) ∧ (Kd.R (Kd.int .i64) 2 w' w.heap.size (fun k_ => some k_ ≠ (s_.2 : Value).ownBlock) s_.1 y1426) ∧ (Kd.R (Kd.int .i64) 2 w' w.heap.size (fun k_ => some k_ ≠ (s_.1 : Value).ownBlock) s_.2 t1429) ∧ (w'.heap[gb1420]? = some (.cells #[.int .i64 a0_0, .slice A0_1 l0_1.length c0_1, .slice A0_2 l0_2.length c0_2] 26 (0, 0))) ∧ (w'.heap[gb1421]? = some (.cells #[.int .i64 0, .slice none 0 0, .slice none 0 0] 37 (0, 0))) ∧ (Below w.heap.size w w')) ?_ ?_
          rotate_left
          ·intro hJ3_9
           refine join_ (σ := Value × Nat) 5 (bl 13 1515) (fun s_ => [(15, s_.1), (4, .pointer (some ⟨s_.2, 0, none⟩))]) (fun s_ w' => (w'.cell? ⟨gb1420, 0, none⟩ = some (.int .i64 a0_0) ∧ w'.cell? ⟨gb1420, 1, none⟩ = some (.slice A0_1 l0_1.length c0_1) ∧ w'.cell? ⟨gb1420, 2, none⟩ = some (.slice A0_2 l0_2.length c0_2)) ∧ (Kd.R (Kd.int .i64) 2 w' w.heap.size (fun _ => True) s_.1 y1426) ∧ (w'.heap[gb1420]? = some (.cells #[.int .i64 a0_0, .slice A0_1 l0_1.length c0_1, .slice A0_2 l0_2.length c0_2] 26 (0, 0))) ∧ (w'.heap[gb1421]? = some (.cells #[.int .i64 0, .slice none 0 0, .slice none 0 0] 37 (0, 0))) ∧ (w'.heap[s_.2]? = some (.cells #[.int .i64 0, .slice none 0 0, .slice none 0 0] 37 (0, 0))) ∧ (w.heap.size ≤ s_.2) ∧ (w.heap.size ≤ s_.2) ∧ (gb1420 ≠ s_.2) ∧ (s_.2 ≠ gb1420) ∧ (gb1421 ≠ s_.2) ∧ (s_.2 ≠ gb1421) ∧ (Below w.heap.size w w')) ?_ ?_
           rotate_left
           ·intro hJ3_10
            refine join_ (σ := Value × Nat) 5 (bl 13 2019) (fun s_ => [(21, s_.1), (4, .pointer (some ⟨s_.2, 0, none⟩))]) (fun s_ w' => (w'.cell? ⟨gb1420, 0, none⟩ = some (.int .i64 a0_0) ∧ w'.cell? ⟨gb1420, 1, none⟩ = some (.slice A0_1 l0_1.length c0_1) ∧ w'.cell? ⟨gb1420, 2, none⟩ = some (.slice A0_2 l0_2.length c0_2)) ∧ (Kd.R (Kd.int .i64) 2 w' w.heap.size (fun _ => True) s_.1 t1429) ∧ (w'.heap[gb1420]? = some (.cells #[.int .i64 a0_0, .slice A0_1 l0_1.length c0_1, .slice A0_2 l0_2.length c0_2] 26 (0, 0))) ∧ (w'.heap[gb1421]? = some (.cells #[.int .i64 0, .slice none 0 0, .slice none 0 0] 37 (0, 0))) ∧ (w'.heap[s_.2]? = some (.cells #[.int .i64 0, .slice none 0 0, .slice none 0 0] 37 (0, 0))) ∧ (w.heap.size ≤ s_.2) ∧ (w.heap.size ≤ s_.2) ∧ (gb1420 ≠ s_.2) ∧ (s_.2 ≠ gb1420) ∧ (gb1421 ≠ s_.2) ∧ (s_.2 ≠ gb1421) ∧ (Below w.heap.size w w')) ?_ ?_
            rotate_left
            ·intro hJ9_10
             refine join_ (σ := Value) 6 (bl 13 487) (fun s_ => [(14, s_)]) (fun s_ w' => (w'.cell? ⟨gb1420, 0, none⟩ = some (.int .i64 a0_0) ∧ w'.cell? ⟨gb1420, 1, none⟩ = some (.slice A0_1 l0_1.length c0_1) ∧ w'.cell? ⟨gb1420, 2, none⟩ = some (.slice A0_2 l0_2.length c0_2)) ∧ (Kd.R (Kd.int .i64) 2 w' w.heap.size (fun _ => True) s_ y1423) ∧ (w'.heap[gb1420]? = some (.cells #[.int .i64 a0_0, .slice A0_1 l0_1.length c0_1, .slice A0_2 l0_2.length c0_2] 26 (0, 0))) ∧ (w'.heap[gb1421]? = some (.cells #[.int .i64 0, .slice none 0 0, .slice none 0 0] 37 (0, 0))) ∧ (Below w.heap.size w w')) ?_ ?_
             rotate_left
             ·intro hJ2
              refine join_ (σ := Value) 6 (bl 13 491) (fun s_ => [(15, s_)]) (fun s_ w' => (w'.cell? ⟨gb1420, 0, none⟩ = some (.int .i64 a0_0) ∧ w'.cell? ⟨gb1420, 1, none⟩ = some (.slice A0_1 l0_1.length c0_1) ∧ w'.cell? ⟨gb1420, 2, none⟩ = some (.slice A0_2 l0_2.length c0_2)) ∧ (Kd.R (Kd.int .i64) 2 w' w.heap.size (fun _ => True) s_ y1426) ∧ (w'.heap[gb1420]? = some (.cells #[.int .i64 a0_0, .slice A0_1 l0_1.length c0_1, .slice A0_2 l0_2.length c0_2] 26 (0, 0))) ∧ (w'.heap[gb1421]? = some (.cells #[.int .i64 0, .slice none 0 0, .slice none 0 0] 37 (0, 0))) ∧ (Below w.heap.size w w')) ?_ ?_
              rotate_left
              ·intro hJ3
               refine join_ (σ := Value) 6 (bl 13 995) (fun s_ => [(21, s_)]) (fun s_ w' => (w'.cell? ⟨gb1420, 0, none⟩ = some (.int .i64 a0_0) ∧ w'.cell? ⟨gb1420, 1, none⟩ = some (.slice A0_1 l0_1.length c0_1) ∧ w'.cell? ⟨gb1420, 2, none⟩ = some (.slice A0_2 l0_2.length c0_2)) ∧ (Kd.R (Kd.int .i64) 2 w' w.heap.size (fun _ => True) s_ t1429) ∧ (w'.heap[gb1420]? = some (.cells #[.int .i64 a0_0, .slice A0_1 l0_1.length c0_1, .slice A0_2 l0_2.length c0_2] 26 (0, 0))) ∧ (w'.heap[gb1421]? = some (.cells #[.int .i64 0, .slice none 0 0, .slice none 0 0] 37 (0, 0))) ∧ (Below w.heap.size w w')) ?_ ?_
               rotate_left
               ·intro hJ9
                refine join_ (σ := Nat) 6 (bl 13 1507) (fun s_ => [(4, .pointer (some ⟨s_, 0, none⟩))]) (fun s_ w' => (w'.cell? ⟨gb1420, 0, none⟩ = some (.int .i64 a0_0) ∧ w'.cell? ⟨gb1420, 1, none⟩ = some (.slice A0_1 l0_1.length c0_1) ∧ w'.cell? ⟨gb1420, 2, none⟩ = some (.slice A0_2 l0_2.length c0_2)) ∧ (w'.heap[gb1420]? = some (.cells #[.int .i64 a0_0, .slice A0_1 l0_1.length c0_1, .slice A0_2 l0_2.length c0_2] 26 (0, 0))) ∧ (w'.heap[gb1421]? = some (.cells #[.int .i64 0, .slice none 0 0, .slice none 0 0] 37 (0, 0))) ∧ (w'.heap[s_]? = some (.cells #[.int .i64 0, .slice none 0 0, .slice none 0 0] 37 (0, 0))) ∧ (w.heap.size ≤ s_) ∧ (w.heap.size ≤ s_) ∧ (gb1420 ≠ s_) ∧ (s_ ≠ gb1420) ∧ (gb1421 ≠ s_) ∧ (s_ ≠ gb1421) ∧ (Below w.heap.size w w')) ?_ ?_
                rotate_left
                ·intro hJ10
                 refine four_ (i := 2) (j := 3) (k := 9) (m := 10) (Ni := some 14) (Nj := some 15) (Nk := some 21) (Nm := some 4) (bl 13 487) (bl 13 491) (bl 13 995) (bl 13 1507) rfl rfl rfl rfl rfl rfl rfl rfl (four_of HT_.out (by kernel_rfl)) (by decide) (by decide) (by decide) (by decide) (fun K hK => ?_) (fun K hK => ?_) (fun K hK => ?_) (fun K hK => ?_)
                 ·skip
                  refine Kd.R_lit_step (Kd.int .i64) _ 2 ?hg (N := 14) ?hd (xs := ([] : List Int)) (inner := []) (ok := fun _ => True) (okp := fun _ => True) ?hr ?hp (fun _ hk => hk) trivial (Below.refl _ _) (Nat.le_refl _) (by simp) ?_; (case hd => rfl); (case hg => rfl); (case hr => first | (go_simp; done) | (go_simp; rfl)); (case hp => exact (Reps.none _ _))
                  intro v1424 w11 ho12 hb hg_ hnew_
                  clear hg_ hnew_
                  (first | rw [← Ny1423.out] at ho12 | (simp only [Int.reduceToNat] at ho12; rw [← Ny1423.out] at ho12))
                  have HO1425 := zA (Kd.R_lower ho12 (below_size (uH HB.out)))
                  replace BK1420 := xB BK1420 hb
                  replace BK1421 := xB BK1421 hb
                  replace HB := xH HB hb
                  clear hb ho12
                  refine hK.out _ _ ⟨bcu BK1420 0, bcu BK1420 1, bcu BK1420 2⟩ (fun hHeld => ?_)
                  clear hK K
                  refine no_ 14 ?_
                  exact norm_ (by first | (simp only [putAll, Act.put, ls, lz, ln]; done) | (simp only [putAll, Act.put, ls, lz, ln]; rfl)) (hJ2 (v1424) _ ⟨hHeld, (uR HO1425.out), (uB BK1420.out), (uB BK1421.out), (uH HB.out)⟩)
                 ·skip
                  refine Kd.R_lit_step (Kd.int .i64) _ 2 ?hg (N := 15) ?hd (xs := ([] : List Int)) (inner := []) (ok := fun _ => True) (okp := fun _ => True) ?hr ?hp (fun _ hk => hk) trivial (Below.refl _ _) (Nat.le_refl _) (by simp) ?_; (case hd => rfl); (case hg => rfl); (case hr => first | (go_simp; done) | (go_simp; rfl)); (case hp => exact (Reps.none _ _))
                  intro v1427 w11 ho12 hb hg_ hnew_
                  clear hg_ hnew_
                  (first | rw [← Ny1426.out] at ho12 | (simp only [Int.reduceToNat] at ho12; rw [← Ny1426.out] at ho12))
                  have HO1428 := zA (Kd.R_lower ho12 (below_size (uH HB.out)))
                  replace BK1420 := xB BK1420 hb
                  replace BK1421 := xB BK1421 hb
                  replace HB := xH HB hb
                  clear hb ho12
                  refine hK.out _ _ ⟨bcu BK1420 0, bcu BK1420 1, bcu BK1420 2⟩ (fun hHeld => ?_)
                  clear hK K
                  refine no_ 15 ?_
                  exact norm_ (by first | (simp only [putAll, Act.put, ls, lz, ln]; done) | (simp only [putAll, Act.put, ls, lz, ln]; rfl)) (hJ3 (v1427) _ ⟨hHeld, (uR HO1428.out), (uB BK1420.out), (uB BK1421.out), (uH HB.out)⟩)
                 ·skip
                  refine gS Try.func77 #[.agg #[.int .i64 a0_0, .slice A0_1 l0_1.length c0_1, .slice A0_2 l0_2.length c0_2], .int .i64 (l0_1.length : Int)] ?_
                  with_reducible refine (spec_l03Poly.calls k a0_0 _ _ l0_1 _ _ l0_2 (l0_1.length : Int) t1429 _ ?side1 ?side2 ?side3 ?side4 A4.out).mono ?_
                  (case side1 => exact uC ((Kd.C_below HR0_1.out HB.out)))
                  (case side2 => exact HC0_1.out)
                  (case side3 => exact uC ((Kd.C_below HR0_2.out HB.out)))
                  (case side4 => exact HC0_2.out)
                  rintro e w11 ⟨v1430, rfl, ho0, hb⟩
                  refine ⟨_, rfl, ?_⟩
                  have HO1431 := zA (Kd.R_lower ho0 (below_size (uH HB.out)))
                  replace BK1420 := xB BK1420 hb
                  replace BK1421 := xB BK1421 hb
                  replace HB := xH HB hb
                  (try clear hb); (try clear hb2); (try clear hk); (try clear hi); (try clear ho0)
                  refine hK.out _ _ ⟨bcu BK1420 0, bcu BK1420 1, bcu BK1420 2⟩ (fun hHeld => ?_)
                  clear hK K
                  refine no_ 21 ?_
                  exact norm_ (by first | (simp only [putAll, Act.put, ls, lz, ln]; done) | (simp only [putAll, Act.put, ls, lz, ln]; rfl)) (hJ9 (v1430) _ ⟨hHeld, (uR HO1431.out), (uB BK1420.out), (uB BK1421.out), (uH HB.out)⟩)
                 ·skip
                  refine box_step ?hg (N := 4) ?hd (cs := #[.int .i64 0, .slice none 0 0, .slice none 0 0]) (t := 37) ?hr ?_; (case hd => rfl); (case hg => rfl); (case hr => first | (go_simp; done) | (go_simp; rfl))
                  intro gb1432 hg w11 hbox hb
                  have BK1432 := zA (hbox)
                  have GW1432 := gq HB hg
                  have GE1432 := gq HB hg
                  replace HB := xH HB hb
                  have NB1420_1432 := zA ((by rw [hg]; exact neL BK1420 : gb1420 ≠ gb1432))
                  have NB1432_1420 := zA ((by rw [hg]; exact neG BK1420 : gb1432 ≠ gb1420))
                  replace BK1420 := xB BK1420 hb
                  have NB1421_1432 := zA ((by rw [hg]; exact neL BK1421 : gb1421 ≠ gb1432))
                  have NB1432_1421 := zA ((by rw [hg]; exact neG BK1421 : gb1432 ≠ gb1421))
                  replace BK1421 := xB BK1421 hb
                  have := geI GE1432
                  clear hb hbox hg
                  refine hK.out _ _ ⟨bcu BK1420 0, bcu BK1420 1, bcu BK1420 2⟩ (fun hHeld => ?_)
                  clear hK K
                  refine no_ 4 ?_
                  exact norm_ (by first | (simp only [putAll, Act.put, ls, lz, ln]; done) | (simp only [putAll, Act.put, ls, lz, ln]; rfl)) (hJ10 (gb1432) _ ⟨hHeld, (uB BK1420.out), (uB BK1421.out), (uB BK1432.out), GW1432.out, GE1432.out, NB1420_1432.out, NB1432_1420.out, NB1421_1432.out, NB1432_1421.out, (uH HB.out)⟩)
                ·skip
                 rintro gb1432 w12 ⟨hS_, h0_, h1_, h2_, h3_, h4_, h5_, h6_, h7_, h8_, h9_⟩
                 have n0_ : Aside0 (w12.heap[gb1420]? = some (.cells #[.int .i64 a0_0, .slice A0_1 l0_1.length c0_1, .slice A0_2 l0_2.length c0_2] 26 (0, 0))) := ⟨h0_⟩
                 have n1_ : Aside0 (w12.heap[gb1421]? = some (.cells #[.int .i64 0, .slice none 0 0, .slice none 0 0] 37 (0, 0))) := ⟨h1_⟩
                 have n2_ : Aside0 (w12.heap[gb1432]? = some (.cells #[.int .i64 0, .slice none 0 0, .slice none 0 0] 37 (0, 0))) := ⟨h2_⟩
                 have n3_ : Aside0 (w.heap.size ≤ gb1432) := ⟨h3_⟩
                 have n4_ : Aside0 (w.heap.size ≤ gb1432) := ⟨h4_⟩
                 have n5_ : Aside0 (gb1420 ≠ gb1432) := ⟨h5_⟩
                 have n6_ : Aside0 (gb1432 ≠ gb1420) := ⟨h6_⟩
                 have n7_ : Aside0 (gb1421 ≠ gb1432) := ⟨h7_⟩
                 have n8_ : Aside0 (gb1432 ≠ gb1421) := ⟨h8_⟩
                 have n9_ : Aside0 (Below w.heap.size w w12) := ⟨h9_⟩
                 clear BK1420 BK1421 HB
                 clear h0_ h1_ h2_ h3_ h4_ h5_ h6_ h7_ h8_ h9_
                 have BK1420 := n0_
                 have BK1421 := n1_
                 have BK1432 := n2_
                 have GW1432 := n3_
                 have GE1432 := n4_
                 have := geI GE1432
                 have NB1420_1432 := n5_
                 have NB1432_1420 := n6_
                 have NB1421_1432 := n7_
                 have NB1432_1421 := n8_
                 have HB := n9_
                 clear n0_ n1_ n2_ n3_ n4_ n5_ n6_ n7_ n8_ n9_
                 have hHeld : w12.cell? ⟨gb1420, 0, none⟩ = some (.int .i64 a0_0) ∧ w12.cell? ⟨gb1420, 1, none⟩ = some (.slice A0_1 l0_1.length c0_1) ∧ w12.cell? ⟨gb1420, 2, none⟩ = some (.slice A0_2 l0_2.length c0_2) := hS_
                 refine norm_ (a' := ?_) ?_ ?_
                 rotate_left
                 ·simp only [putAll, Act.put, ls, lz, ln]
                  rfl
                 refine three_ (i := 2) (j := 3) (k := 9) (Ni := some 14) (Nj := some 15) (Nk := some 21) (bl 13 1511) (bl 13 1515) (bl 13 2019) rfl rfl rfl rfl rfl rfl (three_of HT_.out (by kernel_rfl)) (by decide) (by decide) (by decide) (fun K hK => ?_) (fun K hK => ?_) (fun K hK => ?_)
                 ·skip
                  refine Kd.R_lit_step (Kd.int .i64) _ 2 ?hg (N := 14) ?hd (xs := ([] : List Int)) (inner := []) (ok := fun _ => True) (okp := fun _ => True) ?hr ?hp (fun _ hk => hk) trivial (Below.refl _ _) (Nat.le_refl _) (by simp) ?_; (case hd => rfl); (case hg => rfl); (case hr => first | (go_simp; done) | (go_simp; rfl)); (case hp => exact (Reps.none _ _))
                  intro v1424 w13 ho14 hb hg_ hnew_
                  clear hg_ hnew_
                  (first | rw [← Ny1423.out] at ho14 | (simp only [Int.reduceToNat] at ho14; rw [← Ny1423.out] at ho14))
                  have HO1425 := zA (Kd.R_lower ho14 (below_size (uH HB.out)))
                  replace BK1420 := xB BK1420 hb
                  replace BK1421 := xB BK1421 hb
                  replace BK1432 := xB BK1432 hb
                  replace HB := xH HB hb
                  clear hb ho14
                  refine hK.out _ _ ⟨bcu BK1420 0, bcu BK1420 1, bcu BK1420 2⟩ (fun hHeld => ?_)
                  clear hK K
                  refine no_ 14 ?_
                  exact norm_ (by first | (simp only [putAll, Act.put, ls, lz, ln]; done) | (simp only [putAll, Act.put, ls, lz, ln]; rfl)) (hJ2_10 (v1424, gb1432) _ ⟨hHeld, (uR HO1425.out), (uB BK1420.out), (uB BK1421.out), (uB BK1432.out), GW1432.out, GE1432.out, NB1420_1432.out, NB1432_1420.out, NB1421_1432.out, NB1432_1421.out, (uH HB.out)⟩)
                 ·skip
                  refine Kd.R_lit_step (Kd.int .i64) _ 2 ?hg (N := 15) ?hd (xs := ([] : List Int)) (inner := []) (ok := fun _ => True) (okp := fun _ => True) ?hr ?hp (fun _ hk => hk) trivial (Below.refl _ _) (Nat.le_refl _) (by simp) ?_; (case hd => rfl); (case hg => rfl); (case hr => first | (go_simp; done) | (go_simp; rfl)); (case hp => exact (Reps.none _ _))
                  intro v1427 w13 ho14 hb hg_ hnew_
                  clear hg_ hnew_
                  (first | rw [← Ny1426.out] at ho14 | (simp only [Int.reduceToNat] at ho14; rw [← Ny1426.out] at ho14))
                  have HO1428 := zA (Kd.R_lower ho14 (below_size (uH HB.out)))
                  replace BK1420 := xB BK1420 hb
                  replace BK1421 := xB BK1421 hb
                  replace BK1432 := xB BK1432 hb
                  replace HB := xH HB hb
                  clear hb ho14
                  refine hK.out _ _ ⟨bcu BK1420 0, bcu BK1420 1, bcu BK1420 2⟩ (fun hHeld => ?_)
                  clear hK K
                  refine no_ 15 ?_
                  exact norm_ (by first | (simp only [putAll, Act.put, ls, lz, ln]; done) | (simp only [putAll, Act.put, ls, lz, ln]; rfl)) (hJ3_10 (v1427, gb1432) _ ⟨hHeld, (uR HO1428.out), (uB BK1420.out), (uB BK1421.out), (uB BK1432.out), GW1432.out, GE1432.out, NB1420_1432.out, NB1432_1420.out, NB1421_1432.out, NB1432_1421.out, (uH HB.out)⟩)
                 ·skip
                  refine gS Try.func77 #[.agg #[.int .i64 a0_0, .slice A0_1 l0_1.length c0_1, .slice A0_2 l0_2.length c0_2], .int .i64 (l0_1.length : Int)] ?_
                  with_reducible refine (spec_l03Poly.calls k a0_0 _ _ l0_1 _ _ l0_2 (l0_1.length : Int) t1429 _ ?side1 ?side2 ?side3 ?side4 A4.out).mono ?_
                  (case side1 => exact uC ((Kd.C_below HR0_1.out HB.out)))
                  (case side2 => exact HC0_1.out)
                  (case side3 => exact uC ((Kd.C_below HR0_2.out HB.out)))
                  (case side4 => exact HC0_2.out)
                  rintro e w13 ⟨v1430, rfl, ho0, hb⟩
                  refine ⟨_, rfl, ?_⟩
                  have HO1431 := zA (Kd.R_lower ho0 (below_size (uH HB.out)))
                  replace BK1420 := xB BK1420 hb
                  replace BK1421 := xB BK1421 hb
                  replace BK1432 := xB BK1432 hb
                  replace HB := xH HB hb
                  (try clear hb); (try clear hb2); (try clear hk); (try clear hi); (try clear ho0)
                  refine hK.out _ _ ⟨bcu BK1420 0, bcu BK1420 1, bcu BK1420 2⟩ (fun hHeld => ?_)
                  clear hK K
                  refine no_ 21 ?_
                  exact norm_ (by first | (simp only [putAll, Act.put, ls, lz, ln]; done) | (simp only [putAll, Act.put, ls, lz, ln]; rfl)) (hJ9_10 (v1430, gb1432) _ ⟨hHeld, (uR HO1431.out), (uB BK1420.out), (uB BK1421.out), (uB BK1432.out), GW1432.out, GE1432.out, NB1420_1432.out, NB1432_1420.out, NB1421_1432.out, NB1432_1421.out, (uH HB.out)⟩)
               ·skip
                rintro v1430 w12 ⟨hS_, h0_, h1_, h2_, h3_⟩
                have n0_ : Aside0 (Kd.R (Kd.int .i64) 2 w12 w.heap.size (fun _ => True) v1430 t1429) := ⟨h0_⟩
                have n1_ : Aside0 (w12.heap[gb1420]? = some (.cells #[.int .i64 a0_0, .slice A0_1 l0_1.length c0_1, .slice A0_2 l0_2.length c0_2] 26 (0, 0))) := ⟨h1_⟩
                have n2_ : Aside0 (w12.heap[gb1421]? = some (.cells #[.int .i64 0, .slice none 0 0, .slice none 0 0] 37 (0, 0))) := ⟨h2_⟩
                have n3_ : Aside0 (Below w.heap.size w w12) := ⟨h3_⟩
                clear BK1420 BK1421 HB
                clear h0_ h1_ h2_ h3_
                have HO1431 := n0_
                have BK1420 := n1_
                have BK1421 := n2_
                have HB := n3_
                clear n0_ n1_ n2_ n3_
                have hHeld : w12.cell? ⟨gb1420, 0, none⟩ = some (.int .i64 a0_0) ∧ w12.cell? ⟨gb1420, 1, none⟩ = some (.slice A0_1 l0_1.length c0_1) ∧ w12.cell? ⟨gb1420, 2, none⟩ = some (.slice A0_2 l0_2.length c0_2) := hS_
                refine norm_ (a' := ?_) ?_ ?_
                rotate_left
                ·simp only [putAll, Act.put, ls, lz, ln]
                 rfl
                refine three_ (i := 2) (j := 3) (k := 10) (Ni := some 14) (Nj := some 15) (Nk := some 4) (bl 13 999) (bl 13 1003) (bl 13 2019) rfl rfl rfl rfl rfl rfl (three_of HT_.out (by kernel_rfl)) (by decide) (by decide) (by decide) (fun K hK => ?_) (fun K hK => ?_) (fun K hK => ?_)
                ·skip
                 refine Kd.R_lit_step (Kd.int .i64) _ 2 ?hg (N := 14) ?hd (xs := ([] : List Int)) (inner := []) (ok := fun _ => True) (okp := fun _ => True) ?hr ?hp (fun _ hk => hk) trivial (Below.refl _ _) (Nat.le_refl _) (by simp) ?_; (case hd => rfl); (case hg => rfl); (case hr => first | (go_simp; done) | (go_simp; rfl)); (case hp => exact (Reps.none _ _))
                 intro v1424 w13 ho14 hb hg_ hnew_
                 clear hg_ hnew_
                 (first | rw [← Ny1423.out] at ho14 | (simp only [Int.reduceToNat] at ho14; rw [← Ny1423.out] at ho14))
                 have HO1425 := zA (Kd.R_lower (Kd.R_new' ho14 (Kd.R_lt (uR HO1431.out))) (below_size (uH HB.out)))
                 replace HO1431 := zA (Kd.R_elder' (uR HO1431.out) (Kd.R_base ho14) hb)
                 replace BK1420 := xB BK1420 hb
                 replace BK1421 := xB BK1421 hb
                 replace HB := xH HB hb
                 clear hb ho14
                 refine hK.out _ _ ⟨bcu BK1420 0, bcu BK1420 1, bcu BK1420 2⟩ (fun hHeld => ?_)
                 clear hK K
                 refine no_ 14 ?_
                 exact norm_ (by first | (simp only [putAll, Act.put, ls, lz, ln]; done) | (simp only [putAll, Act.put, ls, lz, ln]; rfl)) (hJ2_9 (v1424, v1430) _ ⟨hHeld, (uR (Kd.R_mono HO1425.out (fun _ hk => hk.2))), (uR (Kd.R_mono HO1431.out (fun _ hk => hk.2))), (uB BK1420.out), (uB BK1421.out), (uH HB.out)⟩)
                ·skip
                 refine Kd.R_lit_step (Kd.int .i64) _ 2 ?hg (N := 15) ?hd (xs := ([] : List Int)) (inner := []) (ok := fun _ => True) (okp := fun _ => True) ?hr ?hp (fun _ hk => hk) trivial (Below.refl _ _) (Nat.le_refl _) (by simp) ?_; (case hd => rfl); (case hg => rfl); (case hr => first | (go_simp; done) | (go_simp; rfl)); (case hp => exact (Reps.none _ _))
                 intro v1427 w13 ho14 hb hg_ hnew_
                 clear hg_ hnew_
                 (first | rw [← Ny1426.out] at ho14 | (simp only [Int.reduceToNat] at ho14; rw [← Ny1426.out] at ho14))
                 have HO1428 := zA (Kd.R_lower (Kd.R_new' ho14 (Kd.R_lt (uR HO1431.out))) (below_size (uH HB.out)))
                 replace HO1431 := zA (Kd.R_elder' (uR HO1431.out) (Kd.R_base ho14) hb)
                 replace BK1420 := xB BK1420 hb
                 replace BK1421 := xB BK1421 hb
                 replace HB := xH HB hb
                 clear hb ho14
                 refine hK.out _ _ ⟨bcu BK1420 0, bcu BK1420 1, bcu BK1420 2⟩ (fun hHeld => ?_)
                 clear hK K
                 refine no_ 15 ?_
                 exact norm_ (by first | (simp only [putAll, Act.put, ls, lz, ln]; done) | (simp only [putAll, Act.put, ls, lz, ln]; rfl)) (hJ3_9 (v1427, v1430) _ ⟨hHeld, (uR (Kd.R_mono HO1428.out (fun _ hk => hk.2))), (uR (Kd.R_mono HO1431.out (fun _ hk => hk.2))), (uB BK1420.out), (uB BK1421.out), (uH HB.out)⟩)
                ·skip
                 refine box_step ?hg (N := 4) ?hd (cs := #[.int .i64 0, .slice none 0 0, .slice none 0 0]) (t := 37) ?hr ?_; (case hd => rfl); (case hg => rfl); (case hr => first | (go_simp; done) | (go_simp; rfl))
                 intro gb1432 hg w13 hbox hb
                 replace HO1431 := xR HO1431 hb
                 have BK1432 := zA (hbox)
                 have GW1432 := gq HB hg
                 have GE1432 := gq HB hg
                 replace HB := xH HB hb
                 have NB1420_1432 := zA ((by rw [hg]; exact neL BK1420 : gb1420 ≠ gb1432))
                 have NB1432_1420 := zA ((by rw [hg]; exact neG BK1420 : gb1432 ≠ gb1420))
                 replace BK1420 := xB BK1420 hb
                 have NB1421_1432 := zA ((by rw [hg]; exact neL BK1421 : gb1421 ≠ gb1432))
                 have NB1432_1421 := zA ((by rw [hg]; exact neG BK1421 : gb1432 ≠ gb1421))
                 replace BK1421 := xB BK1421 hb
                 have := geI GE1432
                 clear hb hbox hg
                 refine hK.out _ _ ⟨bcu BK1420 0, bcu BK1420 1, bcu BK1420 2⟩ (fun hHeld => ?_)
                 clear hK K
                 refine no_ 4 ?_
                 exact norm_ (by first | (simp only [putAll, Act.put, ls, lz, ln]; done) | (simp only [putAll, Act.put, ls, lz, ln]; rfl)) (hJ9_10 (v1430, gb1432) _ ⟨hHeld, (uR HO1431.out), (uB BK1420.out), (uB BK1421.out), (uB BK1432.out), GW1432.out, GE1432.out, NB1420_1432.out, NB1432_1420.out, NB1421_1432.out, NB1432_1421.out, (uH HB.out)⟩)
              ·skip
               rintro v1427 w13 ⟨hS_, h0_, h1_, h2_, h3_⟩
               have n0_ : Aside0 (Kd.R (Kd.int .i64) 2 w13 w.heap.size (fun _ => True) v1427 y1426) := ⟨h0_⟩
               have n1_ : Aside0 (w13.heap[gb1420]? = some (.cells #[.int .i64 a0_0, .slice A0_1 l0_1.length c0_1, .slice A0_2 l0_2.length c0_2] 26 (0, 0))) := ⟨h1_⟩
               have n2_ : Aside0 (w13.heap[gb1421]? = some (.cells #[.int .i64 0, .slice none 0 0, .slice none 0 0] 37 (0, 0))) := ⟨h2_⟩
               have n3_ : Aside0 (Below w.heap.size w w13) := ⟨h3_⟩
               clear BK1420 BK1421 HB
               clear h0_ h1_ h2_ h3_
               have HO1428 := n0_
               have BK1420 := n1_
               have BK1421 := n2_
               have HB := n3_
               clear n0_ n1_ n2_ n3_
               have hHeld : w13.cell? ⟨gb1420, 0, none⟩ = some (.int .i64 a0_0) ∧ w13.cell? ⟨gb1420, 1, none⟩ = some (.slice A0_1 l0_1.length c0_1) ∧ w13.cell? ⟨gb1420, 2, none⟩ = some (.slice A0_2 l0_2.length c0_2) := hS_
               refine norm_ (a' := ?_) ?_ ?_
               rotate_left
               ·simp only [putAll, Act.put, ls, lz, ln]
                rfl
               refine three_ (i := 2) (j := 9) (k := 10) (Ni := some 14) (Nj := some 21) (Nk := some 4) (bl 13 495) (bl 13 1003) (bl 13 1515) rfl rfl rfl rfl rfl rfl (three_of HT_.out (by kernel_rfl)) (by decide) (by decide) (by decide) (fun K hK => ?_) (fun K hK => ?_) (fun K hK => ?_)
               ·skip
                refine Kd.R_lit_step (Kd.int .i64) _ 2 ?hg (N := 14) ?hd (xs := ([] : List Int)) (inner := []) (ok := fun _ => True) (okp := fun _ => True) ?hr ?hp (fun _ hk => hk) trivial (Below.refl _ _) (Nat.le_refl _) (by simp) ?_; (case hd => rfl); (case hg => rfl); (case hr => first | (go_simp; done) | (go_simp; rfl)); (case hp => exact (Reps.none _ _))
                intro v1424 w14 ho15 hb hg_ hnew_
                clear hg_ hnew_
                (first | rw [← Ny1423.out] at ho15 | (simp only [Int.reduceToNat] at ho15; rw [← Ny1423.out] at ho15))
                have HO1425 := zA (Kd.R_lower (Kd.R_new' ho15 (Kd.R_lt (uR HO1428.out))) (below_size (uH HB.out)))
                replace HO1428 := zA (Kd.R_elder' (uR HO1428.out) (Kd.R_base ho15) hb)
                replace BK1420 := xB BK1420 hb
                replace BK1421 := xB BK1421 hb
                replace HB := xH HB hb
                clear hb ho15
                obtain ⟨Ao16, co16, eo16⟩ := Kd.R_slice HO1428.out
                (first | subst eo16 | (injection eo16 with f1_ f2_ f3_; have f4_ := f1_.symm; have f5_ := f3_.symm; clear f1_ f2_ f3_; subst f4_; subst f5_))
                obtain ⟨Ao17, co17, eo17⟩ := Kd.R_slice HO1425.out
                (first | subst eo17 | (injection eo17 with f1_ f2_ f3_; have f4_ := f1_.symm; have f5_ := f3_.symm; clear f1_ f2_ f3_; subst f4_; subst f5_))
                refine hK.out _ _ ⟨bcu BK1420 0, bcu BK1420 1, bcu BK1420 2⟩ (fun hHeld => ?_)
                clear hK K
                refine no_ 14 ?_
                refine pu_ 4 16 (bl 13 511) HT_ ?_
                exact norm_ (by first | (simp only [putAll, Act.put, ls, lz, ln]; done) | (simp only [putAll, Act.put, ls, lz, ln]; rfl)) (hJ2_3 (.slice Ao17 y1423.length co17, .slice Ao16 y1426.length co16) _ ⟨hHeld, (uR (Kd.R_mono HO1425.out (fun _ hk => hk.2))), (uR (Kd.R_mono HO1428.out (fun _ hk => hk.2))), (uB BK1420.out), (uB BK1421.out), (uH HB.out)⟩)
               ·skip
                refine gS Try.func77 #[.agg #[.int .i64 a0_0, .slice A0_1 l0_1.length c0_1, .slice A0_2 l0_2.length c0_2], .int .i64 (l0_1.length : Int)] ?_
                with_reducible refine (spec_l03Poly.calls k a0_0 _ _ l0_1 _ _ l0_2 (l0_1.length : Int) t1429 _ ?side1 ?side2 ?side3 ?side4 A4.out).mono ?_
                (case side1 => exact uC ((Kd.C_below HR0_1.out HB.out)))
                (case side2 => exact HC0_1.out)
                (case side3 => exact uC ((Kd.C_below HR0_2.out HB.out)))
                (case side4 => exact HC0_2.out)
                rintro e w14 ⟨v1430, rfl, ho0, hb⟩
                refine ⟨_, rfl, ?_⟩
                have HO1431 := zA (Kd.R_lower (Kd.R_new' ho0 (Kd.R_lt (uR HO1428.out))) (below_size (uH HB.out)))
                replace HO1428 := zA (Kd.R_elder' (uR HO1428.out) (Kd.R_base ho0) hb)
                replace BK1420 := xB BK1420 hb
                replace BK1421 := xB BK1421 hb
                replace HB := xH HB hb
                (try clear hb); (try clear hb2); (try clear hk); (try clear hi); (try clear ho0)
                refine hK.out _ _ ⟨bcu BK1420 0, bcu BK1420 1, bcu BK1420 2⟩ (fun hHeld => ?_)
                clear hK K
                refine no_ 21 ?_
                exact norm_ (by first | (simp only [putAll, Act.put, ls, lz, ln]; done) | (simp only [putAll, Act.put, ls, lz, ln]; rfl)) (hJ3_9 (v1427, v1430) _ ⟨hHeld, (uR (Kd.R_mono HO1428.out (fun _ hk => hk.2))), (uR (Kd.R_mono HO1431.out (fun _ hk => hk.2))), (uB BK1420.out), (uB BK1421.out), (uH HB.out)⟩)
               ·skip
                refine box_step ?hg (N := 4) ?hd (cs := #[.int .i64 0, .slice none 0 0, .slice none 0 0]) (t := 37) ?hr ?_; (case hd => rfl); (case hg => rfl); (case hr => first | (go_simp; done) | (go_simp; rfl))
                intro gb1432 hg w14 hbox hb
                replace HO1428 := xR HO1428 hb
                have BK1432 := zA (hbox)
                have GW1432 := gq HB hg
                have GE1432 := gq HB hg
                replace HB := xH HB hb
                have NB1420_1432 := zA ((by rw [hg]; exact neL BK1420 : gb1420 ≠ gb1432))
                have NB1432_1420 := zA ((by rw [hg]; exact neG BK1420 : gb1432 ≠ gb1420))
                replace BK1420 := xB BK1420 hb
                have NB1421_1432 := zA ((by rw [hg]; exact neL BK1421 : gb1421 ≠ gb1432))
                have NB1432_1421 := zA ((by rw [hg]; exact neG BK1421 : gb1432 ≠ gb1421))
                replace BK1421 := xB BK1421 hb
                have := geI GE1432
                clear hb hbox hg
                refine hK.out _ _ ⟨bcu BK1420 0, bcu BK1420 1, bcu BK1420 2⟩ (fun hHeld => ?_)
                clear hK K
                refine no_ 4 ?_
                exact norm_ (by first | (simp only [putAll, Act.put, ls, lz, ln]; done) | (simp only [putAll, Act.put, ls, lz, ln]; rfl)) (hJ3_10 (v1427, gb1432) _ ⟨hHeld, (uR HO1428.out), (uB BK1420.out), (uB BK1421.out), (uB BK1432.out), GW1432.out, GE1432.out, NB1420_1432.out, NB1432_1420.out, NB1421_1432.out, NB1432_1421.out, (uH HB.out)⟩)
             ·skip
              rintro v1424 w13 ⟨hS_, h0_, h1_, h2_, h3_⟩
              have n0_ : Aside0 (Kd.R (Kd.int .i64) 2 w13 w.heap.size (fun _ => True) v1424 y1423) := ⟨h0_⟩
              have n1_ : Aside0 (w13.heap[gb1420]? = some (.cells #[.int .i64 a0_0, .slice A0_1 l0_1.length c0_1, .slice A0_2 l0_2.length c0_2] 26 (0, 0))) := ⟨h1_⟩
              have n2_ : Aside0 (w13.heap[gb1421]? = some (.cells #[.int .i64 0, .slice none 0 0, .slice none 0 0] 37 (0, 0))) := ⟨h2_⟩
              have n3_ : Aside0 (Below w.heap.size w w13) := ⟨h3_⟩
              clear BK1420 BK1421 HB
              clear h0_ h1_ h2_ h3_
              have HO1425 := n0_
              have BK1420 := n1_
              have BK1421 := n2_
              have HB := n3_
              clear n0_ n1_ n2_ n3_
              have hHeld : w13.cell? ⟨gb1420, 0, none⟩ = some (.int .i64 a0_0) ∧ w13.cell? ⟨gb1420, 1, none⟩ = some (.slice A0_1 l0_1.length c0_1) ∧ w13.cell? ⟨gb1420, 2, none⟩ = some (.slice A0_2 l0_2.length c0_2) := hS_
              refine norm_ (a' := ?_) ?_ ?_
              rotate_left
              ·simp only [putAll, Act.put, ls, lz, ln]
               rfl
              refine three_ (i := 3) (j := 9) (k := 10) (Ni := some 15) (Nj := some 21) (Nk := some 4) (bl 13 495) (bl 13 999) (bl 13 1511) rfl rfl rfl rfl rfl rfl (three_of HT_.out (by kernel_rfl)) (by decide) (by decide) (by decide) (fun K hK => ?_) (fun K hK => ?_) (fun K hK => ?_)
              ·skip
               refine Kd.R_lit_step (Kd.int .i64) _ 2 ?hg (N := 15) ?hd (xs := ([] : List Int)) (inner := []) (ok := fun _ => True) (okp := fun _ => True) ?hr ?hp (fun _ hk => hk) trivial (Below.refl _ _) (Nat.le_refl _) (by simp) ?_; (case hd => rfl); (case hg => rfl); (case hr => first | (go_simp; done) | (go_simp; rfl)); (case hp => exact (Reps.none _ _))
               intro v1427 w14 ho15 hb hg_ hnew_
               clear hg_ hnew_
               (first | rw [← Ny1426.out] at ho15 | (simp only [Int.reduceToNat] at ho15; rw [← Ny1426.out] at ho15))
               have HO1428 := zA (Kd.R_lower (Kd.R_new' ho15 (Kd.R_lt (uR HO1425.out))) (below_size (uH HB.out)))
               replace HO1425 := zA (Kd.R_elder' (uR HO1425.out) (Kd.R_base ho15) hb)
               replace BK1420 := xB BK1420 hb
               replace BK1421 := xB BK1421 hb
               replace HB := xH HB hb
               clear hb ho15
               obtain ⟨Ao16, co16, eo16⟩ := Kd.R_slice HO1428.out
               (first | subst eo16 | (injection eo16 with f1_ f2_ f3_; have f4_ := f1_.symm; have f5_ := f3_.symm; clear f1_ f2_ f3_; subst f4_; subst f5_))
               obtain ⟨Ao17, co17, eo17⟩ := Kd.R_slice HO1425.out
               (first | subst eo17 | (injection eo17 with f1_ f2_ f3_; have f4_ := f1_.symm; have f5_ := f3_.symm; clear f1_ f2_ f3_; subst f4_; subst f5_))
               refine hK.out _ _ ⟨bcu BK1420 0, bcu BK1420 1, bcu BK1420 2⟩ (fun hHeld => ?_)
               clear hK K
               refine no_ 15 ?_
               refine pu_ 4 16 (bl 13 511) HT_ ?_
               exact norm_ (by first | (simp only [putAll, Act.put, ls, lz, ln]; done) | (simp only [putAll, Act.put, ls, lz, ln]; rfl)) (hJ2_3 (.slice Ao17 y1423.length co17, .slice Ao16 y1426.length co16) _ ⟨hHeld, (uR (Kd.R_mono HO1425.out (fun _ hk => hk.2))), (uR (Kd.R_mono HO1428.out (fun _ hk => hk.2))), (uB BK1420.out), (uB BK1421.out), (uH HB.out)⟩)
              ·skip
               refine gS Try.func77 #[.agg #[.int .i64 a0_0, .slice A0_1 l0_1.length c0_1, .slice A0_2 l0_2.length c0_2], .int .i64 (l0_1.length : Int)] ?_
               with_reducible refine (spec_l03Poly.calls k a0_0 _ _ l0_1 _ _ l0_2 (l0_1.length : Int) t1429 _ ?side1 ?side2 ?side3 ?side4 A4.out).mono ?_
               (case side1 => exact uC ((Kd.C_below HR0_1.out HB.out)))
               (case side2 => exact HC0_1.out)
               (case side3 => exact uC ((Kd.C_below HR0_2.out HB.out)))
               (case side4 => exact HC0_2.out)
               rintro e w14 ⟨v1430, rfl, ho0, hb⟩
               refine ⟨_, rfl, ?_⟩
               have HO1431 := zA (Kd.R_lower (Kd.R_new' ho0 (Kd.R_lt (uR HO1425.out))) (below_size (uH HB.out)))
               replace HO1425 := zA (Kd.R_elder' (uR HO1425.out) (Kd.R_base ho0) hb)
               replace BK1420 := xB BK1420 hb
               replace BK1421 := xB BK1421 hb
               replace HB := xH HB hb
               (try clear hb); (try clear hb2); (try clear hk); (try clear hi); (try clear ho0)
               refine hK.out _ _ ⟨bcu BK1420 0, bcu BK1420 1, bcu BK1420 2⟩ (fun hHeld => ?_)
               clear hK K
               refine no_ 21 ?_
               exact norm_ (by first | (simp only [putAll, Act.put, ls, lz, ln]; done) | (simp only [putAll, Act.put, ls, lz, ln]; rfl)) (hJ2_9 (v1424, v1430) _ ⟨hHeld, (uR (Kd.R_mono HO1425.out (fun _ hk => hk.2))), (uR (Kd.R_mono HO1431.out (fun _ hk => hk.2))), (uB BK1420.out), (uB BK1421.out), (uH HB.out)⟩)
              ·skip
               refine box_step ?hg (N := 4) ?hd (cs := #[.int .i64 0, .slice none 0 0, .slice none 0 0]) (t := 37) ?hr ?_; (case hd => rfl); (case hg => rfl); (case hr => first | (go_simp; done) | (go_simp; rfl))
               intro gb1432 hg w14 hbox hb
               replace HO1425 := xR HO1425 hb
               have BK1432 := zA (hbox)
               have GW1432 := gq HB hg
               have GE1432 := gq HB hg
               replace HB := xH HB hb
               have NB1420_1432 := zA ((by rw [hg]; exact neL BK1420 : gb1420 ≠ gb1432))
               have NB1432_1420 := zA ((by rw [hg]; exact neG BK1420 : gb1432 ≠ gb1420))
               replace BK1420 := xB BK1420 hb
               have NB1421_1432 := zA ((by rw [hg]; exact neL BK1421 : gb1421 ≠ gb1432))
               have NB1432_1421 := zA ((by rw [hg]; exact neG BK1421 : gb1432 ≠ gb1421))
               replace BK1421 := xB BK1421 hb
               have := geI GE1432
               clear hb hbox hg
               refine hK.out _ _ ⟨bcu BK1420 0, bcu BK1420 1, bcu BK1420 2⟩ (fun hHeld => ?_)
               clear hK K
               refine no_ 4 ?_
               exact norm_ (by first | (simp only [putAll, Act.put, ls, lz, ln]; done) | (simp only [putAll, Act.put, ls, lz, ln]; rfl)) (hJ2_10 (v1424, gb1432) _ ⟨hHeld, (uR HO1425.out), (uB BK1420.out), (uB BK1421.out), (uB BK1432.out), GW1432.out, GE1432.out, NB1420_1432.out, NB1432_1420.out, NB1421_1432.out, NB1432_1421.out, (uH HB.out)⟩)
            ·skip
             rintro ⟨v1430, gb1432⟩ w13 ⟨hS_, h0_, h1_, h2_, h3_, h4_, h5_, h6_, h7_, h8_, h9_, h10_⟩
             have n0_ : Aside0 (Kd.R (Kd.int .i64) 2 w13 w.heap.size (fun _ => True) v1430 t1429) := ⟨h0_⟩
             have n1_ : Aside0 (w13.heap[gb1420]? = some (.cells #[.int .i64 a0_0, .slice A0_1 l0_1.length c0_1, .slice A0_2 l0_2.length c0_2] 26 (0, 0))) := ⟨h1_⟩
             have n2_ : Aside0 (w13.heap[gb1421]? = some (.cells #[.int .i64 0, .slice none 0 0, .slice none 0 0] 37 (0, 0))) := ⟨h2_⟩
             have n3_ : Aside0 (w13.heap[gb1432]? = some (.cells #[.int .i64 0, .slice none 0 0, .slice none 0 0] 37 (0, 0))) := ⟨h3_⟩
             have n4_ : Aside0 (w.heap.size ≤ gb1432) := ⟨h4_⟩
             have n5_ : Aside0 (w.heap.size ≤ gb1432) := ⟨h5_⟩
             have n6_ : Aside0 (gb1420 ≠ gb1432) := ⟨h6_⟩
             have n7_ : Aside0 (gb1432 ≠ gb1420) := ⟨h7_⟩
             have n8_ : Aside0 (gb1421 ≠ gb1432) := ⟨h8_⟩
             have n9_ : Aside0 (gb1432 ≠ gb1421) := ⟨h9_⟩
             have n10_ : Aside0 (Below w.heap.size w w13) := ⟨h10_⟩
             clear BK1420 BK1421 HB
             clear h0_ h1_ h2_ h3_ h4_ h5_ h6_ h7_ h8_ h9_ h10_
             have HO1431 := n0_
             have BK1420 := n1_
             have BK1421 := n2_
             have BK1432 := n3_
             have GW1432 := n4_
             have GE1432 := n5_
             have := geI GE1432
             have NB1420_1432 := n6_
             have NB1432_1420 := n7_
             have NB1421_1432 := n8_
             have NB1432_1421 := n9_
             have HB := n10_
             clear n0_ n1_ n2_ n3_ n4_ n5_ n6_ n7_ n8_ n9_ n10_
             have hHeld : w13.cell? ⟨gb1420, 0, none⟩ = some (.int .i64 a0_0) ∧ w13.cell? ⟨gb1420, 1, none⟩ = some (.slice A0_1 l0_1.length c0_1) ∧ w13.cell? ⟨gb1420, 2, none⟩ = some (.slice A0_2 l0_2.length c0_2) := hS_
             refine norm_ (a' := ?_) ?_ ?_
             rotate_left
             ·simp only [putAll, Act.put, ls, lz, ln]
              rfl
             refine two_ (i := 2) (j := 3) (Ni := some 14) (Nj := some 15) (bl 13 2023) (bl 13 2027) rfl rfl rfl rfl (two_of HT_.out (by kernel_rfl)) (by decide) (by decide) (fun K hK => ?_) (fun K hK => ?_)
             ·skip
              refine Kd.R_lit_step (Kd.int .i64) _ 2 ?hg (N := 14) ?hd (xs := ([] : List Int)) (inner := []) (ok := fun _ => True) (okp := fun _ => True) ?hr ?hp (fun _ hk => hk) trivial (Below.refl _ _) (Nat.le_refl _) (by simp) ?_; (case hd => rfl); (case hg => rfl); (case hr => first | (go_simp; done) | (go_simp; rfl)); (case hp => exact (Reps.none _ _))
              intro v1424 w14 ho15 hb hg_ hnew_
              clear hg_ hnew_
              (first | rw [← Ny1423.out] at ho15 | (simp only [Int.reduceToNat] at ho15; rw [← Ny1423.out] at ho15))
              have HO1425 := zA (Kd.R_lower (Kd.R_new' ho15 (Kd.R_lt (uR HO1431.out))) (below_size (uH HB.out)))
              replace HO1431 := zA (Kd.R_elder' (uR HO1431.out) (Kd.R_base ho15) hb)
              replace BK1420 := xB BK1420 hb
              replace BK1421 := xB BK1421 hb
              replace BK1432 := xB BK1432 hb
              replace HB := xH HB hb
              clear hb ho15
              refine hK.out _ _ ⟨bcu BK1420 0, bcu BK1420 1, bcu BK1420 2⟩ (fun hHeld => ?_)
              clear hK K
              refine no_ 14 ?_
              exact norm_ (by first | (simp only [putAll, Act.put, ls, lz, ln]; done) | (simp only [putAll, Act.put, ls, lz, ln]; rfl)) (hJ2_9_10 (v1424, v1430, gb1432) _ ⟨hHeld, (uR (Kd.R_mono HO1425.out (fun _ hk => hk.2))), (uR (Kd.R_mono HO1431.out (fun _ hk => hk.2))), (uB BK1420.out), (uB BK1421.out), (uB BK1432.out), GW1432.out, GE1432.out, NB1420_1432.out, NB1432_1420.out, NB1421_1432.out, NB1432_1421.out, (uH HB.out)⟩)
             ·skip
              refine Kd.R_lit_step (Kd.int .i64) _ 2 ?hg (N := 15) ?hd (xs := ([] : List Int)) (inner := []) (ok := fun _ => True) (okp := fun _ => True) ?hr ?hp (fun _ hk => hk) trivial (Below.refl _ _) (Nat.le_refl _) (by simp) ?_; (case hd => rfl); (case hg => rfl); (case hr => first | (go_simp; done) | (go_simp; rfl)); (case hp => exact (Reps.none _ _))
              intro v1427 w14 ho15 hb hg_ hnew_
              clear hg_ hnew_
              (first | rw [← Ny1426.out] at ho15 | (simp only [Int.reduceToNat] at ho15; rw [← Ny1426.out] at ho15))
              have HO1428 := zA (Kd.R_lower (Kd.R_new' ho15 (Kd.R_lt (uR HO1431.out))) (below_size (uH HB.out)))
              replace HO1431 := zA (Kd.R_elder' (uR HO1431.out) (Kd.R_base ho15) hb)
              replace BK1420 := xB BK1420 hb
              replace BK1421 := xB BK1421 hb
              replace BK1432 := xB BK1432 hb
              replace HB := xH HB hb
              clear hb ho15
              refine hK.out _ _ ⟨bcu BK1420 0, bcu BK1420 1, bcu BK1420 2⟩ (fun hHeld => ?_)
              clear hK K
              refine no_ 15 ?_
              exact norm_ (by first | (simp only [putAll, Act.put, ls, lz, ln]; done) | (simp only [putAll, Act.put, ls, lz, ln]; rfl)) (hJ3_9_10 (v1427, v1430, gb1432) _ ⟨hHeld, (uR (Kd.R_mono HO1428.out (fun _ hk => hk.2))), (uR (Kd.R_mono HO1431.out (fun _ hk => hk.2))), (uB BK1420.out), (uB BK1421.out), (uB BK1432.out), GW1432.out, GE1432.out, NB1420_1432.out, NB1432_1420.out, NB1421_1432.out, NB1432_1421.out, (uH HB.out)⟩)
           ·skip
            rintro ⟨v1427, gb1432⟩ w14 ⟨hS_, h0_, h1_, h2_, h3_, h4_, h5_, h6_, h7_, h8_, h9_, h10_⟩
            have n0_ : Aside0 (Kd.R (Kd.int .i64) 2 w14 w.heap.size (fun _ => True) v1427 y1426) := ⟨h0_⟩
            have n1_ : Aside0 (w14.heap[gb1420]? = some (.cells #[.int .i64 a0_0, .slice A0_1 l0_1.length c0_1, .slice A0_2 l0_2.length c0_2] 26 (0, 0))) := ⟨h1_⟩
            have n2_ : Aside0 (w14.heap[gb1421]? = some (.cells #[.int .i64 0, .slice none 0 0, .slice none 0 0] 37 (0, 0))) := ⟨h2_⟩
            have n3_ : Aside0 (w14.heap[gb1432]? = some (.cells #[.int .i64 0, .slice none 0 0, .slice none 0 0] 37 (0, 0))) := ⟨h3_⟩
            have n4_ : Aside0 (w.heap.size ≤ gb1432) := ⟨h4_⟩
            have n5_ : Aside0 (w.heap.size ≤ gb1432) := ⟨h5_⟩
            have n6_ : Aside0 (gb1420 ≠ gb1432) := ⟨h6_⟩
            have n7_ : Aside0 (gb1432 ≠ gb1420) := ⟨h7_⟩
            have n8_ : Aside0 (gb1421 ≠ gb1432) := ⟨h8_⟩
            have n9_ : Aside0 (gb1432 ≠ gb1421) := ⟨h9_⟩
            have n10_ : Aside0 (Below w.heap.size w w14) := ⟨h10_⟩
            clear BK1420 BK1421 HB
            clear h0_ h1_ h2_ h3_ h4_ h5_ h6_ h7_ h8_ h9_ h10_
            have HO1428 := n0_
            have BK1420 := n1_
            have BK1421 := n2_
            have BK1432 := n3_
            have GW1432 := n4_
            have GE1432 := n5_
            have := geI GE1432
            have NB1420_1432 := n6_
            have NB1432_1420 := n7_
            have NB1421_1432 := n8_
            have NB1432_1421 := n9_
            have HB := n10_
            clear n0_ n1_ n2_ n3_ n4_ n5_ n6_ n7_ n8_ n9_ n10_
            have hHeld : w14.cell? ⟨gb1420, 0, none⟩ = some (.int .i64 a0_0) ∧ w14.cell? ⟨gb1420, 1, none⟩ = some (.slice A0_1 l0_1.length c0_1) ∧ w14.cell? ⟨gb1420, 2, none⟩ = some (.slice A0_2 l0_2.length c0_2) := hS_
            refine norm_ (a' := ?_) ?_ ?_
            rotate_left
            ·simp only [putAll, Act.put, ls, lz, ln]
             rfl
            refine two_ (i := 2) (j := 9) (Ni := some 14) (Nj := some 21) (bl 13 1519) (bl 13 2027) rfl rfl rfl rfl (two_of HT_.out (by kernel_rfl)) (by decide) (by decide) (fun K hK => ?_) (fun K hK => ?_)
            ·skip
             refine Kd.R_lit_step (Kd.int .i64) _ 2 ?hg (N := 14) ?hd (xs := ([] : List Int)) (inner := []) (ok := fun _ => True) (okp := fun _ => True) ?hr ?hp (fun _ hk => hk) trivial (Below.refl _ _) (Nat.le_refl _) (by simp) ?_; (case hd => rfl); (case hg => rfl); (case hr => first | (go_simp; done) | (go_simp; rfl)); (case hp => exact (Reps.none _ _))
             intro v1424 w15 ho16 hb hg_ hnew_
             clear hg_ hnew_
             (first | rw [← Ny1423.out] at ho16 | (simp only [Int.reduceToNat] at ho16; rw [← Ny1423.out] at ho16))
             have HO1425 := zA (Kd.R_lower (Kd.R_new' ho16 (Kd.R_lt (uR HO1428.out))) (below_size (uH HB.out)))
             replace HO1428 := zA (Kd.R_elder' (uR HO1428.out) (Kd.R_base ho16) hb)
             replace BK1420 := xB BK1420 hb
             replace BK1421 := xB BK1421 hb
             replace BK1432 := xB BK1432 hb
             replace HB := xH HB hb
             clear hb ho16
             obtain ⟨Ao17, co17, eo17⟩ := Kd.R_slice HO1428.out
             (first | subst eo17 | (injection eo17 with f1_ f2_ f3_; have f4_ := f1_.symm; have f5_ := f3_.symm; clear f1_ f2_ f3_; subst f4_; subst f5_))
             obtain ⟨Ao18, co18, eo18⟩ := Kd.R_slice HO1425.out
             (first | subst eo18 | (injection eo18 with f1_ f2_ f3_; have f4_ := f1_.symm; have f5_ := f3_.symm; clear f1_ f2_ f3_; subst f4_; subst f5_))
             refine hK.out _ _ ⟨bcu BK1420 0, bcu BK1420 1, bcu BK1420 2⟩ (fun hHeld => ?_)
             clear hK K
             refine no_ 14 ?_
             refine pu_ 4 16 (bl 13 1535) HT_ ?_
             exact norm_ (by first | (simp only [putAll, Act.put, ls, lz, ln]; done) | (simp only [putAll, Act.put, ls, lz, ln]; rfl)) (hJ2_3_10 (.slice Ao18 y1423.length co18, .slice Ao17 y1426.length co17, gb1432) _ ⟨hHeld, (uR (Kd.R_mono HO1425.out (fun _ hk => hk.2))), (uR (Kd.R_mono HO1428.out (fun _ hk => hk.2))), (uB BK1420.out), (uB BK1421.out), (uB BK1432.out), GW1432.out, GE1432.out, NB1420_1432.out, NB1432_1420.out, NB1421_1432.out, NB1432_1421.out, (uH HB.out)⟩)
            ·skip
             refine gS Try.func77 #[.agg #[.int .i64 a0_0, .slice A0_1 l0_1.length c0_1, .slice A0_2 l0_2.length c0_2], .int .i64 (l0_1.length : Int)] ?_
             with_reducible refine (spec_l03Poly.calls k a0_0 _ _ l0_1 _ _ l0_2 (l0_1.length : Int) t1429 _ ?side1 ?side2 ?side3 ?side4 A4.out).mono ?_
             (case side1 => exact uC ((Kd.C_below HR0_1.out HB.out)))
             (case side2 => exact HC0_1.out)
             (case side3 => exact uC ((Kd.C_below HR0_2.out HB.out)))
             (case side4 => exact HC0_2.out)
             rintro e w15 ⟨v1430, rfl, ho0, hb⟩
             refine ⟨_, rfl, ?_⟩
             have HO1431 := zA (Kd.R_lower (Kd.R_new' ho0 (Kd.R_lt (uR HO1428.out))) (below_size (uH HB.out)))
             replace HO1428 := zA (Kd.R_elder' (uR HO1428.out) (Kd.R_base ho0) hb)
             replace BK1420 := xB BK1420 hb
             replace BK1421 := xB BK1421 hb
             replace BK1432 := xB BK1432 hb
             replace HB := xH HB hb
             (try clear hb); (try clear hb2); (try clear hk); (try clear hi); (try clear ho0)
             refine hK.out _ _ ⟨bcu BK1420 0, bcu BK1420 1, bcu BK1420 2⟩ (fun hHeld => ?_)
             clear hK K
             refine no_ 21 ?_
             exact norm_ (by first | (simp only [putAll, Act.put, ls, lz, ln]; done) | (simp only [putAll, Act.put, ls, lz, ln]; rfl)) (hJ3_9_10 (v1427, v1430, gb1432) _ ⟨hHeld, (uR (Kd.R_mono HO1428.out (fun _ hk => hk.2))), (uR (Kd.R_mono HO1431.out (fun _ hk => hk.2))), (uB BK1420.out), (uB BK1421.out), (uB BK1432.out), GW1432.out, GE1432.out, NB1420_1432.out, NB1432_1420.out, NB1421_1432.out, NB1432_1421.out, (uH HB.out)⟩)
          ·skip
           rintro ⟨v1427, v1430⟩ w14 ⟨hS_, h0_, h1_, h2_, h3_, h4_⟩
           have n0_ : Aside0 (Kd.R (Kd.int .i64) 2 w14 w.heap.size (fun k_ => some k_ ≠ (v1430 : Value).ownBlock) v1427 y1426) := ⟨h0_⟩
           have n1_ : Aside0 (Kd.R (Kd.int .i64) 2 w14 w.heap.size (fun k_ => some k_ ≠ (v1427 : Value).ownBlock) v1430 t1429) := ⟨h1_⟩
           have n2_ : Aside0 (w14.heap[gb1420]? = some (.cells #[.int .i64 a0_0, .slice A0_1 l0_1.length c0_1, .slice A0_2 l0_2.length c0_2] 26 (0, 0))) := ⟨h2_⟩
           have n3_ : Aside0 (w14.heap[gb1421]? = some (.cells #[.int .i64 0, .slice none 0 0, .slice none 0 0] 37 (0, 0))) := ⟨h3_⟩
           have n4_ : Aside0 (Below w.heap.size w w14) := ⟨h4_⟩
           clear BK1420 BK1421 HB
           clear h0_ h1_ h2_ h3_ h4_
           have HO1428 := n0_
           have HO1431 := n1_
           have BK1420 := n2_
           have BK1421 := n3_
           have HB := n4_
           clear n0_ n1_ n2_ n3_ n4_
           have hHeld : w14.cell? ⟨gb1420, 0, none⟩ = some (.int .i64 a0_0) ∧ w14.cell? ⟨gb1420, 1, none⟩ = some (.slice A0_1 l0_1.length c0_1) ∧ w14.cell? ⟨gb1420, 2, none⟩ = some (.slice A0_2 l0_2.length c0_2) := hS_
           refine norm_ (a' := ?_) ?_ ?_
           rotate_left
           ·simp only [putAll, Act.put, ls, lz, ln]
            rfl
           refine two_ (i := 2) (j := 10) (Ni := some 14) (Nj := some 4) (bl 13 1007) (bl 13 2027) rfl rfl rfl rfl (two_of HT_.out (by kernel_rfl)) (by decide) (by decide) (fun K hK => ?_) (fun K hK => ?_)
           ·skip
            refine Kd.R_lit_step (Kd.int .i64) _ 2 ?hg (N := 14) ?hd (xs := ([] : List Int)) (inner := []) (ok := fun _ => True) (okp := fun _ => True) ?hr ?hp (fun _ hk => hk) trivial (Below.refl _ _) (Nat.le_refl _) (by simp) ?_; (case hd => rfl); (case hg => rfl); (case hr => first | (go_simp; done) | (go_simp; rfl)); (case hp => exact (Reps.none _ _))
            intro v1424 w15 ho16 hb hg_ hnew_
            clear hg_ hnew_
            (first | rw [← Ny1423.out] at ho16 | (simp only [Int.reduceToNat] at ho16; rw [← Ny1423.out] at ho16))
            have HO1425 := zA (Kd.R_lower (Kd.R_new' (Kd.R_new' ho16 (Kd.R_lt (uR HO1428.out))) (Kd.R_lt (uR HO1431.out))) (below_size (uH HB.out)))
            replace HO1428 := zA (Kd.R_elder' (uR HO1428.out) (Kd.R_base ho16) hb)
            replace HO1431 := zA (Kd.R_elder' (uR HO1431.out) (Kd.R_base ho16) hb)
            replace BK1420 := xB BK1420 hb
            replace BK1421 := xB BK1421 hb
            replace HB := xH HB hb
            clear hb ho16
            obtain ⟨Ao17, co17, eo17⟩ := Kd.R_slice HO1428.out
            (first | subst eo17 | (injection eo17 with f1_ f2_ f3_; have f4_ := f1_.symm; have f5_ := f3_.symm; clear f1_ f2_ f3_; subst f4_; subst f5_))
            obtain ⟨Ao18, co18, eo18⟩ := Kd.R_slice HO1425.out
            (first | subst eo18 | (injection eo18 with f1_ f2_ f3_; have f4_ := f1_.symm; have f5_ := f3_.symm; clear f1_ f2_ f3_; subst f4_; subst f5_))
            refine hK.out _ _ ⟨bcu BK1420 0, bcu BK1420 1, bcu BK1420 2⟩ (fun hHeld => ?_)
            clear hK K
            refine no_ 14 ?_
            refine pu_ 4 16 (bl 13 1023) HT_ ?_
            exact norm_ (by first | (simp only [putAll, Act.put, ls, lz, ln]; done) | (simp only [putAll, Act.put, ls, lz, ln]; rfl)) (hJ2_3_9 (.slice Ao18 y1423.length co18, .slice Ao17 y1426.length co17, v1430) _ ⟨hHeld, (uR (Kd.R_mono HO1425.out (fun _ hk => ⟨hk.1.2, hk.2⟩))), (uR (Kd.R_mono HO1428.out (fun _ hk => ⟨hk.2, hk.1⟩))), (uR (Kd.R_mono HO1431.out (fun _ hk => ⟨hk.2, hk.1⟩))), (uB BK1420.out), (uB BK1421.out), (uH HB.out)⟩)
           ·skip
            refine box_step ?hg (N := 4) ?hd (cs := #[.int .i64 0, .slice none 0 0, .slice none 0 0]) (t := 37) ?hr ?_; (case hd => rfl); (case hg => rfl); (case hr => first | (go_simp; done) | (go_simp; rfl))
            intro gb1432 hg w15 hbox hb
            replace HO1428 := xR HO1428 hb
            replace HO1431 := xR HO1431 hb
            have BK1432 := zA (hbox)
            have GW1432 := gq HB hg
            have GE1432 := gq HB hg
            replace HB := xH HB hb
            have NB1420_1432 := zA ((by rw [hg]; exact neL BK1420 : gb1420 ≠ gb1432))
            have NB1432_1420 := zA ((by rw [hg]; exact neG BK1420 : gb1432 ≠ gb1420))
            replace BK1420 := xB BK1420 hb
            have NB1421_1432 := zA ((by rw [hg]; exact neL BK1421 : gb1421 ≠ gb1432))
            have NB1432_1421 := zA ((by rw [hg]; exact neG BK1421 : gb1432 ≠ gb1421))
            replace BK1421 := xB BK1421 hb
            have := geI GE1432
            clear hb hbox hg
            refine hK.out _ _ ⟨bcu BK1420 0, bcu BK1420 1, bcu BK1420 2⟩ (fun hHeld => ?_)
            clear hK K
            refine no_ 4 ?_
            exact norm_ (by first | (simp only [putAll, Act.put, ls, lz, ln]; done) | (simp only [putAll, Act.put, ls, lz, ln]; rfl)) (hJ3_9_10 (v1427, v1430, gb1432) _ ⟨hHeld, (uR HO1428.out), (uR HO1431.out), (uB BK1420.out), (uB BK1421.out), (uB BK1432.out), GW1432.out, GE1432.out, NB1420_1432.out, NB1432_1420.out, NB1421_1432.out, NB1432_1421.out, (uH HB.out)⟩)
         ·skip
          rintro ⟨v1424, gb1432⟩ w14 ⟨hS_, h0_, h1_, h2_, h3_, h4_, h5_, h6_, h7_, h8_, h9_, h10_⟩
          have n0_ : Aside0 (Kd.R (Kd.int .i64) 2 w14 w.heap.size (fun _ => True) v1424 y1423) := ⟨h0_⟩
          have n1_ : Aside0 (w14.heap[gb1420]? = some (.cells #[.int .i64 a0_0, .slice A0_1 l0_1.length c0_1, .slice A0_2 l0_2.length c0_2] 26 (0, 0))) := ⟨h1_⟩
          have n2_ : Aside0 (w14.heap[gb1421]? = some (.cells #[.int .i64 0, .slice none 0 0, .slice none 0 0] 37 (0, 0))) := ⟨h2_⟩
          have n3_ : Aside0 (w14.heap[gb1432]? = some (.cells #[.int .i64 0, .slice none 0 0, .slice none 0 0] 37 (0, 0))) := ⟨h3_⟩
          have n4_ : Aside0 (w.heap.size ≤ gb1432) := ⟨h4_⟩
          have n5_ : Aside0 (w.heap.size ≤ gb1432) := ⟨h5_⟩
          have n6_ : Aside0 (gb1420 ≠ gb1432) := ⟨h6_⟩
          have n7_ : Aside0 (gb1432 ≠ gb1420) := ⟨h7_⟩
          have n8_ : Aside0 (gb1421 ≠ gb1432) := ⟨h8_⟩
          have n9_ : Aside0 (gb1432 ≠ gb1421) := ⟨h9_⟩
          have n10_ : Aside0 (Below w.heap.size w w14) := ⟨h10_⟩
          clear BK1420 BK1421 HB
          clear h0_ h1_ h2_ h3_ h4_ h5_ h6_ h7_ h8_ h9_ h10_
          have HO1425 := n0_
          have BK1420 := n1_
          have BK1421 := n2_
          have BK1432 := n3_
          have GW1432 := n4_
          have GE1432 := n5_
          have := geI GE1432
          have NB1420_1432 := n6_
          have NB1432_1420 := n7_
          have NB1421_1432 := n8_
          have NB1432_1421 := n9_
          have HB := n10_
          clear n0_ n1_ n2_ n3_ n4_ n5_ n6_ n7_ n8_ n9_ n10_
          have hHeld : w14.cell? ⟨gb1420, 0, none⟩ = some (.int .i64 a0_0) ∧ w14.cell? ⟨gb1420, 1, none⟩ = some (.slice A0_1 l0_1.length c0_1) ∧ w14.cell? ⟨gb1420, 2, none⟩ = some (.slice A0_2 l0_2.length c0_2) := hS_
          refine norm_ (a' := ?_) ?_ ?_
          rotate_left
          ·simp only [putAll, Act.put, ls, lz, ln]
           rfl
          refine two_ (i := 3) (j := 9) (Ni := some 15) (Nj := some 21) (bl 13 1519) (bl 13 2023) rfl rfl rfl rfl (two_of HT_.out (by kernel_rfl)) (by decide) (by decide) (fun K hK => ?_) (fun K hK => ?_)
          ·skip
           refine Kd.R_lit_step (Kd.int .i64) _ 2 ?hg (N := 15) ?hd (xs := ([] : List Int)) (inner := []) (ok := fun _ => True) (okp := fun _ => True) ?hr ?hp (fun _ hk => hk) trivial (Below.refl _ _) (Nat.le_refl _) (by simp) ?_; (case hd => rfl); (case hg => rfl); (case hr => first | (go_simp; done) | (go_simp; rfl)); (case hp => exact (Reps.none _ _))
           intro v1427 w15 ho16 hb hg_ hnew_
           clear hg_ hnew_
           (first | rw [← Ny1426.out] at ho16 | (simp only [Int.reduceToNat] at ho16; rw [← Ny1426.out] at ho16))
           have HO1428 := zA (Kd.R_lower (Kd.R_new' ho16 (Kd.R_lt (uR HO1425.out))) (below_size (uH HB.out)))
           replace HO1425 := zA (Kd.R_elder' (uR HO1425.out) (Kd.R_base ho16) hb)
           replace BK1420 := xB BK1420 hb
           replace BK1421 := xB BK1421 hb
           replace BK1432 := xB BK1432 hb
           replace HB := xH HB hb
           clear hb ho16
           obtain ⟨Ao17, co17, eo17⟩ := Kd.R_slice HO1428.out
           (first | subst eo17 | (injection eo17 with f1_ f2_ f3_; have f4_ := f1_.symm; have f5_ := f3_.symm; clear f1_ f2_ f3_; subst f4_; subst f5_))
           obtain ⟨Ao18, co18, eo18⟩ := Kd.R_slice HO1425.out
           (first | subst eo18 | (injection eo18 with f1_ f2_ f3_; have f4_ := f1_.symm; have f5_ := f3_.symm; clear f1_ f2_ f3_; subst f4_; subst f5_))
           refine hK.out _ _ ⟨bcu BK1420 0, bcu BK1420 1, bcu BK1420 2⟩ (fun hHeld => ?_)
           clear hK K
           refine no_ 15 ?_
           refine pu_ 4 16 (bl 13 1535) HT_ ?_
           exact norm_ (by first | (simp only [putAll, Act.put, ls, lz, ln]; done) | (simp only [putAll, Act.put, ls, lz, ln]; rfl)) (hJ2_3_10 (.slice Ao18 y1423.length co18, .slice Ao17 y1426.length co17, gb1432) _ ⟨hHeld, (uR (Kd.R_mono HO1425.out (fun _ hk => hk.2))), (uR (Kd.R_mono HO1428.out (fun _ hk => hk.2))), (uB BK1420.out), (uB BK1421.out), (uB BK1432.out), GW1432.out, GE1432.out, NB1420_1432.out, NB1432_1420.out, NB1421_1432.out, NB1432_1421.out, (uH HB.out)⟩)
          ·skip
           refine gS Try.func77 #[.agg #[.int .i64 a0_0, .slice A0_1 l0_1.length c0_1, .slice A0_2 l0_2.length c0_2], .int .i64 (l0_1.length : Int)] ?_
           with_reducible refine (spec_l03Poly.calls k a0_0 _ _ l0_1 _ _ l0_2 (l0_1.length : Int) t1429 _ ?side1 ?side2 ?side3 ?side4 A4.out).mono ?_
           (case side1 => exact uC ((Kd.C_below HR0_1.out HB.out)))
           (case side2 => exact HC0_1.out)
           (case side3 => exact uC ((Kd.C_below HR0_2.out HB.out)))
           (case side4 => exact HC0_2.out)
           rintro e w15 ⟨v1430, rfl, ho0, hb⟩
           refine ⟨_, rfl, ?_⟩
           have HO1431 := zA (Kd.R_lower (Kd.R_new' ho0 (Kd.R_lt (uR HO1425.out))) (below_size (uH HB.out)))
           replace HO1425 := zA (Kd.R_elder' (uR HO1425.out) (Kd.R_base ho0) hb)
           replace BK1420 := xB BK1420 hb
           replace BK1421 := xB BK1421 hb
           replace BK1432 := xB BK1432 hb
           replace HB := xH HB hb
           (try clear hb); (try clear hb2); (try clear hk); (try clear hi); (try clear ho0)
           refine hK.out _ _ ⟨bcu BK1420 0, bcu BK1420 1, bcu BK1420 2⟩ (fun hHeld => ?_)
           clear hK K
           refine no_ 21 ?_
           exact norm_ (by first | (simp only [putAll, Act.put, ls, lz, ln]; done) | (simp only [putAll, Act.put, ls, lz, ln]; rfl)) (hJ2_9_10 (v1424, v1430, gb1432) _ ⟨hHeld, (uR (Kd.R_mono HO1425.out (fun _ hk => hk.2))), (uR (Kd.R_mono HO1431.out (fun _ hk => hk.2))), (uB BK1420.out), (uB BK1421.out), (uB BK1432.out), GW1432.out, GE1432.out, NB1420_1432.out, NB1432_1420.out, NB1421_1432.out, NB1432_1421.out, (uH HB.out)⟩)
        ·skip
         rintro ⟨v1424, v1430⟩ w14 ⟨hS_, h0_, h1_, h2_, h3_, h4_⟩
         have n0_ : Aside0 (Kd.R (Kd.int .i64) 2 w14 w.heap.size (fun k_ => some k_ ≠ (v1430 : Value).ownBlock) v1424 y1423) := ⟨h0_⟩
         have n1_ : Aside0 (Kd.R (Kd.int .i64) 2 w14 w.heap.size (fun k_ => some k_ ≠ (v1424 : Value).ownBlock) v1430 t1429) := ⟨h1_⟩
         have n2_ : Aside0 (w14.heap[gb1420]? = some (.cells #[.int .i64 a0_0, .slice A0_1 l0_1.length c0_1, .slice A0_2 l0_2.length c0_2] 26 (0, 0))) := ⟨h2_⟩
         have n3_ : Aside0 (w14.heap[gb1421]? = some (.cells #[.int .i64 0, .slice none 0 0, .slice none 0 0] 37 (0, 0))) := ⟨h3_⟩
         have n4_ : Aside0 (Below w.heap.size w w14) := ⟨h4_⟩
         clear BK1420 BK1421 HB
         clear h0_ h1_ h2_ h3_ h4_
         have HO1425 := n0_
         have HO1431 := n1_
         have BK1420 := n2_
         have BK1421 := n3_
         have HB := n4_
         clear n0_ n1_ n2_ n3_ n4_
         have hHeld : w14.cell? ⟨gb1420, 0, none⟩ = some (.int .i64 a0_0) ∧ w14.cell? ⟨gb1420, 1, none⟩ = some (.slice A0_1 l0_1.length c0_1) ∧ w14.cell? ⟨gb1420, 2, none⟩ = some (.slice A0_2 l0_2.length c0_2) := hS_
         refine norm_ (a' := ?_) ?_ ?_
         rotate_left
         ·simp only [putAll, Act.put, ls, lz, ln]
          rfl
         refine two_ (i := 3) (j := 10) (Ni := some 15) (Nj := some 4) (bl 13 1007) (bl 13 2023) rfl rfl rfl rfl (two_of HT_.out (by kernel_rfl)) (by decide) (by decide) (fun K hK => ?_) (fun K hK => ?_)
         ·skip
          refine Kd.R_lit_step (Kd.int .i64) _ 2 ?hg (N := 15) ?hd (xs := ([] : List Int)) (inner := []) (ok := fun _ => True) (okp := fun _ => True) ?hr ?hp (fun _ hk => hk) trivial (Below.refl _ _) (Nat.le_refl _) (by simp) ?_; (case hd => rfl); (case hg => rfl); (case hr => first | (go_simp; done) | (go_simp; rfl)); (case hp => exact (Reps.none _ _))
          intro v1427 w15 ho16 hb hg_ hnew_
          clear hg_ hnew_
          (first | rw [← Ny1426.out] at ho16 | (simp only [Int.reduceToNat] at ho16; rw [← Ny1426.out] at ho16))
          have HO1428 := zA (Kd.R_lower (Kd.R_new' (Kd.R_new' ho16 (Kd.R_lt (uR HO1425.out))) (Kd.R_lt (uR HO1431.out))) (below_size (uH HB.out)))
          replace HO1425 := zA (Kd.R_elder' (uR HO1425.out) (Kd.R_base ho16) hb)
          replace HO1431 := zA (Kd.R_elder' (uR HO1431.out) (Kd.R_base ho16) hb)
          replace BK1420 := xB BK1420 hb
          replace BK1421 := xB BK1421 hb
          replace HB := xH HB hb
          clear hb ho16
          obtain ⟨Ao17, co17, eo17⟩ := Kd.R_slice HO1428.out
          (first | subst eo17 | (injection eo17 with f1_ f2_ f3_; have f4_ := f1_.symm; have f5_ := f3_.symm; clear f1_ f2_ f3_; subst f4_; subst f5_))
          obtain ⟨Ao18, co18, eo18⟩ := Kd.R_slice HO1425.out
          (first | subst eo18 | (injection eo18 with f1_ f2_ f3_; have f4_ := f1_.symm; have f5_ := f3_.symm; clear f1_ f2_ f3_; subst f4_; subst f5_))
          refine hK.out _ _ ⟨bcu BK1420 0, bcu BK1420 1, bcu BK1420 2⟩ (fun hHeld => ?_)
          clear hK K
          refine no_ 15 ?_
          refine pu_ 4 16 (bl 13 1023) HT_ ?_
          exact norm_ (by first | (simp only [putAll, Act.put, ls, lz, ln]; done) | (simp only [putAll, Act.put, ls, lz, ln]; rfl)) (hJ2_3_9 (.slice Ao18 y1423.length co18, .slice Ao17 y1426.length co17, v1430) _ ⟨hHeld, (uR (Kd.R_mono HO1425.out (fun _ hk => ⟨hk.2, hk.1⟩))), (uR (Kd.R_mono HO1428.out (fun _ hk => ⟨hk.1.2, hk.2⟩))), (uR HO1431.out), (uB BK1420.out), (uB BK1421.out), (uH HB.out)⟩)
         ·skip
          refine box_step ?hg (N := 4) ?hd (cs := #[.int .i64 0, .slice none 0 0, .slice none 0 0]) (t := 37) ?hr ?_; (case hd => rfl); (case hg => rfl); (case hr => first | (go_simp; done) | (go_simp; rfl))
          intro gb1432 hg w15 hbox hb
          replace HO1425 := xR HO1425 hb
          replace HO1431 := xR HO1431 hb
          have BK1432 := zA (hbox)
          have GW1432 := gq HB hg
          have GE1432 := gq HB hg
          replace HB := xH HB hb
          have NB1420_1432 := zA ((by rw [hg]; exact neL BK1420 : gb1420 ≠ gb1432))
          have NB1432_1420 := zA ((by rw [hg]; exact neG BK1420 : gb1432 ≠ gb1420))
          replace BK1420 := xB BK1420 hb
          have NB1421_1432 := zA ((by rw [hg]; exact neL BK1421 : gb1421 ≠ gb1432))
          have NB1432_1421 := zA ((by rw [hg]; exact neG BK1421 : gb1432 ≠ gb1421))
          replace BK1421 := xB BK1421 hb
          have := geI GE1432
          clear hb hbox hg
          refine hK.out _ _ ⟨bcu BK1420 0, bcu BK1420 1, bcu BK1420 2⟩ (fun hHeld => ?_)
          clear hK K
          refine no_ 4 ?_
          exact norm_ (by first | (simp only [putAll, Act.put, ls, lz, ln]; done) | (simp only [putAll, Act.put, ls, lz, ln]; rfl)) (hJ2_9_10 (v1424, v1430, gb1432) _ ⟨hHeld, (uR HO1425.out), (uR HO1431.out), (uB BK1420.out), (uB BK1421.out), (uB BK1432.out), GW1432.out, GE1432.out, NB1420_1432.out, NB1432_1420.out, NB1421_1432.out, NB1432_1421.out, (uH HB.out)⟩)
       ·skip
        rintro ⟨v1424, v1427⟩ w17 ⟨hS_, h0_, h1_, h2_, h3_, h4_⟩
        have n0_ : Aside0 (Kd.R (Kd.int .i64) 2 w17 w.heap.size (fun k_ => some k_ ≠ (v1427 : Value).ownBlock) v1424 y1423) := ⟨h0_⟩
        have n1_ : Aside0 (Kd.R (Kd.int .i64) 2 w17 w.heap.size (fun k_ => some k_ ≠ (v1424 : Value).ownBlock) v1427 y1426) := ⟨h1_⟩
        have n2_ : Aside0 (w17.heap[gb1420]? = some (.cells #[.int .i64 a0_0, .slice A0_1 l0_1.length c0_1, .slice A0_2 l0_2.length c0_2] 26 (0, 0))) := ⟨h2_⟩
        have n3_ : Aside0 (w17.heap[gb1421]? = some (.cells #[.int .i64 0, .slice none 0 0, .slice none 0 0] 37 (0, 0))) := ⟨h3_⟩
        have n4_ : Aside0 (Below w.heap.size w w17) := ⟨h4_⟩
        clear BK1420 BK1421 HB
        clear h0_ h1_ h2_ h3_ h4_
        have HO1425 := n0_
        have HO1428 := n1_
        have BK1420 := n2_
        have BK1421 := n3_
        have HB := n4_
        clear n0_ n1_ n2_ n3_ n4_
        have hHeld : w17.cell? ⟨gb1420, 0, none⟩ = some (.int .i64 a0_0) ∧ w17.cell? ⟨gb1420, 1, none⟩ = some (.slice A0_1 l0_1.length c0_1) ∧ w17.cell? ⟨gb1420, 2, none⟩ = some (.slice A0_2 l0_2.length c0_2) := hS_
        obtain ⟨Ao18, co18, eo18⟩ := Kd.R_slice HO1428.out
        (first | subst eo18 | (injection eo18 with f1_ f2_ f3_; have f4_ := f1_.symm; have f5_ := f3_.symm; clear f1_ f2_ f3_; subst f4_; subst f5_))
        obtain ⟨Ao19, co19, eo19⟩ := Kd.R_slice HO1425.out
        (first | subst eo19 | (injection eo19 with f1_ f2_ f3_; have f4_ := f1_.symm; have f5_ := f3_.symm; clear f1_ f2_ f3_; subst f4_; subst f5_))
        refine norm_ (a' := ?_) ?_ ?_
        rotate_left
        ·simp only [putAll, Act.put, ls, lz, ln]
         rfl
        refine two_ (i := 9) (j := 10) (Ni := some 21) (Nj := some 4) (bl 13 1023) (bl 13 1535) rfl rfl rfl rfl (two_of HT_.out (by kernel_rfl)) (by decide) (by decide) (fun K hK => ?_) (fun K hK => ?_)
        ·skip
         refine gS Try.func77 #[.agg #[.int .i64 a0_0, .slice A0_1 l0_1.length c0_1, .slice A0_2 l0_2.length c0_2], .int .i64 (l0_1.length : Int)] ?_
         with_reducible refine (spec_l03Poly.calls k a0_0 _ _ l0_1 _ _ l0_2 (l0_1.length : Int) t1429 _ ?side1 ?side2 ?side3 ?side4 A4.out).mono ?_
         (case side1 => exact uC ((Kd.C_below HR0_1.out HB.out)))
         (case side2 => exact HC0_1.out)
         (case side3 => exact uC ((Kd.C_below HR0_2.out HB.out)))
         (case side4 => exact HC0_2.out)
         rintro e w20 ⟨v1430, rfl, ho0, hb⟩
         refine ⟨_, rfl, ?_⟩
         have HO1431 := zA (Kd.R_lower (Kd.R_new' (Kd.R_new' ho0 (Kd.R_lt (uR HO1425.out))) (Kd.R_lt (uR HO1428.out))) (below_size (uH HB.out)))
         replace HO1425 := zA (Kd.R_elder' (uR HO1425.out) (Kd.R_base ho0) hb)
         replace HO1428 := zA (Kd.R_elder' (uR HO1428.out) (Kd.R_base ho0) hb)
         replace BK1420 := xB BK1420 hb
         replace BK1421 := xB BK1421 hb
         replace HB := xH HB hb
         (try clear hb); (try clear hb2); (try clear hk); (try clear hi); (try clear ho0)
         refine hK.out _ _ ⟨bcu BK1420 0, bcu BK1420 1, bcu BK1420 2⟩ (fun hHeld => ?_)
         clear hK K
         refine no_ 21 ?_
         exact norm_ (by first | (simp only [putAll, Act.put, ls, lz, ln]; done) | (simp only [putAll, Act.put, ls, lz, ln]; rfl)) (hJ2_3_9 (.slice Ao19 y1423.length co19, .slice Ao18 y1426.length co18, v1430) _ ⟨hHeld, (uR HO1425.out), (uR HO1428.out), (uR (Kd.R_mono HO1431.out (fun _ hk => ⟨hk.1.2, hk.2⟩))), (uB BK1420.out), (uB BK1421.out), (uH HB.out)⟩)
        ·skip
         refine box_step ?hg (N := 4) ?hd (cs := #[.int .i64 0, .slice none 0 0, .slice none 0 0]) (t := 37) ?hr ?_; (case hd => rfl); (case hg => rfl); (case hr => first | (go_simp; done) | (go_simp; rfl))
         intro gb1432 hg w20 hbox hb
         replace HO1425 := xR HO1425 hb
         replace HO1428 := xR HO1428 hb
         have BK1432 := zA (hbox)
         have GW1432 := gq HB hg
         have GE1432 := gq HB hg
         replace HB := xH HB hb
         have NB1420_1432 := zA ((by rw [hg]; exact neL BK1420 : gb1420 ≠ gb1432))
         have NB1432_1420 := zA ((by rw [hg]; exact neG BK1420 : gb1432 ≠ gb1420))
         replace BK1420 := xB BK1420 hb
         have NB1421_1432 := zA ((by rw [hg]; exact neL BK1421 : gb1421 ≠ gb1432))
         have NB1432_1421 := zA ((by rw [hg]; exact neG BK1421 : gb1432 ≠ gb1421))
         replace BK1421 := xB BK1421 hb
         have := geI GE1432
         clear hb hbox hg
         refine hK.out _ _ ⟨bcu BK1420 0, bcu BK1420 1, bcu BK1420 2⟩ (fun hHeld => ?_)
         clear hK K
         refine no_ 4 ?_
         exact norm_ (by first | (simp only [putAll, Act.put, ls, lz, ln]; done) | (simp only [putAll, Act.put, ls, lz, ln]; rfl)) (hJ2_3_10 (.slice Ao19 y1423.length co19, .slice Ao18 y1426.length co18, gb1432) _ ⟨hHeld, (uR HO1425.out), (uR HO1428.out), (uB BK1420.out), (uB BK1421.out), (uB BK1432.out), GW1432.out, GE1432.out, NB1420_1432.out, NB1432_1420.out, NB1421_1432.out, NB1432_1421.out, (uH HB.out)⟩)
      ·skip
       rintro ⟨v1427, v1430, gb1432⟩ w15 ⟨hS_, h0_, h1_, h2_, h3_, h4_, h5_, h6_, h7_, h8_, h9_, h10_, h11_⟩
       have n0_ : Aside0 (Kd.R (Kd.int .i64) 2 w15 w.heap.size (fun k_ => some k_ ≠ (v1430 : Value).ownBlock) v1427 y1426) := ⟨h0_⟩
       have n1_ : Aside0 (Kd.R (Kd.int .i64) 2 w15 w.heap.size (fun k_ => some k_ ≠ (v1427 : Value).ownBlock) v1430 t1429) := ⟨h1_⟩
       have n2_ : Aside0 (w15.heap[gb1420]? = some (.cells #[.int .i64 a0_0, .slice A0_1 l0_1.length c0_1, .slice A0_2 l0_2.length c0_2] 26 (0, 0))) := ⟨h2_⟩
       have n3_ : Aside0 (w15.heap[gb1421]? = some (.cells #[.int .i64 0, .slice none 0 0, .slice none 0 0] 37 (0, 0))) := ⟨h3_⟩
       have n4_ : Aside0 (w15.heap[gb1432]? = some (.cells #[.int .i64 0, .slice none 0 0, .slice none 0 0] 37 (0, 0))) := ⟨h4_⟩
       have n5_ : Aside0 (w.heap.size ≤ gb1432) := ⟨h5_⟩
       have n6_ : Aside0 (w.heap.size ≤ gb1432) := ⟨h6_⟩
       have n7_ : Aside0 (gb1420 ≠ gb1432) := ⟨h7_⟩
       have n8_ : Aside0 (gb1432 ≠ gb1420) := ⟨h8_⟩
       have n9_ : Aside0 (gb1421 ≠ gb1432) := ⟨h9_⟩
       have n10_ : Aside0 (gb1432 ≠ gb1421) := ⟨h10_⟩
       have n11_ : Aside0 (Below w.heap.size w w15) := ⟨h11_⟩
       clear BK1420 BK1421 HB
       clear h0_ h1_ h2_ h3_ h4_ h5_ h6_ h7_ h8_ h9_ h10_ h11_
       have HO1428 := n0_
       have HO1431 := n1_
       have BK1420 := n2_
       have BK1421 := n3_
       have BK1432 := n4_
       have GW1432 := n5_
       have GE1432 := n6_
       have := geI GE1432
       have NB1420_1432 := n7_
       have NB1432_1420 := n8_
       have NB1421_1432 := n9_
       have NB1432_1421 := n10_
       have HB := n11_
       clear n0_ n1_ n2_ n3_ n4_ n5_ n6_ n7_ n8_ n9_ n10_ n11_
       have hHeld : w15.cell? ⟨gb1420, 0, none⟩ = some (.int .i64 a0_0) ∧ w15.cell? ⟨gb1420, 1, none⟩ = some (.slice A0_1 l0_1.length c0_1) ∧ w15.cell? ⟨gb1420, 2, none⟩ = some (.slice A0_2 l0_2.length c0_2) := hS_
       refine norm_ (a' := ?_) ?_ ?_
       rotate_left
       ·simp only [putAll, Act.put, ls, lz, ln]
        rfl
       refine on_ 2 (some 14) (bl 13 2031) HT_ (fun K hK => ?_)
       refine Kd.R_lit_step (Kd.int .i64) _ 2 ?hg (N := 14) ?hd (xs := ([] : List Int)) (inner := []) (ok := fun _ => True) (okp := fun _ => True) ?hr ?hp (fun _ hk => hk) trivial (Below.refl _ _) (Nat.le_refl _) (by simp) ?_; (case hd => rfl); (case hg => rfl); (case hr => first | (go_simp; done) | (go_simp; rfl)); (case hp => exact (Reps.none _ _))
       intro v1424 w16 ho17 hb hg_ hnew_
       clear hg_ hnew_
       (first | rw [← Ny1423.out] at ho17 | (simp only [Int.reduceToNat] at ho17; rw [← Ny1423.out] at ho17))
       have HO1425 := zA (Kd.R_lower (Kd.R_new' (Kd.R_new' ho17 (Kd.R_lt (uR HO1428.out))) (Kd.R_lt (uR HO1431.out))) (below_size (uH HB.out)))
       replace HO1428 := zA (Kd.R_elder' (uR HO1428.out) (Kd.R_base ho17) hb)
       replace HO1431 := zA (Kd.R_elder' (uR HO1431.out) (Kd.R_base ho17) hb)
       replace BK1420 := xB BK1420 hb
       replace BK1421 := xB BK1421 hb
       replace BK1432 := xB BK1432 hb
       replace HB := xH HB hb
       clear hb ho17
       obtain ⟨Ao18, co18, eo18⟩ := Kd.R_slice HO1428.out
       (first | subst eo18 | (injection eo18 with f1_ f2_ f3_; have f4_ := f1_.symm; have f5_ := f3_.symm; clear f1_ f2_ f3_; subst f4_; subst f5_))
       obtain ⟨Ao19, co19, eo19⟩ := Kd.R_slice HO1425.out
       (first | subst eo19 | (injection eo19 with f1_ f2_ f3_; have f4_ := f1_.symm; have f5_ := f3_.symm; clear f1_ f2_ f3_; subst f4_; subst f5_))
       refine hK.out _ _ ⟨bcu BK1420 0, bcu BK1420 1, bcu BK1420 2⟩ (fun hHeld => ?_)
       clear hK K
       refine no_ 14 ?_
       refine pu_ 4 16 (bl 13 2047) HT_ ?_
       exact norm_ (by first | (simp only [putAll, Act.put, ls, lz, ln]; done) | (simp only [putAll, Act.put, ls, lz, ln]; rfl)) (hJ2_3_9_10 (.slice Ao19 y1423.length co19, .slice Ao18 y1426.length co18, v1430, gb1432) _ ⟨hHeld, (uR (Kd.R_mono HO1425.out (fun _ hk => ⟨hk.1.2, hk.2⟩))), (uR (Kd.R_mono HO1428.out (fun _ hk => ⟨hk.2, hk.1⟩))), (uR (Kd.R_mono HO1431.out (fun _ hk => ⟨hk.2, hk.1⟩))), (uB BK1420.out), (uB BK1421.out), (uB BK1432.out), GW1432.out, GE1432.out, NB1420_1432.out, NB1432_1420.out, NB1421_1432.out, NB1432_1421.out, (uH HB.out)⟩)
     ·skip
      rintro ⟨v1424, v1430, gb1432⟩ w15 ⟨hS_, h0_, h1_, h2_, h3_, h4_, h5_, h6_, h7_, h8_, h9_, h10_, h11_⟩
      have n0_ : Aside0 (Kd.R (Kd.int .i64) 2 w15 w.heap.size (fun k_ => some k_ ≠ (v1430 : Value).ownBlock) v1424 y1423) := ⟨h0_⟩
      have n1_ : Aside0 (Kd.R (Kd.int .i64) 2 w15 w.heap.size (fun k_ => some k_ ≠ (v1424 : Value).ownBlock) v1430 t1429) := ⟨h1_⟩
      have n2_ : Aside0 (w15.heap[gb1420]? = some (.cells #[.int .i64 a0_0, .slice A0_1 l0_1.length c0_1, .slice A0_2 l0_2.length c0_2] 26 (0, 0))) := ⟨h2_⟩
      have n3_ : Aside0 (w15.heap[gb1421]? = some (.cells #[.int .i64 0, .slice none 0 0, .slice none 0 0] 37 (0, 0))) := ⟨h3_⟩
      have n4_ : Aside0 (w15.heap[gb1432]? = some (.cells #[.int .i64 0, .slice none 0 0, .slice none 0 0] 37 (0, 0))) := ⟨h4_⟩
      have n5_ : Aside0 (w.heap.size ≤ gb1432) := ⟨h5_⟩
      have n6_ : Aside0 (w.heap.size ≤ gb1432) := ⟨h6_⟩
      have n7_ : Aside0 (gb1420 ≠ gb1432) := ⟨h7_⟩
      have n8_ : Aside0 (gb1432 ≠ gb1420) := ⟨h8_⟩
      have n9_ : Aside0 (gb1421 ≠ gb1432) := ⟨h9_⟩
      have n10_ : Aside0 (gb1432 ≠ gb1421) := ⟨h10_⟩
      have n11_ : Aside0 (Below w.heap.size w w15) := ⟨h11_⟩
      clear BK1420 BK1421 HB
      clear h0_ h1_ h2_ h3_ h4_ h5_ h6_ h7_ h8_ h9_ h10_ h11_
      have HO1425 := n0_
      have HO1431 := n1_
      have BK1420 := n2_
      have BK1421 := n3_
      have BK1432 := n4_
      have GW1432 := n5_
      have GE1432 := n6_
      have := geI GE1432
      have NB1420_1432 := n7_
      have NB1432_1420 := n8_
      have NB1421_1432 := n9_
      have NB1432_1421 := n10_
      have HB := n11_
      clear n0_ n1_ n2_ n3_ n4_ n5_ n6_ n7_ n8_ n9_ n10_ n11_
      have hHeld : w15.cell? ⟨gb1420, 0, none⟩ = some (.int .i64 a0_0) ∧ w15.cell? ⟨gb1420, 1, none⟩ = some (.slice A0_1 l0_1.length c0_1) ∧ w15.cell? ⟨gb1420, 2, none⟩ = some (.slice A0_2 l0_2.length c0_2) := hS_
      refine norm_ (a' := ?_) ?_ ?_
      rotate_left
      ·simp only [putAll, Act.put, ls, lz, ln]
       rfl
      refine on_ 3 (some 15) (bl 13 2031) HT_ (fun K hK => ?_)
      refine Kd.R_lit_step (Kd.int .i64) _ 2 ?hg (N := 15) ?hd (xs := ([] : List Int)) (inner := []) (ok := fun _ => True) (okp := fun _ => True) ?hr ?hp (fun _ hk => hk) trivial (Below.refl _ _) (Nat.le_refl _) (by simp) ?_; (case hd => rfl); (case hg => rfl); (case hr => first | (go_simp; done) | (go_simp; rfl)); (case hp => exact (Reps.none _ _))
      intro v1427 w16 ho17 hb hg_ hnew_
      clear hg_ hnew_
      (first | rw [← Ny1426.out] at ho17 | (simp only [Int.reduceToNat] at ho17; rw [← Ny1426.out] at ho17))
      have HO1428 := zA (Kd.R_lower (Kd.R_new' (Kd.R_new' ho17 (Kd.R_lt (uR HO1425.out))) (Kd.R_lt (uR HO1431.out))) (below_size (uH HB.out)))
      replace HO1425 := zA (Kd.R_elder' (uR HO1425.out) (Kd.R_base ho17) hb)
      replace HO1431 := zA (Kd.R_elder' (uR HO1431.out) (Kd.R_base ho17) hb)
      replace BK1420 := xB BK1420 hb
      replace BK1421 := xB BK1421 hb
      replace BK1432 := xB BK1432 hb
      replace HB := xH HB hb
      clear hb ho17
      obtain ⟨Ao18, co18, eo18⟩ := Kd.R_slice HO1428.out
      (first | subst eo18 | (injection eo18 with f1_ f2_ f3_; have f4_ := f1_.symm; have f5_ := f3_.symm; clear f1_ f2_ f3_; subst f4_; subst f5_))
      obtain ⟨Ao19, co19, eo19⟩ := Kd.R_slice HO1425.out
      (first | subst eo19 | (injection eo19 with f1_ f2_ f3_; have f4_ := f1_.symm; have f5_ := f3_.symm; clear f1_ f2_ f3_; subst f4_; subst f5_))
      refine hK.out _ _ ⟨bcu BK1420 0, bcu BK1420 1, bcu BK1420 2⟩ (fun hHeld => ?_)
      clear hK K
      refine no_ 15 ?_
      refine pu_ 4 16 (bl 13 2047) HT_ ?_
      exact norm_ (by first | (simp only [putAll, Act.put, ls, lz, ln]; done) | (simp only [putAll, Act.put, ls, lz, ln]; rfl)) (hJ2_3_9_10 (.slice Ao19 y1423.length co19, .slice Ao18 y1426.length co18, v1430, gb1432) _ ⟨hHeld, (uR (Kd.R_mono HO1425.out (fun _ hk => ⟨hk.2, hk.1⟩))), (uR (Kd.R_mono HO1428.out (fun _ hk => ⟨hk.1.2, hk.2⟩))), (uR HO1431.out), (uB BK1420.out), (uB BK1421.out), (uB BK1432.out), GW1432.out, GE1432.out, NB1420_1432.out, NB1432_1420.out, NB1421_1432.out, NB1432_1421.out, (uH HB.out)⟩)
    ·skip
     rintro ⟨v1424, v1427, gb1432⟩ w18 ⟨hS_, h0_, h1_, h2_, h3_, h4_, h5_, h6_, h7_, h8_, h9_, h10_, h11_⟩
     have n0_ : Aside0 (Kd.R (Kd.int .i64) 2 w18 w.heap.size (fun k_ => some k_ ≠ (v1427 : Value).ownBlock) v1424 y1423) := ⟨h0_⟩
     have n1_ : Aside0 (Kd.R (Kd.int .i64) 2 w18 w.heap.size (fun k_ => some k_ ≠ (v1424 : Value).ownBlock) v1427 y1426) := ⟨h1_⟩
     have n2_ : Aside0 (w18.heap[gb1420]? = some (.cells #[.int .i64 a0_0, .slice A0_1 l0_1.length c0_1, .slice A0_2 l0_2.length c0_2] 26 (0, 0))) := ⟨h2_⟩
     have n3_ : Aside0 (w18.heap[gb1421]? = some (.cells #[.int .i64 0, .slice none 0 0, .slice none 0 0] 37 (0, 0))) := ⟨h3_⟩
     have n4_ : Aside0 (w18.heap[gb1432]? = some (.cells #[.int .i64 0, .slice none 0 0, .slice none 0 0] 37 (0, 0))) := ⟨h4_⟩
     have n5_ : Aside0 (w.heap.size ≤ gb1432) := ⟨h5_⟩
     have n6_ : Aside0 (w.heap.size ≤ gb1432) := ⟨h6_⟩
     have n7_ : Aside0 (gb1420 ≠ gb1432) := ⟨h7_⟩
     have n8_ : Aside0 (gb1432 ≠ gb1420) := ⟨h8_⟩
     have n9_ : Aside0 (gb1421 ≠ gb1432) := ⟨h9_⟩
     have n10_ : Aside0 (gb1432 ≠ gb1421) := ⟨h10_⟩
     have n11_ : Aside0 (Below w.heap.size w w18) := ⟨h11_⟩
     clear BK1420 BK1421 HB
     clear h0_ h1_ h2_ h3_ h4_ h5_ h6_ h7_ h8_ h9_ h10_ h11_
     have HO1425 := n0_
     have HO1428 := n1_
     have BK1420 := n2_
     have BK1421 := n3_
     have BK1432 := n4_
     have GW1432 := n5_
     have GE1432 := n6_
     have := geI GE1432
     have NB1420_1432 := n7_
     have NB1432_1420 := n8_
     have NB1421_1432 := n9_
     have NB1432_1421 := n10_
     have HB := n11_
     clear n0_ n1_ n2_ n3_ n4_ n5_ n6_ n7_ n8_ n9_ n10_ n11_
     have hHeld : w18.cell? ⟨gb1420, 0, none⟩ = some (.int .i64 a0_0) ∧ w18.cell? ⟨gb1420, 1, none⟩ = some (.slice A0_1 l0_1.length c0_1) ∧ w18.cell? ⟨gb1420, 2, none⟩ = some (.slice A0_2 l0_2.length c0_2) := hS_
     obtain ⟨Ao19, co19, eo19⟩ := Kd.R_slice HO1428.out
     (first | subst eo19 | (injection eo19 with f1_ f2_ f3_; have f4_ := f1_.symm; have f5_ := f3_.symm; clear f1_ f2_ f3_; subst f4_; subst f5_))
     obtain ⟨Ao20, co20, eo20⟩ := Kd.R_slice HO1425.out
     (first | subst eo20 | (injection eo20 with f1_ f2_ f3_; have f4_ := f1_.symm; have f5_ := f3_.symm; clear f1_ f2_ f3_; subst f4_; subst f5_))
     refine norm_ (a' := ?_) ?_ ?_
     rotate_left
     ·simp only [putAll, Act.put, ls, lz, ln]
      rfl
     refine on_ 9 (some 21) (bl 13 2047) HT_ (fun K hK => ?_)
     refine gS Try.func77 #[.agg #[.int .i64 a0_0, .slice A0_1 l0_1.length c0_1, .slice A0_2 l0_2.length c0_2], .int .i64 (l0_1.length : Int)] ?_
     with_reducible refine (spec_l03Poly.calls k a0_0 _ _ l0_1 _ _ l0_2 (l0_1.length : Int) t1429 _ ?side1 ?side2 ?side3 ?side4 A4.out).mono ?_
     (case side1 => exact uC ((Kd.C_below HR0_1.out HB.out)))
     (case side2 => exact HC0_1.out)
     (case side3 => exact uC ((Kd.C_below HR0_2.out HB.out)))
     (case side4 => exact HC0_2.out)
     rintro e w21 ⟨v1430, rfl, ho0, hb⟩
     refine ⟨_, rfl, ?_⟩
     have HO1431 := zA (Kd.R_lower (Kd.R_new' (Kd.R_new' ho0 (Kd.R_lt (uR HO1425.out))) (Kd.R_lt (uR HO1428.out))) (below_size (uH HB.out)))
     replace HO1425 := zA (Kd.R_elder' (uR HO1425.out) (Kd.R_base ho0) hb)
     replace HO1428 := zA (Kd.R_elder' (uR HO1428.out) (Kd.R_base ho0) hb)
     replace BK1420 := xB BK1420 hb
     replace BK1421 := xB BK1421 hb
     replace BK1432 := xB BK1432 hb
     replace HB := xH HB hb
     (try clear hb); (try clear hb2); (try clear hk); (try clear hi); (try clear ho0)
     refine hK.out _ _ ⟨bcu BK1420 0, bcu BK1420 1, bcu BK1420 2⟩ (fun hHeld => ?_)
     clear hK K
     refine no_ 21 ?_
     exact norm_ (by first | (simp only [putAll, Act.put, ls, lz, ln]; done) | (simp only [putAll, Act.put, ls, lz, ln]; rfl)) (hJ2_3_9_10 (.slice Ao20 y1423.length co20, .slice Ao19 y1426.length co19, v1430, gb1432) _ ⟨hHeld, (uR HO1425.out), (uR HO1428.out), (uR (Kd.R_mono HO1431.out (fun _ hk => ⟨hk.1.2, hk.2⟩))), (uB BK1420.out), (uB BK1421.out), (uB BK1432.out), GW1432.out, GE1432.out, NB1420_1432.out, NB1432_1420.out, NB1421_1432.out, NB1432_1421.out, (uH HB.out)⟩)
   ·skip
    rintro ⟨v1424, v1427, v1430⟩ w18 ⟨hS_, h0_, h1_, h2_, h3_, h4_, h5_⟩
    have n0_ : Aside0 (Kd.R (Kd.int .i64) 2 w18 w.heap.size (fun k_ => some k_ ≠ (v1427 : Value).ownBlock ∧ some k_ ≠ (v1430 : Value).ownBlock) v1424 y1423) := ⟨h0_⟩
    have n1_ : Aside0 (Kd.R (Kd.int .i64) 2 w18 w.heap.size (fun k_ => some k_ ≠ (v1424 : Value).ownBlock ∧ some k_ ≠ (v1430 : Value).ownBlock) v1427 y1426) := ⟨h1_⟩
    have n2_ : Aside0 (Kd.R (Kd.int .i64) 2 w18 w.heap.size (fun k_ => some k_ ≠ (v1424 : Value).ownBlock ∧ some k_ ≠ (v1427 : Value).ownBlock) v1430 t1429) := ⟨h2_⟩
    have n3_ : Aside0 (w18.heap[gb1420]? = some (.cells #[.int .i64 a0_0, .slice A0_1 l0_1.length c0_1, .slice A0_2 l0_2.length c0_2] 26 (0, 0))) := ⟨h3_⟩
    have n4_ : Aside0 (w18.heap[gb1421]? = some (.cells #[.int .i64 0, .slice none 0 0, .slice none 0 0] 37 (0, 0))) := ⟨h4_⟩
    have n5_ : Aside0 (Below w.heap.size w w18) := ⟨h5_⟩
    clear BK1420 BK1421 HB
    clear h0_ h1_ h2_ h3_ h4_ h5_
    have HO1425 := n0_
    have HO1428 := n1_
    have HO1431 := n2_
    have BK1420 := n3_
    have BK1421 := n4_
    have HB := n5_
    clear n0_ n1_ n2_ n3_ n4_ n5_
    have hHeld : w18.cell? ⟨gb1420, 0, none⟩ = some (.int .i64 a0_0) ∧ w18.cell? ⟨gb1420, 1, none⟩ = some (.slice A0_1 l0_1.length c0_1) ∧ w18.cell? ⟨gb1420, 2, none⟩ = some (.slice A0_2 l0_2.length c0_2) := hS_
    obtain ⟨Ao19, co19, eo19⟩ := Kd.R_slice HO1428.out
    (first | subst eo19 | (injection eo19 with f1_ f2_ f3_; have f4_ := f1_.symm; have f5_ := f3_.symm; clear f1_ f2_ f3_; subst f4_; subst f5_))
    obtain ⟨Ao20, co20, eo20⟩ := Kd.R_slice HO1425.out
    (first | subst eo20 | (injection eo20 with f1_ f2_ f3_; have f4_ := f1_.symm; have f5_ := f3_.symm; clear f1_ f2_ f3_; subst f4_; subst f5_))
    refine norm_ (a' := ?_) ?_ ?_
    rotate_left
    ·simp only [putAll, Act.put, ls, lz, ln]
     rfl
    refine on_ 10 (some 4) (bl 13 2047) HT_ (fun K hK => ?_)
    refine box_step ?hg (N := 4) ?hd (cs := #[.int .i64 0, .slice none 0 0, .slice none 0 0]) (t := 37) ?hr ?_; (case hd => rfl); (case hg => rfl); (case hr => first | (go_simp; done) | (go_simp; rfl))
    intro gb1432 hg w21 hbox hb
    replace HO1425 := xR HO1425 hb
    replace HO1428 := xR HO1428 hb
    replace HO1431 := xR HO1431 hb
    have BK1432 := zA (hbox)
    have GW1432 := gq HB hg
    have GE1432 := gq HB hg
    replace HB := xH HB hb
    have NB1420_1432 := zA ((by rw [hg]; exact neL BK1420 : gb1420 ≠ gb1432))
    have NB1432_1420 := zA ((by rw [hg]; exact neG BK1420 : gb1432 ≠ gb1420))
    replace BK1420 := xB BK1420 hb
    have NB1421_1432 := zA ((by rw [hg]; exact neL BK1421 : gb1421 ≠ gb1432))
    have NB1432_1421 := zA ((by rw [hg]; exact neG BK1421 : gb1432 ≠ gb1421))
    replace BK1421 := xB BK1421 hb
    have := geI GE1432
    clear hb hbox hg
    refine hK.out _ _ ⟨bcu BK1420 0, bcu BK1420 1, bcu BK1420 2⟩ (fun hHeld => ?_)
    clear hK K
    refine no_ 4 ?_
    exact norm_ (by first | (simp only [putAll, Act.put, ls, lz, ln]; done) | (simp only [putAll, Act.put, ls, lz, ln]; rfl)) (hJ2_3_9_10 (.slice Ao20 y1423.length co20, .slice Ao19 y1426.length co19, v1430, gb1432) _ ⟨hHeld, (uR HO1425.out), (uR HO1428.out), (uR HO1431.out), (uB BK1420.out), (uB BK1421.out), (uB BK1432.out), GW1432.out, GE1432.out, NB1420_1432.out, NB1432_1420.out, NB1421_1432.out, NB1432_1421.out, (uH HB.out)⟩)
  rintro ⟨v1424, v1427, v1430, gb1432⟩ w19 ⟨hS_, h0_, h1_, h2_, h3_, h4_, h5_, h6_, h7_, h8_, h9_, h10_, h11_, h12_⟩
  have n0_ : Aside0 (Kd.R (Kd.int .i64) 2 w19 w.heap.size (fun k_ => some k_ ≠ (v1427 : Value).ownBlock ∧ some k_ ≠ (v1430 : Value).ownBlock) v1424 y1423) := ⟨h0_⟩
  have n1_ : Aside0 (Kd.R (Kd.int .i64) 2 w19 w.heap.size (fun k_ => some k_ ≠ (v1424 : Value).ownBlock ∧ some k_ ≠ (v1430 : Value).ownBlock) v1427 y1426) := ⟨h1_⟩
  have n2_ : Aside0 (Kd.R (Kd.int .i64) 2 w19 w.heap.size (fun k_ => some k_ ≠ (v1424 : Value).ownBlock ∧ some k_ ≠ (v1427 : Value).ownBlock) v1430 t1429) := ⟨h2_⟩
  have n3_ : Aside0 (w19.heap[gb1420]? = some (.cells #[.int .i64 a0_0, .slice A0_1 l0_1.length c0_1, .slice A0_2 l0_2.length c0_2] 26 (0, 0))) := ⟨h3_⟩
  have n4_ : Aside0 (w19.heap[gb1421]? = some (.cells #[.int .i64 0, .slice none 0 0, .slice none 0 0] 37 (0, 0))) := ⟨h4_⟩
  have n5_ : Aside0 (w19.heap[gb1432]? = some (.cells #[.int .i64 0, .slice none 0 0, .slice none 0 0] 37 (0, 0))) := ⟨h5_⟩
  have n6_ : Aside0 (w.heap.size ≤ gb1432) := ⟨h6_⟩
  have n7_ : Aside0 (w.heap.size ≤ gb1432) := ⟨h7_⟩
  have n8_ : Aside0 (gb1420 ≠ gb1432) := ⟨h8_⟩
  have n9_ : Aside0 (gb1432 ≠ gb1420) := ⟨h9_⟩
  have n10_ : Aside0 (gb1421 ≠ gb1432) := ⟨h10_⟩
  have n11_ : Aside0 (gb1432 ≠ gb1421) := ⟨h11_⟩
  have n12_ : Aside0 (Below w.heap.size w w19) := ⟨h12_⟩
  clear BK1420 BK1421 HB
  clear h0_ h1_ h2_ h3_ h4_ h5_ h6_ h7_ h8_ h9_ h10_ h11_ h12_
  have HO1425 := n0_
  have HO1428 := n1_
  have HO1431 := n2_
  have BK1420 := n3_
  have BK1421 := n4_
  have BK1432 := n5_
  have GW1432 := n6_
  have GE1432 := n7_
  have := geI GE1432
  have NB1420_1432 := n8_
  have NB1432_1420 := n9_
  have NB1421_1432 := n10_
  have NB1432_1421 := n11_
  have HB := n12_
  clear n0_ n1_ n2_ n3_ n4_ n5_ n6_ n7_ n8_ n9_ n10_ n11_ n12_
  have hHeld : w19.cell? ⟨gb1420, 0, none⟩ = some (.int .i64 a0_0) ∧ w19.cell? ⟨gb1420, 1, none⟩ = some (.slice A0_1 l0_1.length c0_1) ∧ w19.cell? ⟨gb1420, 2, none⟩ = some (.slice A0_2 l0_2.length c0_2) := hS_
  obtain ⟨Ao20, co20, eo20⟩ := Kd.R_slice HO1428.out
  (first | subst eo20 | (injection eo20 with f1_ f2_ f3_; have f4_ := f1_.symm; have f5_ := f3_.symm; clear f1_ f2_ f3_; subst f4_; subst f5_))
  obtain ⟨Ao21, co21, eo21⟩ := Kd.R_slice HO1425.out
  (first | subst eo21 | (injection eo21 with f1_ f2_ f3_; have f4_ := f1_.symm; have f5_ := f3_.symm; clear f1_ f2_ f3_; subst f4_; subst f5_))
  refine norm_ (a' := ?_) ?_ ?_
  rotate_left
  ·simp only [putAll, Act.put, ls, lz, ln]
   rfl
  refine on_ 11 (none) (bl 13 4095) HT_ (fun K hK => ?_)
  have hs22 : w19.cell? ⟨gb1432, 0, none⟩ = some (.int .i64 0) := (blk_cell BK1432.out 0).trans rfl
  have hfs22 := bf BK1432 0
  have hns22_0 := NB1420_1432.out; have hns22_1 := NB1421_1432.out; have hms22_0 := NB1432_1420.out; have hms22_1 := NB1432_1421.out
  have hs23 : w19.cell? ⟨gb1432, 1, none⟩ = some (.slice none 0 0) := (blk_cell BK1432.out 1).trans rfl
  have hfs23 := bf BK1432 1
  have hns23_0 := NB1420_1432.out; have hns23_1 := NB1421_1432.out; have hms23_0 := NB1432_1420.out; have hms23_1 := NB1432_1421.out
  have hs24 : w19.cell? ⟨gb1432, 2, none⟩ = some (.slice none 0 0) := (blk_cell BK1432.out 2).trans rfl
  have hfs24 := bf BK1432 2
  have hns24_0 := NB1420_1432.out; have hns24_1 := NB1421_1432.out; have hms24_0 := NB1432_1420.out; have hms24_1 := NB1432_1421.out
  refine skip_ (w1 := ?_) (by rfl) rfl ?_ ?_
  rotate_left
  ·go_simp
   rfl
  refine hK.out _ _ ⟨((cell_far (p := ⟨gb1432, _, none⟩) NB1420_1432.out _).trans (((cell_far (p := ⟨gb1432, _, none⟩) NB1420_1432.out _).trans (((cell_far (p := ⟨gb1432, _, none⟩) NB1420_1432.out _).trans (hHeld.1)))))), ((cell_far (p := ⟨gb1432, _, none⟩) NB1420_1432.out _).trans (((cell_far (p := ⟨gb1432, _, none⟩) NB1420_1432.out _).trans (((cell_far (p := ⟨gb1432, _, none⟩) NB1420_1432.out _).trans (hHeld.2.1)))))), ((cell_far (p := ⟨gb1432, _, none⟩) NB1420_1432.out _).trans (((cell_far (p := ⟨gb1432, _, none⟩) NB1420_1432.out _).trans (((cell_far (p := ⟨gb1432, _, none⟩) NB1420_1432.out _).trans (hHeld.2.2))))))⟩ (fun hHeld => ?_)
  clear hK K
  refine pu_ 12 5 (bl 13 8191) HT_ ?_
  refine done_ (done_of HT_.out (by kernel_rfl)) ?_
  try go_wp2
  go_loopg [6] k (fun kq v6 w' => ∃ (x6_1 : Int) (x1433001_1 : List Int) (u1433001 : Value), v6 = .int .i64 x6_1 ∧ Aside0 (spec_GaussRule.l0 kq t1429 x6_1 a0_0 l0_1 l0_2 a0_0 x1433001_1 y1426 = some (r1, r2, r3, r4)) ∧ Aside0 (kq ≤ k) ∧ Aside0 (Kd.R (Kd.int .i64) 2 w' w.heap.size (fun k_ => some k_ ≠ (u1433001 : Value).ownBlock ∧ ax k_ (.slice Ao20 y1426.length co20)) v1430 t1429) ∧ Aside0 (Kd.R (Kd.int .i64) 2 w' w.heap.size (fun k_ => some k_ ≠ (v1430 : Value).ownBlock ∧ ax k_ (.slice Ao20 y1426.length co20)) u1433001 x1433001_1) ∧ Aside0 (Kd.R (Kd.int .i64) 2 w' w.heap.size (fun k_ => some k_ ≠ (v1430 : Value).ownBlock ∧ some k_ ≠ (u1433001 : Value).ownBlock) (.slice Ao20 y1426.length co20) y1426) ∧ Aside0 (w'.heap[gb1420]? = some (.cells #[.int .i64 a0_0, (.slice A0_1 l0_1.length c0_1), (.slice A0_2 l0_2.length c0_2)] 26 (0, 0))) ∧ Aside0 (w'.heap[gb1421]? = some (.cells #[.int .i64 0, (.slice none 0 0), (.slice none 0 0)] 37 (0, 0))) ∧ Aside0 (w'.heap[gb1432]? = some (.cells #[.int .i64 a0_0, u1433001, (.slice Ao20 y1426.length co20)] 37 (0, 0))) ∧ Aside0 (Below w.heap.size w w'))
  case atStart => exact ⟨(0), (y1423), (.slice Ao21 y1423.length co21), (by first | rfl | (simp; done) | (simp [*]; done)), H', ⟨Nat.le_refl _⟩, ⟨uR (Kd.R_mono (Kd.R_far (p := ⟨gb1432, 2, none⟩) (Kd.R_far (p := ⟨gb1432, 1, none⟩) (Kd.R_far (p := ⟨gb1432, 0, none⟩) (Kd.R_types HO1431.out BK1432.out (by decide)) (fun _ hk => hk.2) (.int .i64 a0_0)) (fun _ hk => hk.2) (.slice Ao21 y1423.length co21)) (fun _ hk => hk.2) (.slice Ao20 y1426.length co20)) (fun _ hk => ⟨hk.1.1, hk.1.2⟩))⟩, ⟨uR (Kd.R_mono (Kd.R_far (p := ⟨gb1432, 2, none⟩) (Kd.R_far (p := ⟨gb1432, 1, none⟩) (Kd.R_far (p := ⟨gb1432, 0, none⟩) (Kd.R_types HO1425.out BK1432.out (by decide)) (fun _ hk => hk.2) (.int .i64 a0_0)) (fun _ hk => hk.2) (.slice Ao21 y1423.length co21)) (fun _ hk => hk.2) (.slice Ao20 y1426.length co20)) (fun _ hk => ⟨hk.1.2, hk.1.1⟩))⟩, ⟨uR (Kd.R_mono (Kd.R_far (p := ⟨gb1432, 2, none⟩) (Kd.R_far (p := ⟨gb1432, 1, none⟩) (Kd.R_far (p := ⟨gb1432, 0, none⟩) (Kd.R_types HO1428.out BK1432.out (by decide)) (fun _ hk => hk.2) (.int .i64 a0_0)) (fun _ hk => hk.2) (.slice Ao21 y1423.length co21)) (fun _ hk => hk.2) (.slice Ao20 y1426.length co20)) (fun _ hk => ⟨hk.1.2, hk.1.1⟩))⟩, ⟨by (repeat refine up1 ?_); refine blk_far ?_ NB1420_1432.out _; (repeat refine up1 ?_); refine blk_far ?_ NB1420_1432.out _; (repeat refine up1 ?_); refine blk_far ?_ NB1420_1432.out _; (repeat refine up1 ?_); exact BK1420.out⟩, ⟨by (repeat refine up1 ?_); refine blk_far ?_ NB1421_1432.out _; (repeat refine up1 ?_); refine blk_far ?_ NB1421_1432.out _; (repeat refine up1 ?_); refine blk_far ?_ NB1421_1432.out _; (repeat refine up1 ?_); exact BK1421.out⟩, ⟨by (repeat refine up1 ?_); refine blk_put (cs := #[.int .i64 a0_0, .slice Ao21 y1423.length co21, .slice none 0 0]) ?_ 2 _ rfl; (repeat refine up1 ?_); refine blk_put (cs := #[.int .i64 a0_0, .slice none 0 0, .slice none 0 0]) ?_ 1 _ rfl; (repeat refine up1 ?_); refine blk_put (cs := #[.int .i64 0, .slice none 0 0, .slice none 0 0]) ?_ 0 _ rfl; (repeat refine up1 ?_); exact BK1432.out⟩, ⟨uH HB.out⟩⟩
  case round =>
   clear H'
   (try clear p2);(try clear c7)
   obtain ⟨x6_1, x1433001_1, u1433001, rfl, HA, HK1, HO_5, HO_1433001, HO_1433002, BK1420, BK1421, BK1432, HB⟩ := hrel
   cases gk with
   | zero => exact absurd HA.out (by simp [spec_GaussRule.l0])
   | succ k1 =>
    have H := HA.out
    clear HA
    simp only [spec_GaussRule.l0] at H
    by_cases c25 : x6_1 < a0_0
    rotate_left
    ·rw [if_neg c25] at H
     have c25b0 : decide (x6_1 < a0_0) = false := decide_eq_false c25
     clear c25
     by_cases c43 : (x1433001_1.length : Int) = (l0_1.length : Int)
     rotate_left
     ·rw [if_neg c43] at H
      have c43b0 : ((x1433001_1.length : Int) == (l0_1.length : Int)) = false := beq_eq_false_iff_ne.mpr c43
      have c43b1 : ((x1433001_1.length : Int) != (l0_1.length : Int)) = true := bne_iff_ne.mpr c43
      have c43b2 : (x1433001_1.length == l0_1.length) = false := by first | simpa using c43 | (simp at c43 ⊢; omega)
      simp only [Option.some.injEq, Prod.mk.injEq] at H
      obtain ⟨rfl, rfl, rfl, rfl⟩ := H
      have hnb68 := NB1420_1421.out; have hnc68 := NB1421_1420.out; have hnb69 := NB1420_1432.out; have hnc69 := NB1432_1420.out
      have hcz70_0 := bc BK1420 0
      have hcz70_1 := bc BK1420 1
      have hcz70_2 := bc BK1420 2
      have hfz70_0 := bf BK1420 0
      have hfz70_1 := bf BK1420 1
      have hfz70_2 := bf BK1420 2
      have hnb71 := NB1432_1421.out; have hnc71 := NB1421_1432.out
      have hcz72_0 := bc BK1432 0
      have hcz72_1 := bc BK1432 1
      have hcz72_2 := bc BK1432 2
      have hfz72_0 := bf BK1432 0
      have hfz72_1 := bf BK1432 1
      have hfz72_2 := bf BK1432 2
      obtain ⟨Ao73, co73, eo73⟩ := Kd.R_slice HO_1433001.out
      subst eo73
      have hcz74_0 := bc BK1421 0
      have hcz74_1 := bc BK1421 1
      have hcz74_2 := bc BK1421 2
      have hfz74_0 := bf BK1421 0
      have hfz74_1 := bf BK1421 1
      have hfz74_2 := bf BK1421 2
      go_wp2
      refine bodyPost_ret (results_ct rfl _ _ gb1421 37 #[.int .i64 0, .slice none 0 0, .slice none 0 0] (0, 0) _ rfl (by (repeat refine up1 ?_); refine blk_put (cs := #[.int .i64 0, .slice none 0 0, .slice none 0 0]) ?_ 2 _ rfl; (repeat refine up1 ?_); refine blk_put (cs := #[.int .i64 0, .slice none 0 0, .slice none 0 0]) ?_ 1 _ rfl; (repeat refine up1 ?_); refine blk_put (cs := #[.int .i64 0, .slice none 0 0, .slice none 0 0]) ?_ 0 _ rfl; (repeat refine up1 ?_); exact BK1421.out) Try.underlying37 rfl (by kernel_rfl)) rfl ?_
      exact ⟨_, _, by first | rfl | (simp [errW_none, errW_some] <;> rfl) | (simp [*, errW_none, errW_some] <;> rfl), by first | exact Kd.R_nil _ _ _ _ _ | exact Kd.N_nil _ _ _ _ _ | exact Kd.V_nil _ _ _ _ _ | exact Kd.Q_nil _ _ _ _ _ | exact Kd.S_nil _ _ _ _ _, by first | exact Kd.R_nil _ _ _ _ _ | exact Kd.N_nil _ _ _ _ _ | exact Kd.V_nil _ _ _ _ _ | exact Kd.Q_nil _ _ _ _ _ | exact Kd.S_nil _ _ _ _ _, uH HB.out⟩
     rw [if_pos c43] at H
     have c43b0 : ((x1433001_1.length : Int) == (l0_1.length : Int)) = true := beq_iff_eq.mpr c43
     have c43b1 : ((x1433001_1.length : Int) != (l0_1.length : Int)) = false := bne_eq_false_iff_eq.mpr c43
     have c43b2 : (x1433001_1.length == l0_1.length) = true := by first | simpa using c43 | (simp at c43 ⊢; omega)
     clear c43
     have H' := zA H
     clear H
     have hnb44 := NB1420_1421.out; have hnc44 := NB1421_1420.out; have hnb45 := NB1420_1432.out; have hnc45 := NB1432_1420.out
     have hcz46_0 := bc BK1420 0
     have hcz46_1 := bc BK1420 1
     have hcz46_2 := bc BK1420 2
     have hfz46_0 := bf BK1420 0
     have hfz46_1 := bf BK1420 1
     have hfz46_2 := bf BK1420 2
     have hnb47 := NB1432_1421.out; have hnc47 := NB1421_1432.out
     have hcz48_0 := bc BK1432 0
     have hcz48_1 := bc BK1432 1
     have hcz48_2 := bc BK1432 2
     have hfz48_0 := bf BK1432 0
     have hfz48_1 := bf BK1432 1
     have hfz48_2 := bf BK1432 2
     obtain ⟨Ao49, co49, eo49⟩ := Kd.R_slice HO_1433001.out
     subst eo49
     go_wp2
     go_loopg [7] k1 (fun kq v7 w' => ∃ (x7_2 : Int) (x1433002_2 : List Int) (u1433002 : Value), v7 = .int .i64 x7_2 ∧ Aside0 (spec_GaussRule.l1 kq x7_2 a0_0 l0_1 l0_2 a0_0 x1433001_1 x1433002_2 = some (r1, r2, r3, r4)) ∧ Aside0 (kq ≤ k1) ∧ Aside0 (Kd.R (Kd.int .i64) 2 w' w.heap.size (fun k_ => some k_ ≠ (u1433002 : Value).ownBlock) (.slice Ao49 x1433001_1.length co49) x1433001_1) ∧ Aside0 (Kd.R (Kd.int .i64) 2 w' w.heap.size (fun k_ => ax k_ (.slice Ao49 x1433001_1.length co49)) u1433002 x1433002_2) ∧ Aside0 (w'.heap[gb1420]? = some (.cells #[.int .i64 a0_0, (.slice A0_1 l0_1.length c0_1), (.slice A0_2 l0_2.length c0_2)] 26 (0, 0))) ∧ Aside0 (w'.heap[gb1421]? = some (.cells #[.int .i64 0, (.slice none 0 0), (.slice none 0 0)] 37 (0, 0))) ∧ Aside0 (w'.heap[gb1432]? = some (.cells #[.int .i64 a0_0, (.slice Ao49 x1433001_1.length co49), u1433002] 37 (0, 0))) ∧ Aside0 (Below w.heap.size w w'))
     case atStart => exact ⟨(0), (y1426), (.slice Ao20 y1426.length co20), (by first | rfl | (simp; done) | (simp [*]; done)), H', ⟨Nat.le_refl _⟩, ⟨uR (Kd.R_mono HO_1433001.out (fun _ hk => hk.2))⟩, ⟨uR (Kd.R_mono HO_1433002.out (fun _ hk => hk.2))⟩, ⟨uB BK1420.out⟩, ⟨uB BK1421.out⟩, ⟨uB BK1432.out⟩, ⟨uH HB.out⟩⟩
     case round =>
      clear H'
      (try clear c2);(try clear p2);(try clear c3);(try clear c4);(try clear c6);(try clear p6);(try clear c7);(try clear c25);(try clear c25b0);(try clear c27);(try clear c27b0);(try clear c27b1);(try clear c28);(try clear c29);(try clear c30);(try clear c34);(try clear c39);(try clear c40);(try clear c43);(try clear c43b0);(try clear c43b1);(try clear c43b2);(try clear c44);(try clear c45);(try clear c47)
      (try clear hcz31_0);(try clear hcz31_1);(try clear hcz31_2);(try clear hcz35_0);(try clear hcz35_1);(try clear hcz35_2);(try clear hcz38_0);(try clear hcz38_1);(try clear hcz38_2);(try clear hcz41_0);(try clear hcz41_1);(try clear hcz41_2);(try clear hcz46_0);(try clear hcz46_1);(try clear hcz46_2);(try clear hcz48_0);(try clear hcz48_1);(try clear hcz48_2);(try clear hfz31_0);(try clear hfz31_1)
      (try clear hfz31_2);(try clear hfz35_0);(try clear hfz35_1);(try clear hfz35_2);(try clear hfz38_0);(try clear hfz38_1);(try clear hfz38_2);(try clear hfz41_0);(try clear hfz41_1);(try clear hfz41_2);(try clear hfz46_0);(try clear hfz46_1);(try clear hfz46_2);(try clear hfz48_0);(try clear hfz48_1);(try clear hfz48_2);(try clear p2)
      obtain ⟨x7_2, x1433002_2, u1433002, rfl, HA, HK2, HO_1433001, HO_1433002, BK1420, BK1421, BK1432, HB⟩ := hrel
      cases gk with
      | zero => exact absurd HA.out (by simp [spec_GaussRule.l1])
      | succ k2 =>
       have H := HA.out
       clear HA
       simp only [spec_GaussRule.l1] at H
       by_cases c50 : x7_2 < (x1433001_1.length : Int)
       rotate_left
       ·rw [if_neg c50] at H
        have c50b0 : decide (x7_2 < (x1433001_1.length : Int)) = false := decide_eq_false c50
        clear c50
        simp only [Option.some.injEq, Prod.mk.injEq] at H
        obtain ⟨rfl, rfl, rfl, rfl⟩ := H
        have hnb62 := NB1432_1420.out; have hnc62 := NB1420_1432.out; have hnb63 := NB1432_1421.out; have hnc63 := NB1421_1432.out
        have hcz64_0 := bc BK1432 0
        have hcz64_1 := bc BK1432 1
        have hcz64_2 := bc BK1432 2
        have hfz64_0 := bf BK1432 0
        have hfz64_1 := bf BK1432 1
        have hfz64_2 := bf BK1432 2
        have hnb65 := NB1421_1420.out; have hnc65 := NB1420_1421.out
        have hcz66_0 := bc BK1421 0
        have hcz66_1 := bc BK1421 1
        have hcz66_2 := bc BK1421 2
        have hfz66_0 := bf BK1421 0
        have hfz66_1 := bf BK1421 1
        have hfz66_2 := bf BK1421 2
        obtain ⟨Ao67, co67, eo67⟩ := Kd.R_slice HO_1433002.out
        subst eo67
        go_wp2
        refine bodyPost_ret (results_ct rfl _ _ gb1421 37 #[.int .i64 a0_0, .slice Ao49 x1433001_1.length co49, .slice Ao67 x1433002_2.length co67] (0, 0) _ rfl (by (repeat refine up1 ?_); refine blk_put (cs := #[.int .i64 a0_0, .slice Ao49 x1433001_1.length co49, .slice none 0 0]) ?_ 2 _ rfl; (repeat refine up1 ?_); refine blk_put (cs := #[.int .i64 a0_0, .slice none 0 0, .slice none 0 0]) ?_ 1 _ rfl; (repeat refine up1 ?_); refine blk_put (cs := #[.int .i64 0, .slice none 0 0, .slice none 0 0]) ?_ 0 _ rfl; (repeat refine up1 ?_); exact BK1421.out) Try.underlying37 rfl (by kernel_rfl)) rfl ?_
        exact ⟨_, _, by first | rfl | (simp [errW_none, errW_some] <;> rfl) | (simp [*, errW_none, errW_some] <;> rfl), uR (rf3 HO_1433001 BK1421 (by decide) (.int .i64 a0_0) (.slice Ao49 x1433001_1.length co49) (.slice Ao67 x1433002_2.length co67)), uR (rf3 HO_1433002 BK1421 (by decide) (.int .i64 a0_0) (.slice Ao49 x1433001_1.length co49) (.slice Ao67 x1433002_2.length co67)), uH HB.out⟩
       rw [if_pos c50] at H
       have c50b0 : decide (x7_2 < (x1433001_1.length : Int)) = true := decide_eq_true c50
       clear c50
       by_cases c51 : 0 ≤ x7_2
       rotate_left
       ·rw [if_neg c51] at H
        exact absurd H (by simp)
       rw [if_pos c51] at H
       have c51b0 : decide (0 ≤ x7_2) = true := decide_eq_true c51
       clear c51
       replace H := Option.bind_eq_some_iff.mp H
       obtain ⟨t1438, A520, H⟩ := H
       replace H : (if x1433002_2.length < 17592186044416 then (spec_GaussRule.l1 k2 (wrap64 (x7_2 + 1)) a0_0 l0_1 l0_2 a0_0 x1433001_1 (x1433002_2 ++ [t1438])) else (none)) = some (r1, r2, r3, r4) := H
       have A52 := zA A520
       clear A520
       by_cases c53 : x1433002_2.length < 17592186044416
       rotate_left
       ·rw [if_neg c53] at H
        exact absurd H (by simp)
       rw [if_pos c53] at H
       have LMc53 := zA c53
       clear c53
       obtain ⟨y1439, hy1439⟩ : ∃ y_ : List Int, y_ = (x1433002_2 ++ [t1438]) := ⟨_, rfl⟩
       replace H : (spec_GaussRule.l1 k2 (wrap64 (x7_2 + 1)) a0_0 l0_1 l0_2 a0_0 x1433001_1 y1439) = some (r1, r2, r3, r4) := by first | (rw [hy1439]; exact H) | exact H
       have Ny1439 := zA hy1439
       clear hy1439
       have H' := zA H
       clear H
       have hnb54 := NB1432_1420.out; have hnc54 := NB1420_1432.out; have hnb55 := NB1432_1421.out; have hnc55 := NB1421_1432.out
       have hcz56_0 := bc BK1432 0
       have hcz56_1 := bc BK1432 1
       have hcz56_2 := bc BK1432 2
       have hfz56_0 := bf BK1432 0
       have hfz56_1 := bf BK1432 1
       have hfz56_2 := bf BK1432 2
       try go_wp2
       replace HO_1433001 := zA (Kd.R_drew HO_1433001.out)
       replace HO_1433002 := zA (Kd.R_drew HO_1433002.out)
       replace BK1420 := zA (blk_drew BK1420.out)
       replace BK1421 := zA (blk_drew BK1421.out)
       replace BK1432 := zA (blk_drew BK1432.out)
       replace HB := zA (below_drew1 HB.out)
       have p1437 : 0 ≤ (x7_2 : Int) := of_decide_eq_true (by first | (with_reducible assumption) | assumption)
       have q1437 : x7_2 < (x1433001_1.length : Int) := of_decide_eq_true (by first | (with_reducible assumption) | assumption)
       obtain ⟨ad1437, e1437, hx1437_0⟩ := Kd.at_int (Kd.R_reads' HO_1433001.out).2.2 x7_2 p1437 q1437
       cases e1437
       replace p1437 := eq_true p1437
       replace q1437 := eq_true q1437
       refine start_ (n := 13) (S := fun w' => w'.cell? ⟨gb1432, 0, none⟩ = some (.int .i64 a0_0) ∧ w'.cell? ⟨gb1432, 1, none⟩ = some (.slice (some ad1437) x1433001_1.length co49) ∧ w'.cell? ⟨gb1432, 2, none⟩ = some (u1433002) ∧ w'.cell? ⟨gb1420, 0, none⟩ = some (.int .i64 a0_0) ∧ w'.cell? ⟨gb1420, 1, none⟩ = some (.slice A0_1 l0_1.length c0_1) ∧ w'.cell? ⟨gb1420, 2, none⟩ = some (.slice A0_2 l0_2.length c0_2) ∧ w'.cell? (ad1437.add (x7_2).toNat) = some (.int .i64 (rd x1433001_1 x7_2))) (ds := [10, 12]) #[false, false, false, false, false, false, false, false, false, false, false, false, false] (by kernel_rfl) rfl rfl ⟨bcu BK1432 0, bcu BK1432 1, bcu BK1432 2, bcu BK1420 0, bcu BK1420 1, bcu BK1420 2, hx1437_0⟩ (fun hHeld => ?_); refine with_tabW spec_GaussRule.tab14 spec_GaussRule.bits14 (fun HT_ HW_ => ?_)
       generalize wr.drew = w57 at HO_1433001 HO_1433002 BK1420 BK1421 BK1432 HB hx1437_0 hHeld ⊢
       refine pu_ 0 55 (bl 13 1) HT_ ?_
       refine pu_ 3 58 (bl 13 9) HT_ ?_
       refine pu_ 5 60 (bl 13 41) HT_ ?_
       refine ta_ 1 56 (bl 13 43) HT_ HW_ hHeld ?_
       refine ta_ 2 57 (bl 13 47) HT_ HW_ hHeld ?_
       refine ta_ 4 59 (bl 13 63) HT_ HW_ hHeld ?_
       refine pu_ 6 61 (bl 13 127) HT_ ?_
       refine ta_ 7 62 (bl 13 255) HT_ HW_ hHeld ?_
       refine on_ 8 (some 63) (bl 13 511) HT_ (fun K hK => ?_)
       refine gS Try.func78 #[.agg #[.int .i64 a0_0, .slice A0_1 l0_1.length c0_1, .slice A0_2 l0_2.length c0_2], .int .i64 (rd x1433001_1 x7_2)] ?_
       with_reducible refine (spec_l07Christoffel.calls k2 a0_0 _ _ l0_1 _ _ l0_2 (rd x1433001_1 x7_2) t1438 _ ?side1 ?side2 ?side3 ?side4 A52.out).mono ?_
       (case side1 => exact uC ((Kd.C_below HR0_1.out HB.out)))
       (case side2 => exact HC0_1.out)
       (case side3 => exact uC ((Kd.C_below HR0_2.out HB.out)))
       (case side4 => exact HC0_2.out)
       rintro e w58 ⟨rfl, hb⟩
       have HS6_ := (hb.cell (World.block_lt_of_cell? _ _ (hHeld.2.2.2.2.2.2))).trans (hHeld.2.2.2.2.2.2)
       refine ⟨_, rfl, ?_⟩
       replace HO_1433001 := xR HO_1433001 hb
       replace HO_1433002 := xR HO_1433002 hb
       replace BK1420 := xB BK1420 hb
       replace BK1421 := xB BK1421 hb
       replace BK1432 := xB BK1432 hb
       replace HB := xH HB hb
       (try clear hb); (try clear hb2); (try clear hk); (try clear hi)
       refine hK.out _ _ ⟨bcu BK1432 0, bcu BK1432 1, bcu BK1432 2, bcu BK1420 0, bcu BK1420 1, bcu BK1420 2, HS6_⟩ (fun hHeld => ?_)
       clear hK K
       refine no_ 63 ?_
       refine on_ 9 (some 64) (bl 13 1023) HT_ (fun K hK => ?_)
       refine value_ (w1 := ?_) (v := ?_) (by rfl) rfl ?_ ?_
       rotate_left 2
       ·go_simp
        constructor
        ·rfl
        ·rfl
       refine hK.out _ _ ⟨(blk_cell (blk_alloc BK1432.out _) 0).trans rfl, (blk_cell (blk_alloc BK1432.out _) 1).trans rfl, (blk_cell (blk_alloc BK1432.out _) 2).trans rfl, (blk_cell (blk_alloc BK1420.out _) 0).trans rfl, (blk_cell (blk_alloc BK1420.out _) 1).trans rfl, (blk_cell (blk_alloc BK1420.out _) 2).trans rfl, (World.cell?_alloc_lt _ _ _ (World.block_lt_of_cell? _ _ (hHeld.2.2.2.2.2.2))).trans (hHeld.2.2.2.2.2.2)⟩ (fun hHeld => ?_)
       clear hK K
       refine no_ 64 ?_
       refine last_ (i := 10) (N := some 65) (bl 13 2047) rfl rfl (one_of HT_.out (by kernel_rfl)) (by decide) (fun K hK => ?_)
       refine Kd.R_append_step (Kd.int .i64) (w0 := w) w.heap.size (by rfl) (.tmp 56) (.tmp 64) 22 2 (.int .i64 0) 8 rfl Try.underlying22 info2 rfl (by decide) (by omega) u1433002 x1433002_2 t1438 [.int .i64 t1438] (fun k_ => ax k_ (.slice (some ad1437) x1433001_1.length co49)) (fun _ => False) rfl rfl ?aP (fun _ hk => hk.elim) ?aF ?aO ?aB ?aS ?aL ?_
       (case aP => exact rfl)
       (case aB => exact (uH HB.out))
       (case aF => exact (fun k_ hk => Kd.fresh' (Kd.R_lt (uR HO_1433001.out)) k_ hk))
       (case aO => exact (uR HO_1433002.out))
       (case aS => exact (below_size (uH HB.out)))
       (case aL => have := LMc53.out; omega)
       intro v1440 w59 ho hb hg hat
       rw [← Ny1439.out] at ho
       replace HO_1433001 := zA (Kd.R_after (ok := (fun _ => True)) (uR (Kd.R_mono HO_1433001.out (fun _ hk => ⟨trivial, hk⟩))) hg hat)
       replace BK1420 := zA (blk_grown (g := gb1420) (o := .cells #[.int .i64 a0_0, .slice A0_1 l0_1.length c0_1, .slice A0_2 l0_2.length c0_2] 26 (0, 0)) (uB BK1420.out) hg (Kd.R_ne HO_1433002.out BK1420.out (by decide)))
       replace BK1421 := zA (blk_grown (g := gb1421) (o := .cells #[.int .i64 0, .slice none 0 0, .slice none 0 0] 37 (0, 0)) (uB BK1421.out) hg (Kd.R_ne HO_1433002.out BK1421.out (by decide)))
       replace BK1432 := zA (blk_grown (g := gb1432) (o := .cells #[.int .i64 a0_0, .slice (some ad1437) x1433001_1.length co49, u1433002] 37 (0, 0)) (uB BK1432.out) hg (Kd.R_ne HO_1433002.out BK1432.out (by decide)))
       replace HB := zA (hb)
       have HO1441 := zA (ho)
       clear HO_1433002
       clear ho hb hg hat
       obtain ⟨Ao60, co60, eo60⟩ := Kd.R_slice HO1441.out
       (first | subst eo60 | (injection eo60 with f1_ f2_ f3_; have f4_ := f1_.symm; have f5_ := f3_.symm; clear f1_ f2_ f3_; subst f4_; subst f5_))
       refine hK.out _ _ ?_
       clear hK K
       refine no_ 65 ?_
       refine pu_ 11 66 (bl 13 4095) HT_ ?_
       refine last_ (i := 12) (N := none) (bl 13 8191) rfl rfl (one_of HT_.out (by kernel_rfl)) (by decide) (fun K hK => ?_)
       have hs61 : w59.cell? ⟨gb1432, 2, none⟩ = some (u1433002) := (blk_cell BK1432.out 2).trans rfl
       have hfs61 := bf BK1432 2
       have hns61_0 := NB1420_1432.out; have hns61_1 := NB1421_1432.out; have hms61_0 := NB1432_1420.out; have hms61_1 := NB1432_1421.out
       refine skip_ (w1 := ?_) (by rfl) rfl ?_ ?_
       rotate_left
       ·go_simp
        rfl
       refine hK.out _ _ ?_
       clear hK K
       refine done_ (done_of HT_.out (by kernel_rfl)) ?_
       try go_wp2
       go_roundg k2
       case measure => have := HK1.out; have := HK2.out; omega
       case rel => exact ⟨(wrap64 (x7_2 + 1)), (y1439), (.slice Ao60 y1439.length co60), (by first | rfl | (simp; done) | (simp [*]; done)), H', ⟨by have := HK1.out; have := HK2.out; omega⟩, ⟨uR (Kd.R_mono (Kd.R_far (p := ⟨gb1432, 2, none⟩) (Kd.R_types HO_1433001.out BK1432.out (by decide)) (fun _ hk => hk.2) (.slice Ao60 y1439.length co60)) (fun _ hk => hk.1.2))⟩, ⟨uR (Kd.R_mono (Kd.R_far (p := ⟨gb1432, 2, none⟩) (Kd.R_types HO1441.out BK1432.out (by decide)) (fun _ hk => hk.2) (.slice Ao60 y1439.length co60)) (fun _ hk => hk.1))⟩, ⟨by (repeat refine up1 ?_); refine blk_far ?_ NB1420_1432.out _; (repeat refine up1 ?_); exact BK1420.out⟩, ⟨by (repeat refine up1 ?_); refine blk_far ?_ NB1421_1432.out _; (repeat refine up1 ?_); exact BK1421.out⟩, ⟨by (repeat refine up1 ?_); refine blk_put (cs := #[.int .i64 a0_0, .slice (some ad1437) x1433001_1.length co49, u1433002]) ?_ 2 _ rfl; (repeat refine up1 ?_); exact BK1432.out⟩, ⟨uH HB.out⟩⟩
    rw [if_pos c25] at H
    have c25b0 : decide (x6_1 < a0_0) = true := decide_eq_true c25
    clear c25
    replace H := Option.bind_eq_some_iff.mp H
    obtain ⟨t1433, A260, H⟩ := H
    replace H : (if t1433 = 0 then (if x1433001_1.length < 17592186044416 then (spec_GaussRule.l0 k1 t1429 (wrap64 (x6_1 + 1)) a0_0 l0_1 l0_2 a0_0 (x1433001_1 ++ [x6_1]) y1426) else (none)) else (spec_GaussRule.l0 k1 t1429 (wrap64 (x6_1 + 1)) a0_0 l0_1 l0_2 a0_0 x1433001_1 y1426)) = some (r1, r2, r3, r4) := H
    have A26 := zA A260
    clear A260
    by_cases c27 : t1433 = 0
    rotate_left
    ·rw [if_neg c27] at H
     have c27b0 : (t1433 == 0) = false := beq_eq_false_iff_ne.mpr c27
     have c27b1 : (t1433 != 0) = true := bne_iff_ne.mpr c27
     have H' := zA H
     clear H
     have hnb39 := NB1420_1421.out; have hnc39 := NB1421_1420.out; have hnb40 := NB1420_1432.out; have hnc40 := NB1432_1420.out
     have hcz41_0 := bc BK1420 0
     have hcz41_1 := bc BK1420 1
     have hcz41_2 := bc BK1420 2
     have hfz41_0 := bf BK1420 0
     have hfz41_1 := bf BK1420 1
     have hfz41_2 := bf BK1420 2
     obtain ⟨Ao42, co42, eo42⟩ := Kd.R_slice HO_5.out
     subst eo42
     go_wp2_with (first | ((with_reducible refine gate_callee (f := 67) rfl ?_); refine gL (some 32) Try.func67 #[.int .i64 a0_0, .slice Ao42 t1429.length co42, .int .i64 x6_1] ?_; (with_reducible refine (spec_l01At.calls k1 a0_0 _ _ t1429 x6_1 t1433 _ ?side1 ?side2 A26.out).mono ?_); (case side1 => exact uC ((Kd.R_reads' HO_5.out).2.2)); (case side2 => exact (Kd.R_reads' HO_5.out).2.1); rintro e w' ⟨rfl, ⟨nd, rfl⟩⟩; refine ⟨_, rfl, ?_⟩))
     go_roundg k1
     case measure => have := HK1.out; omega
     case rel => exact ⟨(wrap64 (x6_1 + 1)), (x1433001_1), (u1433001), (by first | rfl | (simp; done) | (simp [*]; done)), H', ⟨by have := HK1.out; omega⟩, ⟨uR HO_5.out⟩, ⟨uR HO_1433001.out⟩, ⟨uR HO_1433002.out⟩, ⟨uB BK1420.out⟩, ⟨uB BK1421.out⟩, ⟨uB BK1432.out⟩, ⟨uH HB.out⟩⟩
    rw [if_pos c27] at H
    have c27b0 : (t1433 == 0) = true := beq_iff_eq.mpr c27
    have c27b1 : (t1433 != 0) = false := bne_eq_false_iff_eq.mpr c27
    clear c27
    by_cases c28 : x1433001_1.length < 17592186044416
    rotate_left
    ·rw [if_neg c28] at H
     exact absurd H (by simp)
    rw [if_pos c28] at H
    have LMc28 := zA c28
    clear c28
    obtain ⟨y1434, hy1434⟩ : ∃ y_ : List Int, y_ = (x1433001_1 ++ [x6_1]) := ⟨_, rfl⟩
    replace H : (spec_GaussRule.l0 k1 t1429 (wrap64 (x6_1 + 1)) a0_0 l0_1 l0_2 a0_0 y1434 y1426) = some (r1, r2, r3, r4) := by first | (rw [hy1434]; exact H) | exact H
    have Ny1434 := zA hy1434
    clear hy1434
    have H' := zA H
    clear H
    have hnb29 := NB1420_1421.out; have hnc29 := NB1421_1420.out; have hnb30 := NB1420_1432.out; have hnc30 := NB1432_1420.out
    have hcz31_0 := bc BK1420 0
    have hcz31_1 := bc BK1420 1
    have hcz31_2 := bc BK1420 2
    have hfz31_0 := bf BK1420 0
    have hfz31_1 := bf BK1420 1
    have hfz31_2 := bf BK1420 2
    obtain ⟨Ao32, co32, eo32⟩ := Kd.R_slice HO_5.out
    subst eo32
    go_wp2_with (first | ((with_reducible refine gate_callee (f := 67) rfl ?_); refine gL (some 32) Try.func67 #[.int .i64 a0_0, .slice Ao32 t1429.length co32, .int .i64 x6_1] ?_; (with_reducible refine (spec_l01At.calls k1 a0_0 _ _ t1429 x6_1 t1433 _ ?side1 ?side2 A26.out).mono ?_); (case side1 => exact uC ((Kd.R_reads' HO_5.out).2.2)); (case side2 => exact (Kd.R_reads' HO_5.out).2.1); rintro e w' ⟨rfl, ⟨nd, rfl⟩⟩; refine ⟨_, rfl, ?_⟩; (first | (rw [drewN_self wr]; generalize hq_ : World.drewN wr _ = wr; have n0_ : Aside0 (Kd.R (Kd.int .i64) 2 wr w.heap.size (fun k_ => ax k_ (.slice Ao20 y1426.length co20) ∧ ax k_ (.slice Ao32 t1429.length co32)) u1433001 x1433001_1) := ⟨by rw [← hq_]; exact (uR (Kd.R_mono HO_1433001.out (fun _ hk => ⟨hk.2, hk.1⟩)))⟩; have n1_ : Aside0 (Kd.R (Kd.int .i64) 2 wr w.heap.size (fun k_ => some k_ ≠ (u1433001 : Value).ownBlock ∧ ax k_ (.slice Ao32 t1429.length co32)) (.slice Ao20 y1426.length co20) y1426) := ⟨by rw [← hq_]; exact (uR (Kd.R_mono HO_1433002.out (fun _ hk => ⟨hk.2, hk.1⟩)))⟩; have n2_ : Aside0 (Kd.R (Kd.int .i64) 2 wr w.heap.size (fun k_ => some k_ ≠ (u1433001 : Value).ownBlock ∧ ax k_ (.slice Ao20 y1426.length co20)) (.slice Ao32 t1429.length co32) t1429) := ⟨by rw [← hq_]; exact (uR HO_5.out)⟩; have n3_ : Aside0 (wr.heap[gb1420]? = some (.cells #[.int .i64 a0_0, .slice A0_1 l0_1.length c0_1, .slice A0_2 l0_2.length c0_2] 26 (0, 0))) := ⟨by rw [← hq_]; exact (uB BK1420.out)⟩; have n4_ : Aside0 (wr.heap[gb1421]? = some (.cells #[.int .i64 0, .slice none 0 0, .slice none 0 0] 37 (0, 0))) := ⟨by rw [← hq_]; exact (uB BK1421.out)⟩; have n5_ : Aside0 (wr.heap[gb1432]? = some (.cells #[.int .i64 a0_0, u1433001, .slice Ao20 y1426.length co20] 37 (0, 0))) := ⟨by rw [← hq_]; exact (uB BK1432.out)⟩; have n6_ : Aside0 (Below w.heap.size w wr) := ⟨by rw [← hq_]; exact (uH HB.out)⟩; clear HO_1433001 HO_1433002 HO_5 BK1420 BK1421 BK1432 HB hq_; have HO_1433001 := n0_; have HO_1433002 := n1_; have HO_5 := n2_; have BK1420 := n3_; have BK1421 := n4_; have BK1432 := n5_; have HB := n6_; clear n0_ n1_ n2_ n3_ n4_ n5_ n6_) | (have n0_ : Aside0 (Kd.R (Kd.int .i64) 2 wr w.heap.size (fun k_ => ax k_ (.slice Ao20 y1426.length co20) ∧ ax k_ (.slice Ao32 t1429.length co32)) u1433001 x1433001_1) := ⟨(uR (Kd.R_mono HO_1433001.out (fun _ hk => ⟨hk.2, hk.1⟩)))⟩; have n1_ : Aside0 (Kd.R (Kd.int .i64) 2 wr w.heap.size (fun k_ => some k_ ≠ (u1433001 : Value).ownBlock ∧ ax k_ (.slice Ao32 t1429.length co32)) (.slice Ao20 y1426.length co20) y1426) := ⟨(uR (Kd.R_mono HO_1433002.out (fun _ hk => ⟨hk.2, hk.1⟩)))⟩; have n2_ : Aside0 (Kd.R (Kd.int .i64) 2 wr w.heap.size (fun k_ => some k_ ≠ (u1433001 : Value).ownBlock ∧ ax k_ (.slice Ao20 y1426.length co20)) (.slice Ao32 t1429.length co32) t1429) := ⟨(uR HO_5.out)⟩; have n3_ : Aside0 (wr.heap[gb1420]? = some (.cells #[.int .i64 a0_0, .slice A0_1 l0_1.length c0_1, .slice A0_2 l0_2.length c0_2] 26 (0, 0))) := ⟨(uB BK1420.out)⟩; have n4_ : Aside0 (wr.heap[gb1421]? = some (.cells #[.int .i64 0, .slice none 0 0, .slice none 0 0] 37 (0, 0))) := ⟨(uB BK1421.out)⟩; have n5_ : Aside0 (wr.heap[gb1432]? = some (.cells #[.int .i64 a0_0, u1433001, .slice Ao20 y1426.length co20] 37 (0, 0))) := ⟨(uB BK1432.out)⟩; have n6_ : Aside0 (Below w.heap.size w wr) := ⟨(uH HB.out)⟩; clear HO_1433001 HO_1433002 HO_5 BK1420 BK1421 BK1432 HB; have HO_1433001 := n0_; have HO_1433002 := n1_; have HO_5 := n2_; have BK1420 := n3_; have BK1421 := n4_; have BK1432 := n5_; have HB := n6_; clear n0_ n1_ n2_ n3_ n4_ n5_ n6_)); (try have hcuy33_0 : wr.cell? ⟨gb1420, 0, none⟩ = some (.int .i64 a0_0) := (blk_cell BK1420.out 0).trans rfl); (try have hcuy33_1 : wr.cell? ⟨gb1420, 1, none⟩ = some (.slice A0_1 l0_1.length c0_1) := (blk_cell BK1420.out 1).trans rfl); (try have hcuy33_2 : wr.cell? ⟨gb1420, 2, none⟩ = some (.slice A0_2 l0_2.length c0_2) := (blk_cell BK1420.out 2).trans rfl); have hnb34 := NB1432_1421.out; have hnc34 := NB1421_1432.out; have hcz35_0 := bc BK1432 0; have hcz35_1 := bc BK1432 1; have hcz35_2 := bc BK1432 2; have hfz35_0 := bf BK1432 0; have hfz35_1 := bf BK1432 1; have hfz35_2 := bf BK1432 2) | ((with_reducible refine gate_builtin (b := .append) (xs := #[.tmp 35, .tmp 37]) rfl ?_); at_builtin; refine Kd.R_append (Kd.int .i64) (w0 := w) w.heap.size rfl (.tmp 35) (.tmp 37) 22 2 (.int .i64 0) 8 rfl Try.underlying22 info2 rfl (by decide) (by omega) u1433001 x1433001_1 x6_1 [.int .i64 x6_1] (fun k_ => ax k_ (.slice Ao32 t1429.length co32) ∧ ax k_ (.slice Ao20 y1426.length co20)) (fun _ => False) rfl rfl ?aP (fun _ hk => hk.elim) ?aF ?aO ?aB ?aS ?aL ?_; (case aP => exact rfl); (case aB => exact (uH HB.out)); (case aF => exact (fun k_ hk => ⟨Kd.fresh' (Kd.R_lt (uR HO_5.out)) k_ hk, Kd.fresh' (Kd.R_lt (uR HO_1433002.out)) k_ hk⟩)); (case aO => exact (uR (Kd.R_mono HO_1433001.out (fun _ hk => ⟨hk.2, hk.1⟩)))); (case aS => exact (below_size (uH HB.out))); (case aL => have := LMc28.out; omega); intro v1435 w36 ho hb hg hat; rw [← Ny1434.out] at ho; replace HO_5 := zA (Kd.R_after (ok := (fun k_ => ax k_ (.slice Ao20 y1426.length co20))) (uR (Kd.R_mono HO_5.out (fun _ hk => ⟨hk.2, hk.1⟩))) hg hat); replace HO_1433002 := zA (Kd.R_after (ok := (fun k_ => ax k_ (.slice Ao32 t1429.length co32))) (uR (Kd.R_mono HO_1433002.out (fun _ hk => ⟨hk.2, hk.1⟩))) hg hat); replace BK1420 := zA (blk_grown (g := gb1420) (o := .cells #[.int .i64 a0_0, .slice A0_1 l0_1.length c0_1, .slice A0_2 l0_2.length c0_2] 26 (0, 0)) (uB BK1420.out) hg (Kd.R_ne HO_1433001.out BK1420.out (by decide))); replace BK1421 := zA (blk_grown (g := gb1421) (o := .cells #[.int .i64 0, .slice none 0 0, .slice none 0 0] 37 (0, 0)) (uB BK1421.out) hg (Kd.R_ne HO_1433001.out BK1421.out (by decide))); replace BK1432 := zA (blk_grown (g := gb1432) (o := .cells #[.int .i64 a0_0, u1433001, .slice Ao20 y1426.length co20] 37 (0, 0)) (uB BK1432.out) hg (Kd.R_ne HO_1433001.out BK1432.out (by decide))); replace HB := zA (hb); have HO1436 := zA (ho); clear HO_1433001 ho hb hg hat; obtain ⟨Ao37, co37, eo37⟩ := Kd.R_slice HO1436.out; subst eo37; have hcz38_0 := bc BK1432 0; have hcz38_1 := bc BK1432 1; have hcz38_2 := bc BK1432 2; have hfz38_0 := bf BK1432 0; have hfz38_1 := bf BK1432 1; have hfz38_2 := bf BK1432 2))
    go_roundg k1
    case measure => have := HK1.out; omega
    case rel => exact ⟨(wrap64 (x6_1 + 1)), (y1434), (.slice Ao37 y1434.length co37), (by first | rfl | (simp; done) | (simp [*]; done)), H', ⟨by have := HK1.out; omega⟩, ⟨uR (Kd.R_mono (Kd.R_far (p := ⟨gb1432, 1, none⟩) (Kd.R_types HO_5.out BK1432.out (by decide)) (fun _ hk => hk.2) (.slice Ao37 y1434.length co37)) (fun _ hk => ⟨hk.1.2, hk.1.1⟩))⟩, ⟨uR (Kd.R_mono (Kd.R_far (p := ⟨gb1432, 1, none⟩) (Kd.R_types HO1436.out BK1432.out (by decide)) (fun _ hk => hk.2) (.slice Ao37 y1434.length co37)) (fun _ hk => ⟨hk.1.1, hk.1.2⟩))⟩, ⟨uR (Kd.R_mono (Kd.R_far (p := ⟨gb1432, 1, none⟩) (Kd.R_types HO_1433002.out BK1432.out (by decide)) (fun _ hk => hk.2) (.slice Ao37 y1434.length co37)) (fun _ hk => ⟨hk.1.1, hk.1.2⟩))⟩, ⟨by (repeat refine up1 ?_); refine blk_far ?_ NB1420_1432.out _; (repeat refine up1 ?_); exact BK1420.out⟩, ⟨by (repeat refine up1 ?_); refine blk_far ?_ NB1421_1432.out _; (repeat refine up1 ?_); exact BK1421.out⟩, ⟨by (repeat refine up1 ?_); refine blk_put (cs := #[.int .i64 a0_0, u1433001, .slice Ao20 y1426.length co20]) ?_ 1 _ rfl; (repeat refine up1 ?_); exact BK1432.out⟩, ⟨uH HB.out⟩⟩
 ·replace c3 := Bool.eq_false_iff.mpr c3
  subst c3
  have H1 : (some (0, ([] : List Int), ([] : List Int), 1)) = some (r1, r2, r3, r4) := by rw [if_neg (show ¬ (false = true) by decide)] at H; exact H
  clear H
  have H := H1
  clear H1
  simp only [Option.some.injEq, Prod.mk.injEq] at H
  obtain ⟨rfl, rfl, rfl, rfl⟩ := H
  go_enter Try.func34, Try.ntmps34
  go_wp2_with (first | ((with_reducible refine gate_dst (N := 1) rfl ?_); refine bx 1 #[.int .i64 a0_0, .slice A0_1 l0_1.length c0_1, .slice A0_2 l0_2.length c0_2] 26 ?_; intro gb1420 hg w75 hbox hb; have BK1420 := zA (hbox); have GW1420 := gq HB hg; have GE1420 := gq HB hg; replace HB := xH HB hb; have := geI GE1420; clear hb hbox hg) | ((with_reducible refine gate_dst (N := 2) rfl ?_); refine bx 2 #[.int .i64 0, .slice none 0 0, .slice none 0 0] 37 ?_; intro gb1421 hg w76 hbox hb; have BK1421 := zA (hbox); have GW1421 := gq HB hg; have GE1421 := gq HB hg; replace HB := xH HB hb; have NB1420_1421 := zA ((by rw [hg]; exact neL BK1420 : gb1420 ≠ gb1421)); have NB1421_1420 := zA ((by rw [hg]; exact neG BK1420 : gb1421 ≠ gb1420)); replace BK1420 := xB BK1420 hb; have := geI GE1421; clear hb hbox hg; have hnb77 := NB1420_1421.out; have hnc77 := NB1421_1420.out; have hcz78_0 := bc BK1420 0; have hcz78_1 := bc BK1420 1; have hcz78_2 := bc BK1420 2; have hfz78_0 := bf BK1420 0; have hfz78_1 := bf BK1420 1; have hfz78_2 := bf BK1420 2) | ((with_reducible refine gate_callee (f := 56) rfl ?_); refine gL (some 9) Try.func56 #[.agg #[.int .i64 a0_0, .slice A0_1 l0_1.length c0_1, .slice A0_2 l0_2.length c0_2]] ?_; (with_reducible refine (spec_l03Is.calls k a0_0 _ _ l0_1 _ _ l0_2 false _ ?side1 ?side2 ?side3 ?side4 A2.out).mono ?_); (case side1 => exact uC ((Kd.C_below HR0_1.out HB.out))); (case side2 => exact HC0_1.out); (case side3 => exact uC ((Kd.C_below HR0_2.out HB.out))); (case side4 => exact HC0_2.out); rintro e w79 ⟨rfl, hb⟩; refine ⟨_, rfl, ?_⟩; replace BK1420 := xB BK1420 hb; replace BK1421 := xB BK1421 hb; replace HB := xH HB hb; (try clear hb); (try clear hb2); (try clear hk); (try clear hi); have hcz80_0 := bc BK1421 0; have hcz80_1 := bc BK1421 1; have hcz80_2 := bc BK1421 2; have hfz80_0 := bf BK1421 0; have hfz80_1 := bf BK1421 1; have hfz80_2 := bf BK1421 2))
  refine bodyPost_ret (results_ct rfl _ _ gb1421 37 #[.int .i64 0, .slice none 0 0, .slice none 0 0] (0, 0) _ rfl (by (repeat refine up1 ?_); refine blk_put (cs := #[.int .i64 0, .slice none 0 0, .slice none 0 0]) ?_ 2 _ rfl; (repeat refine up1 ?_); refine blk_put (cs := #[.int .i64 0, .slice none 0 0, .slice none 0 0]) ?_ 1 _ rfl; (repeat refine up1 ?_); refine blk_put (cs := #[.int .i64 0, .slice none 0 0, .slice none 0 0]) ?_ 0 _ rfl; (repeat refine up1 ?_); exact BK1421.out) Try.underlying37 rfl (by kernel_rfl)) rfl ?_
  exact ⟨_, _, by first | rfl | (simp [errW_none, errW_some] <;> rfl) | (simp [*, errW_none, errW_some] <;> rfl), by first | exact Kd.R_nil _ _ _ _ _ | exact Kd.N_nil _ _ _ _ _ | exact Kd.V_nil _ _ _ _ _ | exact Kd.Q_nil _ _ _ _ _ | exact Kd.S_nil _ _ _ _ _, by first | exact Kd.R_nil _ _ _ _ _ | exact Kd.N_nil _ _ _ _ _ | exact Kd.V_nil _ _ _ _ _ | exact Kd.Q_nil _ _ _ _ _ | exact Kd.S_nil _ _ _ _ _, uH HB.out⟩

end Go.Proofs.Ytfbnkebgdmfcfaa.Pr
