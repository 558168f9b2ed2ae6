/- Printed by a program of this session out of the translation: what these functions of the program compute, under the conditions that each theorem names. -/
import Derived.Test.YtfbnkebgdmfcfaaKReverseJacobi1
import Derived.Test.YtfbnkebgdmfcfaaKReverseJacobi3
namespace Go.Proofs.Ytfbnkebgdmfcfaa.Pr
open Go.RowKit Go.Proofs.YtfbnkebgdmfcfaaW.PrintWords Go.Proofs.YtfbnkebgdmfcfaaW.PrintLast Go.Proofs.YtfbnkebgdmfcfaaW.PrintMore
attribute [local go_sem] max2_int min2_int max_two min_two max_three min_three max_four min_four   -- for this text's walks alone
set_option linter.unusedVariables false
set_option linter.unusedSimpArgs false

/-! ### spec_ReverseJacobi: function 16 -/
def spec_ReverseJacobi.l0 : Nat → Int → Int → List Int → List Int → Int → List Int → List Int → Option (Int × List Int × List Int × Int)
 | 0, _, _, _, _, _, _, _ => none
 | k + 1, x5, x1068000, x1068001, x1068002, x1078000, x1078001, x1078002 => if x5 ≥ 0 then (if 0 ≤ x5 then (if x5 < (x1068001.length : Int) then (if x1078001.length < 17592186044416 then ((some (x1078001 ++ [rd x1068001 x5] : List Int)).bind fun y1079 => (if x5 > 0 then (if x5 < (x1068002.length : Int) then (if x1078002.length < 17592186044416 then (spec_ReverseJacobi.l0 k (wrap64 (x5 - 1)) x1068000 x1068001 x1068002 x1078000 y1079 (x1078002 ++ [rd x1068002 x5])) else (none)) else (none)) else (spec_ReverseJacobi.l0 k (wrap64 (x5 - 1)) x1068000 x1068001 x1068002 x1078000 y1079 x1078002))) else (none)) else (none)) else (none)) else (some (x1078000, x1078001, x1078002, 0))
def spec_ReverseJacobi.f (k : Nat) (a0_0 : Int) (l0_1 : List Int) (l0_2 : List Int) : Option (Int × List Int × List Int × Int) := (spec_l03Is.f k a0_0 l0_1 l0_2).bind fun t1069 => (if t1069 = true then (if 0 < (l0_2.length : Int) then (spec_ReverseJacobi.l0 k (wrap64 ((l0_1.length : Int) - 1)) a0_0 l0_1 l0_2 a0_0 (([] : List Int)) (([rd l0_2 0] : List Int))) else (none)) else (some (0, ([] : List Int), ([] : List Int), 1)))
def spec_ReverseJacobi.T3 : Bool × List (List Nat × List Nat) := (true, [([], []), ([0], [0]), ([], []), ([], []), ([3], [3]), ([4], [4]), ([5], [5]), ([6], [6]), ([1, 2, 7], [1, 2, 7]), ([], []), ([9, 8, 0, 1, 2, 3, 4, 5, 6, 7, 8, 9], [8, 9])])
def spec_ReverseJacobi.B3 : List Nat := [0, 1, 0, 0, 8, 24, 56, 120, 255, 0, 1023]
theorem spec_ReverseJacobi.tab3 : rtab .any (opsOf Try.f16 3) = spec_ReverseJacobi.T3 := by kernel_rfl
theorem spec_ReverseJacobi.bits3 : waitsOk spec_ReverseJacobi.T3.2 spec_ReverseJacobi.B3 = true := by kernel_rfl
def spec_ReverseJacobi.T7 : Bool × List (List Nat × List Nat) := (true, [([], []), ([0], [0]), ([], []), ([2], [2]), ([], []), ([3, 4], [3, 4]), ([5], [5]), ([6], [6]), ([1, 7], [1, 7]), ([0, 1, 2, 3, 4, 5, 6, 7, 8], []), ([9, 8, 8, 0, 1, 2, 3, 4, 5, 6, 7, 8], [8, 9])])
def spec_ReverseJacobi.B7 : List Nat := [0, 1, 0, 4, 0, 28, 60, 124, 255, 511, 1023]
theorem spec_ReverseJacobi.tab7 : rtab .any (opsOf Try.f16 7) = spec_ReverseJacobi.T7 := by kernel_rfl
theorem spec_ReverseJacobi.bits7 : waitsOk spec_ReverseJacobi.T7.2 spec_ReverseJacobi.B7 = true := by kernel_rfl
def spec_ReverseJacobi.T9 : Bool × List (List Nat × List Nat) := (true, [([], []), ([0], [0]), ([], []), ([2], [2]), ([], []), ([3, 4], [3, 4]), ([5], [5]), ([6], [6]), ([1, 7], [1, 7]), ([0, 1, 2, 3, 4, 5, 6, 7, 8], []), ([9, 8, 8, 0, 1, 2, 3, 4, 5, 6, 7, 8], [8, 9])])
def spec_ReverseJacobi.B9 : List Nat := [0, 1, 0, 4, 0, 28, 60, 124, 255, 511, 1023]
theorem spec_ReverseJacobi.tab9 : rtab .any (opsOf Try.f16 9) = spec_ReverseJacobi.T9 := by kernel_rfl
theorem spec_ReverseJacobi.bits9 : waitsOk spec_ReverseJacobi.T9.2 spec_ReverseJacobi.B9 = true := by kernel_rfl
set_option maxHeartbeats 8000000 in
set_option maxRecDepth 100000 in
theorem spec_ReverseJacobi.calls (k : Nat) (a0_0 : Int) (A0_1 : Option Addr) (c0_1 : Nat) (l0_1 : List Int) (A0_2 : Option Addr) (c0_2 : Nat) (l0_2 : List Int) (r1 : Int) (r2 : List Int) (r3 : List Int) (r4 : Int) (w : World) (hr0_1 : Kd.C (Kd.int .i64) w A0_1 l0_1.length l0_1) (hc0_1 : l0_1.length ≤ c0_1) (hr0_2 : Kd.C (Kd.int .i64) w A0_2 l0_2.length l0_2) (hc0_2 : l0_2.length ≤ c0_2) (h : spec_ReverseJacobi.f k a0_0 l0_1 l0_2 = some (r1, r2, r3, r4)) :
  Calls Try.prog 16 #[.agg #[.int .i64 a0_0, .slice A0_1 l0_1.length c0_1, .slice A0_2 l0_2.length c0_2]] w fun e w' => ∃ v1_ v2_ : Value, e = .returned (.tuple #[.agg #[.int .i64 r1, v1_, v2_], .int .i64 r4]) ∧ Kd.R (Kd.int .i64) 2 w' w.heap.size (fun k_ => some k_ ≠ (v2_ : Value).ownBlock) v1_ r2 ∧ Kd.R (Kd.int .i64) 2 w' w.heap.size (fun k_ => some k_ ≠ (v1_ : Value).ownBlock) v2_ r3 ∧ Below w.heap.size w w' := by
 have hu26 := Try.underlying26
 have HR0_1 := zA hr0_1
 have HC0_1 := zA hc0_1
 clear hr0_1 hc0_1
 have HR0_2 := zA hr0_2
 have HC0_2 := zA hc0_2
 clear hr0_2 hc0_2
 have HB := zA (Below.refl w.heap.size w)
 have H : ((spec_l03Is.f k a0_0 l0_1 l0_2).bind fun t1069 => (if t1069 = true then (if 0 < (l0_2.length : Int) then (spec_ReverseJacobi.l0 k (wrap64 ((l0_1.length : Int) - 1)) a0_0 l0_1 l0_2 a0_0 (([] : List Int)) (([rd l0_2 0] : List Int))) else (none)) else (some (0, ([] : List Int), ([] : List Int), 1)))) = some (r1, r2, r3, r4) := h
 clear h
 replace H := Option.bind_eq_some_iff.mp H
 obtain ⟨t1069, A20, H⟩ := H
 replace H : (if t1069 = true then (if 0 < (l0_2.length : Int) then (spec_ReverseJacobi.l0 k (wrap64 ((l0_1.length : Int) - 1)) a0_0 l0_1 l0_2 a0_0 (([] : List Int)) (([rd l0_2 0] : List Int))) else (none)) else (some (0, ([] : List Int), ([] : List Int), 1))) = some (r1, r2, r3, r4) := H
 have A2 := zA A20
 clear A20
 by_cases c3 : t1069 = true
 ·subst c3
  have H1 : (if 0 < (l0_2.length : Int) then (spec_ReverseJacobi.l0 k (wrap64 ((l0_1.length : Int) - 1)) a0_0 l0_1 l0_2 a0_0 (([] : List Int)) (([rd l0_2 0] : List Int))) else (none)) = some (r1, r2, r3, r4) := by rw [if_pos rfl] at H; exact H
  clear H
  have H := H1
  clear H1
  obtain ⟨y1070, hy1070⟩ : ∃ y_ : List Int, y_ = (([] : List Int)) := ⟨_, rfl⟩
  replace H : (if 0 < (l0_2.length : Int) then (spec_ReverseJacobi.l0 k (wrap64 ((l0_1.length : Int) - 1)) a0_0 l0_1 l0_2 a0_0 y1070 (([rd l0_2 0] : List Int))) else (none)) = some (r1, r2, r3, r4) := by first | (rw [hy1070]; exact H) | exact H
  have Ny1070 := zA hy1070
  clear hy1070
  by_cases c4 : 0 < (l0_2.length : Int)
  rotate_left
  ·rw [if_neg c4] at H
   exact absurd H (by simp)
  rw [if_pos c4] at H
  have c4b0 : decide (0 < (l0_2.length : Int)) = true := decide_eq_true c4
  have c4b1 : decide (0 < l0_2.length) = true := decide_eq_true (by omega)
  clear c4
  obtain ⟨y1074, hy1074⟩ : ∃ y_ : List Int, y_ = (([rd l0_2 0] : List Int)) := ⟨_, rfl⟩
  replace H : (spec_ReverseJacobi.l0 k (wrap64 ((l0_1.length : Int) - 1)) a0_0 l0_1 l0_2 a0_0 y1070 y1074) = some (r1, r2, r3, r4) := by first | (rw [hy1074]; exact H) | exact H
  have Ny1074 := zA hy1074
  clear hy1074
  have H' := zA H
  clear H
  go_enter Try.func16, Try.ntmps16
  try go_wp2_with (first | ((with_reducible refine gate_dst (N := 1) rfl ?_); refine bx 1 #[.int .i64 a0_0, .slice A0_1 l0_1.length c0_1, .slice A0_2 l0_2.length c0_2] 26 ?_; intro gb1067 hg w5 hbox hb; have BK1067 := zA (hbox); have GW1067 := gq HB hg; have GE1067 := gq HB hg; replace HB := xH HB hb; have := geI GE1067; clear hb hbox hg) | ((with_reducible refine gate_dst (N := 2) rfl ?_); refine bx 2 #[.int .i64 0, .slice none 0 0, .slice none 0 0] 26 ?_; intro gb1068 hg w6 hbox hb; have BK1068 := zA (hbox); have GW1068 := gq HB hg; have GE1068 := gq HB hg; replace HB := xH HB hb; have NB1067_1068 := zA ((by rw [hg]; exact neL BK1067 : gb1067 ≠ gb1068)); have NB1068_1067 := zA ((by rw [hg]; exact neG BK1067 : gb1068 ≠ gb1067)); replace BK1067 := xB BK1067 hb; have := geI GE1068; clear hb hbox hg; have hnb7 := NB1067_1068.out; have hnc7 := NB1068_1067.out; have hcz8_0 := bc BK1067 0; have hcz8_1 := bc BK1067 1; have hcz8_2 := bc BK1067 2; have hfz8_0 := bf BK1067 0; have hfz8_1 := bf BK1067 1; have hfz8_2 := bf BK1067 2) | ((with_reducible refine gate_callee (f := 56) rfl ?_); refine gL (some 7) Try.func56 #[.agg #[.int .i64 a0_0, .slice A0_1 l0_1.length c0_1, .slice A0_2 l0_2.length c0_2]] ?_; (with_reducible refine (spec_l03Is.calls k a0_0 _ _ l0_1 _ _ l0_2 true _ ?side1 ?side2 ?side3 ?side4 A2.out).mono ?_); (case side1 => exact uC ((Kd.C_below HR0_1.out HB.out))); (case side2 => exact HC0_1.out); (case side3 => exact uC ((Kd.C_below HR0_2.out HB.out))); (case side4 => exact HC0_2.out); rintro e w9 ⟨rfl, hb⟩; refine ⟨_, rfl, ?_⟩; replace BK1067 := xB BK1067 hb; replace BK1068 := xB BK1068 hb; replace HB := xH HB hb; (try clear hb); (try clear hb2); (try clear hk); (try clear hi)))
  replace BK1067 := zA (blk_drew BK1067.out)
  replace BK1068 := zA (blk_drew BK1068.out)
  replace HB := zA (below_drew1 HB.out)
  have p1073 : 0 ≤ (0 : Int) := (by omega)
  have q1073 : 0 < (l0_2.length : Int) := of_decide_eq_true (by first | (with_reducible assumption) | assumption)
  obtain ⟨ad1073, e1073, hx1073_0⟩ := Kd.at_int HR0_2.out 0 p1073 q1073
  have hw1073_0 := hx1073_0
  (try rw [show ((0 : Int)).toNat = 0 from rfl] at hw1073_0)
  (try rw [show 0 * 1 = 0 from rfl] at hw1073_0)
  (try rw [Addr.add_zero'] at hw1073_0)
  cases e1073
  have qi1073 : (0 < l0_2.length) = True := eq_true (by omega)
  (try rw [show ((0 : Int)).toNat = 0 from rfl] at hx1073_0)
  (try rw [Addr.add_zero'] at hx1073_0)
  replace hx1073_0 := hc HB hx1073_0
  replace p1073 := eq_true p1073
  replace q1073 := eq_true q1073
  refine start_ (n := 11) (S := fun w' => w'.cell? ⟨gb1067, 0, none⟩ = some (.int .i64 a0_0) ∧ w'.cell? ⟨gb1067, 1, none⟩ = some (.slice A0_1 l0_1.length c0_1) ∧ w'.cell? ⟨gb1067, 2, none⟩ = some (.slice (some ad1073) l0_2.length c0_2) ∧ w'.cell? ad1073 = some (.int .i64 (rd l0_2 0))) (ds := []) #[false, false, false, false, false, false, false, false, false, false, false] (by kernel_rfl) rfl rfl ⟨bcu BK1067 0, bcu BK1067 1, bcu BK1067 2, (hcu HB hw1073_0)⟩ (fun hHeld => ?_); refine with_tabW spec_ReverseJacobi.tab3 spec_ReverseJacobi.bits3 (fun HT_ HW_ => ?_)
  generalize w9.drew = w10 at BK1067 BK1068 HB hx1073_0 hHeld ⊢
  refine pu_ 0 10 (bl 11 1) HT_ ?_
  refine pu_ 3 13 (bl 11 9) HT_ ?_
  refine ta_ 1 11 (bl 11 11) HT_ HW_ hHeld ?_
  refine ta_ 4 14 (bl 11 27) HT_ HW_ hHeld ?_
  refine pu_ 5 15 (bl 11 59) HT_ ?_
  refine ta_ 6 16 (bl 11 123) HT_ HW_ hHeld ?_
  refine join_ (σ := Value × Value × Nat) 1 (bl 11 1023) (fun s_ => [(12, s_.1), (17, s_.2.1), (4, .pointer (some ⟨s_.2.2, 0, none⟩)), (18, .agg #[.int .i64 a0_0, s_.1, s_.2.1])]) (fun s_ w' => (w'.cell? ⟨gb1067, 0, none⟩ = some (.int .i64 a0_0) ∧ w'.cell? ⟨gb1067, 1, none⟩ = some (.slice A0_1 l0_1.length c0_1) ∧ w'.cell? ⟨gb1067, 2, none⟩ = some (.slice (some ad1073) l0_2.length c0_2) ∧ w'.cell? ad1073 = some (.int .i64 (rd l0_2 0))) ∧ (Kd.R (Kd.int .i64) 2 w' w.heap.size (fun k_ => some k_ ≠ (s_.2.1 : Value).ownBlock) s_.1 y1070) ∧ (Kd.R (Kd.int .i64) 2 w' w.heap.size (fun k_ => some k_ ≠ (s_.1 : Value).ownBlock) s_.2.1 y1074) ∧ (w'.heap[gb1067]? = some (.cells #[.int .i64 a0_0, .slice A0_1 l0_1.length c0_1, .slice (some ad1073) l0_2.length c0_2] 26 (0, 0))) ∧ (w'.heap[gb1068]? = some (.cells #[.int .i64 0, .slice none 0 0, .slice none 0 0] 26 (0, 0))) ∧ (w'.heap[s_.2.2]? = some (.cells #[.int .i64 0, .slice none 0 0, .slice none 0 0] 26 (0, 0))) ∧ (w.heap.size ≤ s_.2.2) ∧ (w.heap.size ≤ s_.2.2) ∧ (gb1067 ≠ s_.2.2) ∧ (s_.2.2 ≠ gb1067) ∧ (gb1068 ≠ s_.2.2) ∧ (s_.2.2 ≠ gb1068) ∧ (Below w.heap.size w w')) ?_ ?_
  rotate_left
  ·intro hJ2_7_9
   refine join_ (σ := Value × Value) 2 (bl 11 511) (fun s_ => [(12, s_.1), (17, s_.2), (18, .agg #[.int .i64 a0_0, s_.1, s_.2])]) (fun s_ w' => (w'.cell? ⟨gb1067, 0, none⟩ = some (.int .i64 a0_0) ∧ w'.cell? ⟨gb1067, 1, none⟩ = some (.slice A0_1 l0_1.length c0_1) ∧ w'.cell? ⟨gb1067, 2, none⟩ = some (.slice (some ad1073) l0_2.length c0_2) ∧ w'.cell? ad1073 = some (.int .i64 (rd l0_2 0))) ∧ (Kd.R (Kd.int .i64) 2 w' w.heap.size (fun k_ => some k_ ≠ (s_.2 : Value).ownBlock) s_.1 y1070) ∧ (Kd.R (Kd.int .i64) 2 w' w.heap.size (fun k_ => some k_ ≠ (s_.1 : Value).ownBlock) s_.2 y1074) ∧ (w'.heap[gb1067]? = some (.cells #[.int .i64 a0_0, .slice A0_1 l0_1.length c0_1, .slice (some ad1073) l0_2.length c0_2] 26 (0, 0))) ∧ (w'.heap[gb1068]? = some (.cells #[.int .i64 0, .slice none 0 0, .slice none 0 0] 26 (0, 0))) ∧ (Below w.heap.size w w')) ?_ ?_
   rotate_left
   ·intro hJ2_7
    refine join_ (σ := Value × Nat) 3 (bl 11 639) (fun s_ => [(12, s_.1), (4, .pointer (some ⟨s_.2, 0, none⟩))]) (fun s_ w' => (w'.cell? ⟨gb1067, 0, none⟩ = some (.int .i64 a0_0) ∧ w'.cell? ⟨gb1067, 1, none⟩ = some (.slice A0_1 l0_1.length c0_1) ∧ w'.cell? ⟨gb1067, 2, none⟩ = some (.slice (some ad1073) l0_2.length c0_2) ∧ w'.cell? ad1073 = some (.int .i64 (rd l0_2 0))) ∧ (Kd.R (Kd.int .i64) 2 w' w.heap.size (fun _ => True) s_.1 y1070) ∧ (w'.heap[gb1067]? = some (.cells #[.int .i64 a0_0, .slice A0_1 l0_1.length c0_1, .slice (some ad1073) l0_2.length c0_2] 26 (0, 0))) ∧ (w'.heap[gb1068]? = some (.cells #[.int .i64 0, .slice none 0 0, .slice none 0 0] 26 (0, 0))) ∧ (w'.heap[s_.2]? = some (.cells #[.int .i64 0, .slice none 0 0, .slice none 0 0] 26 (0, 0))) ∧ (w.heap.size ≤ s_.2) ∧ (w.heap.size ≤ s_.2) ∧ (gb1067 ≠ s_.2) ∧ (s_.2 ≠ gb1067) ∧ (gb1068 ≠ s_.2) ∧ (s_.2 ≠ gb1068) ∧ (Below w.heap.size w w')) ?_ ?_
    rotate_left
    ·intro hJ2_9
     refine join_ (σ := Value × Nat) 3 (bl 11 763) (fun s_ => [(17, s_.1), (4, .pointer (some ⟨s_.2, 0, none⟩))]) (fun s_ w' => (w'.cell? ⟨gb1067, 0, none⟩ = some (.int .i64 a0_0) ∧ w'.cell? ⟨gb1067, 1, none⟩ = some (.slice A0_1 l0_1.length c0_1) ∧ w'.cell? ⟨gb1067, 2, none⟩ = some (.slice (some ad1073) l0_2.length c0_2) ∧ w'.cell? ad1073 = some (.int .i64 (rd l0_2 0))) ∧ (Kd.R (Kd.int .i64) 2 w' w.heap.size (fun _ => True) s_.1 y1074) ∧ (w'.heap[gb1067]? = some (.cells #[.int .i64 a0_0, .slice A0_1 l0_1.length c0_1, .slice (some ad1073) l0_2.length c0_2] 26 (0, 0))) ∧ (w'.heap[gb1068]? = some (.cells #[.int .i64 0, .slice none 0 0, .slice none 0 0] 26 (0, 0))) ∧ (w'.heap[s_.2]? = some (.cells #[.int .i64 0, .slice none 0 0, .slice none 0 0] 26 (0, 0))) ∧ (w.heap.size ≤ s_.2) ∧ (w.heap.size ≤ s_.2) ∧ (gb1067 ≠ s_.2) ∧ (s_.2 ≠ gb1067) ∧ (gb1068 ≠ s_.2) ∧ (s_.2 ≠ gb1068) ∧ (Below w.heap.size w w')) ?_ ?_
     rotate_left
     ·intro hJ7_9
      refine join_ (σ := Value) 4 (bl 11 127) (fun s_ => [(12, s_)]) (fun s_ w' => (w'.cell? ⟨gb1067, 0, none⟩ = some (.int .i64 a0_0) ∧ w'.cell? ⟨gb1067, 1, none⟩ = some (.slice A0_1 l0_1.length c0_1) ∧ w'.cell? ⟨gb1067, 2, none⟩ = some (.slice (some ad1073) l0_2.length c0_2) ∧ w'.cell? ad1073 = some (.int .i64 (rd l0_2 0))) ∧ (Kd.R (Kd.int .i64) 2 w' w.heap.size (fun _ => True) s_ y1070) ∧ (w'.heap[gb1067]? = some (.cells #[.int .i64 a0_0, .slice A0_1 l0_1.length c0_1, .slice (some ad1073) l0_2.length c0_2] 26 (0, 0))) ∧ (w'.heap[gb1068]? = some (.cells #[.int .i64 0, .slice none 0 0, .slice none 0 0] 26 (0, 0))) ∧ (Below w.heap.size w w')) ?_ ?_
      rotate_left
      ·intro hJ2
       refine join_ (σ := Value) 4 (bl 11 251) (fun s_ => [(17, s_)]) (fun s_ w' => (w'.cell? ⟨gb1067, 0, none⟩ = some (.int .i64 a0_0) ∧ w'.cell? ⟨gb1067, 1, none⟩ = some (.slice A0_1 l0_1.length c0_1) ∧ w'.cell? ⟨gb1067, 2, none⟩ = some (.slice (some ad1073) l0_2.length c0_2) ∧ w'.cell? ad1073 = some (.int .i64 (rd l0_2 0))) ∧ (Kd.R (Kd.int .i64) 2 w' w.heap.size (fun _ => True) s_ y1074) ∧ (w'.heap[gb1067]? = some (.cells #[.int .i64 a0_0, .slice A0_1 l0_1.length c0_1, .slice (some ad1073) l0_2.length c0_2] 26 (0, 0))) ∧ (w'.heap[gb1068]? = some (.cells #[.int .i64 0, .slice none 0 0, .slice none 0 0] 26 (0, 0))) ∧ (Below w.heap.size w w')) ?_ ?_
       rotate_left
       ·intro hJ7
        refine join_ (σ := Nat) 4 (bl 11 635) (fun s_ => [(4, .pointer (some ⟨s_, 0, none⟩))]) (fun s_ w' => (w'.cell? ⟨gb1067, 0, none⟩ = some (.int .i64 a0_0) ∧ w'.cell? ⟨gb1067, 1, none⟩ = some (.slice A0_1 l0_1.length c0_1) ∧ w'.cell? ⟨gb1067, 2, none⟩ = some (.slice (some ad1073) l0_2.length c0_2) ∧ w'.cell? ad1073 = some (.int .i64 (rd l0_2 0))) ∧ (w'.heap[gb1067]? = some (.cells #[.int .i64 a0_0, .slice A0_1 l0_1.length c0_1, .slice (some ad1073) l0_2.length c0_2] 26 (0, 0))) ∧ (w'.heap[gb1068]? = some (.cells #[.int .i64 0, .slice none 0 0, .slice none 0 0] 26 (0, 0))) ∧ (w'.heap[s_]? = some (.cells #[.int .i64 0, .slice none 0 0, .slice none 0 0] 26 (0, 0))) ∧ (w.heap.size ≤ s_) ∧ (w.heap.size ≤ s_) ∧ (gb1067 ≠ s_) ∧ (s_ ≠ gb1067) ∧ (gb1068 ≠ s_) ∧ (s_ ≠ gb1068) ∧ (Below w.heap.size w w')) ?_ ?_
        rotate_left
        ·intro hJ9
         refine three_ (i := 2) (j := 7) (k := 9) (Ni := some 12) (Nj := some 17) (Nk := some 4) (bl 11 127) (bl 11 251) (bl 11 635) rfl rfl rfl rfl rfl rfl (three_of HT_.out (by kernel_rfl)) (by decide) (by decide) (by decide) (fun K hK => ?_) (fun K hK => ?_) (fun K hK => ?_)
         ·skip
          refine Kd.R_lit_step (Kd.int .i64) _ 2 ?hg (N := 12) ?hd (xs := ([] : List Int)) (inner := []) (ok := fun _ => True) (okp := fun _ => True) ?hr ?hp (fun _ hk => hk) trivial (Below.refl _ _) (Nat.le_refl _) (by simp) ?_; (case hd => rfl); (case hg => rfl); (case hr => first | (go_simp; done) | (go_simp; rfl)); (case hp => exact (Reps.none _ _))
          intro v1071 w11 ho12 hb hg_ hnew_
          clear hg_ hnew_
          (first | rw [← Ny1070.out] at ho12 | (simp only [Int.reduceToNat] at ho12; rw [← Ny1070.out] at ho12))
          have HO1072 := zA (Kd.R_lower ho12 (below_size (uH HB.out)))
          replace BK1067 := xB BK1067 hb
          replace BK1068 := xB BK1068 hb
          replace HB := xH HB hb
          clear hb ho12
          refine hK.out _ _ ⟨bcu BK1067 0, bcu BK1067 1, bcu BK1067 2, (hcu HB hw1073_0)⟩ (fun hHeld => ?_)
          clear hK K
          refine no_ 12 ?_
          exact norm_ (by first | (simp only [putAll, Act.put, ls, lz, ln]; done) | (simp only [putAll, Act.put, ls, lz, ln]; rfl)) (hJ2 (v1071) _ ⟨hHeld, (uR HO1072.out), (uB BK1067.out), (uB BK1068.out), (uH HB.out)⟩)
         ·skip
          refine Kd.R_lit_step (Kd.int .i64) _ 2 ?hg (N := 17) ?hd (xs := ([rd l0_2 0] : List Int)) (inner := [.int .i64 (rd l0_2 0)]) (ok := fun _ => True) (okp := fun _ => True) ?hr ?hp (fun _ hk => hk) trivial (Below.refl _ _) (Nat.le_refl _) (by simp) ?_; (case hd => rfl); (case hg => rfl); (case hr => first | (go_simp; done) | (go_simp; rfl)); (case hp => exact (Reps.one (show Kd.M (Kd.int .i64) _ _ _ (rd l0_2 0) [.int .i64 (rd l0_2 0)] from rfl) (Reps.none _ _)))
          intro v1075 w11 ho12 hb hg_ hnew_
          clear hg_ hnew_
          (first | rw [← Ny1074.out] at ho12 | (simp only [Int.reduceToNat] at ho12; rw [← Ny1074.out] at ho12))
          have HO1076 := zA (Kd.R_lower ho12 (below_size (uH HB.out)))
          replace BK1067 := xB BK1067 hb
          replace BK1068 := xB BK1068 hb
          replace HB := xH HB hb
          clear hb ho12
          refine hK.out _ _ ⟨bcu BK1067 0, bcu BK1067 1, bcu BK1067 2, (hcu HB hw1073_0)⟩ (fun hHeld => ?_)
          clear hK K
          refine no_ 17 ?_
          exact norm_ (by first | (simp only [putAll, Act.put, ls, lz, ln]; done) | (simp only [putAll, Act.put, ls, lz, ln]; rfl)) (hJ7 (v1075) _ ⟨hHeld, (uR HO1076.out), (uB BK1067.out), (uB BK1068.out), (uH HB.out)⟩)
         ·skip
          refine box_step ?hg (N := 4) ?hd (cs := #[.int .i64 0, .slice none 0 0, .slice none 0 0]) (t := 26) ?hr ?_; (case hd => rfl); (case hg => rfl); (case hr => first | (go_simp; done) | (go_simp; rfl))
          intro gb1077 hg w11 hbox hb
          have BK1077 := zA (hbox)
          have GW1077 := gq HB hg
          have GE1077 := gq HB hg
          replace HB := xH HB hb
          have NB1067_1077 := zA ((by rw [hg]; exact neL BK1067 : gb1067 ≠ gb1077))
          have NB1077_1067 := zA ((by rw [hg]; exact neG BK1067 : gb1077 ≠ gb1067))
          replace BK1067 := xB BK1067 hb
          have NB1068_1077 := zA ((by rw [hg]; exact neL BK1068 : gb1068 ≠ gb1077))
          have NB1077_1068 := zA ((by rw [hg]; exact neG BK1068 : gb1077 ≠ gb1068))
          replace BK1068 := xB BK1068 hb
          have := geI GE1077
          clear hb hbox hg
          refine hK.out _ _ ⟨bcu BK1067 0, bcu BK1067 1, bcu BK1067 2, (hcu HB hw1073_0)⟩ (fun hHeld => ?_)
          clear hK K
          refine no_ 4 ?_
          exact norm_ (by first | (simp only [putAll, Act.put, ls, lz, ln]; done) | (simp only [putAll, Act.put, ls, lz, ln]; rfl)) (hJ9 (gb1077) _ ⟨hHeld, (uB BK1067.out), (uB BK1068.out), (uB BK1077.out), GW1077.out, GE1077.out, NB1067_1077.out, NB1077_1067.out, NB1068_1077.out, NB1077_1068.out, (uH HB.out)⟩)
        ·skip
         rintro gb1077 w12 ⟨hS_, h0_, h1_, h2_, h3_, h4_, h5_, h6_, h7_, h8_, h9_⟩
         have n0_ : Aside0 (w12.heap[gb1067]? = some (.cells #[.int .i64 a0_0, .slice A0_1 l0_1.length c0_1, .slice (some ad1073) l0_2.length c0_2] 26 (0, 0))) := ⟨h0_⟩
         have n1_ : Aside0 (w12.heap[gb1068]? = some (.cells #[.int .i64 0, .slice none 0 0, .slice none 0 0] 26 (0, 0))) := ⟨h1_⟩
         have n2_ : Aside0 (w12.heap[gb1077]? = some (.cells #[.int .i64 0, .slice none 0 0, .slice none 0 0] 26 (0, 0))) := ⟨h2_⟩
         have n3_ : Aside0 (w.heap.size ≤ gb1077) := ⟨h3_⟩
         have n4_ : Aside0 (w.heap.size ≤ gb1077) := ⟨h4_⟩
         have n5_ : Aside0 (gb1067 ≠ gb1077) := ⟨h5_⟩
         have n6_ : Aside0 (gb1077 ≠ gb1067) := ⟨h6_⟩
         have n7_ : Aside0 (gb1068 ≠ gb1077) := ⟨h7_⟩
         have n8_ : Aside0 (gb1077 ≠ gb1068) := ⟨h8_⟩
         have n9_ : Aside0 (Below w.heap.size w w12) := ⟨h9_⟩
         clear BK1067 BK1068 HB
         clear h0_ h1_ h2_ h3_ h4_ h5_ h6_ h7_ h8_ h9_
         have BK1067 := n0_
         have BK1068 := n1_
         have BK1077 := n2_
         have GW1077 := n3_
         have GE1077 := n4_
         have := geI GE1077
         have NB1067_1077 := n5_
         have NB1077_1067 := n6_
         have NB1068_1077 := n7_
         have NB1077_1068 := n8_
         have HB := n9_
         clear n0_ n1_ n2_ n3_ n4_ n5_ n6_ n7_ n8_ n9_
         have hHeld : w12.cell? ⟨gb1067, 0, none⟩ = some (.int .i64 a0_0) ∧ w12.cell? ⟨gb1067, 1, none⟩ = some (.slice A0_1 l0_1.length c0_1) ∧ w12.cell? ⟨gb1067, 2, none⟩ = some (.slice (some ad1073) l0_2.length c0_2) ∧ w12.cell? ad1073 = some (.int .i64 (rd l0_2 0)) := hS_
         refine norm_ (a' := ?_) ?_ ?_
         rotate_left
         ·simp only [putAll, Act.put, ls, lz, ln]
          rfl
         refine two_ (i := 2) (j := 7) (Ni := some 12) (Nj := some 17) (bl 11 639) (bl 11 763) rfl rfl rfl rfl (two_of HT_.out (by kernel_rfl)) (by decide) (by decide) (fun K hK => ?_) (fun K hK => ?_)
         ·skip
          refine Kd.R_lit_step (Kd.int .i64) _ 2 ?hg (N := 12) ?hd (xs := ([] : List Int)) (inner := []) (ok := fun _ => True) (okp := fun _ => True) ?hr ?hp (fun _ hk => hk) trivial (Below.refl _ _) (Nat.le_refl _) (by simp) ?_; (case hd => rfl); (case hg => rfl); (case hr => first | (go_simp; done) | (go_simp; rfl)); (case hp => exact (Reps.none _ _))
          intro v1071 w13 ho14 hb hg_ hnew_
          clear hg_ hnew_
          (first | rw [← Ny1070.out] at ho14 | (simp only [Int.reduceToNat] at ho14; rw [← Ny1070.out] at ho14))
          have HO1072 := zA (Kd.R_lower ho14 (below_size (uH HB.out)))
          replace BK1067 := xB BK1067 hb
          replace BK1068 := xB BK1068 hb
          replace BK1077 := xB BK1077 hb
          replace HB := xH HB hb
          clear hb ho14
          refine hK.out _ _ ⟨bcu BK1067 0, bcu BK1067 1, bcu BK1067 2, (hcu HB hw1073_0)⟩ (fun hHeld => ?_)
          clear hK K
          refine no_ 12 ?_
          exact norm_ (by first | (simp only [putAll, Act.put, ls, lz, ln]; done) | (simp only [putAll, Act.put, ls, lz, ln]; rfl)) (hJ2_9 (v1071, gb1077) _ ⟨hHeld, (uR HO1072.out), (uB BK1067.out), (uB BK1068.out), (uB BK1077.out), GW1077.out, GE1077.out, NB1067_1077.out, NB1077_1067.out, NB1068_1077.out, NB1077_1068.out, (uH HB.out)⟩)
         ·skip
          refine Kd.R_lit_step (Kd.int .i64) _ 2 ?hg (N := 17) ?hd (xs := ([rd l0_2 0] : List Int)) (inner := [.int .i64 (rd l0_2 0)]) (ok := fun _ => True) (okp := fun _ => True) ?hr ?hp (fun _ hk => hk) trivial (Below.refl _ _) (Nat.le_refl _) (by simp) ?_; (case hd => rfl); (case hg => rfl); (case hr => first | (go_simp; done) | (go_simp; rfl)); (case hp => exact (Reps.one (show Kd.M (Kd.int .i64) _ _ _ (rd l0_2 0) [.int .i64 (rd l0_2 0)] from rfl) (Reps.none _ _)))
          intro v1075 w13 ho14 hb hg_ hnew_
          clear hg_ hnew_
          (first | rw [← Ny1074.out] at ho14 | (simp only [Int.reduceToNat] at ho14; rw [← Ny1074.out] at ho14))
          have HO1076 := zA (Kd.R_lower ho14 (below_size (uH HB.out)))
          replace BK1067 := xB BK1067 hb
          replace BK1068 := xB BK1068 hb
          replace BK1077 := xB BK1077 hb
          replace HB := xH HB hb
          clear hb ho14
          refine hK.out _ _ ⟨bcu BK1067 0, bcu BK1067 1, bcu BK1067 2, (hcu HB hw1073_0)⟩ (fun hHeld => ?_)
          clear hK K
          refine no_ 17 ?_
          exact norm_ (by first | (simp only [putAll, Act.put, ls, lz, ln]; done) | (simp only [putAll, Act.put, ls, lz, ln]; rfl)) (hJ7_9 (v1075, gb1077) _ ⟨hHeld, (uR HO1076.out), (uB BK1067.out), (uB BK1068.out), (uB BK1077.out), GW1077.out, GE1077.out, NB1067_1077.out, NB1077_1067.out, NB1068_1077.out, NB1077_1068.out, (uH HB.out)⟩)
       ·skip
        rintro v1075 w13 ⟨hS_, h0_, h1_, h2_, h3_⟩
        have n0_ : Aside0 (Kd.R (Kd.int .i64) 2 w13 w.heap.size (fun _ => True) v1075 y1074) := ⟨h0_⟩
        have n1_ : Aside0 (w13.heap[gb1067]? = some (.cells #[.int .i64 a0_0, .slice A0_1 l0_1.length c0_1, .slice (some ad1073) l0_2.length c0_2] 26 (0, 0))) := ⟨h1_⟩
        have n2_ : Aside0 (w13.heap[gb1068]? = some (.cells #[.int .i64 0, .slice none 0 0, .slice none 0 0] 26 (0, 0))) := ⟨h2_⟩
        have n3_ : Aside0 (Below w.heap.size w w13) := ⟨h3_⟩
        clear BK1067 BK1068 HB
        clear h0_ h1_ h2_ h3_
        have HO1076 := n0_
        have BK1067 := n1_
        have BK1068 := n2_
        have HB := n3_
        clear n0_ n1_ n2_ n3_
        have hHeld : w13.cell? ⟨gb1067, 0, none⟩ = some (.int .i64 a0_0) ∧ w13.cell? ⟨gb1067, 1, none⟩ = some (.slice A0_1 l0_1.length c0_1) ∧ w13.cell? ⟨gb1067, 2, none⟩ = some (.slice (some ad1073) l0_2.length c0_2) ∧ w13.cell? ad1073 = some (.int .i64 (rd l0_2 0)) := hS_
        refine norm_ (a' := ?_) ?_ ?_
        rotate_left
        ·simp only [putAll, Act.put, ls, lz, ln]
         rfl
        refine two_ (i := 2) (j := 9) (Ni := some 12) (Nj := some 4) (bl 11 255) (bl 11 763) rfl rfl rfl rfl (two_of HT_.out (by kernel_rfl)) (by decide) (by decide) (fun K hK => ?_) (fun K hK => ?_)
        ·skip
         refine Kd.R_lit_step (Kd.int .i64) _ 2 ?hg (N := 12) ?hd (xs := ([] : List Int)) (inner := []) (ok := fun _ => True) (okp := fun _ => True) ?hr ?hp (fun _ hk => hk) trivial (Below.refl _ _) (Nat.le_refl _) (by simp) ?_; (case hd => rfl); (case hg => rfl); (case hr => first | (go_simp; done) | (go_simp; rfl)); (case hp => exact (Reps.none _ _))
         intro v1071 w14 ho15 hb hg_ hnew_
         clear hg_ hnew_
         (first | rw [← Ny1070.out] at ho15 | (simp only [Int.reduceToNat] at ho15; rw [← Ny1070.out] at ho15))
         have HO1072 := zA (Kd.R_lower (Kd.R_new' ho15 (Kd.R_lt (uR HO1076.out))) (below_size (uH HB.out)))
         replace HO1076 := zA (Kd.R_elder' (uR HO1076.out) (Kd.R_base ho15) hb)
         replace BK1067 := xB BK1067 hb
         replace BK1068 := xB BK1068 hb
         replace HB := xH HB hb
         clear hb ho15
         obtain ⟨Ao16, co16, eo16⟩ := Kd.R_slice HO1076.out
         (first | subst eo16 | (injection eo16 with f1_ f2_ f3_; have f4_ := f1_.symm; have f5_ := f3_.symm; clear f1_ f2_ f3_; subst f4_; subst f5_))
         obtain ⟨Ao17, co17, eo17⟩ := Kd.R_slice HO1072.out
         (first | subst eo17 | (injection eo17 with f1_ f2_ f3_; have f4_ := f1_.symm; have f5_ := f3_.symm; clear f1_ f2_ f3_; subst f4_; subst f5_))
         refine hK.out _ _ ⟨bcu BK1067 0, bcu BK1067 1, bcu BK1067 2, (hcu HB hw1073_0)⟩ (fun hHeld => ?_)
         clear hK K
         refine no_ 12 ?_
         refine pu_ 8 18 (bl 11 511) HT_ ?_
         exact norm_ (by first | (simp only [putAll, Act.put, ls, lz, ln]; done) | (simp only [putAll, Act.put, ls, lz, ln]; rfl)) (hJ2_7 (.slice Ao17 y1070.length co17, .slice Ao16 y1074.length co16) _ ⟨hHeld, (uR (Kd.R_mono HO1072.out (fun _ hk => hk.2))), (uR (Kd.R_mono HO1076.out (fun _ hk => hk.2))), (uB BK1067.out), (uB BK1068.out), (uH HB.out)⟩)
        ·skip
         refine box_step ?hg (N := 4) ?hd (cs := #[.int .i64 0, .slice none 0 0, .slice none 0 0]) (t := 26) ?hr ?_; (case hd => rfl); (case hg => rfl); (case hr => first | (go_simp; done) | (go_simp; rfl))
         intro gb1077 hg w14 hbox hb
         replace HO1076 := xR HO1076 hb
         have BK1077 := zA (hbox)
         have GW1077 := gq HB hg
         have GE1077 := gq HB hg
         replace HB := xH HB hb
         have NB1067_1077 := zA ((by rw [hg]; exact neL BK1067 : gb1067 ≠ gb1077))
         have NB1077_1067 := zA ((by rw [hg]; exact neG BK1067 : gb1077 ≠ gb1067))
         replace BK1067 := xB BK1067 hb
         have NB1068_1077 := zA ((by rw [hg]; exact neL BK1068 : gb1068 ≠ gb1077))
         have NB1077_1068 := zA ((by rw [hg]; exact neG BK1068 : gb1077 ≠ gb1068))
         replace BK1068 := xB BK1068 hb
         have := geI GE1077
         clear hb hbox hg
         refine hK.out _ _ ⟨bcu BK1067 0, bcu BK1067 1, bcu BK1067 2, (hcu HB hw1073_0)⟩ (fun hHeld => ?_)
         clear hK K
         refine no_ 4 ?_
         exact norm_ (by first | (simp only [putAll, Act.put, ls, lz, ln]; done) | (simp only [putAll, Act.put, ls, lz, ln]; rfl)) (hJ7_9 (v1075, gb1077) _ ⟨hHeld, (uR HO1076.out), (uB BK1067.out), (uB BK1068.out), (uB BK1077.out), GW1077.out, GE1077.out, NB1067_1077.out, NB1077_1067.out, NB1068_1077.out, NB1077_1068.out, (uH HB.out)⟩)
      ·skip
       rintro v1071 w13 ⟨hS_, h0_, h1_, h2_, h3_⟩
       have n0_ : Aside0 (Kd.R (Kd.int .i64) 2 w13 w.heap.size (fun _ => True) v1071 y1070) := ⟨h0_⟩
       have n1_ : Aside0 (w13.heap[gb1067]? = some (.cells #[.int .i64 a0_0, .slice A0_1 l0_1.length c0_1, .slice (some ad1073) l0_2.length c0_2] 26 (0, 0))) := ⟨h1_⟩
       have n2_ : Aside0 (w13.heap[gb1068]? = some (.cells #[.int .i64 0, .slice none 0 0, .slice none 0 0] 26 (0, 0))) := ⟨h2_⟩
       have n3_ : Aside0 (Below w.heap.size w w13) := ⟨h3_⟩
       clear BK1067 BK1068 HB
       clear h0_ h1_ h2_ h3_
       have HO1072 := n0_
       have BK1067 := n1_
       have BK1068 := n2_
       have HB := n3_
       clear n0_ n1_ n2_ n3_
       have hHeld : w13.cell? ⟨gb1067, 0, none⟩ = some (.int .i64 a0_0) ∧ w13.cell? ⟨gb1067, 1, none⟩ = some (.slice A0_1 l0_1.length c0_1) ∧ w13.cell? ⟨gb1067, 2, none⟩ = some (.slice (some ad1073) l0_2.length c0_2) ∧ w13.cell? ad1073 = some (.int .i64 (rd l0_2 0)) := hS_
       refine norm_ (a' := ?_) ?_ ?_
       rotate_left
       ·simp only [putAll, Act.put, ls, lz, ln]
        rfl
       refine two_ (i := 7) (j := 9) (Ni := some 17) (Nj := some 4) (bl 11 255) (bl 11 639) rfl rfl rfl rfl (two_of HT_.out (by kernel_rfl)) (by decide) (by decide) (fun K hK => ?_) (fun K hK => ?_)
       ·skip
        refine Kd.R_lit_step (Kd.int .i64) _ 2 ?hg (N := 17) ?hd (xs := ([rd l0_2 0] : List Int)) (inner := [.int .i64 (rd l0_2 0)]) (ok := fun _ => True) (okp := fun _ => True) ?hr ?hp (fun _ hk => hk) trivial (Below.refl _ _) (Nat.le_refl _) (by simp) ?_; (case hd => rfl); (case hg => rfl); (case hr => first | (go_simp; done) | (go_simp; rfl)); (case hp => exact (Reps.one (show Kd.M (Kd.int .i64) _ _ _ (rd l0_2 0) [.int .i64 (rd l0_2 0)] from rfl) (Reps.none _ _)))
        intro v1075 w14 ho15 hb hg_ hnew_
        clear hg_ hnew_
        (first | rw [← Ny1074.out] at ho15 | (simp only [Int.reduceToNat] at ho15; rw [← Ny1074.out] at ho15))
        have HO1076 := zA (Kd.R_lower (Kd.R_new' ho15 (Kd.R_lt (uR HO1072.out))) (below_size (uH HB.out)))
        replace HO1072 := zA (Kd.R_elder' (uR HO1072.out) (Kd.R_base ho15) hb)
        replace BK1067 := xB BK1067 hb
        replace BK1068 := xB BK1068 hb
        replace HB := xH HB hb
        clear hb ho15
        obtain ⟨Ao16, co16, eo16⟩ := Kd.R_slice HO1076.out
        (first | subst eo16 | (injection eo16 with f1_ f2_ f3_; have f4_ := f1_.symm; have f5_ := f3_.symm; clear f1_ f2_ f3_; subst f4_; subst f5_))
        obtain ⟨Ao17, co17, eo17⟩ := Kd.R_slice HO1072.out
        (first | subst eo17 | (injection eo17 with f1_ f2_ f3_; have f4_ := f1_.symm; have f5_ := f3_.symm; clear f1_ f2_ f3_; subst f4_; subst f5_))
        refine hK.out _ _ ⟨bcu BK1067 0, bcu BK1067 1, bcu BK1067 2, (hcu HB hw1073_0)⟩ (fun hHeld => ?_)
        clear hK K
        refine no_ 17 ?_
        refine pu_ 8 18 (bl 11 511) HT_ ?_
        exact norm_ (by first | (simp only [putAll, Act.put, ls, lz, ln]; done) | (simp only [putAll, Act.put, ls, lz, ln]; rfl)) (hJ2_7 (.slice Ao17 y1070.length co17, .slice Ao16 y1074.length co16) _ ⟨hHeld, (uR (Kd.R_mono HO1072.out (fun _ hk => hk.2))), (uR (Kd.R_mono HO1076.out (fun _ hk => hk.2))), (uB BK1067.out), (uB BK1068.out), (uH HB.out)⟩)
       ·skip
        refine box_step ?hg (N := 4) ?hd (cs := #[.int .i64 0, .slice none 0 0, .slice none 0 0]) (t := 26) ?hr ?_; (case hd => rfl); (case hg => rfl); (case hr => first | (go_simp; done) | (go_simp; rfl))
        intro gb1077 hg w14 hbox hb
        replace HO1072 := xR HO1072 hb
        have BK1077 := zA (hbox)
        have GW1077 := gq HB hg
        have GE1077 := gq HB hg
        replace HB := xH HB hb
        have NB1067_1077 := zA ((by rw [hg]; exact neL BK1067 : gb1067 ≠ gb1077))
        have NB1077_1067 := zA ((by rw [hg]; exact neG BK1067 : gb1077 ≠ gb1067))
        replace BK1067 := xB BK1067 hb
        have NB1068_1077 := zA ((by rw [hg]; exact neL BK1068 : gb1068 ≠ gb1077))
        have NB1077_1068 := zA ((by rw [hg]; exact neG BK1068 : gb1077 ≠ gb1068))
        replace BK1068 := xB BK1068 hb
        have := geI GE1077
        clear hb hbox hg
        refine hK.out _ _ ⟨bcu BK1067 0, bcu BK1067 1, bcu BK1067 2, (hcu HB hw1073_0)⟩ (fun hHeld => ?_)
        clear hK K
        refine no_ 4 ?_
        exact norm_ (by first | (simp only [putAll, Act.put, ls, lz, ln]; done) | (simp only [putAll, Act.put, ls, lz, ln]; rfl)) (hJ2_9 (v1071, gb1077) _ ⟨hHeld, (uR HO1072.out), (uB BK1067.out), (uB BK1068.out), (uB BK1077.out), GW1077.out, GE1077.out, NB1067_1077.out, NB1077_1067.out, NB1068_1077.out, NB1077_1068.out, (uH HB.out)⟩)
     ·skip
      rintro ⟨v1075, gb1077⟩ w14 ⟨hS_, h0_, h1_, h2_, h3_, h4_, h5_, h6_, h7_, h8_, h9_, h10_⟩
      have n0_ : Aside0 (Kd.R (Kd.int .i64) 2 w14 w.heap.size (fun _ => True) v1075 y1074) := ⟨h0_⟩
      have n1_ : Aside0 (w14.heap[gb1067]? = some (.cells #[.int .i64 a0_0, .slice A0_1 l0_1.length c0_1, .slice (some ad1073) l0_2.length c0_2] 26 (0, 0))) := ⟨h1_⟩
      have n2_ : Aside0 (w14.heap[gb1068]? = some (.cells #[.int .i64 0, .slice none 0 0, .slice none 0 0] 26 (0, 0))) := ⟨h2_⟩
      have n3_ : Aside0 (w14.heap[gb1077]? = some (.cells #[.int .i64 0, .slice none 0 0, .slice none 0 0] 26 (0, 0))) := ⟨h3_⟩
      have n4_ : Aside0 (w.heap.size ≤ gb1077) := ⟨h4_⟩
      have n5_ : Aside0 (w.heap.size ≤ gb1077) := ⟨h5_⟩
      have n6_ : Aside0 (gb1067 ≠ gb1077) := ⟨h6_⟩
      have n7_ : Aside0 (gb1077 ≠ gb1067) := ⟨h7_⟩
      have n8_ : Aside0 (gb1068 ≠ gb1077) := ⟨h8_⟩
      have n9_ : Aside0 (gb1077 ≠ gb1068) := ⟨h9_⟩
      have n10_ : Aside0 (Below w.heap.size w w14) := ⟨h10_⟩
      clear BK1067 BK1068 HB
      clear h0_ h1_ h2_ h3_ h4_ h5_ h6_ h7_ h8_ h9_ h10_
      have HO1076 := n0_
      have BK1067 := n1_
      have BK1068 := n2_
      have BK1077 := n3_
      have GW1077 := n4_
      have GE1077 := n5_
      have := geI GE1077
      have NB1067_1077 := n6_
      have NB1077_1067 := n7_
      have NB1068_1077 := n8_
      have NB1077_1068 := n9_
      have HB := n10_
      clear n0_ n1_ n2_ n3_ n4_ n5_ n6_ n7_ n8_ n9_ n10_
      have hHeld : w14.cell? ⟨gb1067, 0, none⟩ = some (.int .i64 a0_0) ∧ w14.cell? ⟨gb1067, 1, none⟩ = some (.slice A0_1 l0_1.length c0_1) ∧ w14.cell? ⟨gb1067, 2, none⟩ = some (.slice (some ad1073) l0_2.length c0_2) ∧ w14.cell? ad1073 = some (.int .i64 (rd l0_2 0)) := hS_
      refine norm_ (a' := ?_) ?_ ?_
      rotate_left
      ·simp only [putAll, Act.put, ls, lz, ln]
       rfl
      refine on_ 2 (some 12) (bl 11 767) HT_ (fun K hK => ?_)
      refine Kd.R_lit_step (Kd.int .i64) _ 2 ?hg (N := 12) ?hd (xs := ([] : List Int)) (inner := []) (ok := fun _ => True) (okp := fun _ => True) ?hr ?hp (fun _ hk => hk) trivial (Below.refl _ _) (Nat.le_refl _) (by simp) ?_; (case hd => rfl); (case hg => rfl); (case hr => first | (go_simp; done) | (go_simp; rfl)); (case hp => exact (Reps.none _ _))
      intro v1071 w15 ho16 hb hg_ hnew_
      clear hg_ hnew_
      (first | rw [← Ny1070.out] at ho16 | (simp only [Int.reduceToNat] at ho16; rw [← Ny1070.out] at ho16))
      have HO1072 := zA (Kd.R_lower (Kd.R_new' ho16 (Kd.R_lt (uR HO1076.out))) (below_size (uH HB.out)))
      replace HO1076 := zA (Kd.R_elder' (uR HO1076.out) (Kd.R_base ho16) hb)
      replace BK1067 := xB BK1067 hb
      replace BK1068 := xB BK1068 hb
      replace BK1077 := xB BK1077 hb
      replace HB := xH HB hb
      clear hb ho16
      obtain ⟨Ao17, co17, eo17⟩ := Kd.R_slice HO1076.out
      (first | subst eo17 | (injection eo17 with f1_ f2_ f3_; have f4_ := f1_.symm; have f5_ := f3_.symm; clear f1_ f2_ f3_; subst f4_; subst f5_))
      obtain ⟨Ao18, co18, eo18⟩ := Kd.R_slice HO1072.out
      (first | subst eo18 | (injection eo18 with f1_ f2_ f3_; have f4_ := f1_.symm; have f5_ := f3_.symm; clear f1_ f2_ f3_; subst f4_; subst f5_))
      refine hK.out _ _ ⟨bcu BK1067 0, bcu BK1067 1, bcu BK1067 2, (hcu HB hw1073_0)⟩ (fun hHeld => ?_)
      clear hK K
      refine no_ 12 ?_
      refine pu_ 8 18 (bl 11 1023) HT_ ?_
      exact norm_ (by first | (simp only [putAll, Act.put, ls, lz, ln]; done) | (simp only [putAll, Act.put, ls, lz, ln]; rfl)) (hJ2_7_9 (.slice Ao18 y1070.length co18, .slice Ao17 y1074.length co17, gb1077) _ ⟨hHeld, (uR (Kd.R_mono HO1072.out (fun _ hk => hk.2))), (uR (Kd.R_mono HO1076.out (fun _ hk => hk.2))), (uB BK1067.out), (uB BK1068.out), (uB BK1077.out), GW1077.out, GE1077.out, NB1067_1077.out, NB1077_1067.out, NB1068_1077.out, NB1077_1068.out, (uH HB.out)⟩)
    ·skip
     rintro ⟨v1071, gb1077⟩ w14 ⟨hS_, h0_, h1_, h2_, h3_, h4_, h5_, h6_, h7_, h8_, h9_, h10_⟩
     have n0_ : Aside0 (Kd.R (Kd.int .i64) 2 w14 w.heap.size (fun _ => True) v1071 y1070) := ⟨h0_⟩
     have n1_ : Aside0 (w14.heap[gb1067]? = some (.cells #[.int .i64 a0_0, .slice A0_1 l0_1.length c0_1, .slice (some ad1073) l0_2.length c0_2] 26 (0, 0))) := ⟨h1_⟩
     have n2_ : Aside0 (w14.heap[gb1068]? = some (.cells #[.int .i64 0, .slice none 0 0, .slice none 0 0] 26 (0, 0))) := ⟨h2_⟩
     have n3_ : Aside0 (w14.heap[gb1077]? = some (.cells #[.int .i64 0, .slice none 0 0, .slice none 0 0] 26 (0, 0))) := ⟨h3_⟩
     have n4_ : Aside0 (w.heap.size ≤ gb1077) := ⟨h4_⟩
     have n5_ : Aside0 (w.heap.size ≤ gb1077) := ⟨h5_⟩
     have n6_ : Aside0 (gb1067 ≠ gb1077) := ⟨h6_⟩
     have n7_ : Aside0 (gb1077 ≠ gb1067) := ⟨h7_⟩
     have n8_ : Aside0 (gb1068 ≠ gb1077) := ⟨h8_⟩
     have n9_ : Aside0 (gb1077 ≠ gb1068) := ⟨h9_⟩
     have n10_ : Aside0 (Below w.heap.size w w14) := ⟨h10_⟩
     clear BK1067 BK1068 HB
     clear h0_ h1_ h2_ h3_ h4_ h5_ h6_ h7_ h8_ h9_ h10_
     have HO1072 := n0_
     have BK1067 := n1_
     have BK1068 := n2_
     have BK1077 := n3_
     have GW1077 := n4_
     have GE1077 := n5_
     have := geI GE1077
     have NB1067_1077 := n6_
     have NB1077_1067 := n7_
     have NB1068_1077 := n8_
     have NB1077_1068 := n9_
     have HB := n10_
     clear n0_ n1_ n2_ n3_ n4_ n5_ n6_ n7_ n8_ n9_ n10_
     have hHeld : w14.cell? ⟨gb1067, 0, none⟩ = some (.int .i64 a0_0) ∧ w14.cell? ⟨gb1067, 1, none⟩ = some (.slice A0_1 l0_1.length c0_1) ∧ w14.cell? ⟨gb1067, 2, none⟩ = some (.slice (some ad1073) l0_2.length c0_2) ∧ w14.cell? ad1073 = some (.int .i64 (rd l0_2 0)) := hS_
     refine norm_ (a' := ?_) ?_ ?_
     rotate_left
     ·simp only [putAll, Act.put, ls, lz, ln]
      rfl
     refine on_ 7 (some 17) (bl 11 767) HT_ (fun K hK => ?_)
     refine Kd.R_lit_step (Kd.int .i64) _ 2 ?hg (N := 17) ?hd (xs := ([rd l0_2 0] : List Int)) (inner := [.int .i64 (rd l0_2 0)]) (ok := fun _ => True) (okp := fun _ => True) ?hr ?hp (fun _ hk => hk) trivial (Below.refl _ _) (Nat.le_refl _) (by simp) ?_; (case hd => rfl); (case hg => rfl); (case hr => first | (go_simp; done) | (go_simp; rfl)); (case hp => exact (Reps.one (show Kd.M (Kd.int .i64) _ _ _ (rd l0_2 0) [.int .i64 (rd l0_2 0)] from rfl) (Reps.none _ _)))
     intro v1075 w15 ho16 hb hg_ hnew_
     clear hg_ hnew_
     (first | rw [← Ny1074.out] at ho16 | (simp only [Int.reduceToNat] at ho16; rw [← Ny1074.out] at ho16))
     have HO1076 := zA (Kd.R_lower (Kd.R_new' ho16 (Kd.R_lt (uR HO1072.out))) (below_size (uH HB.out)))
     replace HO1072 := zA (Kd.R_elder' (uR HO1072.out) (Kd.R_base ho16) hb)
     replace BK1067 := xB BK1067 hb
     replace BK1068 := xB BK1068 hb
     replace BK1077 := xB BK1077 hb
     replace HB := xH HB hb
     clear hb ho16
     obtain ⟨Ao17, co17, eo17⟩ := Kd.R_slice HO1076.out
     (first | subst eo17 | (injection eo17 with f1_ f2_ f3_; have f4_ := f1_.symm; have f5_ := f3_.symm; clear f1_ f2_ f3_; subst f4_; subst f5_))
     obtain ⟨Ao18, co18, eo18⟩ := Kd.R_slice HO1072.out
     (first | subst eo18 | (injection eo18 with f1_ f2_ f3_; have f4_ := f1_.symm; have f5_ := f3_.symm; clear f1_ f2_ f3_; subst f4_; subst f5_))
     refine hK.out _ _ ⟨bcu BK1067 0, bcu BK1067 1, bcu BK1067 2, (hcu HB hw1073_0)⟩ (fun hHeld => ?_)
     clear hK K
     refine no_ 17 ?_
     refine pu_ 8 18 (bl 11 1023) HT_ ?_
     exact norm_ (by first | (simp only [putAll, Act.put, ls, lz, ln]; done) | (simp only [putAll, Act.put, ls, lz, ln]; rfl)) (hJ2_7_9 (.slice Ao18 y1070.length co18, .slice Ao17 y1074.length co17, gb1077) _ ⟨hHeld, (uR (Kd.R_mono HO1072.out (fun _ hk => hk.2))), (uR (Kd.R_mono HO1076.out (fun _ hk => hk.2))), (uB BK1067.out), (uB BK1068.out), (uB BK1077.out), GW1077.out, GE1077.out, NB1067_1077.out, NB1077_1067.out, NB1068_1077.out, NB1077_1068.out, (uH HB.out)⟩)
   ·skip
    rintro ⟨v1071, v1075⟩ w17 ⟨hS_, h0_, h1_, h2_, h3_, h4_⟩
    have n0_ : Aside0 (Kd.R (Kd.int .i64) 2 w17 w.heap.size (fun k_ => some k_ ≠ (v1075 : Value).ownBlock) v1071 y1070) := ⟨h0_⟩
    have n1_ : Aside0 (Kd.R (Kd.int .i64) 2 w17 w.heap.size (fun k_ => some k_ ≠ (v1071 : Value).ownBlock) v1075 y1074) := ⟨h1_⟩
    have n2_ : Aside0 (w17.heap[gb1067]? = some (.cells #[.int .i64 a0_0, .slice A0_1 l0_1.length c0_1, .slice (some ad1073) l0_2.length c0_2] 26 (0, 0))) := ⟨h2_⟩
    have n3_ : Aside0 (w17.heap[gb1068]? = some (.cells #[.int .i64 0, .slice none 0 0, .slice none 0 0] 26 (0, 0))) := ⟨h3_⟩
    have n4_ : Aside0 (Below w.heap.size w w17) := ⟨h4_⟩
    clear BK1067 BK1068 HB
    clear h0_ h1_ h2_ h3_ h4_
    have HO1072 := n0_
    have HO1076 := n1_
    have BK1067 := n2_
    have BK1068 := n3_
    have HB := n4_
    clear n0_ n1_ n2_ n3_ n4_
    have hHeld : w17.cell? ⟨gb1067, 0, none⟩ = some (.int .i64 a0_0) ∧ w17.cell? ⟨gb1067, 1, none⟩ = some (.slice A0_1 l0_1.length c0_1) ∧ w17.cell? ⟨gb1067, 2, none⟩ = some (.slice (some ad1073) l0_2.length c0_2) ∧ w17.cell? ad1073 = some (.int .i64 (rd l0_2 0)) := hS_
    obtain ⟨Ao18, co18, eo18⟩ := Kd.R_slice HO1076.out
    (first | subst eo18 | (injection eo18 with f1_ f2_ f3_; have f4_ := f1_.symm; have f5_ := f3_.symm; clear f1_ f2_ f3_; subst f4_; subst f5_))
    obtain ⟨Ao19, co19, eo19⟩ := Kd.R_slice HO1072.out
    (first | subst eo19 | (injection eo19 with f1_ f2_ f3_; have f4_ := f1_.symm; have f5_ := f3_.symm; clear f1_ f2_ f3_; subst f4_; subst f5_))
    refine norm_ (a' := ?_) ?_ ?_
    rotate_left
    ·simp only [putAll, Act.put, ls, lz, ln]
     rfl
    refine on_ 9 (some 4) (bl 11 1023) HT_ (fun K hK => ?_)
    refine box_step ?hg (N := 4) ?hd (cs := #[.int .i64 0, .slice none 0 0, .slice none 0 0]) (t := 26) ?hr ?_; (case hd => rfl); (case hg => rfl); (case hr => first | (go_simp; done) | (go_simp; rfl))
    intro gb1077 hg w20 hbox hb
    replace HO1072 := xR HO1072 hb
    replace HO1076 := xR HO1076 hb
    have BK1077 := zA (hbox)
    have GW1077 := gq HB hg
    have GE1077 := gq HB hg
    replace HB := xH HB hb
    have NB1067_1077 := zA ((by rw [hg]; exact neL BK1067 : gb1067 ≠ gb1077))
    have NB1077_1067 := zA ((by rw [hg]; exact neG BK1067 : gb1077 ≠ gb1067))
    replace BK1067 := xB BK1067 hb
    have NB1068_1077 := zA ((by rw [hg]; exact neL BK1068 : gb1068 ≠ gb1077))
    have NB1077_1068 := zA ((by rw [hg]; exact neG BK1068 : gb1077 ≠ gb1068))
    replace BK1068 := xB BK1068 hb
    have := geI GE1077
    clear hb hbox hg
    refine hK.out _ _ ⟨bcu BK1067 0, bcu BK1067 1, bcu BK1067 2, (hcu HB hw1073_0)⟩ (fun hHeld => ?_)
    clear hK K
    refine no_ 4 ?_
    exact norm_ (by first | (simp only [putAll, Act.put, ls, lz, ln]; done) | (simp only [putAll, Act.put, ls, lz, ln]; rfl)) (hJ2_7_9 (.slice Ao19 y1070.length co19, .slice Ao18 y1074.length co18, gb1077) _ ⟨hHeld, (uR HO1072.out), (uR HO1076.out), (uB BK1067.out), (uB BK1068.out), (uB BK1077.out), GW1077.out, GE1077.out, NB1067_1077.out, NB1077_1067.out, NB1068_1077.out, NB1077_1068.out, (uH HB.out)⟩)
  rintro ⟨v1071, v1075, gb1077⟩ w18 ⟨hS_, h0_, h1_, h2_, h3_, h4_, h5_, h6_, h7_, h8_, h9_, h10_, h11_⟩
  have n0_ : Aside0 (Kd.R (Kd.int .i64) 2 w18 w.heap.size (fun k_ => some k_ ≠ (v1075 : Value).ownBlock) v1071 y1070) := ⟨h0_⟩
  have n1_ : Aside0 (Kd.R (Kd.int .i64) 2 w18 w.heap.size (fun k_ => some k_ ≠ (v1071 : Value).ownBlock) v1075 y1074) := ⟨h1_⟩
  have n2_ : Aside0 (w18.heap[gb1067]? = some (.cells #[.int .i64 a0_0, .slice A0_1 l0_1.length c0_1, .slice (some ad1073) l0_2.length c0_2] 26 (0, 0))) := ⟨h2_⟩
  have n3_ : Aside0 (w18.heap[gb1068]? = some (.cells #[.int .i64 0, .slice none 0 0, .slice none 0 0] 26 (0, 0))) := ⟨h3_⟩
  have n4_ : Aside0 (w18.heap[gb1077]? = some (.cells #[.int .i64 0, .slice none 0 0, .slice none 0 0] 26 (0, 0))) := ⟨h4_⟩
  have n5_ : Aside0 (w.heap.size ≤ gb1077) := ⟨h5_⟩
  have n6_ : Aside0 (w.heap.size ≤ gb1077) := ⟨h6_⟩
  have n7_ : Aside0 (gb1067 ≠ gb1077) := ⟨h7_⟩
  have n8_ : Aside0 (gb1077 ≠ gb1067) := ⟨h8_⟩
  have n9_ : Aside0 (gb1068 ≠ gb1077) := ⟨h9_⟩
  have n10_ : Aside0 (gb1077 ≠ gb1068) := ⟨h10_⟩
  have n11_ : Aside0 (Below w.heap.size w w18) := ⟨h11_⟩
  clear BK1067 BK1068 HB
  clear h0_ h1_ h2_ h3_ h4_ h5_ h6_ h7_ h8_ h9_ h10_ h11_
  have HO1072 := n0_
  have HO1076 := n1_
  have BK1067 := n2_
  have BK1068 := n3_
  have BK1077 := n4_
  have GW1077 := n5_
  have GE1077 := n6_
  have := geI GE1077
  have NB1067_1077 := n7_
  have NB1077_1067 := n8_
  have NB1068_1077 := n9_
  have NB1077_1068 := n10_
  have HB := n11_
  clear n0_ n1_ n2_ n3_ n4_ n5_ n6_ n7_ n8_ n9_ n10_ n11_
  have hHeld : w18.cell? ⟨gb1067, 0, none⟩ = some (.int .i64 a0_0) ∧ w18.cell? ⟨gb1067, 1, none⟩ = some (.slice A0_1 l0_1.length c0_1) ∧ w18.cell? ⟨gb1067, 2, none⟩ = some (.slice (some ad1073) l0_2.length c0_2) ∧ w18.cell? ad1073 = some (.int .i64 (rd l0_2 0)) := hS_
  obtain ⟨Ao19, co19, eo19⟩ := Kd.R_slice HO1076.out
  (first | subst eo19 | (injection eo19 with f1_ f2_ f3_; have f4_ := f1_.symm; have f5_ := f3_.symm; clear f1_ f2_ f3_; subst f4_; subst f5_))
  obtain ⟨Ao20, co20, eo20⟩ := Kd.R_slice HO1072.out
  (first | subst eo20 | (injection eo20 with f1_ f2_ f3_; have f4_ := f1_.symm; have f5_ := f3_.symm; clear f1_ f2_ f3_; subst f4_; subst f5_))
  refine norm_ (a' := ?_) ?_ ?_
  rotate_left
  ·simp only [putAll, Act.put, ls, lz, ln]
   rfl
  refine on_ 10 (none) (bl 11 2047) HT_ (fun K hK => ?_)
  have hs21 : w18.cell? ⟨gb1077, 0, none⟩ = some (.int .i64 0) := (blk_cell BK1077.out 0).trans rfl
  have hfs21 := bf BK1077 0
  have hns21_0 := NB1067_1077.out; have hns21_1 := NB1068_1077.out; have hms21_0 := NB1077_1067.out; have hms21_1 := NB1077_1068.out
  have hs22 : w18.cell? ⟨gb1077, 1, none⟩ = some (.slice none 0 0) := (blk_cell BK1077.out 1).trans rfl
  have hfs22 := bf BK1077 1
  have hns22_0 := NB1067_1077.out; have hns22_1 := NB1068_1077.out; have hms22_0 := NB1077_1067.out; have hms22_1 := NB1077_1068.out
  have hs23 : w18.cell? ⟨gb1077, 2, none⟩ = some (.slice none 0 0) := (blk_cell BK1077.out 2).trans rfl
  have hfs23 := bf BK1077 2
  have hns23_0 := NB1067_1077.out; have hns23_1 := NB1068_1077.out; have hms23_0 := NB1077_1067.out; have hms23_1 := NB1077_1068.out
  refine skip_ (w1 := ?_) (by rfl) rfl ?_ ?_
  rotate_left
  ·go_simp
   rfl
  refine hK.out _ _ ⟨((cell_far (p := ⟨gb1077, _, none⟩) NB1067_1077.out _).trans (((cell_far (p := ⟨gb1077, _, none⟩) NB1067_1077.out _).trans (((cell_far (p := ⟨gb1077, _, none⟩) NB1067_1077.out _).trans (hHeld.1)))))), ((cell_far (p := ⟨gb1077, _, none⟩) NB1067_1077.out _).trans (((cell_far (p := ⟨gb1077, _, none⟩) NB1067_1077.out _).trans (((cell_far (p := ⟨gb1077, _, none⟩) NB1067_1077.out _).trans (hHeld.2.1)))))), ((cell_far (p := ⟨gb1077, _, none⟩) NB1067_1077.out _).trans (((cell_far (p := ⟨gb1077, _, none⟩) NB1067_1077.out _).trans (((cell_far (p := ⟨gb1077, _, none⟩) NB1067_1077.out _).trans (hHeld.2.2.1)))))), ((cell_far (p := ⟨gb1077, _, none⟩) (by first | exact Nat.ne_of_lt (Nat.lt_of_lt_of_le (by have := World.block_lt_of_cell? _ _ hw1073_0; first | rwa [add_block] at this | exact this) GW1077.out) | (rw [add_block]; exact Nat.ne_of_lt (Nat.lt_of_lt_of_le (by have := World.block_lt_of_cell? _ _ hw1073_0; first | rwa [add_block] at this | exact this) GW1077.out)) | (show (Addr.add _ _).block ≠ _; rw [add_block]; exact Nat.ne_of_lt (Nat.lt_of_lt_of_le (by have := World.block_lt_of_cell? _ _ hw1073_0; first | rwa [add_block] at this | exact this) GW1077.out)) | (dsimp only; exact Nat.ne_of_lt (Nat.lt_of_lt_of_le (by have := World.block_lt_of_cell? _ _ hw1073_0; first | rwa [add_block] at this | exact this) GW1077.out))) _).trans (((cell_far (p := ⟨gb1077, _, none⟩) (by first | exact Nat.ne_of_lt (Nat.lt_of_lt_of_le (by have := World.block_lt_of_cell? _ _ hw1073_0; first | rwa [add_block] at this | exact this) GW1077.out) | (rw [add_block]; exact Nat.ne_of_lt (Nat.lt_of_lt_of_le (by have := World.block_lt_of_cell? _ _ hw1073_0; first | rwa [add_block] at this | exact this) GW1077.out)) | (show (Addr.add _ _).block ≠ _; rw [add_block]; exact Nat.ne_of_lt (Nat.lt_of_lt_of_le (by have := World.block_lt_of_cell? _ _ hw1073_0; first | rwa [add_block] at this | exact this) GW1077.out)) | (dsimp only; exact Nat.ne_of_lt (Nat.lt_of_lt_of_le (by have := World.block_lt_of_cell? _ _ hw1073_0; first | rwa [add_block] at this | exact this) GW1077.out))) _).trans (((cell_far (p := ⟨gb1077, _, none⟩) (by first | exact Nat.ne_of_lt (Nat.lt_of_lt_of_le (by have := World.block_lt_of_cell? _ _ hw1073_0; first | rwa [add_block] at this | exact this) GW1077.out) | (rw [add_block]; exact Nat.ne_of_lt (Nat.lt_of_lt_of_le (by have := World.block_lt_of_cell? _ _ hw1073_0; first | rwa [add_block] at this | exact this) GW1077.out)) | (show (Addr.add _ _).block ≠ _; rw [add_block]; exact Nat.ne_of_lt (Nat.lt_of_lt_of_le (by have := World.block_lt_of_cell? _ _ hw1073_0; first | rwa [add_block] at this | exact this) GW1077.out)) | (dsimp only; exact Nat.ne_of_lt (Nat.lt_of_lt_of_le (by have := World.block_lt_of_cell? _ _ hw1073_0; first | rwa [add_block] at this | exact this) GW1077.out))) _).trans (hHeld.2.2.2))))))⟩ (fun hHeld => ?_)
  clear hK K
  refine done_ (done_of HT_.out (by kernel_rfl)) ?_
  have hnb24 := NB1067_1077.out; have hnc24 := NB1077_1067.out
  have hcz25_0 := bc BK1067 0
  have hcz25_1 := bc BK1067 1
  have hcz25_2 := bc BK1067 2
  have hfz25_0 := bf BK1067 0
  have hfz25_1 := bf BK1067 1
  have hfz25_2 := bf BK1067 2
  try go_wp2
  go_loopg [5] k (fun kq v5 w' => ∃ (x5_1 : Int) (x1078001_1 : List Int) (x1078002_1 : List Int) (u1078001 : Value) (u1078002 : Value), v5 = .int .i64 x5_1 ∧ Aside0 (spec_ReverseJacobi.l0 kq x5_1 a0_0 l0_1 l0_2 a0_0 x1078001_1 x1078002_1 = some (r1, r2, r3, r4)) ∧ Aside0 (kq ≤ k) ∧ Aside0 (Kd.R (Kd.int .i64) 2 w' w.heap.size (fun k_ => some k_ ≠ (u1078002 : Value).ownBlock) u1078001 x1078001_1) ∧ Aside0 (Kd.R (Kd.int .i64) 2 w' w.heap.size (fun k_ => some k_ ≠ (u1078001 : Value).ownBlock) u1078002 x1078002_1) ∧ Aside0 (w'.heap[gb1067]? = some (.cells #[.int .i64 a0_0, (.slice A0_1 l0_1.length c0_1), (.slice (some ad1073) l0_2.length c0_2)] 26 (0, 0))) ∧ Aside0 (w'.heap[gb1068]? = some (.cells #[.int .i64 0, (.slice none 0 0), (.slice none 0 0)] 26 (0, 0))) ∧ Aside0 (w'.heap[gb1077]? = some (.cells #[.int .i64 a0_0, u1078001, u1078002] 26 (0, 0))) ∧ Aside0 (Below w.heap.size w w'))
  case atStart => exact ⟨(wrap64 ((l0_1.length : Int) - 1)), (y1070), (y1074), (.slice Ao20 y1070.length co20), (.slice Ao19 y1074.length co19), (by first | rfl | (simp; done) | (simp [*]; done)), H', ⟨Nat.le_refl _⟩, ⟨uR (rf3 HO1072 BK1077 (by decide) (.int .i64 a0_0) (.slice Ao20 y1070.length co20) (.slice Ao19 y1074.length co19))⟩, ⟨uR (rf3 HO1076 BK1077 (by decide) (.int .i64 a0_0) (.slice Ao20 y1070.length co20) (.slice Ao19 y1074.length co19))⟩, ⟨by (repeat refine up1 ?_); refine blk_far ?_ NB1067_1077.out _; (repeat refine up1 ?_); refine blk_far ?_ NB1067_1077.out _; (repeat refine up1 ?_); refine blk_far ?_ NB1067_1077.out _; (repeat refine up1 ?_); exact BK1067.out⟩, ⟨by (repeat refine up1 ?_); refine blk_far ?_ NB1068_1077.out _; (repeat refine up1 ?_); refine blk_far ?_ NB1068_1077.out _; (repeat refine up1 ?_); refine blk_far ?_ NB1068_1077.out _; (repeat refine up1 ?_); exact BK1068.out⟩, ⟨by (repeat refine up1 ?_); refine blk_put (cs := #[.int .i64 a0_0, .slice Ao20 y1070.length co20, .slice none 0 0]) ?_ 2 _ rfl; (repeat refine up1 ?_); refine blk_put (cs := #[.int .i64 a0_0, .slice none 0 0, .slice none 0 0]) ?_ 1 _ rfl; (repeat refine up1 ?_); refine blk_put (cs := #[.int .i64 0, .slice none 0 0, .slice none 0 0]) ?_ 0 _ rfl; (repeat refine up1 ?_); exact BK1077.out⟩, ⟨uH HB.out⟩⟩
  case round =>
   clear H'
   (try clear c2);(try clear p2);(try clear p6);(try clear c24);(try clear hcz25_0);(try clear hcz25_1);(try clear hcz25_2);(try clear hfz25_0);(try clear hfz25_1);(try clear hfz25_2)
   obtain ⟨x5_1, x1078001_1, x1078002_1, u1078001, u1078002, rfl, HA, HK1, HO_1078001, HO_1078002, BK1067, BK1068, BK1077, HB⟩ := hrel
   cases gk with
   | zero => exact absurd HA.out (by simp [spec_ReverseJacobi.l0])
   | succ k1 =>
    have H := HA.out
    clear HA
    simp only [spec_ReverseJacobi.l0] at H
    by_cases c26 : x5_1 ≥ 0
    rotate_left
    ·rw [if_neg c26] at H
     have c26b0 : decide (0 ≤ x5_1) = false := decide_eq_false c26
     clear c26
     simp only [Option.some.injEq, Prod.mk.injEq] at H
     obtain ⟨rfl, rfl, rfl, rfl⟩ := H
     have hnb46 := NB1077_1067.out; have hnc46 := NB1067_1077.out; have hnb47 := NB1077_1068.out; have hnc47 := NB1068_1077.out
     have hcz48_0 := bc BK1077 0
     have hcz48_1 := bc BK1077 1
     have hcz48_2 := bc BK1077 2
     have hfz48_0 := bf BK1077 0
     have hfz48_1 := bf BK1077 1
     have hfz48_2 := bf BK1077 2
     have hnb49 := NB1068_1067.out; have hnc49 := NB1067_1068.out
     have hcz50_0 := bc BK1068 0
     have hcz50_1 := bc BK1068 1
     have hcz50_2 := bc BK1068 2
     have hfz50_0 := bf BK1068 0
     have hfz50_1 := bf BK1068 1
     have hfz50_2 := bf BK1068 2
     obtain ⟨Ao51, co51, eo51⟩ := Kd.R_slice HO_1078001.out
     subst eo51
     obtain ⟨Ao52, co52, eo52⟩ := Kd.R_slice HO_1078002.out
     subst eo52
     go_wp2
     refine bodyPost_ret (results_ct rfl _ _ gb1068 26 #[.int .i64 a0_0, .slice Ao51 x1078001_1.length co51, .slice Ao52 x1078002_1.length co52] (0, 0) _ rfl (by (repeat refine up1 ?_); refine blk_put (cs := #[.int .i64 a0_0, .slice Ao51 x1078001_1.length co51, .slice none 0 0]) ?_ 2 _ rfl; (repeat refine up1 ?_); refine blk_put (cs := #[.int .i64 a0_0, .slice none 0 0, .slice none 0 0]) ?_ 1 _ rfl; (repeat refine up1 ?_); refine blk_put (cs := #[.int .i64 0, .slice none 0 0, .slice none 0 0]) ?_ 0 _ rfl; (repeat refine up1 ?_); exact BK1068.out) Try.underlying26 rfl (by kernel_rfl)) rfl ?_
     exact ⟨_, _, by first | rfl | (simp [errW_none, errW_some] <;> rfl) | (simp [*, errW_none, errW_some] <;> rfl), uR (rf3 HO_1078001 BK1068 (by decide) (.int .i64 a0_0) (.slice Ao51 x1078001_1.length co51) (.slice Ao52 x1078002_1.length co52)), uR (rf3 HO_1078002 BK1068 (by decide) (.int .i64 a0_0) (.slice Ao51 x1078001_1.length co51) (.slice Ao52 x1078002_1.length co52)), uH HB.out⟩
    rw [if_pos c26] at H
    have c26b0 : decide (0 ≤ x5_1) = true := decide_eq_true c26
    clear c26
    by_cases c27 : 0 ≤ x5_1
    rotate_left
    ·rw [if_neg c27] at H
     exact absurd H (by simp)
    rw [if_pos c27] at H
    have c27b0 : decide (0 ≤ x5_1) = true := decide_eq_true c27
    clear c27
    by_cases c28 : x5_1 < (l0_1.length : Int)
    rotate_left
    ·rw [if_neg c28] at H
     exact absurd H (by simp)
    rw [if_pos c28] at H
    have c28b0 : decide (x5_1 < (l0_1.length : Int)) = true := decide_eq_true c28
    clear c28
    by_cases c29 : x1078001_1.length < 17592186044416
    rotate_left
    ·rw [if_neg c29] at H
     exact absurd H (by simp)
    rw [if_pos c29] at H
    have LMc29 := zA c29
    clear c29
    obtain ⟨y1079, hy1079⟩ : ∃ y_ : List Int, y_ = (x1078001_1 ++ [rd l0_1 x5_1]) := ⟨_, rfl⟩
    replace H : (if x5_1 > 0 then (if x5_1 < (l0_2.length : Int) then (if x1078002_1.length < 17592186044416 then (spec_ReverseJacobi.l0 k1 (wrap64 (x5_1 - 1)) a0_0 l0_1 l0_2 a0_0 y1079 (x1078002_1 ++ [rd l0_2 x5_1])) else (none)) else (none)) else (spec_ReverseJacobi.l0 k1 (wrap64 (x5_1 - 1)) a0_0 l0_1 l0_2 a0_0 y1079 x1078002_1)) = some (r1, r2, r3, r4) := by first | (rw [hy1079]; exact H) | exact H
    have Ny1079 := zA hy1079
    clear hy1079
    by_cases c30 : x5_1 > 0
    rotate_left
    ·rw [if_neg c30] at H
     have c30b0 : decide (0 < x5_1) = false := decide_eq_false c30
     clear c30
     have H' := zA H
     clear H
     try go_wp2
     replace HO_1078001 := zA (Kd.R_drew HO_1078001.out)
     replace HO_1078002 := zA (Kd.R_drew HO_1078002.out)
     replace BK1067 := zA (blk_drew BK1067.out)
     replace BK1068 := zA (blk_drew BK1068.out)
     replace BK1077 := zA (blk_drew BK1077.out)
     replace HB := zA (below_drew1 HB.out)
     have p1078 : 0 ≤ (x5_1 : Int) := of_decide_eq_true (by first | (with_reducible assumption) | assumption)
     have q1078 : x5_1 < (l0_1.length : Int) := of_decide_eq_true (by first | (with_reducible assumption) | assumption)
     obtain ⟨ad1078, e1078, hx1078_0⟩ := Kd.at_int HR0_1.out x5_1 p1078 q1078
     have hw1078_0 := hx1078_0
     cases e1078
     replace hx1078_0 := hc HB hx1078_0
     replace p1078 := eq_true p1078
     replace q1078 := eq_true q1078
     refine start_ (n := 11) (S := fun w' => w'.cell? ⟨gb1077, 0, none⟩ = some (.int .i64 a0_0) ∧ w'.cell? ⟨gb1077, 1, none⟩ = some (u1078001) ∧ w'.cell? ⟨gb1077, 2, none⟩ = some (u1078002) ∧ w'.cell? ⟨gb1067, 0, none⟩ = some (.int .i64 a0_0) ∧ w'.cell? ⟨gb1067, 1, none⟩ = some (.slice (some ad1078) l0_1.length c0_1) ∧ w'.cell? ⟨gb1067, 2, none⟩ = some (.slice (some ad1073) l0_2.length c0_2) ∧ w'.cell? (ad1078.add (x5_1).toNat) = some (.int .i64 (rd l0_1 x5_1))) (ds := [10]) #[false, false, false, false, false, false, false, false, false, false, false] (by kernel_rfl) rfl rfl ⟨bcu BK1077 0, bcu BK1077 1, bcu BK1077 2, bcu BK1067 0, bcu BK1067 1, bcu BK1067 2, (hcu HB hw1078_0)⟩ (fun hHeld => ?_); refine with_tabW spec_ReverseJacobi.tab7 spec_ReverseJacobi.bits7 (fun HT_ HW_ => ?_)
     generalize wr.drew = w42 at HO_1078001 HO_1078002 BK1067 BK1068 BK1077 HB hx1078_0 hHeld ⊢
     refine pu_ 0 27 (bl 11 1) HT_ ?_
     refine pu_ 2 29 (bl 11 5) HT_ ?_
     refine pu_ 4 31 (bl 11 21) HT_ ?_
     refine ta_ 1 28 (bl 11 23) HT_ HW_ hHeld ?_
     refine ta_ 3 30 (bl 11 31) HT_ HW_ hHeld ?_
     refine pu_ 5 32 (bl 11 63) HT_ ?_
     refine ta_ 6 33 (bl 11 127) HT_ HW_ hHeld ?_
     refine on_ 7 (some 34) (bl 11 255) HT_ (fun K hK => ?_)
     refine value_ (w1 := ?_) (v := ?_) (by rfl) rfl ?_ ?_
     rotate_left 2
     ·go_simp
      constructor
      ·rfl
      ·rfl
     refine hK.out _ _ ⟨(blk_cell (blk_alloc BK1077.out _) 0).trans rfl, (blk_cell (blk_alloc BK1077.out _) 1).trans rfl, (blk_cell (blk_alloc BK1077.out _) 2).trans rfl, (blk_cell (blk_alloc BK1067.out _) 0).trans rfl, (blk_cell (blk_alloc BK1067.out _) 1).trans rfl, (blk_cell (blk_alloc BK1067.out _) 2).trans rfl, (World.cell?_alloc_lt _ _ _ (World.block_lt_of_cell? _ _ ((hcu HB hw1078_0)))).trans ((hcu HB hw1078_0))⟩ (fun hHeld => ?_)
     clear hK K
     refine no_ 34 ?_
     refine on_ 8 (some 35) (bl 11 511) HT_ (fun K hK => ?_)
     refine Kd.R_append_step (Kd.int .i64) (w0 := w) w.heap.size (by rfl) (.tmp 28) (.tmp 34) 22 2 (.int .i64 0) 8 rfl Try.underlying22 info2 rfl (by decide) (by omega) u1078001 x1078001_1 (rd l0_1 x5_1) [.int .i64 (rd l0_1 x5_1)] (fun k_ => some k_ ≠ (u1078002 : Value).ownBlock) (fun _ => False) rfl rfl ?aP (fun _ hk => hk.elim) ?aF ?aO ?aB ?aS ?aL ?_
     (case aP => exact rfl)
     (case aB => exact (uH HB.out))
     (case aF => exact (fun k_ hk => Kd.fresh' (Kd.R_lt (uR HO_1078002.out)) k_ hk))
     (case aO => exact (uR HO_1078001.out))
     (case aS => exact (below_size (uH HB.out)))
     (case aL => have := LMc29.out; omega)
     intro v1080 w43 ho hb hg hat
     rw [← Ny1079.out] at ho
     replace HO_1078002 := zA (Kd.R_after (ok := (fun _ => True)) (uR (Kd.R_mono HO_1078002.out (fun _ hk => ⟨trivial, hk⟩))) hg hat)
     replace BK1067 := zA (blk_grown (g := gb1067) (o := .cells #[.int .i64 a0_0, .slice (some ad1078) l0_1.length c0_1, .slice (some ad1073) l0_2.length c0_2] 26 (0, 0)) (uB BK1067.out) hg (Kd.R_ne HO_1078001.out BK1067.out (by decide)))
     replace BK1068 := zA (blk_grown (g := gb1068) (o := .cells #[.int .i64 0, .slice none 0 0, .slice none 0 0] 26 (0, 0)) (uB BK1068.out) hg (Kd.R_ne HO_1078001.out BK1068.out (by decide)))
     replace BK1077 := zA (blk_grown (g := gb1077) (o := .cells #[.int .i64 a0_0, u1078001, u1078002] 26 (0, 0)) (uB BK1077.out) hg (Kd.R_ne HO_1078001.out BK1077.out (by decide)))
     replace HB := zA (hb)
     have HO1081 := zA (ho)
     clear HO_1078001
     clear ho hb hg hat
     obtain ⟨Ao44, co44, eo44⟩ := Kd.R_slice HO1081.out
     (first | subst eo44 | (injection eo44 with f1_ f2_ f3_; have f4_ := f1_.symm; have f5_ := f3_.symm; clear f1_ f2_ f3_; subst f4_; subst f5_))
     refine hK.out _ _ ⟨bcu BK1077 0, bcu BK1077 1, bcu BK1077 2, bcu BK1067 0, bcu BK1067 1, bcu BK1067 2, (hcu HB hw1078_0)⟩ (fun hHeld => ?_)
     clear hK K
     refine no_ 35 ?_
     refine pu_ 9 36 (bl 11 1023) HT_ ?_
     refine last_ (i := 10) (N := none) (bl 11 2047) rfl rfl (one_of HT_.out (by kernel_rfl)) (by decide) (fun K hK => ?_)
     have hs45 : w43.cell? ⟨gb1077, 1, none⟩ = some (u1078001) := (blk_cell BK1077.out 1).trans rfl
     have hfs45 := bf BK1077 1
     have hns45_0 := NB1067_1077.out; have hns45_1 := NB1068_1077.out; have hms45_0 := NB1077_1067.out; have hms45_1 := NB1077_1068.out
     refine skip_ (w1 := ?_) (by rfl) rfl ?_ ?_
     rotate_left
     ·go_simp
      rfl
     refine hK.out _ _ ?_
     clear hK K
     refine done_ (done_of HT_.out (by kernel_rfl)) ?_
     try go_wp2
     go_roundg k1
     case measure => have := HK1.out; omega
     case rel => exact ⟨(wrap64 (x5_1 - 1)), (y1079), (x1078002_1), (.slice Ao44 y1079.length co44), (u1078002), (by first | rfl | (simp; done) | (simp [*]; done)), H', ⟨by have := HK1.out; omega⟩, ⟨uR (Kd.R_mono (Kd.R_far (p := ⟨gb1077, 1, none⟩) (Kd.R_types HO1081.out BK1077.out (by decide)) (fun _ hk => hk.2) (.slice Ao44 y1079.length co44)) (fun _ hk => hk.1))⟩, ⟨uR (Kd.R_mono (Kd.R_far (p := ⟨gb1077, 1, none⟩) (Kd.R_types HO_1078002.out BK1077.out (by decide)) (fun _ hk => hk.2) (.slice Ao44 y1079.length co44)) (fun _ hk => hk.1.2))⟩, ⟨by (repeat refine up1 ?_); refine blk_far ?_ NB1067_1077.out _; (repeat refine up1 ?_); exact BK1067.out⟩, ⟨by (repeat refine up1 ?_); refine blk_far ?_ NB1068_1077.out _; (repeat refine up1 ?_); exact BK1068.out⟩, ⟨by (repeat refine up1 ?_); refine blk_put (cs := #[.int .i64 a0_0, u1078001, u1078002]) ?_ 1 _ rfl; (repeat refine up1 ?_); exact BK1077.out⟩, ⟨uH HB.out⟩⟩
    rw [if_pos c30] at H
    have c30b0 : decide (0 < x5_1) = true := decide_eq_true c30
    clear c30
    by_cases c31 : x5_1 < (l0_2.length : Int)
    rotate_left
    ·rw [if_neg c31] at H
     exact absurd H (by simp)
    rw [if_pos c31] at H
    have c31b0 : decide (x5_1 < (l0_2.length : Int)) = true := decide_eq_true c31
    clear c31
    by_cases c32 : x1078002_1.length < 17592186044416
    rotate_left
    ·rw [if_neg c32] at H
     exact absurd H (by simp)
    rw [if_pos c32] at H
    have LMc32 := zA c32
    clear c32
    obtain ⟨y1083, hy1083⟩ : ∃ y_ : List Int, y_ = (x1078002_1 ++ [rd l0_2 x5_1]) := ⟨_, rfl⟩
    replace H : (spec_ReverseJacobi.l0 k1 (wrap64 (x5_1 - 1)) a0_0 l0_1 l0_2 a0_0 y1079 y1083) = some (r1, r2, r3, r4) := by first | (rw [hy1083]; exact H) | exact H
    have Ny1083 := zA hy1083
    clear hy1083
    have H' := zA H
    clear H
    try go_wp2
    replace HO_1078001 := zA (Kd.R_drew HO_1078001.out)
    replace HO_1078002 := zA (Kd.R_drew HO_1078002.out)
    replace BK1067 := zA (blk_drew BK1067.out)
    replace BK1068 := zA (blk_drew BK1068.out)
    replace BK1077 := zA (blk_drew BK1077.out)
    replace HB := zA (below_drew1 HB.out)
    have p1078 : 0 ≤ (x5_1 : Int) := of_decide_eq_true (by first | (with_reducible assumption) | assumption)
    have q1078 : x5_1 < (l0_1.length : Int) := of_decide_eq_true (by first | (with_reducible assumption) | assumption)
    obtain ⟨ad1078, e1078, hx1078_0⟩ := Kd.at_int HR0_1.out x5_1 p1078 q1078
    have hw1078_0 := hx1078_0
    cases e1078
    replace hx1078_0 := hc HB hx1078_0
    replace p1078 := eq_true p1078
    replace q1078 := eq_true q1078
    refine start_ (n := 11) (S := fun w' => w'.cell? ⟨gb1077, 0, none⟩ = some (.int .i64 a0_0) ∧ w'.cell? ⟨gb1077, 1, none⟩ = some (u1078001) ∧ w'.cell? ⟨gb1077, 2, none⟩ = some (u1078002) ∧ w'.cell? ⟨gb1067, 0, none⟩ = some (.int .i64 a0_0) ∧ w'.cell? ⟨gb1067, 1, none⟩ = some (.slice (some ad1078) l0_1.length c0_1) ∧ w'.cell? ⟨gb1067, 2, none⟩ = some (.slice (some ad1073) l0_2.length c0_2) ∧ w'.cell? (ad1078.add (x5_1).toNat) = some (.int .i64 (rd l0_1 x5_1))) (ds := [10]) #[false, false, false, false, false, false, false, false, false, false, false] (by kernel_rfl) rfl rfl ⟨bcu BK1077 0, bcu BK1077 1, bcu BK1077 2, bcu BK1067 0, bcu BK1067 1, bcu BK1067 2, (hcu HB hw1078_0)⟩ (fun hHeld => ?_); refine with_tabW spec_ReverseJacobi.tab7 spec_ReverseJacobi.bits7 (fun HT_ HW_ => ?_)
    generalize wr.drew = w33 at HO_1078001 HO_1078002 BK1067 BK1068 BK1077 HB hx1078_0 hHeld ⊢
    refine pu_ 0 27 (bl 11 1) HT_ ?_
    refine pu_ 2 29 (bl 11 5) HT_ ?_
    refine pu_ 4 31 (bl 11 21) HT_ ?_
    refine ta_ 1 28 (bl 11 23) HT_ HW_ hHeld ?_
    refine ta_ 3 30 (bl 11 31) HT_ HW_ hHeld ?_
    refine pu_ 5 32 (bl 11 63) HT_ ?_
    refine ta_ 6 33 (bl 11 127) HT_ HW_ hHeld ?_
    refine on_ 7 (some 34) (bl 11 255) HT_ (fun K hK => ?_)
    refine value_ (w1 := ?_) (v := ?_) (by rfl) rfl ?_ ?_
    rotate_left 2
    ·go_simp
     constructor
     ·rfl
     ·rfl
    refine hK.out _ _ ⟨(blk_cell (blk_alloc BK1077.out _) 0).trans rfl, (blk_cell (blk_alloc BK1077.out _) 1).trans rfl, (blk_cell (blk_alloc BK1077.out _) 2).trans rfl, (blk_cell (blk_alloc BK1067.out _) 0).trans rfl, (blk_cell (blk_alloc BK1067.out _) 1).trans rfl, (blk_cell (blk_alloc BK1067.out _) 2).trans rfl, (World.cell?_alloc_lt _ _ _ (World.block_lt_of_cell? _ _ ((hcu HB hw1078_0)))).trans ((hcu HB hw1078_0))⟩ (fun hHeld => ?_)
    clear hK K
    refine no_ 34 ?_
    refine on_ 8 (some 35) (bl 11 511) HT_ (fun K hK => ?_)
    refine Kd.R_append_step (Kd.int .i64) (w0 := w) w.heap.size (by rfl) (.tmp 28) (.tmp 34) 22 2 (.int .i64 0) 8 rfl Try.underlying22 info2 rfl (by decide) (by omega) u1078001 x1078001_1 (rd l0_1 x5_1) [.int .i64 (rd l0_1 x5_1)] (fun k_ => some k_ ≠ (u1078002 : Value).ownBlock) (fun _ => False) rfl rfl ?aP (fun _ hk => hk.elim) ?aF ?aO ?aB ?aS ?aL ?_
    (case aP => exact rfl)
    (case aB => exact (uH HB.out))
    (case aF => exact (fun k_ hk => Kd.fresh' (Kd.R_lt (uR HO_1078002.out)) k_ hk))
    (case aO => exact (uR HO_1078001.out))
    (case aS => exact (below_size (uH HB.out)))
    (case aL => have := LMc29.out; omega)
    intro v1080 w34 ho hb hg hat
    rw [← Ny1079.out] at ho
    replace HO_1078002 := zA (Kd.R_after (ok := (fun _ => True)) (uR (Kd.R_mono HO_1078002.out (fun _ hk => ⟨trivial, hk⟩))) hg hat)
    replace BK1067 := zA (blk_grown (g := gb1067) (o := .cells #[.int .i64 a0_0, .slice (some ad1078) l0_1.length c0_1, .slice (some ad1073) l0_2.length c0_2] 26 (0, 0)) (uB BK1067.out) hg (Kd.R_ne HO_1078001.out BK1067.out (by decide)))
    replace BK1068 := zA (blk_grown (g := gb1068) (o := .cells #[.int .i64 0, .slice none 0 0, .slice none 0 0] 26 (0, 0)) (uB BK1068.out) hg (Kd.R_ne HO_1078001.out BK1068.out (by decide)))
    replace BK1077 := zA (blk_grown (g := gb1077) (o := .cells #[.int .i64 a0_0, u1078001, u1078002] 26 (0, 0)) (uB BK1077.out) hg (Kd.R_ne HO_1078001.out BK1077.out (by decide)))
    replace HB := zA (hb)
    have HO1081 := zA (ho)
    clear HO_1078001
    clear ho hb hg hat
    obtain ⟨Ao35, co35, eo35⟩ := Kd.R_slice HO1081.out
    (first | subst eo35 | (injection eo35 with f1_ f2_ f3_; have f4_ := f1_.symm; have f5_ := f3_.symm; clear f1_ f2_ f3_; subst f4_; subst f5_))
    refine hK.out _ _ ⟨bcu BK1077 0, bcu BK1077 1, bcu BK1077 2, bcu BK1067 0, bcu BK1067 1, bcu BK1067 2, (hcu HB hw1078_0)⟩ (fun hHeld => ?_)
    clear hK K
    refine no_ 35 ?_
    refine pu_ 9 36 (bl 11 1023) HT_ ?_
    refine last_ (i := 10) (N := none) (bl 11 2047) rfl rfl (one_of HT_.out (by kernel_rfl)) (by decide) (fun K hK => ?_)
    have hs36 : w34.cell? ⟨gb1077, 1, none⟩ = some (u1078001) := (blk_cell BK1077.out 1).trans rfl
    have hfs36 := bf BK1077 1
    have hns36_0 := NB1067_1077.out; have hns36_1 := NB1068_1077.out; have hms36_0 := NB1077_1067.out; have hms36_1 := NB1077_1068.out
    refine skip_ (w1 := ?_) (by rfl) rfl ?_ ?_
    rotate_left
    ·go_simp
     rfl
    refine hK.out _ _ ?_
    clear hK K
    refine done_ (done_of HT_.out (by kernel_rfl)) ?_
    try go_wp2
    have n0_ : Aside0 (Kd.R (Kd.int .i64) 2 (w34.setCell ⟨gb1077, 1, none⟩ (.slice Ao35 y1079.length co35)) w.heap.size (fun k_ => ax k_ (.slice Ao35 y1079.length co35)) u1078002 x1078002_1) := ⟨uR (Kd.R_mono (Kd.R_far (p := ⟨gb1077, 1, none⟩) (Kd.R_types HO_1078002.out BK1077.out (by decide)) (fun _ hk => hk.2) (.slice Ao35 y1079.length co35)) (fun _ hk => hk.1.2))⟩
    have n1_ : Aside0 (Kd.R (Kd.int .i64) 2 (w34.setCell ⟨gb1077, 1, none⟩ (.slice Ao35 y1079.length co35)) w.heap.size (fun k_ => some k_ ≠ (u1078002 : Value).ownBlock) (.slice Ao35 y1079.length co35) y1079) := ⟨uR (Kd.R_mono (Kd.R_far (p := ⟨gb1077, 1, none⟩) (Kd.R_types HO1081.out BK1077.out (by decide)) (fun _ hk => hk.2) (.slice Ao35 y1079.length co35)) (fun _ hk => hk.1))⟩
    have n2_ : Aside0 ((w34.setCell ⟨gb1077, 1, none⟩ (.slice Ao35 y1079.length co35)).heap[gb1067]? = some (.cells #[.int .i64 a0_0, .slice (some ad1078) l0_1.length c0_1, .slice (some ad1073) l0_2.length c0_2] 26 (0, 0))) := ⟨by (repeat refine up1 ?_); refine blk_far ?_ NB1067_1077.out _; (repeat refine up1 ?_); exact BK1067.out⟩
    have n3_ : Aside0 ((w34.setCell ⟨gb1077, 1, none⟩ (.slice Ao35 y1079.length co35)).heap[gb1068]? = some (.cells #[.int .i64 0, .slice none 0 0, .slice none 0 0] 26 (0, 0))) := ⟨by (repeat refine up1 ?_); refine blk_far ?_ NB1068_1077.out _; (repeat refine up1 ?_); exact BK1068.out⟩
    have n4_ : Aside0 ((w34.setCell ⟨gb1077, 1, none⟩ (.slice Ao35 y1079.length co35)).heap[gb1077]? = some (.cells #[.int .i64 a0_0, .slice Ao35 y1079.length co35, u1078002] 26 (0, 0))) := ⟨by (repeat refine up1 ?_); refine blk_put (cs := #[.int .i64 a0_0, u1078001, u1078002]) ?_ 1 _ rfl; (repeat refine up1 ?_); exact BK1077.out⟩
    have n5_ : Aside0 (Below w.heap.size w (w34.setCell ⟨gb1077, 1, none⟩ (.slice Ao35 y1079.length co35))) := ⟨uH HB.out⟩
    (try clear HO_1078002); (try clear HO1081); (try clear BK1067); (try clear BK1068); (try clear BK1077); (try clear HB)
    (try rw [setCell_drewN])
    generalize (w34.setCell ⟨gb1077, 1, none⟩ (.slice Ao35 y1079.length co35)) = w37 at n0_ n1_ n2_ n3_ n4_ n5_ ⊢
    have HO_1078002 := n0_
    have HO1081 := n1_
    have BK1067 := n2_
    have BK1068 := n3_
    have BK1077 := n4_
    have HB := n5_
    clear n0_ n1_ n2_ n3_ n4_ n5_
    replace HO_1078002 := zA (Kd.R_drew HO_1078002.out)
    replace HO1081 := zA (Kd.R_drew HO1081.out)
    replace BK1067 := zA (blk_drew BK1067.out)
    replace BK1068 := zA (blk_drew BK1068.out)
    replace BK1077 := zA (blk_drew BK1077.out)
    replace HB := zA (below_drew1 HB.out)
    have p1082 : 0 ≤ (x5_1 : Int) := of_decide_eq_true (by first | (with_reducible assumption) | assumption)
    have q1082 : x5_1 < (l0_2.length : Int) := of_decide_eq_true (by first | (with_reducible assumption) | assumption)
    obtain ⟨ad1082, e1082, hx1082_0⟩ := Kd.at_int HR0_2.out x5_1 p1082 q1082
    have hw1082_0 := hx1082_0
    obtain rfl : ad1073 = ad1082 := (by injection e1082)
    replace hx1082_0 := hc HB hx1082_0
    replace p1082 := eq_true p1082
    replace q1082 := eq_true q1082
    refine start_ (n := 11) (S := fun w' => w'.cell? ⟨gb1077, 0, none⟩ = some (.int .i64 a0_0) ∧ w'.cell? ⟨gb1077, 1, none⟩ = some (.slice Ao35 y1079.length co35) ∧ w'.cell? ⟨gb1077, 2, none⟩ = some (u1078002) ∧ w'.cell? ⟨gb1067, 0, none⟩ = some (.int .i64 a0_0) ∧ w'.cell? ⟨gb1067, 1, none⟩ = some (.slice (some ad1078) l0_1.length c0_1) ∧ w'.cell? ⟨gb1067, 2, none⟩ = some (.slice (some ad1073) l0_2.length c0_2) ∧ w'.cell? (ad1073.add (x5_1).toNat) = some (.int .i64 (rd l0_2 x5_1))) (ds := [10]) #[false, false, false, false, false, false, false, false, false, false, false] (by kernel_rfl) rfl rfl ⟨bcu BK1077 0, bcu BK1077 1, bcu BK1077 2, bcu BK1067 0, bcu BK1067 1, bcu BK1067 2, (hcu HB hw1082_0)⟩ (fun hHeld => ?_); refine with_tabW spec_ReverseJacobi.tab9 spec_ReverseJacobi.bits9 (fun HT_ HW_ => ?_)
    generalize w37.drew = w38 at HO_1078002 HO1081 BK1067 BK1068 BK1077 HB hx1082_0 hHeld ⊢
    refine pu_ 0 39 (bl 11 1) HT_ ?_
    refine pu_ 2 41 (bl 11 5) HT_ ?_
    refine pu_ 4 43 (bl 11 21) HT_ ?_
    refine ta_ 1 40 (bl 11 23) HT_ HW_ hHeld ?_
    refine ta_ 3 42 (bl 11 31) HT_ HW_ hHeld ?_
    refine pu_ 5 44 (bl 11 63) HT_ ?_
    refine ta_ 6 45 (bl 11 127) HT_ HW_ hHeld ?_
    refine on_ 7 (some 46) (bl 11 255) HT_ (fun K hK => ?_)
    refine value_ (w1 := ?_) (v := ?_) (by rfl) rfl ?_ ?_
    rotate_left 2
    ·go_simp
     constructor
     ·rfl
     ·rfl
    refine hK.out _ _ ⟨(blk_cell (blk_alloc BK1077.out _) 0).trans rfl, (blk_cell (blk_alloc BK1077.out _) 1).trans rfl, (blk_cell (blk_alloc BK1077.out _) 2).trans rfl, (blk_cell (blk_alloc BK1067.out _) 0).trans rfl, (blk_cell (blk_alloc BK1067.out _) 1).trans rfl, (blk_cell (blk_alloc BK1067.out _) 2).trans rfl, (World.cell?_alloc_lt _ _ _ (World.block_lt_of_cell? _ _ ((hcu HB hw1082_0)))).trans ((hcu HB hw1082_0))⟩ (fun hHeld => ?_)
    clear hK K
    refine no_ 46 ?_
    refine on_ 8 (some 47) (bl 11 511) HT_ (fun K hK => ?_)
    refine Kd.R_append_step (Kd.int .i64) (w0 := w) w.heap.size (by rfl) (.tmp 40) (.tmp 46) 22 2 (.int .i64 0) 8 rfl Try.underlying22 info2 rfl (by decide) (by omega) u1078002 x1078002_1 (rd l0_2 x5_1) [.int .i64 (rd l0_2 x5_1)] (fun k_ => ax k_ (.slice Ao35 y1079.length co35)) (fun _ => False) rfl rfl ?aP (fun _ hk => hk.elim) ?aF ?aO ?aB ?aS ?aL ?_
    (case aP => exact rfl)
    (case aB => exact (uH HB.out))
    (case aF => exact (fun k_ hk => Kd.fresh' (Kd.R_lt (uR HO1081.out)) k_ hk))
    (case aO => exact (uR HO_1078002.out))
    (case aS => exact (below_size (uH HB.out)))
    (case aL => have := LMc32.out; omega)
    intro v1084 w39 ho hb hg hat
    rw [← Ny1083.out] at ho
    replace BK1067 := zA (blk_grown (g := gb1067) (o := .cells #[.int .i64 a0_0, .slice (some ad1078) l0_1.length c0_1, .slice (some ad1073) l0_2.length c0_2] 26 (0, 0)) (uB BK1067.out) hg (Kd.R_ne HO_1078002.out BK1067.out (by decide)))
    replace BK1068 := zA (blk_grown (g := gb1068) (o := .cells #[.int .i64 0, .slice none 0 0, .slice none 0 0] 26 (0, 0)) (uB BK1068.out) hg (Kd.R_ne HO_1078002.out BK1068.out (by decide)))
    replace BK1077 := zA (blk_grown (g := gb1077) (o := .cells #[.int .i64 a0_0, .slice Ao35 y1079.length co35, u1078002] 26 (0, 0)) (uB BK1077.out) hg (Kd.R_ne HO_1078002.out BK1077.out (by decide)))
    replace HO1081 := zA (Kd.R_after (ok := (fun _ => True)) (uR (Kd.R_mono HO1081.out (fun _ hk => ⟨trivial, hk⟩))) hg hat)
    replace HB := zA (hb)
    have HO1085 := zA (ho)
    clear HO_1078002
    clear ho hb hg hat
    obtain ⟨Ao40, co40, eo40⟩ := Kd.R_slice HO1085.out
    (first | subst eo40 | (injection eo40 with f1_ f2_ f3_; have f4_ := f1_.symm; have f5_ := f3_.symm; clear f1_ f2_ f3_; subst f4_; subst f5_))
    refine hK.out _ _ ⟨bcu BK1077 0, bcu BK1077 1, bcu BK1077 2, bcu BK1067 0, bcu BK1067 1, bcu BK1067 2, (hcu HB hw1082_0)⟩ (fun hHeld => ?_)
    clear hK K
    refine no_ 47 ?_
    refine pu_ 9 48 (bl 11 1023) HT_ ?_
    refine last_ (i := 10) (N := none) (bl 11 2047) rfl rfl (one_of HT_.out (by kernel_rfl)) (by decide) (fun K hK => ?_)
    have hs41 : w39.cell? ⟨gb1077, 2, none⟩ = some (u1078002) := (blk_cell BK1077.out 2).trans rfl
    have hfs41 := bf BK1077 2
    have hns41_0 := NB1067_1077.out; have hns41_1 := NB1068_1077.out; have hms41_0 := NB1077_1067.out; have hms41_1 := NB1077_1068.out
    refine skip_ (w1 := ?_) (by rfl) rfl ?_ ?_
    rotate_left
    ·go_simp
     rfl
    refine hK.out _ _ ?_
    clear hK K
    refine done_ (done_of HT_.out (by kernel_rfl)) ?_
    try go_wp2
    go_roundg k1
    case measure => have := HK1.out; omega
    case rel => exact ⟨(wrap64 (x5_1 - 1)), (y1079), (y1083), (.slice Ao35 y1079.length co35), (.slice Ao40 y1083.length co40), (by first | rfl | (simp; done) | (simp [*]; done)), H', ⟨by have := HK1.out; omega⟩, ⟨uR (Kd.R_mono (Kd.R_far (p := ⟨gb1077, 2, none⟩) (Kd.R_types HO1081.out BK1077.out (by decide)) (fun _ hk => hk.2) (.slice Ao40 y1083.length co40)) (fun _ hk => hk.1.2))⟩, ⟨uR (Kd.R_mono (Kd.R_far (p := ⟨gb1077, 2, none⟩) (Kd.R_types HO1085.out BK1077.out (by decide)) (fun _ hk => hk.2) (.slice Ao40 y1083.length co40)) (fun _ hk => hk.1))⟩, ⟨by (repeat refine up1 ?_); refine blk_far ?_ NB1067_1077.out _; (repeat refine up1 ?_); exact BK1067.out⟩, ⟨by (repeat refine up1 ?_); refine blk_far ?_ NB1068_1077.out _; (repeat refine up1 ?_); exact BK1068.out⟩, ⟨by (repeat refine up1 ?_); refine blk_put (cs := #[.int .i64 a0_0, .slice Ao35 y1079.length co35, u1078002]) ?_ 2 _ rfl; (repeat refine up1 ?_); exact BK1077.out⟩, ⟨uH HB.out⟩⟩
 ·replace c3 := Bool.eq_false_iff.mpr c3
  subst c3
  have H1 : (some (0, ([] : List Int), ([] : List Int), 1)) = some (r1, r2, r3, r4) := by rw [if_neg (show ¬ (false = true) by decide)] at H; exact H
  clear H
  have H := H1
  clear H1
  simp only [Option.some.injEq, Prod.mk.injEq] at H
  obtain ⟨rfl, rfl, rfl, rfl⟩ := H
  go_enter Try.func16, Try.ntmps16
  go_wp2_with (first | ((with_reducible refine gate_dst (N := 1) rfl ?_); refine bx 1 #[.int .i64 a0_0, .slice A0_1 l0_1.length c0_1, .slice A0_2 l0_2.length c0_2] 26 ?_; intro gb1067 hg w53 hbox hb; have BK1067 := zA (hbox); have GW1067 := gq HB hg; have GE1067 := gq HB hg; replace HB := xH HB hb; have := geI GE1067; clear hb hbox hg) | ((with_reducible refine gate_dst (N := 2) rfl ?_); refine bx 2 #[.int .i64 0, .slice none 0 0, .slice none 0 0] 26 ?_; intro gb1068 hg w54 hbox hb; have BK1068 := zA (hbox); have GW1068 := gq HB hg; have GE1068 := gq HB hg; replace HB := xH HB hb; have NB1067_1068 := zA ((by rw [hg]; exact neL BK1067 : gb1067 ≠ gb1068)); have NB1068_1067 := zA ((by rw [hg]; exact neG BK1067 : gb1068 ≠ gb1067)); replace BK1067 := xB BK1067 hb; have := geI GE1068; clear hb hbox hg; have hnb55 := NB1067_1068.out; have hnc55 := NB1068_1067.out; have hcz56_0 := bc BK1067 0; have hcz56_1 := bc BK1067 1; have hcz56_2 := bc BK1067 2; have hfz56_0 := bf BK1067 0; have hfz56_1 := bf BK1067 1; have hfz56_2 := bf BK1067 2) | ((with_reducible refine gate_callee (f := 56) rfl ?_); refine gL (some 7) Try.func56 #[.agg #[.int .i64 a0_0, .slice A0_1 l0_1.length c0_1, .slice A0_2 l0_2.length c0_2]] ?_; (with_reducible refine (spec_l03Is.calls k a0_0 _ _ l0_1 _ _ l0_2 false _ ?side1 ?side2 ?side3 ?side4 A2.out).mono ?_); (case side1 => exact uC ((Kd.C_below HR0_1.out HB.out))); (case side2 => exact HC0_1.out); (case side3 => exact uC ((Kd.C_below HR0_2.out HB.out))); (case side4 => exact HC0_2.out); rintro e w57 ⟨rfl, hb⟩; refine ⟨_, rfl, ?_⟩; replace BK1067 := xB BK1067 hb; replace BK1068 := xB BK1068 hb; replace HB := xH HB hb; (try clear hb); (try clear hb2); (try clear hk); (try clear hi); have hcz58_0 := bc BK1068 0; have hcz58_1 := bc BK1068 1; have hcz58_2 := bc BK1068 2; have hfz58_0 := bf BK1068 0; have hfz58_1 := bf BK1068 1; have hfz58_2 := bf BK1068 2))
  refine bodyPost_ret (results_ct rfl _ _ gb1068 26 #[.int .i64 0, .slice none 0 0, .slice none 0 0] (0, 0) _ rfl (by (repeat refine up1 ?_); refine blk_put (cs := #[.int .i64 0, .slice none 0 0, .slice none 0 0]) ?_ 2 _ rfl; (repeat refine up1 ?_); refine blk_put (cs := #[.int .i64 0, .slice none 0 0, .slice none 0 0]) ?_ 1 _ rfl; (repeat refine up1 ?_); refine blk_put (cs := #[.int .i64 0, .slice none 0 0, .slice none 0 0]) ?_ 0 _ rfl; (repeat refine up1 ?_); exact BK1068.out) Try.underlying26 rfl (by kernel_rfl)) rfl ?_
  exact ⟨_, _, by first | rfl | (simp [errW_none, errW_some] <;> rfl) | (simp [*, errW_none, errW_some] <;> rfl), by first | exact Kd.R_nil _ _ _ _ _ | exact Kd.N_nil _ _ _ _ _ | exact Kd.V_nil _ _ _ _ _ | exact Kd.Q_nil _ _ _ _ _ | exact Kd.S_nil _ _ _ _ _, by first | exact Kd.R_nil _ _ _ _ _ | exact Kd.N_nil _ _ _ _ _ | exact Kd.V_nil _ _ _ _ _ | exact Kd.Q_nil _ _ _ _ _ | exact Kd.S_nil _ _ _ _ _, uH HB.out⟩

end Go.Proofs.Ytfbnkebgdmfcfaa.Pr
