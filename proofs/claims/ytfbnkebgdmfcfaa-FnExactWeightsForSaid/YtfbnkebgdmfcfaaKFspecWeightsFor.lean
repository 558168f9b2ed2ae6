/- Printed by a program of this session out of the translation: what these functions of the program compute, under the conditions that each theorem names. -/
import Derived.Test.YtfbnkebgdmfcfaaKWeightsFor1
import Derived.Test.YtfbnkebgdmfcfaaKWeightsFor5
import Derived.Test.YtfbnkebgdmfcfaaKWeightsFor4
import Derived.Test.YtfbnkebgdmfcfaaKFspecl07Is
namespace Go.Proofs.Ytfbnkebgdmfcfaa.Pr
open Go.RowKit Go.Proofs.YtfbnkebgdmfcfaaW.PrintWords Go.Proofs.YtfbnkebgdmfcfaaW.PrintLast Go.Proofs.YtfbnkebgdmfcfaaW.PrintMore
attribute [local go_sem] max2_int min2_int max_two min_two max_three min_three max_four min_four   -- for this text's walks alone
set_option linter.unusedVariables false
set_option linter.unusedSimpArgs false

/-! ### spec_WeightsFor: function 23 -/
mutual
def spec_WeightsFor.j0 : Nat → List Int → Bool → Int → List Int → Int → List Int → List Int → Option (Int × List Int × List Int × Int)
 | 0, _, _, _, _, _, _, _ => none
 | k + 1, x1, x32, x1189000, x1189001, x1198000, x1198001, x1198002 => if x32 = true then (some (0, ([] : List Int), ([] : List Int), 2)) else (spec_WeightsFor.l0 k x1 0 x1189000 x1189001 x1198000 x1198001 x1198002)
def spec_WeightsFor.l0 : Nat → List Int → Int → Int → List Int → Int → List Int → List Int → Option (Int × List Int × List Int × Int)
 | 0, _, _, _, _, _, _, _ => none
 | k + 1, x1, x7, x1189000, x1189001, x1198000, x1198001, x1198002 => if x7 < (x1.length : Int) then (if 0 ≤ x7 then (if x7 ≤ (x1.length : Int) then ((spec_l01Own.f (x1.take (x7 : Int).toNat)).bind fun t1200 => (if 0 ≤ (wrap64 (x7 + 1)) then (if (wrap64 (x7 + 1)) ≤ (x1.length : Int) then (if t1200.length + (x1.drop ((wrap64 (x7 + 1)) : Int).toNat).length < 17592186044416 then ((spec_l07Nodes.f k x1189000 (t1200 ++ (x1.drop ((wrap64 (x7 + 1)) : Int).toNat))).bind fun t1207 => ((spec_l07Apply.f k x1189000 x1189001 t1207).bind fun t1210 => ((spec_l01At.f k x1189000 t1207 (rd x1 x7)).bind fun t1212 => ((spec_l01Inverse.f k x1189000 t1212).bind fun t1213 => (if x1189000 = 0 then (none) else (if x7 < (x1198002.length : Int) then (spec_WeightsFor.l0 k x1 (wrap64 (x7 + 1)) x1189000 x1189001 x1198000 x1198001 (x1198002.set (x7 : Int).toNat (Int.tmod (wrap64 (t1210 * t1213)) x1189000))) else (none))))))) else (none)) else (none)) else (none))) else (none)) else (none)) else (some (x1198000, x1198001, x1198002, 0))
end
def spec_WeightsFor.f (k : Nat) (a0_0 : Int) (l0_1 : List Int) (l1 : List Int) : Option (Int × List Int × List Int × Int) := (spec_l02Are.f k a0_0 l0_1).bind fun t1190 => (if t1190 = true then ((spec_l01Own.f l1).bind fun t1191 => (if 0 ≤ (l1.length : Int) then (if ((l1.length : Int) : Int).toNat ≤ 35184372088832 then ((some (List.replicate ((l1.length : Int) : Int).toNat 0 : List Int)).bind fun y1194 => ((spec_l07Is.f k a0_0 t1191 y1194).bind fun t1198 => (if t1198 = true then (spec_WeightsFor.j0 k l1 (decide ((l1.length : Int) > (l0_1.length : Int))) a0_0 l0_1 a0_0 t1191 y1194) else (spec_WeightsFor.j0 k l1 true a0_0 l0_1 a0_0 t1191 y1194)))) else (none)) else (none))) else (some (0, ([] : List Int), ([] : List Int), 1)))
def spec_WeightsFor.T3 : Bool × List (List Nat × List Nat) := (true, [([], []), ([0], [0]), ([], []), ([2], [2]), ([], []), ([4], [4]), ([5, 5], [5]), ([1, 3, 6], [1, 3, 6]), ([], []), ([8, 7, 3, 0, 1, 2, 3, 4, 5, 6, 7, 8], [7, 8])])
def spec_WeightsFor.B3 : List Nat := [0, 1, 0, 4, 0, 16, 48, 127, 0, 511]
theorem spec_WeightsFor.tab3 : rtab .any (opsOf Try.f23 3) = spec_WeightsFor.T3 := by kernel_rfl
theorem spec_WeightsFor.bits3 : waitsOk spec_WeightsFor.T3.2 spec_WeightsFor.B3 = true := by kernel_rfl
def spec_WeightsFor.T9 : Bool × List (List Nat × List Nat) := (true, [([], []), ([], []), ([0, 1], [0, 1]), ([2], [2]), ([], []), ([], []), ([5], [5]), ([4, 6], [4, 6]), ([3, 7, 3], [3, 7]), ([8, 8, 0, 1, 2, 3, 4, 5, 6, 7, 8], [8])])
def spec_WeightsFor.B9 : List Nat := [0, 0, 3, 7, 0, 0, 32, 112, 255, 511]
theorem spec_WeightsFor.tab9 : rtab .any (opsOf Try.f23 9) = spec_WeightsFor.T9 := by kernel_rfl
theorem spec_WeightsFor.bits9 : waitsOk spec_WeightsFor.T9.2 spec_WeightsFor.B9 = true := by kernel_rfl
def spec_WeightsFor.T11 : Bool × List (List Nat × List Nat) := (true, [([], []), ([0], [0]), ([], []), ([], []), ([], []), ([3, 4], [3, 4]), ([], []), ([6], [6]), ([], []), ([8], [8]), ([], []), ([], []), ([], []), ([11, 12], [11, 12]), ([13], [13]), ([9, 10, 14, 5], [9, 10, 14]), ([7, 15, 15], [7, 15]), ([5, 16], [5, 16]), ([], []), ([18], [18]), ([17, 19], [17, 19]), ([1, 2, 0, 1, 2, 3, 4, 5, 6, 7, 8, 9, 10, 11, 12, 13, 14, 15, 16, 17, 18, 19, 20], [1, 2]), ([21, 20, 16, 0, 1, 2, 3, 4, 5, 6, 7, 8, 9, 10, 11, 12, 13, 14, 15, 16, 17, 18, 19, 20], [20, 21])])
def spec_WeightsFor.B11 : List Nat := [0, 1, 0, 0, 0, 24, 0, 64, 0, 256, 0, 0, 0, 6144, 14336, 32568, 65528, 131064, 0, 262144, 1048568, 2097151, 4194303]
theorem spec_WeightsFor.tab11 : rtab .any (opsOf Try.f23 11) = spec_WeightsFor.T11 := by kernel_rfl
theorem spec_WeightsFor.bits11 : waitsOk spec_WeightsFor.T11.2 spec_WeightsFor.B11 = true := by kernel_rfl
set_option maxHeartbeats 8000000 in
set_option maxRecDepth 100000 in
theorem spec_WeightsFor.calls (k : Nat) (a0_0 : Int) (A0_1 : Option Addr) (c0_1 : Nat) (l0_1 : List Int) (A1 : Option Addr) (c1 : Nat) (l1 : List Int) (r1 : Int) (r2 : List Int) (r3 : List Int) (r4 : Int) (w : World) (hr0_1 : Kd.C (Kd.int .i64) w A0_1 l0_1.length l0_1) (hc0_1 : l0_1.length ≤ c0_1) (hr1 : Kd.C (Kd.int .i64) w A1 l1.length l1) (hc1 : l1.length ≤ c1) (h : spec_WeightsFor.f k a0_0 l0_1 l1 = some (r1, r2, r3, r4)) :
  Calls Try.prog 23 #[.agg #[.int .i64 a0_0, .slice A0_1 l0_1.length c0_1], .slice A1 l1.length c1] w fun e w' => ∃ v1_ v2_ : Value, e = .returned (.tuple #[.agg #[.int .i64 r1, v1_, v2_], .int .i64 r4]) ∧ Kd.R (Kd.int .i64) 2 w' w.heap.size (fun k_ => some k_ ≠ (v2_ : Value).ownBlock) v1_ r2 ∧ Kd.R (Kd.int .i64) 2 w' w.heap.size (fun k_ => some k_ ≠ (v1_ : Value).ownBlock) v2_ r3 ∧ Below w.heap.size w w' := by
 have hu40 := Try.underlying40
 have hu37 := Try.underlying37
 have HR0_1 := zA hr0_1
 have HC0_1 := zA hc0_1
 clear hr0_1 hc0_1
 have HR1 := zA hr1
 have HC1 := zA hc1
 clear hr1 hc1
 have HB := zA (Below.refl w.heap.size w)
 have H : ((spec_l02Are.f k a0_0 l0_1).bind fun t1190 => (if t1190 = true then ((spec_l01Own.f l1).bind fun t1191 => (if 0 ≤ (l1.length : Int) then (if ((l1.length : Int) : Int).toNat ≤ 35184372088832 then ((some (List.replicate ((l1.length : Int) : Int).toNat 0 : List Int)).bind fun y1194 => ((spec_l07Is.f k a0_0 t1191 y1194).bind fun t1198 => (if t1198 = true then (spec_WeightsFor.j0 k l1 (decide ((l1.length : Int) > (l0_1.length : Int))) a0_0 l0_1 a0_0 t1191 y1194) else (spec_WeightsFor.j0 k l1 true a0_0 l0_1 a0_0 t1191 y1194)))) else (none)) else (none))) else (some (0, ([] : List Int), ([] : List Int), 1)))) = some (r1, r2, r3, r4) := h
 clear h
 replace H := Option.bind_eq_some_iff.mp H
 obtain ⟨t1190, A30, H⟩ := H
 replace H : (if t1190 = true then ((spec_l01Own.f l1).bind fun t1191 => (if 0 ≤ (l1.length : Int) then (if ((l1.length : Int) : Int).toNat ≤ 35184372088832 then ((some (List.replicate ((l1.length : Int) : Int).toNat 0 : List Int)).bind fun y1194 => ((spec_l07Is.f k a0_0 t1191 y1194).bind fun t1198 => (if t1198 = true then (spec_WeightsFor.j0 k l1 (decide ((l1.length : Int) > (l0_1.length : Int))) a0_0 l0_1 a0_0 t1191 y1194) else (spec_WeightsFor.j0 k l1 true a0_0 l0_1 a0_0 t1191 y1194)))) else (none)) else (none))) else (some (0, ([] : List Int), ([] : List Int), 1))) = some (r1, r2, r3, r4) := H
 have A3 := zA A30
 clear A30
 by_cases c4 : t1190 = true
 ·subst c4
  have H1 : ((spec_l01Own.f l1).bind fun t1191 => (if 0 ≤ (l1.length : Int) then (if ((l1.length : Int) : Int).toNat ≤ 35184372088832 then ((some (List.replicate ((l1.length : Int) : Int).toNat 0 : List Int)).bind fun y1194 => ((spec_l07Is.f k a0_0 t1191 y1194).bind fun t1198 => (if t1198 = true then (spec_WeightsFor.j0 k l1 (decide ((l1.length : Int) > (l0_1.length : Int))) a0_0 l0_1 a0_0 t1191 y1194) else (spec_WeightsFor.j0 k l1 true a0_0 l0_1 a0_0 t1191 y1194)))) else (none)) else (none))) = some (r1, r2, r3, r4) := by rw [if_pos rfl] at H; exact H
  clear H
  have H := H1
  clear H1
  replace H := Option.bind_eq_some_iff.mp H
  obtain ⟨t1191, A50, H⟩ := H
  replace H : (if 0 ≤ (l1.length : Int) then (if ((l1.length : Int) : Int).toNat ≤ 35184372088832 then ((some (List.replicate ((l1.length : Int) : Int).toNat 0 : List Int)).bind fun y1194 => ((spec_l07Is.f k a0_0 t1191 y1194).bind fun t1198 => (if t1198 = true then (spec_WeightsFor.j0 k l1 (decide ((l1.length : Int) > (l0_1.length : Int))) a0_0 l0_1 a0_0 t1191 y1194) else (spec_WeightsFor.j0 k l1 true a0_0 l0_1 a0_0 t1191 y1194)))) else (none)) else (none)) = some (r1, r2, r3, r4) := H
  have A5 := zA A50
  clear A50
  by_cases c6 : 0 ≤ (l1.length : Int)
  rotate_left
  ·rw [if_neg c6] at H
   exact absurd H (by simp)
  rw [if_pos c6] at H
  have c6b0 := eq_true c6
  have c6b1 : decide (0 ≤ (l1.length : Int)) = true := decide_eq_true c6
  clear c6
  by_cases c7 : ((l1.length : Int) : Int).toNat ≤ 35184372088832
  rotate_left
  ·rw [if_neg c7] at H
   exact absurd H (by simp)
  rw [if_pos c7] at H
  have c7b0 := eq_true c7
  have c7b1 : decide (((l1.length : Int) : Int).toNat ≤ 35184372088832) = true := decide_eq_true c7
  clear c7
  obtain ⟨y1194, hy1194⟩ : ∃ y_ : List Int, y_ = (List.replicate ((l1.length : Int) : Int).toNat 0) := ⟨_, rfl⟩
  replace H : ((spec_l07Is.f k a0_0 t1191 y1194).bind fun t1198 => (if t1198 = true then (spec_WeightsFor.j0 k l1 (decide ((l1.length : Int) > (l0_1.length : Int))) a0_0 l0_1 a0_0 t1191 y1194) else (spec_WeightsFor.j0 k l1 true a0_0 l0_1 a0_0 t1191 y1194))) = some (r1, r2, r3, r4) := by first | (rw [hy1194]; exact H) | exact H
  have Ny1194 := zA hy1194
  clear hy1194
  have HC8 := zA H
  clear H
  go_enter Try.func23, Try.ntmps23
  try go_wp2_with (first | ((with_reducible refine gate_dst (N := 2) rfl ?_); (try (refine gate_guard (by rfl) ?_; dsimp only)); refine bx 2 #[.int .i64 a0_0, .slice A0_1 l0_1.length c0_1] 40 ?_; intro gb1188 hg w9 hbox hb; have BK1188 := zA (hbox); have GW1188 := gq HB hg; have GE1188 := gq HB hg; replace HB := xH HB hb; have := geI GE1188; clear hb hbox hg) | ((with_reducible refine gate_dst (N := 4) rfl ?_); (try (refine gate_guard (by rfl) ?_; dsimp only)); refine bx 4 #[.int .i64 0, .slice none 0 0, .slice none 0 0] 37 ?_; intro gb1189 hg w10 hbox hb; have BK1189 := zA (hbox); have GW1189 := gq HB hg; have GE1189 := gq HB hg; replace HB := xH HB hb; have NB1188_1189 := zA ((by rw [hg]; exact neL BK1188 : gb1188 ≠ gb1189)); have NB1189_1188 := zA ((by rw [hg]; exact neG BK1188 : gb1189 ≠ gb1188)); replace BK1188 := xB BK1188 hb; have := geI GE1189; clear hb hbox hg; have hnb11 := NB1188_1189.out; have hnc11 := NB1189_1188.out; have hcz12_0 := bc BK1188 0; have hcz12_1 := bc BK1188 1; have hfz12_0 := bf BK1188 0; have hfz12_1 := bf BK1188 1) | ((with_reducible refine gate_callee (f := 61) rfl ?_); refine gL (some 11) Try.func61 #[.agg #[.int .i64 a0_0, .slice A0_1 l0_1.length c0_1]] ?_; (with_reducible refine (spec_l02Are.calls k a0_0 _ _ l0_1 true _ ?side1 ?side2 A3.out).mono ?_); (case side1 => exact uC ((Kd.C_below HR0_1.out HB.out))); (case side2 => exact HC0_1.out); rintro e w13 ⟨rfl, hb⟩; refine ⟨_, rfl, ?_⟩; replace BK1188 := xB BK1188 hb; replace BK1189 := xB BK1189 hb; replace HB := xH HB hb; (try clear hb); (try clear hb2); (try clear hk); (try clear hi)))
  replace BK1188 := zA (blk_drew BK1188.out)
  replace BK1189 := zA (blk_drew BK1189.out)
  replace HB := zA (below_drew1 HB.out)
  refine start_ (n := 10) (S := fun w' => w'.cell? ⟨gb1188, 0, none⟩ = some (.int .i64 a0_0) ∧ w'.cell? ⟨gb1188, 1, none⟩ = some (.slice A0_1 l0_1.length c0_1)) (ds := []) #[false, false, false, false, false, false, false, false, false, false] (by kernel_rfl) rfl rfl ⟨bcu BK1188 0, bcu BK1188 1⟩ (fun hHeld => ?_); refine with_tabW spec_WeightsFor.tab3 spec_WeightsFor.bits3 (fun HT_ HW_ => ?_)
  generalize w13.drew = w14 at BK1188 BK1189 HB hHeld ⊢
  refine pu_ 0 14 (bl 10 1) HT_ ?_
  refine pu_ 2 16 (bl 10 5) HT_ ?_
  refine pu_ 4 18 (bl 10 21) HT_ ?_
  refine pu_ 5 19 (bl 10 53) HT_ ?_
  refine ta_ 1 15 (bl 10 55) HT_ HW_ hHeld ?_
  refine join_ (σ := Value × Value × Nat) 1 (bl 10 511) (fun s_ => [(17, s_.1), (20, s_.2.1), (6, .pointer (some ⟨s_.2.2, 0, none⟩)), (21, .agg #[.int .i64 a0_0, s_.1, s_.2.1])]) (fun s_ w' => (w'.cell? ⟨gb1188, 0, none⟩ = some (.int .i64 a0_0) ∧ w'.cell? ⟨gb1188, 1, none⟩ = some (.slice A0_1 l0_1.length c0_1)) ∧ (Kd.R (Kd.int .i64) 2 w' w.heap.size (fun k_ => some k_ ≠ (s_.2.1 : Value).ownBlock) s_.1 t1191) ∧ (Kd.R (Kd.int .i64) 2 w' w.heap.size (fun k_ => some k_ ≠ (s_.1 : Value).ownBlock) s_.2.1 y1194) ∧ (w'.heap[gb1188]? = some (.cells #[.int .i64 a0_0, .slice A0_1 l0_1.length c0_1] 40 (0, 0))) ∧ (w'.heap[gb1189]? = some (.cells #[.int .i64 0, .slice none 0 0, .slice none 0 0] 37 (0, 0))) ∧ (w'.heap[s_.2.2]? = some (.cells #[.int .i64 0, .slice none 0 0, .slice none 0 0] 37 (0, 0))) ∧ (w.heap.size ≤ s_.2.2) ∧ (w.heap.size ≤ s_.2.2) ∧ (gb1188 ≠ s_.2.2) ∧ (s_.2.2 ≠ gb1188) ∧ (gb1189 ≠ s_.2.2) ∧ (s_.2.2 ≠ gb1189) ∧ (Below w.heap.size w w')) ?_ ?_
  rotate_left
  ·intro hJ3_6_8
   refine join_ (σ := Value × Value) 2 (bl 10 255) (fun s_ => [(17, s_.1), (20, s_.2), (21, .agg #[.int .i64 a0_0, s_.1, s_.2])]) (fun s_ w' => (w'.cell? ⟨gb1188, 0, none⟩ = some (.int .i64 a0_0) ∧ w'.cell? ⟨gb1188, 1, none⟩ = some (.slice A0_1 l0_1.length c0_1)) ∧ (Kd.R (Kd.int .i64) 2 w' w.heap.size (fun k_ => some k_ ≠ (s_.2 : Value).ownBlock) s_.1 t1191) ∧ (Kd.R (Kd.int .i64) 2 w' w.heap.size (fun k_ => some k_ ≠ (s_.1 : Value).ownBlock) s_.2 y1194) ∧ (w'.heap[gb1188]? = some (.cells #[.int .i64 a0_0, .slice A0_1 l0_1.length c0_1] 40 (0, 0))) ∧ (w'.heap[gb1189]? = some (.cells #[.int .i64 0, .slice none 0 0, .slice none 0 0] 37 (0, 0))) ∧ (Below w.heap.size w w')) ?_ ?_
   rotate_left
   ·intro hJ3_6
    refine join_ (σ := Value × Nat) 3 (bl 10 319) (fun s_ => [(17, s_.1), (6, .pointer (some ⟨s_.2, 0, none⟩))]) (fun s_ w' => (w'.cell? ⟨gb1188, 0, none⟩ = some (.int .i64 a0_0) ∧ w'.cell? ⟨gb1188, 1, none⟩ = some (.slice A0_1 l0_1.length c0_1)) ∧ (Kd.R (Kd.int .i64) 2 w' w.heap.size (fun _ => True) s_.1 t1191) ∧ (w'.heap[gb1188]? = some (.cells #[.int .i64 a0_0, .slice A0_1 l0_1.length c0_1] 40 (0, 0))) ∧ (w'.heap[gb1189]? = some (.cells #[.int .i64 0, .slice none 0 0, .slice none 0 0] 37 (0, 0))) ∧ (w'.heap[s_.2]? = some (.cells #[.int .i64 0, .slice none 0 0, .slice none 0 0] 37 (0, 0))) ∧ (w.heap.size ≤ s_.2) ∧ (w.heap.size ≤ s_.2) ∧ (gb1188 ≠ s_.2) ∧ (s_.2 ≠ gb1188) ∧ (gb1189 ≠ s_.2) ∧ (s_.2 ≠ gb1189) ∧ (Below w.heap.size w w')) ?_ ?_
    rotate_left
    ·intro hJ3_8
     refine join_ (σ := Value × Nat) 3 (bl 10 375) (fun s_ => [(20, s_.1), (6, .pointer (some ⟨s_.2, 0, none⟩))]) (fun s_ w' => (w'.cell? ⟨gb1188, 0, none⟩ = some (.int .i64 a0_0) ∧ w'.cell? ⟨gb1188, 1, none⟩ = some (.slice A0_1 l0_1.length c0_1)) ∧ (Kd.R (Kd.int .i64) 2 w' w.heap.size (fun _ => True) s_.1 y1194) ∧ (w'.heap[gb1188]? = some (.cells #[.int .i64 a0_0, .slice A0_1 l0_1.length c0_1] 40 (0, 0))) ∧ (w'.heap[gb1189]? = some (.cells #[.int .i64 0, .slice none 0 0, .slice none 0 0] 37 (0, 0))) ∧ (w'.heap[s_.2]? = some (.cells #[.int .i64 0, .slice none 0 0, .slice none 0 0] 37 (0, 0))) ∧ (w.heap.size ≤ s_.2) ∧ (w.heap.size ≤ s_.2) ∧ (gb1188 ≠ s_.2) ∧ (s_.2 ≠ gb1188) ∧ (gb1189 ≠ s_.2) ∧ (s_.2 ≠ gb1189) ∧ (Below w.heap.size w w')) ?_ ?_
     rotate_left
     ·intro hJ6_8
      refine join_ (σ := Value) 4 (bl 10 63) (fun s_ => [(17, s_)]) (fun s_ w' => (w'.cell? ⟨gb1188, 0, none⟩ = some (.int .i64 a0_0) ∧ w'.cell? ⟨gb1188, 1, none⟩ = some (.slice A0_1 l0_1.length c0_1)) ∧ (Kd.R (Kd.int .i64) 2 w' w.heap.size (fun _ => True) s_ t1191) ∧ (w'.heap[gb1188]? = some (.cells #[.int .i64 a0_0, .slice A0_1 l0_1.length c0_1] 40 (0, 0))) ∧ (w'.heap[gb1189]? = some (.cells #[.int .i64 0, .slice none 0 0, .slice none 0 0] 37 (0, 0))) ∧ (Below w.heap.size w w')) ?_ ?_
      rotate_left
      ·intro hJ3
       refine join_ (σ := Value) 4 (bl 10 119) (fun s_ => [(20, s_)]) (fun s_ w' => (w'.cell? ⟨gb1188, 0, none⟩ = some (.int .i64 a0_0) ∧ w'.cell? ⟨gb1188, 1, none⟩ = some (.slice A0_1 l0_1.length c0_1)) ∧ (Kd.R (Kd.int .i64) 2 w' w.heap.size (fun _ => True) s_ y1194) ∧ (w'.heap[gb1188]? = some (.cells #[.int .i64 a0_0, .slice A0_1 l0_1.length c0_1] 40 (0, 0))) ∧ (w'.heap[gb1189]? = some (.cells #[.int .i64 0, .slice none 0 0, .slice none 0 0] 37 (0, 0))) ∧ (Below w.heap.size w w')) ?_ ?_
       rotate_left
       ·intro hJ6
        refine join_ (σ := Nat) 4 (bl 10 311) (fun s_ => [(6, .pointer (some ⟨s_, 0, none⟩))]) (fun s_ w' => (w'.cell? ⟨gb1188, 0, none⟩ = some (.int .i64 a0_0) ∧ w'.cell? ⟨gb1188, 1, none⟩ = some (.slice A0_1 l0_1.length c0_1)) ∧ (w'.heap[gb1188]? = some (.cells #[.int .i64 a0_0, .slice A0_1 l0_1.length c0_1] 40 (0, 0))) ∧ (w'.heap[gb1189]? = some (.cells #[.int .i64 0, .slice none 0 0, .slice none 0 0] 37 (0, 0))) ∧ (w'.heap[s_]? = some (.cells #[.int .i64 0, .slice none 0 0, .slice none 0 0] 37 (0, 0))) ∧ (w.heap.size ≤ s_) ∧ (w.heap.size ≤ s_) ∧ (gb1188 ≠ s_) ∧ (s_ ≠ gb1188) ∧ (gb1189 ≠ s_) ∧ (s_ ≠ gb1189) ∧ (Below w.heap.size w w')) ?_ ?_
        rotate_left
        ·intro hJ8
         refine three_ (i := 3) (j := 6) (k := 8) (Ni := some 17) (Nj := some 20) (Nk := some 6) (bl 10 63) (bl 10 119) (bl 10 311) rfl rfl rfl rfl rfl rfl (three_of HT_.out (by kernel_rfl)) (by decide) (by decide) (by decide) (fun K hK => ?_) (fun K hK => ?_) (fun K hK => ?_)
         ·skip
          refine gS Try.func62 #[.slice A1 l1.length c1] ?_
          with_reducible refine (spec_l01Own.calls _ _ l1 t1191 _ ?side1 ?side2 A5.out).mono ?_
          (case side1 => exact uC ((Kd.C_below HR1.out HB.out)))
          (case side2 => exact HC1.out)
          rintro e w15 ⟨v1192, rfl, ho0, hb⟩
          refine ⟨_, rfl, ?_⟩
          have HO1193 := zA (Kd.R_lower ho0 (below_size (uH HB.out)))
          replace BK1188 := xB BK1188 hb
          replace BK1189 := xB BK1189 hb
          replace HB := xH HB hb
          (try clear hb); (try clear hb2); (try clear hk); (try clear hi); (try clear ho0)
          refine hK.out _ _ ⟨bcu BK1188 0, bcu BK1188 1⟩ (fun hHeld => ?_)
          clear hK K
          refine no_ 17 ?_
          exact norm_ (by first | (simp only [putAll, Act.put, ls, lz, ln]; done) | (simp only [putAll, Act.put, ls, lz, ln]; rfl)) (hJ3 (v1192) _ ⟨hHeld, (uR HO1193.out), (uB BK1188.out), (uB BK1189.out), (uH HB.out)⟩)
         ·skip
          refine Kd.R_make_step (Kd.int .i64) _ 2 (by rfl) (N := 20) rfl 22 _ _ rfl (l1.length : Int) rfl rfl Try.underlying22 (.int .i64 0) 8 info2 rfl (by decide) (by omega) 0 (ok := fun _ => True) (okp := fun _ => True) rfl (fun _ hk => hk) trivial (of_decide_eq_true (by first | (with_reducible assumption) | assumption)) (Nat.le_trans (Nat.mul_le_mul_right _ (of_decide_eq_true (by first | (with_reducible assumption) | assumption) : (l1.length : Int).toNat ≤ 35184372088832)) (by omega)) (Below.refl _ _) (Nat.le_refl _) ?_
          intro v1195 w15 ho16 hb hg_ hnew_
          clear hg_ hnew_
          (first | rw [← Ny1194.out] at ho16 | (simp only [Int.reduceToNat] at ho16; rw [← Ny1194.out] at ho16))
          have HO1196 := zA (Kd.R_lower ho16 (below_size (uH HB.out)))
          replace BK1188 := xB BK1188 hb
          replace BK1189 := xB BK1189 hb
          replace HB := xH HB hb
          clear hb ho16
          refine hK.out _ _ ⟨bcu BK1188 0, bcu BK1188 1⟩ (fun hHeld => ?_)
          clear hK K
          refine no_ 20 ?_
          exact norm_ (by first | (simp only [putAll, Act.put, ls, lz, ln]; done) | (simp only [putAll, Act.put, ls, lz, ln]; rfl)) (hJ6 (v1195) _ ⟨hHeld, (uR HO1196.out), (uB BK1188.out), (uB BK1189.out), (uH HB.out)⟩)
         ·skip
          refine box_step ?hg (N := 6) ?hd (cs := #[.int .i64 0, .slice none 0 0, .slice none 0 0]) (t := 37) ?hr ?_; (case hd => rfl); (case hg => rfl); (case hr => first | (go_simp; done) | (go_simp; rfl))
          intro gb1197 hg w15 hbox hb
          have BK1197 := zA (hbox)
          have GW1197 := gq HB hg
          have GE1197 := gq HB hg
          replace HB := xH HB hb
          have NB1188_1197 := zA ((by rw [hg]; exact neL BK1188 : gb1188 ≠ gb1197))
          have NB1197_1188 := zA ((by rw [hg]; exact neG BK1188 : gb1197 ≠ gb1188))
          replace BK1188 := xB BK1188 hb
          have NB1189_1197 := zA ((by rw [hg]; exact neL BK1189 : gb1189 ≠ gb1197))
          have NB1197_1189 := zA ((by rw [hg]; exact neG BK1189 : gb1197 ≠ gb1189))
          replace BK1189 := xB BK1189 hb
          have := geI GE1197
          clear hb hbox hg
          refine hK.out _ _ ⟨bcu BK1188 0, bcu BK1188 1⟩ (fun hHeld => ?_)
          clear hK K
          refine no_ 6 ?_
          exact norm_ (by first | (simp only [putAll, Act.put, ls, lz, ln]; done) | (simp only [putAll, Act.put, ls, lz, ln]; rfl)) (hJ8 (gb1197) _ ⟨hHeld, (uB BK1188.out), (uB BK1189.out), (uB BK1197.out), GW1197.out, GE1197.out, NB1188_1197.out, NB1197_1188.out, NB1189_1197.out, NB1197_1189.out, (uH HB.out)⟩)
        ·skip
         rintro gb1197 w16 ⟨hS_, h0_, h1_, h2_, h3_, h4_, h5_, h6_, h7_, h8_, h9_⟩
         have n0_ : Aside0 (w16.heap[gb1188]? = some (.cells #[.int .i64 a0_0, .slice A0_1 l0_1.length c0_1] 40 (0, 0))) := ⟨h0_⟩
         have n1_ : Aside0 (w16.heap[gb1189]? = some (.cells #[.int .i64 0, .slice none 0 0, .slice none 0 0] 37 (0, 0))) := ⟨h1_⟩
         have n2_ : Aside0 (w16.heap[gb1197]? = some (.cells #[.int .i64 0, .slice none 0 0, .slice none 0 0] 37 (0, 0))) := ⟨h2_⟩
         have n3_ : Aside0 (w.heap.size ≤ gb1197) := ⟨h3_⟩
         have n4_ : Aside0 (w.heap.size ≤ gb1197) := ⟨h4_⟩
         have n5_ : Aside0 (gb1188 ≠ gb1197) := ⟨h5_⟩
         have n6_ : Aside0 (gb1197 ≠ gb1188) := ⟨h6_⟩
         have n7_ : Aside0 (gb1189 ≠ gb1197) := ⟨h7_⟩
         have n8_ : Aside0 (gb1197 ≠ gb1189) := ⟨h8_⟩
         have n9_ : Aside0 (Below w.heap.size w w16) := ⟨h9_⟩
         clear BK1188 BK1189 HB
         clear h0_ h1_ h2_ h3_ h4_ h5_ h6_ h7_ h8_ h9_
         have BK1188 := n0_
         have BK1189 := n1_
         have BK1197 := n2_
         have GW1197 := n3_
         have GE1197 := n4_
         have := geI GE1197
         have NB1188_1197 := n5_
         have NB1197_1188 := n6_
         have NB1189_1197 := n7_
         have NB1197_1189 := n8_
         have HB := n9_
         clear n0_ n1_ n2_ n3_ n4_ n5_ n6_ n7_ n8_ n9_
         have hHeld : w16.cell? ⟨gb1188, 0, none⟩ = some (.int .i64 a0_0) ∧ w16.cell? ⟨gb1188, 1, none⟩ = some (.slice A0_1 l0_1.length c0_1) := hS_
         refine norm_ (a' := ?_) ?_ ?_
         rotate_left
         ·simp only [putAll, Act.put, ls, lz, ln]
          rfl
         refine two_ (i := 3) (j := 6) (Ni := some 17) (Nj := some 20) (bl 10 319) (bl 10 375) rfl rfl rfl rfl (two_of HT_.out (by kernel_rfl)) (by decide) (by decide) (fun K hK => ?_) (fun K hK => ?_)
         ·skip
          refine gS Try.func62 #[.slice A1 l1.length c1] ?_
          with_reducible refine (spec_l01Own.calls _ _ l1 t1191 _ ?side1 ?side2 A5.out).mono ?_
          (case side1 => exact uC ((Kd.C_below HR1.out HB.out)))
          (case side2 => exact HC1.out)
          rintro e w17 ⟨v1192, rfl, ho0, hb⟩
          refine ⟨_, rfl, ?_⟩
          have HO1193 := zA (Kd.R_lower ho0 (below_size (uH HB.out)))
          replace BK1188 := xB BK1188 hb
          replace BK1189 := xB BK1189 hb
          replace BK1197 := xB BK1197 hb
          replace HB := xH HB hb
          (try clear hb); (try clear hb2); (try clear hk); (try clear hi); (try clear ho0)
          refine hK.out _ _ ⟨bcu BK1188 0, bcu BK1188 1⟩ (fun hHeld => ?_)
          clear hK K
          refine no_ 17 ?_
          exact norm_ (by first | (simp only [putAll, Act.put, ls, lz, ln]; done) | (simp only [putAll, Act.put, ls, lz, ln]; rfl)) (hJ3_8 (v1192, gb1197) _ ⟨hHeld, (uR HO1193.out), (uB BK1188.out), (uB BK1189.out), (uB BK1197.out), GW1197.out, GE1197.out, NB1188_1197.out, NB1197_1188.out, NB1189_1197.out, NB1197_1189.out, (uH HB.out)⟩)
         ·skip
          refine Kd.R_make_step (Kd.int .i64) _ 2 (by rfl) (N := 20) rfl 22 _ _ rfl (l1.length : Int) rfl rfl Try.underlying22 (.int .i64 0) 8 info2 rfl (by decide) (by omega) 0 (ok := fun _ => True) (okp := fun _ => True) rfl (fun _ hk => hk) trivial (of_decide_eq_true (by first | (with_reducible assumption) | assumption)) (Nat.le_trans (Nat.mul_le_mul_right _ (of_decide_eq_true (by first | (with_reducible assumption) | assumption) : (l1.length : Int).toNat ≤ 35184372088832)) (by omega)) (Below.refl _ _) (Nat.le_refl _) ?_
          intro v1195 w17 ho18 hb hg_ hnew_
          clear hg_ hnew_
          (first | rw [← Ny1194.out] at ho18 | (simp only [Int.reduceToNat] at ho18; rw [← Ny1194.out] at ho18))
          have HO1196 := zA (Kd.R_lower ho18 (below_size (uH HB.out)))
          replace BK1188 := xB BK1188 hb
          replace BK1189 := xB BK1189 hb
          replace BK1197 := xB BK1197 hb
          replace HB := xH HB hb
          clear hb ho18
          refine hK.out _ _ ⟨bcu BK1188 0, bcu BK1188 1⟩ (fun hHeld => ?_)
          clear hK K
          refine no_ 20 ?_
          exact norm_ (by first | (simp only [putAll, Act.put, ls, lz, ln]; done) | (simp only [putAll, Act.put, ls, lz, ln]; rfl)) (hJ6_8 (v1195, gb1197) _ ⟨hHeld, (uR HO1196.out), (uB BK1188.out), (uB BK1189.out), (uB BK1197.out), GW1197.out, GE1197.out, NB1188_1197.out, NB1197_1188.out, NB1189_1197.out, NB1197_1189.out, (uH HB.out)⟩)
       ·skip
        rintro v1195 w17 ⟨hS_, h0_, h1_, h2_, h3_⟩
        have n0_ : Aside0 (Kd.R (Kd.int .i64) 2 w17 w.heap.size (fun _ => True) v1195 y1194) := ⟨h0_⟩
        have n1_ : Aside0 (w17.heap[gb1188]? = some (.cells #[.int .i64 a0_0, .slice A0_1 l0_1.length c0_1] 40 (0, 0))) := ⟨h1_⟩
        have n2_ : Aside0 (w17.heap[gb1189]? = some (.cells #[.int .i64 0, .slice none 0 0, .slice none 0 0] 37 (0, 0))) := ⟨h2_⟩
        have n3_ : Aside0 (Below w.heap.size w w17) := ⟨h3_⟩
        clear BK1188 BK1189 HB
        clear h0_ h1_ h2_ h3_
        have HO1196 := n0_
        have BK1188 := n1_
        have BK1189 := n2_
        have HB := n3_
        clear n0_ n1_ n2_ n3_
        have hHeld : w17.cell? ⟨gb1188, 0, none⟩ = some (.int .i64 a0_0) ∧ w17.cell? ⟨gb1188, 1, none⟩ = some (.slice A0_1 l0_1.length c0_1) := hS_
        refine norm_ (a' := ?_) ?_ ?_
        rotate_left
        ·simp only [putAll, Act.put, ls, lz, ln]
         rfl
        refine two_ (i := 3) (j := 8) (Ni := some 17) (Nj := some 6) (bl 10 127) (bl 10 375) rfl rfl rfl rfl (two_of HT_.out (by kernel_rfl)) (by decide) (by decide) (fun K hK => ?_) (fun K hK => ?_)
        ·skip
         refine gS Try.func62 #[.slice A1 l1.length c1] ?_
         with_reducible refine (spec_l01Own.calls _ _ l1 t1191 _ ?side1 ?side2 A5.out).mono ?_
         (case side1 => exact uC ((Kd.C_below HR1.out HB.out)))
         (case side2 => exact HC1.out)
         rintro e w18 ⟨v1192, rfl, ho0, hb⟩
         refine ⟨_, rfl, ?_⟩
         have HO1193 := zA (Kd.R_lower (Kd.R_new' ho0 (Kd.R_lt (uR HO1196.out))) (below_size (uH HB.out)))
         replace HO1196 := zA (Kd.R_elder' (uR HO1196.out) (Kd.R_base ho0) hb)
         replace BK1188 := xB BK1188 hb
         replace BK1189 := xB BK1189 hb
         replace HB := xH HB hb
         (try clear hb); (try clear hb2); (try clear hk); (try clear hi); (try clear ho0)
         obtain ⟨Ao19, co19, eo19⟩ := Kd.R_slice HO1196.out
         (first | subst eo19 | (injection eo19 with f1_ f2_ f3_; have f4_ := f1_.symm; have f5_ := f3_.symm; clear f1_ f2_ f3_; subst f4_; subst f5_))
         obtain ⟨Ao20, co20, eo20⟩ := Kd.R_slice HO1193.out
         (first | subst eo20 | (injection eo20 with f1_ f2_ f3_; have f4_ := f1_.symm; have f5_ := f3_.symm; clear f1_ f2_ f3_; subst f4_; subst f5_))
         refine hK.out _ _ ⟨bcu BK1188 0, bcu BK1188 1⟩ (fun hHeld => ?_)
         clear hK K
         refine no_ 17 ?_
         refine pu_ 7 21 (bl 10 255) HT_ ?_
         exact norm_ (by first | (simp only [putAll, Act.put, ls, lz, ln]; done) | (simp only [putAll, Act.put, ls, lz, ln]; rfl)) (hJ3_6 (.slice Ao20 t1191.length co20, .slice Ao19 y1194.length co19) _ ⟨hHeld, (uR (Kd.R_mono HO1193.out (fun _ hk => hk.2))), (uR (Kd.R_mono HO1196.out (fun _ hk => hk.2))), (uB BK1188.out), (uB BK1189.out), (uH HB.out)⟩)
        ·skip
         refine box_step ?hg (N := 6) ?hd (cs := #[.int .i64 0, .slice none 0 0, .slice none 0 0]) (t := 37) ?hr ?_; (case hd => rfl); (case hg => rfl); (case hr => first | (go_simp; done) | (go_simp; rfl))
         intro gb1197 hg w18 hbox hb
         replace HO1196 := xR HO1196 hb
         have BK1197 := zA (hbox)
         have GW1197 := gq HB hg
         have GE1197 := gq HB hg
         replace HB := xH HB hb
         have NB1188_1197 := zA ((by rw [hg]; exact neL BK1188 : gb1188 ≠ gb1197))
         have NB1197_1188 := zA ((by rw [hg]; exact neG BK1188 : gb1197 ≠ gb1188))
         replace BK1188 := xB BK1188 hb
         have NB1189_1197 := zA ((by rw [hg]; exact neL BK1189 : gb1189 ≠ gb1197))
         have NB1197_1189 := zA ((by rw [hg]; exact neG BK1189 : gb1197 ≠ gb1189))
         replace BK1189 := xB BK1189 hb
         have := geI GE1197
         clear hb hbox hg
         refine hK.out _ _ ⟨bcu BK1188 0, bcu BK1188 1⟩ (fun hHeld => ?_)
         clear hK K
         refine no_ 6 ?_
         exact norm_ (by first | (simp only [putAll, Act.put, ls, lz, ln]; done) | (simp only [putAll, Act.put, ls, lz, ln]; rfl)) (hJ6_8 (v1195, gb1197) _ ⟨hHeld, (uR HO1196.out), (uB BK1188.out), (uB BK1189.out), (uB BK1197.out), GW1197.out, GE1197.out, NB1188_1197.out, NB1197_1188.out, NB1189_1197.out, NB1197_1189.out, (uH HB.out)⟩)
      ·skip
       rintro v1192 w16 ⟨hS_, h0_, h1_, h2_, h3_⟩
       have n0_ : Aside0 (Kd.R (Kd.int .i64) 2 w16 w.heap.size (fun _ => True) v1192 t1191) := ⟨h0_⟩
       have n1_ : Aside0 (w16.heap[gb1188]? = some (.cells #[.int .i64 a0_0, .slice A0_1 l0_1.length c0_1] 40 (0, 0))) := ⟨h1_⟩
       have n2_ : Aside0 (w16.heap[gb1189]? = some (.cells #[.int .i64 0, .slice none 0 0, .slice none 0 0] 37 (0, 0))) := ⟨h2_⟩
       have n3_ : Aside0 (Below w.heap.size w w16) := ⟨h3_⟩
       clear BK1188 BK1189 HB
       clear h0_ h1_ h2_ h3_
       have HO1193 := n0_
       have BK1188 := n1_
       have BK1189 := n2_
       have HB := n3_
       clear n0_ n1_ n2_ n3_
       have hHeld : w16.cell? ⟨gb1188, 0, none⟩ = some (.int .i64 a0_0) ∧ w16.cell? ⟨gb1188, 1, none⟩ = some (.slice A0_1 l0_1.length c0_1) := hS_
       refine norm_ (a' := ?_) ?_ ?_
       rotate_left
       ·simp only [putAll, Act.put, ls, lz, ln]
        rfl
       refine two_ (i := 6) (j := 8) (Ni := some 20) (Nj := some 6) (bl 10 127) (bl 10 319) rfl rfl rfl rfl (two_of HT_.out (by kernel_rfl)) (by decide) (by decide) (fun K hK => ?_) (fun K hK => ?_)
       ·skip
        refine Kd.R_make_step (Kd.int .i64) _ 2 (by rfl) (N := 20) rfl 22 _ _ rfl (l1.length : Int) rfl rfl Try.underlying22 (.int .i64 0) 8 info2 rfl (by decide) (by omega) 0 (ok := fun _ => True) (okp := fun _ => True) rfl (fun _ hk => hk) trivial (of_decide_eq_true (by first | (with_reducible assumption) | assumption)) (Nat.le_trans (Nat.mul_le_mul_right _ (of_decide_eq_true (by first | (with_reducible assumption) | assumption) : (l1.length : Int).toNat ≤ 35184372088832)) (by omega)) (Below.refl _ _) (Nat.le_refl _) ?_
        intro v1195 w17 ho18 hb hg_ hnew_
        clear hg_ hnew_
        (first | rw [← Ny1194.out] at ho18 | (simp only [Int.reduceToNat] at ho18; rw [← Ny1194.out] at ho18))
        have HO1196 := zA (Kd.R_lower (Kd.R_new' ho18 (Kd.R_lt (uR HO1193.out))) (below_size (uH HB.out)))
        replace HO1193 := zA (Kd.R_elder' (uR HO1193.out) (Kd.R_base ho18) hb)
        replace BK1188 := xB BK1188 hb
        replace BK1189 := xB BK1189 hb
        replace HB := xH HB hb
        clear hb ho18
        obtain ⟨Ao19, co19, eo19⟩ := Kd.R_slice HO1196.out
        (first | subst eo19 | (injection eo19 with f1_ f2_ f3_; have f4_ := f1_.symm; have f5_ := f3_.symm; clear f1_ f2_ f3_; subst f4_; subst f5_))
        obtain ⟨Ao20, co20, eo20⟩ := Kd.R_slice HO1193.out
        (first | subst eo20 | (injection eo20 with f1_ f2_ f3_; have f4_ := f1_.symm; have f5_ := f3_.symm; clear f1_ f2_ f3_; subst f4_; subst f5_))
        refine hK.out _ _ ⟨bcu BK1188 0, bcu BK1188 1⟩ (fun hHeld => ?_)
        clear hK K
        refine no_ 20 ?_
        refine pu_ 7 21 (bl 10 255) HT_ ?_
        exact norm_ (by first | (simp only [putAll, Act.put, ls, lz, ln]; done) | (simp only [putAll, Act.put, ls, lz, ln]; rfl)) (hJ3_6 (.slice Ao20 t1191.length co20, .slice Ao19 y1194.length co19) _ ⟨hHeld, (uR (Kd.R_mono HO1193.out (fun _ hk => hk.2))), (uR (Kd.R_mono HO1196.out (fun _ hk => hk.2))), (uB BK1188.out), (uB BK1189.out), (uH HB.out)⟩)
       ·skip
        refine box_step ?hg (N := 6) ?hd (cs := #[.int .i64 0, .slice none 0 0, .slice none 0 0]) (t := 37) ?hr ?_; (case hd => rfl); (case hg => rfl); (case hr => first | (go_simp; done) | (go_simp; rfl))
        intro gb1197 hg w17 hbox hb
        replace HO1193 := xR HO1193 hb
        have BK1197 := zA (hbox)
        have GW1197 := gq HB hg
        have GE1197 := gq HB hg
        replace HB := xH HB hb
        have NB1188_1197 := zA ((by rw [hg]; exact neL BK1188 : gb1188 ≠ gb1197))
        have NB1197_1188 := zA ((by rw [hg]; exact neG BK1188 : gb1197 ≠ gb1188))
        replace BK1188 := xB BK1188 hb
        have NB1189_1197 := zA ((by rw [hg]; exact neL BK1189 : gb1189 ≠ gb1197))
        have NB1197_1189 := zA ((by rw [hg]; exact neG BK1189 : gb1197 ≠ gb1189))
        replace BK1189 := xB BK1189 hb
        have := geI GE1197
        clear hb hbox hg
        refine hK.out _ _ ⟨bcu BK1188 0, bcu BK1188 1⟩ (fun hHeld => ?_)
        clear hK K
        refine no_ 6 ?_
        exact norm_ (by first | (simp only [putAll, Act.put, ls, lz, ln]; done) | (simp only [putAll, Act.put, ls, lz, ln]; rfl)) (hJ3_8 (v1192, gb1197) _ ⟨hHeld, (uR HO1193.out), (uB BK1188.out), (uB BK1189.out), (uB BK1197.out), GW1197.out, GE1197.out, NB1188_1197.out, NB1197_1188.out, NB1189_1197.out, NB1197_1189.out, (uH HB.out)⟩)
     ·skip
      rintro ⟨v1195, gb1197⟩ w18 ⟨hS_, h0_, h1_, h2_, h3_, h4_, h5_, h6_, h7_, h8_, h9_, h10_⟩
      have n0_ : Aside0 (Kd.R (Kd.int .i64) 2 w18 w.heap.size (fun _ => True) v1195 y1194) := ⟨h0_⟩
      have n1_ : Aside0 (w18.heap[gb1188]? = some (.cells #[.int .i64 a0_0, .slice A0_1 l0_1.length c0_1] 40 (0, 0))) := ⟨h1_⟩
      have n2_ : Aside0 (w18.heap[gb1189]? = some (.cells #[.int .i64 0, .slice none 0 0, .slice none 0 0] 37 (0, 0))) := ⟨h2_⟩
      have n3_ : Aside0 (w18.heap[gb1197]? = some (.cells #[.int .i64 0, .slice none 0 0, .slice none 0 0] 37 (0, 0))) := ⟨h3_⟩
      have n4_ : Aside0 (w.heap.size ≤ gb1197) := ⟨h4_⟩
      have n5_ : Aside0 (w.heap.size ≤ gb1197) := ⟨h5_⟩
      have n6_ : Aside0 (gb1188 ≠ gb1197) := ⟨h6_⟩
      have n7_ : Aside0 (gb1197 ≠ gb1188) := ⟨h7_⟩
      have n8_ : Aside0 (gb1189 ≠ gb1197) := ⟨h8_⟩
      have n9_ : Aside0 (gb1197 ≠ gb1189) := ⟨h9_⟩
      have n10_ : Aside0 (Below w.heap.size w w18) := ⟨h10_⟩
      clear BK1188 BK1189 HB
      clear h0_ h1_ h2_ h3_ h4_ h5_ h6_ h7_ h8_ h9_ h10_
      have HO1196 := n0_
      have BK1188 := n1_
      have BK1189 := n2_
      have BK1197 := n3_
      have GW1197 := n4_
      have GE1197 := n5_
      have := geI GE1197
      have NB1188_1197 := n6_
      have NB1197_1188 := n7_
      have NB1189_1197 := n8_
      have NB1197_1189 := n9_
      have HB := n10_
      clear n0_ n1_ n2_ n3_ n4_ n5_ n6_ n7_ n8_ n9_ n10_
      have hHeld : w18.cell? ⟨gb1188, 0, none⟩ = some (.int .i64 a0_0) ∧ w18.cell? ⟨gb1188, 1, none⟩ = some (.slice A0_1 l0_1.length c0_1) := hS_
      refine norm_ (a' := ?_) ?_ ?_
      rotate_left
      ·simp only [putAll, Act.put, ls, lz, ln]
       rfl
      refine on_ 3 (some 17) (bl 10 383) HT_ (fun K hK => ?_)
      refine gS Try.func62 #[.slice A1 l1.length c1] ?_
      with_reducible refine (spec_l01Own.calls _ _ l1 t1191 _ ?side1 ?side2 A5.out).mono ?_
      (case side1 => exact uC ((Kd.C_below HR1.out HB.out)))
      (case side2 => exact HC1.out)
      rintro e w19 ⟨v1192, rfl, ho0, hb⟩
      refine ⟨_, rfl, ?_⟩
      have HO1193 := zA (Kd.R_lower (Kd.R_new' ho0 (Kd.R_lt (uR HO1196.out))) (below_size (uH HB.out)))
      replace HO1196 := zA (Kd.R_elder' (uR HO1196.out) (Kd.R_base ho0) hb)
      replace BK1188 := xB BK1188 hb
      replace BK1189 := xB BK1189 hb
      replace BK1197 := xB BK1197 hb
      replace HB := xH HB hb
      (try clear hb); (try clear hb2); (try clear hk); (try clear hi); (try clear ho0)
      obtain ⟨Ao20, co20, eo20⟩ := Kd.R_slice HO1196.out
      (first | subst eo20 | (injection eo20 with f1_ f2_ f3_; have f4_ := f1_.symm; have f5_ := f3_.symm; clear f1_ f2_ f3_; subst f4_; subst f5_))
      obtain ⟨Ao21, co21, eo21⟩ := Kd.R_slice HO1193.out
      (first | subst eo21 | (injection eo21 with f1_ f2_ f3_; have f4_ := f1_.symm; have f5_ := f3_.symm; clear f1_ f2_ f3_; subst f4_; subst f5_))
      refine hK.out _ _ ⟨bcu BK1188 0, bcu BK1188 1⟩ (fun hHeld => ?_)
      clear hK K
      refine no_ 17 ?_
      refine pu_ 7 21 (bl 10 511) HT_ ?_
      exact norm_ (by first | (simp only [putAll, Act.put, ls, lz, ln]; done) | (simp only [putAll, Act.put, ls, lz, ln]; rfl)) (hJ3_6_8 (.slice Ao21 t1191.length co21, .slice Ao20 y1194.length co20, gb1197) _ ⟨hHeld, (uR (Kd.R_mono HO1193.out (fun _ hk => hk.2))), (uR (Kd.R_mono HO1196.out (fun _ hk => hk.2))), (uB BK1188.out), (uB BK1189.out), (uB BK1197.out), GW1197.out, GE1197.out, NB1188_1197.out, NB1197_1188.out, NB1189_1197.out, NB1197_1189.out, (uH HB.out)⟩)
    ·skip
     rintro ⟨v1192, gb1197⟩ w17 ⟨hS_, h0_, h1_, h2_, h3_, h4_, h5_, h6_, h7_, h8_, h9_, h10_⟩
     have n0_ : Aside0 (Kd.R (Kd.int .i64) 2 w17 w.heap.size (fun _ => True) v1192 t1191) := ⟨h0_⟩
     have n1_ : Aside0 (w17.heap[gb1188]? = some (.cells #[.int .i64 a0_0, .slice A0_1 l0_1.length c0_1] 40 (0, 0))) := ⟨h1_⟩
     have n2_ : Aside0 (w17.heap[gb1189]? = some (.cells #[.int .i64 0, .slice none 0 0, .slice none 0 0] 37 (0, 0))) := ⟨h2_⟩
     have n3_ : Aside0 (w17.heap[gb1197]? = some (.cells #[.int .i64 0, .slice none 0 0, .slice none 0 0] 37 (0, 0))) := ⟨h3_⟩
     have n4_ : Aside0 (w.heap.size ≤ gb1197) := ⟨h4_⟩
     have n5_ : Aside0 (w.heap.size ≤ gb1197) := ⟨h5_⟩
     have n6_ : Aside0 (gb1188 ≠ gb1197) := ⟨h6_⟩
     have n7_ : Aside0 (gb1197 ≠ gb1188) := ⟨h7_⟩
     have n8_ : Aside0 (gb1189 ≠ gb1197) := ⟨h8_⟩
     have n9_ : Aside0 (gb1197 ≠ gb1189) := ⟨h9_⟩
     have n10_ : Aside0 (Below w.heap.size w w17) := ⟨h10_⟩
     clear BK1188 BK1189 HB
     clear h0_ h1_ h2_ h3_ h4_ h5_ h6_ h7_ h8_ h9_ h10_
     have HO1193 := n0_
     have BK1188 := n1_
     have BK1189 := n2_
     have BK1197 := n3_
     have GW1197 := n4_
     have GE1197 := n5_
     have := geI GE1197
     have NB1188_1197 := n6_
     have NB1197_1188 := n7_
     have NB1189_1197 := n8_
     have NB1197_1189 := n9_
     have HB := n10_
     clear n0_ n1_ n2_ n3_ n4_ n5_ n6_ n7_ n8_ n9_ n10_
     have hHeld : w17.cell? ⟨gb1188, 0, none⟩ = some (.int .i64 a0_0) ∧ w17.cell? ⟨gb1188, 1, none⟩ = some (.slice A0_1 l0_1.length c0_1) := hS_
     refine norm_ (a' := ?_) ?_ ?_
     rotate_left
     ·simp only [putAll, Act.put, ls, lz, ln]
      rfl
     refine on_ 6 (some 20) (bl 10 383) HT_ (fun K hK => ?_)
     refine Kd.R_make_step (Kd.int .i64) _ 2 (by rfl) (N := 20) rfl 22 _ _ rfl (l1.length : Int) rfl rfl Try.underlying22 (.int .i64 0) 8 info2 rfl (by decide) (by omega) 0 (ok := fun _ => True) (okp := fun _ => True) rfl (fun _ hk => hk) trivial (of_decide_eq_true (by first | (with_reducible assumption) | assumption)) (Nat.le_trans (Nat.mul_le_mul_right _ (of_decide_eq_true (by first | (with_reducible assumption) | assumption) : (l1.length : Int).toNat ≤ 35184372088832)) (by omega)) (Below.refl _ _) (Nat.le_refl _) ?_
     intro v1195 w18 ho19 hb hg_ hnew_
     clear hg_ hnew_
     (first | rw [← Ny1194.out] at ho19 | (simp only [Int.reduceToNat] at ho19; rw [← Ny1194.out] at ho19))
     have HO1196 := zA (Kd.R_lower (Kd.R_new' ho19 (Kd.R_lt (uR HO1193.out))) (below_size (uH HB.out)))
     replace HO1193 := zA (Kd.R_elder' (uR HO1193.out) (Kd.R_base ho19) hb)
     replace BK1188 := xB BK1188 hb
     replace BK1189 := xB BK1189 hb
     replace BK1197 := xB BK1197 hb
     replace HB := xH HB hb
     clear hb ho19
     obtain ⟨Ao20, co20, eo20⟩ := Kd.R_slice HO1196.out
     (first | subst eo20 | (injection eo20 with f1_ f2_ f3_; have f4_ := f1_.symm; have f5_ := f3_.symm; clear f1_ f2_ f3_; subst f4_; subst f5_))
     obtain ⟨Ao21, co21, eo21⟩ := Kd.R_slice HO1193.out
     (first | subst eo21 | (injection eo21 with f1_ f2_ f3_; have f4_ := f1_.symm; have f5_ := f3_.symm; clear f1_ f2_ f3_; subst f4_; subst f5_))
     refine hK.out _ _ ⟨bcu BK1188 0, bcu BK1188 1⟩ (fun hHeld => ?_)
     clear hK K
     refine no_ 20 ?_
     refine pu_ 7 21 (bl 10 511) HT_ ?_
     exact norm_ (by first | (simp only [putAll, Act.put, ls, lz, ln]; done) | (simp only [putAll, Act.put, ls, lz, ln]; rfl)) (hJ3_6_8 (.slice Ao21 t1191.length co21, .slice Ao20 y1194.length co20, gb1197) _ ⟨hHeld, (uR (Kd.R_mono HO1193.out (fun _ hk => hk.2))), (uR (Kd.R_mono HO1196.out (fun _ hk => hk.2))), (uB BK1188.out), (uB BK1189.out), (uB BK1197.out), GW1197.out, GE1197.out, NB1188_1197.out, NB1197_1188.out, NB1189_1197.out, NB1197_1189.out, (uH HB.out)⟩)
   ·skip
    rintro ⟨v1192, v1195⟩ w20 ⟨hS_, h0_, h1_, h2_, h3_, h4_⟩
    have n0_ : Aside0 (Kd.R (Kd.int .i64) 2 w20 w.heap.size (fun k_ => some k_ ≠ (v1195 : Value).ownBlock) v1192 t1191) := ⟨h0_⟩
    have n1_ : Aside0 (Kd.R (Kd.int .i64) 2 w20 w.heap.size (fun k_ => some k_ ≠ (v1192 : Value).ownBlock) v1195 y1194) := ⟨h1_⟩
    have n2_ : Aside0 (w20.heap[gb1188]? = some (.cells #[.int .i64 a0_0, .slice A0_1 l0_1.length c0_1] 40 (0, 0))) := ⟨h2_⟩
    have n3_ : Aside0 (w20.heap[gb1189]? = some (.cells #[.int .i64 0, .slice none 0 0, .slice none 0 0] 37 (0, 0))) := ⟨h3_⟩
    have n4_ : Aside0 (Below w.heap.size w w20) := ⟨h4_⟩
    clear BK1188 BK1189 HB
    clear h0_ h1_ h2_ h3_ h4_
    have HO1193 := n0_
    have HO1196 := n1_
    have BK1188 := n2_
    have BK1189 := n3_
    have HB := n4_
    clear n0_ n1_ n2_ n3_ n4_
    have hHeld : w20.cell? ⟨gb1188, 0, none⟩ = some (.int .i64 a0_0) ∧ w20.cell? ⟨gb1188, 1, none⟩ = some (.slice A0_1 l0_1.length c0_1) := hS_
    obtain ⟨Ao21, co21, eo21⟩ := Kd.R_slice HO1196.out
    (first | subst eo21 | (injection eo21 with f1_ f2_ f3_; have f4_ := f1_.symm; have f5_ := f3_.symm; clear f1_ f2_ f3_; subst f4_; subst f5_))
    obtain ⟨Ao22, co22, eo22⟩ := Kd.R_slice HO1193.out
    (first | subst eo22 | (injection eo22 with f1_ f2_ f3_; have f4_ := f1_.symm; have f5_ := f3_.symm; clear f1_ f2_ f3_; subst f4_; subst f5_))
    refine norm_ (a' := ?_) ?_ ?_
    rotate_left
    ·simp only [putAll, Act.put, ls, lz, ln]
     rfl
    refine on_ 8 (some 6) (bl 10 511) HT_ (fun K hK => ?_)
    refine box_step ?hg (N := 6) ?hd (cs := #[.int .i64 0, .slice none 0 0, .slice none 0 0]) (t := 37) ?hr ?_; (case hd => rfl); (case hg => rfl); (case hr => first | (go_simp; done) | (go_simp; rfl))
    intro gb1197 hg w23 hbox hb
    replace HO1193 := xR HO1193 hb
    replace HO1196 := xR HO1196 hb
    have BK1197 := zA (hbox)
    have GW1197 := gq HB hg
    have GE1197 := gq HB hg
    replace HB := xH HB hb
    have NB1188_1197 := zA ((by rw [hg]; exact neL BK1188 : gb1188 ≠ gb1197))
    have NB1197_1188 := zA ((by rw [hg]; exact neG BK1188 : gb1197 ≠ gb1188))
    replace BK1188 := xB BK1188 hb
    have NB1189_1197 := zA ((by rw [hg]; exact neL BK1189 : gb1189 ≠ gb1197))
    have NB1197_1189 := zA ((by rw [hg]; exact neG BK1189 : gb1197 ≠ gb1189))
    replace BK1189 := xB BK1189 hb
    have := geI GE1197
    clear hb hbox hg
    refine hK.out _ _ ⟨bcu BK1188 0, bcu BK1188 1⟩ (fun hHeld => ?_)
    clear hK K
    refine no_ 6 ?_
    exact norm_ (by first | (simp only [putAll, Act.put, ls, lz, ln]; done) | (simp only [putAll, Act.put, ls, lz, ln]; rfl)) (hJ3_6_8 (.slice Ao22 t1191.length co22, .slice Ao21 y1194.length co21, gb1197) _ ⟨hHeld, (uR HO1193.out), (uR HO1196.out), (uB BK1188.out), (uB BK1189.out), (uB BK1197.out), GW1197.out, GE1197.out, NB1188_1197.out, NB1197_1188.out, NB1189_1197.out, NB1197_1189.out, (uH HB.out)⟩)
  rintro ⟨v1192, v1195, gb1197⟩ w21 ⟨hS_, h0_, h1_, h2_, h3_, h4_, h5_, h6_, h7_, h8_, h9_, h10_, h11_⟩
  have n0_ : Aside0 (Kd.R (Kd.int .i64) 2 w21 w.heap.size (fun k_ => some k_ ≠ (v1195 : Value).ownBlock) v1192 t1191) := ⟨h0_⟩
  have n1_ : Aside0 (Kd.R (Kd.int .i64) 2 w21 w.heap.size (fun k_ => some k_ ≠ (v1192 : Value).ownBlock) v1195 y1194) := ⟨h1_⟩
  have n2_ : Aside0 (w21.heap[gb1188]? = some (.cells #[.int .i64 a0_0, .slice A0_1 l0_1.length c0_1] 40 (0, 0))) := ⟨h2_⟩
  have n3_ : Aside0 (w21.heap[gb1189]? = some (.cells #[.int .i64 0, .slice none 0 0, .slice none 0 0] 37 (0, 0))) := ⟨h3_⟩
  have n4_ : Aside0 (w21.heap[gb1197]? = some (.cells #[.int .i64 0, .slice none 0 0, .slice none 0 0] 37 (0, 0))) := ⟨h4_⟩
  have n5_ : Aside0 (w.heap.size ≤ gb1197) := ⟨h5_⟩
  have n6_ : Aside0 (w.heap.size ≤ gb1197) := ⟨h6_⟩
  have n7_ : Aside0 (gb1188 ≠ gb1197) := ⟨h7_⟩
  have n8_ : Aside0 (gb1197 ≠ gb1188) := ⟨h8_⟩
  have n9_ : Aside0 (gb1189 ≠ gb1197) := ⟨h9_⟩
  have n10_ : Aside0 (gb1197 ≠ gb1189) := ⟨h10_⟩
  have n11_ : Aside0 (Below w.heap.size w w21) := ⟨h11_⟩
  clear BK1188 BK1189 HB
  clear h0_ h1_ h2_ h3_ h4_ h5_ h6_ h7_ h8_ h9_ h10_ h11_
  have HO1193 := n0_
  have HO1196 := n1_
  have BK1188 := n2_
  have BK1189 := n3_
  have BK1197 := n4_
  have GW1197 := n5_
  have GE1197 := n6_
  have := geI GE1197
  have NB1188_1197 := n7_
  have NB1197_1188 := n8_
  have NB1189_1197 := n9_
  have NB1197_1189 := n10_
  have HB := n11_
  clear n0_ n1_ n2_ n3_ n4_ n5_ n6_ n7_ n8_ n9_ n10_ n11_
  have hHeld : w21.cell? ⟨gb1188, 0, none⟩ = some (.int .i64 a0_0) ∧ w21.cell? ⟨gb1188, 1, none⟩ = some (.slice A0_1 l0_1.length c0_1) := hS_
  obtain ⟨Ao22, co22, eo22⟩ := Kd.R_slice HO1196.out
  (first | subst eo22 | (injection eo22 with f1_ f2_ f3_; have f4_ := f1_.symm; have f5_ := f3_.symm; clear f1_ f2_ f3_; subst f4_; subst f5_))
  obtain ⟨Ao23, co23, eo23⟩ := Kd.R_slice HO1193.out
  (first | subst eo23 | (injection eo23 with f1_ f2_ f3_; have f4_ := f1_.symm; have f5_ := f3_.symm; clear f1_ f2_ f3_; subst f4_; subst f5_))
  refine norm_ (a' := ?_) ?_ ?_
  rotate_left
  ·simp only [putAll, Act.put, ls, lz, ln]
   rfl
  refine on_ 9 (none) (bl 10 1023) HT_ (fun K hK => ?_)
  have hs24 : w21.cell? ⟨gb1197, 0, none⟩ = some (.int .i64 0) := (blk_cell BK1197.out 0).trans rfl
  have hfs24 := bf BK1197 0
  have hns24_0 := NB1188_1197.out; have hns24_1 := NB1189_1197.out; have hms24_0 := NB1197_1188.out; have hms24_1 := NB1197_1189.out
  have hs25 : w21.cell? ⟨gb1197, 1, none⟩ = some (.slice none 0 0) := (blk_cell BK1197.out 1).trans rfl
  have hfs25 := bf BK1197 1
  have hns25_0 := NB1188_1197.out; have hns25_1 := NB1189_1197.out; have hms25_0 := NB1197_1188.out; have hms25_1 := NB1197_1189.out
  have hs26 : w21.cell? ⟨gb1197, 2, none⟩ = some (.slice none 0 0) := (blk_cell BK1197.out 2).trans rfl
  have hfs26 := bf BK1197 2
  have hns26_0 := NB1188_1197.out; have hns26_1 := NB1189_1197.out; have hms26_0 := NB1197_1188.out; have hms26_1 := NB1197_1189.out
  refine skip_ (w1 := ?_) (by rfl) rfl ?_ ?_
  rotate_left
  ·go_simp
   rfl
  refine hK.out _ _ ⟨((cell_far (p := ⟨gb1197, _, none⟩) NB1188_1197.out _).trans (((cell_far (p := ⟨gb1197, _, none⟩) NB1188_1197.out _).trans (((cell_far (p := ⟨gb1197, _, none⟩) NB1188_1197.out _).trans (hHeld.1)))))), ((cell_far (p := ⟨gb1197, _, none⟩) NB1188_1197.out _).trans (((cell_far (p := ⟨gb1197, _, none⟩) NB1188_1197.out _).trans (((cell_far (p := ⟨gb1197, _, none⟩) NB1188_1197.out _).trans (hHeld.2))))))⟩ (fun hHeld => ?_)
  clear hK K
  refine done_ (done_of HT_.out (by kernel_rfl)) ?_
  go_upto_region 4 with (fail)
  go_cut [32] (fun v32 wc => ∃ (kq : Nat) (x32_7 : Bool), v32 = .bool x32_7 ∧ Aside0 (spec_WeightsFor.j0 kq l1 x32_7 a0_0 l0_1 a0_0 t1191 y1194 = some (r1, r2, r3, r4)) ∧ Aside0 (kq ≤ k) ∧ Aside0 (Kd.R (Kd.int .i64) 2 wc w.heap.size (fun k_ => ax k_ (.slice Ao22 y1194.length co22)) (.slice Ao23 t1191.length co23) t1191) ∧ Aside0 (Kd.R (Kd.int .i64) 2 wc w.heap.size (fun k_ => ax k_ (.slice Ao23 t1191.length co23)) (.slice Ao22 y1194.length co22) y1194) ∧ Aside0 (wc.heap[gb1188]? = some (.cells #[.int .i64 a0_0, (.slice A0_1 l0_1.length c0_1)] 40 (0, 0))) ∧ Aside0 (wc.heap[gb1189]? = some (.cells #[.int .i64 0, (.slice none 0 0), (.slice none 0 0)] 37 (0, 0))) ∧ Aside0 (wc.heap[gb1197]? = some (.cells #[.int .i64 a0_0, (.slice Ao23 t1191.length co23), (.slice Ao22 y1194.length co22)] 37 (0, 0))) ∧ Aside0 (Below w.heap.size w wc))
  case first =>
   have H := HC8.out
   clear HC8
   replace H := Option.bind_eq_some_iff.mp H
   obtain ⟨t1198, A270, H⟩ := H
   replace H : (if t1198 = true then (spec_WeightsFor.j0 k l1 (decide ((l1.length : Int) > (l0_1.length : Int))) a0_0 l0_1 a0_0 t1191 y1194) else (spec_WeightsFor.j0 k l1 true a0_0 l0_1 a0_0 t1191 y1194)) = some (r1, r2, r3, r4) := H
   have A27 := zA A270
   clear A270
   by_cases c28 : t1198 = true
   ·subst c28
    have H1 : (spec_WeightsFor.j0 k l1 (decide ((l1.length : Int) > (l0_1.length : Int))) a0_0 l0_1 a0_0 t1191 y1194) = some (r1, r2, r3, r4) := by rw [if_pos rfl] at H; exact H
    clear H
    have H := H1
    clear H1
    have H' := zA H
    clear H
    have hnb29 := NB1197_1188.out; have hnc29 := NB1188_1197.out; have hnb30 := NB1197_1189.out; have hnc30 := NB1189_1197.out
    have hcz31_0 := bc BK1197 0
    have hcz31_1 := bc BK1197 1
    have hcz31_2 := bc BK1197 2
    have hfz31_0 := bf BK1197 0
    have hfz31_1 := bf BK1197 1
    have hfz31_2 := bf BK1197 2
    go_wp2_with (first | ((with_reducible refine gate_callee (f := 63) rfl ?_); refine gL (some 23) Try.func63 #[.agg #[.int .i64 a0_0, .slice Ao23 t1191.length co23, .slice Ao22 y1194.length co22]] ?_; (with_reducible refine (spec_l07Is.calls k a0_0 _ _ t1191 _ _ y1194 true _ ?side1 ?side2 ?side3 ?side4 A27.out).mono ?_); (case side1 => refine (Kd.R_reads' (e := 2) (base := w.heap.size) (ok := fun k_ => ax k_ (.slice Ao22 y1194.length co22)) (n := t1191.length) (c := co23) ?_).2.2; exact (uR ((rf3 HO1193 BK1197 (by decide) (.int .i64 a0_0) (.slice Ao23 t1191.length co23) (.slice Ao22 y1194.length co22))))); (case side2 => exact (Kd.R_reads' HO1193.out).2.1); (case side3 => refine (Kd.R_reads' (e := 2) (base := w.heap.size) (ok := fun k_ => ax k_ (.slice Ao23 t1191.length co23)) (n := y1194.length) (c := co22) ?_).2.2; exact (uR ((rf3 HO1196 BK1197 (by decide) (.int .i64 a0_0) (.slice Ao23 t1191.length co23) (.slice Ao22 y1194.length co22))))); (case side4 => exact (Kd.R_reads' HO1196.out).2.1); rintro e w32 ⟨rfl, hb⟩; refine ⟨_, rfl, ?_⟩; replace HO1193 := zA (Kd.R_below (uR ((rf3 HO1193 BK1197 (by decide) (.int .i64 a0_0) (.slice Ao23 t1191.length co23) (.slice Ao22 y1194.length co22)))) hb); replace HO1196 := zA (Kd.R_below (uR ((rf3 HO1196 BK1197 (by decide) (.int .i64 a0_0) (.slice Ao23 t1191.length co23) (.slice Ao22 y1194.length co22)))) hb); replace BK1188 := zA (blk_below (g := gb1188) (o := .cells #[.int .i64 a0_0, .slice A0_1 l0_1.length c0_1] 40 (0, 0)) (by (repeat refine up1 ?_); refine blk_far ?_ NB1188_1197.out _; (repeat refine up1 ?_); refine blk_far ?_ NB1188_1197.out _; (repeat refine up1 ?_); refine blk_far ?_ NB1188_1197.out _; (repeat refine up1 ?_); exact BK1188.out) hb); replace BK1189 := zA (blk_below (g := gb1189) (o := .cells #[.int .i64 0, .slice none 0 0, .slice none 0 0] 37 (0, 0)) (by (repeat refine up1 ?_); refine blk_far ?_ NB1189_1197.out _; (repeat refine up1 ?_); refine blk_far ?_ NB1189_1197.out _; (repeat refine up1 ?_); refine blk_far ?_ NB1189_1197.out _; (repeat refine up1 ?_); exact BK1189.out) hb); replace BK1197 := zA (blk_below (g := gb1197) (o := .cells #[.int .i64 a0_0, .slice Ao23 t1191.length co23, .slice Ao22 y1194.length co22] 37 (0, 0)) (by (repeat refine up1 ?_); refine blk_put (cs := #[.int .i64 a0_0, .slice Ao23 t1191.length co23, .slice none 0 0]) ?_ 2 _ rfl; (repeat refine up1 ?_); refine blk_put (cs := #[.int .i64 a0_0, .slice none 0 0, .slice none 0 0]) ?_ 1 _ rfl; (repeat refine up1 ?_); refine blk_put (cs := #[.int .i64 0, .slice none 0 0, .slice none 0 0]) ?_ 0 _ rfl; (repeat refine up1 ?_); exact BK1197.out) hb); replace HB := xH HB hb; (try clear hb); (try clear hb2); (try clear hk); (try clear hi); have hnb33 := NB1188_1189.out; have hnc33 := NB1189_1188.out; have hcz34_0 := bc BK1188 0; have hcz34_1 := bc BK1188 1; have hfz34_0 := bf BK1188 0; have hfz34_1 := bf BK1188 1))
    go_meet
    case rel => exact ⟨_, (decide ((l1.length : Int) > (l0_1.length : Int))), (by first | rfl | (simp; done) | (simp [*]; done)), H', ⟨by first | omega | exact Nat.le_refl _⟩, ⟨uR HO1193.out⟩, ⟨uR HO1196.out⟩, ⟨uB BK1188.out⟩, ⟨uB BK1189.out⟩, ⟨uB BK1197.out⟩, ⟨uH HB.out⟩⟩
   ·replace c28 := Bool.eq_false_iff.mpr c28
    subst c28
    have H1 : (spec_WeightsFor.j0 k l1 true a0_0 l0_1 a0_0 t1191 y1194) = some (r1, r2, r3, r4) := by rw [if_neg (show ¬ (false = true) by decide)] at H; exact H
    clear H
    have H := H1
    clear H1
    have H' := zA H
    clear H
    have hnb35 := NB1197_1188.out; have hnc35 := NB1188_1197.out; have hnb36 := NB1197_1189.out; have hnc36 := NB1189_1197.out
    have hcz37_0 := bc BK1197 0
    have hcz37_1 := bc BK1197 1
    have hcz37_2 := bc BK1197 2
    have hfz37_0 := bf BK1197 0
    have hfz37_1 := bf BK1197 1
    have hfz37_2 := bf BK1197 2
    go_wp2_with (first | ((with_reducible refine gate_callee (f := 63) rfl ?_); refine gL (some 23) Try.func63 #[.agg #[.int .i64 a0_0, .slice Ao23 t1191.length co23, .slice Ao22 y1194.length co22]] ?_; (with_reducible refine (spec_l07Is.calls k a0_0 _ _ t1191 _ _ y1194 false _ ?side1 ?side2 ?side3 ?side4 A27.out).mono ?_); (case side1 => refine (Kd.R_reads' (e := 2) (base := w.heap.size) (ok := fun k_ => ax k_ (.slice Ao22 y1194.length co22)) (n := t1191.length) (c := co23) ?_).2.2; exact (uR ((rf3 HO1193 BK1197 (by decide) (.int .i64 a0_0) (.slice Ao23 t1191.length co23) (.slice Ao22 y1194.length co22))))); (case side2 => exact (Kd.R_reads' HO1193.out).2.1); (case side3 => refine (Kd.R_reads' (e := 2) (base := w.heap.size) (ok := fun k_ => ax k_ (.slice Ao23 t1191.length co23)) (n := y1194.length) (c := co22) ?_).2.2; exact (uR ((rf3 HO1196 BK1197 (by decide) (.int .i64 a0_0) (.slice Ao23 t1191.length co23) (.slice Ao22 y1194.length co22))))); (case side4 => exact (Kd.R_reads' HO1196.out).2.1); rintro e w38 ⟨rfl, hb⟩; refine ⟨_, rfl, ?_⟩; replace HO1193 := zA (Kd.R_below (uR ((rf3 HO1193 BK1197 (by decide) (.int .i64 a0_0) (.slice Ao23 t1191.length co23) (.slice Ao22 y1194.length co22)))) hb); replace HO1196 := zA (Kd.R_below (uR ((rf3 HO1196 BK1197 (by decide) (.int .i64 a0_0) (.slice Ao23 t1191.length co23) (.slice Ao22 y1194.length co22)))) hb); replace BK1188 := zA (blk_below (g := gb1188) (o := .cells #[.int .i64 a0_0, .slice A0_1 l0_1.length c0_1] 40 (0, 0)) (by (repeat refine up1 ?_); refine blk_far ?_ NB1188_1197.out _; (repeat refine up1 ?_); refine blk_far ?_ NB1188_1197.out _; (repeat refine up1 ?_); refine blk_far ?_ NB1188_1197.out _; (repeat refine up1 ?_); exact BK1188.out) hb); replace BK1189 := zA (blk_below (g := gb1189) (o := .cells #[.int .i64 0, .slice none 0 0, .slice none 0 0] 37 (0, 0)) (by (repeat refine up1 ?_); refine blk_far ?_ NB1189_1197.out _; (repeat refine up1 ?_); refine blk_far ?_ NB1189_1197.out _; (repeat refine up1 ?_); refine blk_far ?_ NB1189_1197.out _; (repeat refine up1 ?_); exact BK1189.out) hb); replace BK1197 := zA (blk_below (g := gb1197) (o := .cells #[.int .i64 a0_0, .slice Ao23 t1191.length co23, .slice Ao22 y1194.length co22] 37 (0, 0)) (by (repeat refine up1 ?_); refine blk_put (cs := #[.int .i64 a0_0, .slice Ao23 t1191.length co23, .slice none 0 0]) ?_ 2 _ rfl; (repeat refine up1 ?_); refine blk_put (cs := #[.int .i64 a0_0, .slice none 0 0, .slice none 0 0]) ?_ 1 _ rfl; (repeat refine up1 ?_); refine blk_put (cs := #[.int .i64 0, .slice none 0 0, .slice none 0 0]) ?_ 0 _ rfl; (repeat refine up1 ?_); exact BK1197.out) hb); replace HB := xH HB hb; (try clear hb); (try clear hb2); (try clear hk); (try clear hi)))
    go_meet
    case rel => exact ⟨_, (true), (by first | rfl | (simp; done) | (simp [*]; done)), H', ⟨by first | omega | exact Nat.le_refl _⟩, ⟨uR HO1193.out⟩, ⟨uR HO1196.out⟩, ⟨uB BK1188.out⟩, ⟨uB BK1189.out⟩, ⟨uB BK1197.out⟩, ⟨uH HB.out⟩⟩
  case rest =>
   clear HC8
   (try clear c1);(try clear c2);(try clear p2);(try clear c3);(try clear c6);(try clear c28);(try clear c29);(try clear c30);(try clear c33);(try clear c35);(try clear c36);(try clear hcz31_0);(try clear hcz31_1);(try clear hcz31_2);(try clear hcz34_0);(try clear hcz34_1);(try clear hcz37_0);(try clear hcz37_1);(try clear hcz37_2);(try clear hfz31_0);(try clear hfz31_1);(try clear hfz31_2);(try clear hfz34_0)
   (try clear hfz34_1);(try clear hfz37_0);(try clear hfz37_1);(try clear hfz37_2)
   obtain ⟨kq, x32_7, rfl, HA, HJ7, HO_1198001, HO_1198002, BK1188, BK1189, BK1197, HB⟩ := hcut
   cases kq with
   | zero => exact absurd HA.out (by simp [spec_WeightsFor.j0])
   | succ kj7 =>
    have H := HA.out
    clear HA
    simp only [spec_WeightsFor.j0] at H
    by_cases c39 : x32_7 = true
    ·subst c39
     have H1 : (some (0, ([] : List Int), ([] : List Int), 2)) = some (r1, r2, r3, r4) := by rw [if_pos rfl] at H; exact H
     clear H
     have H := H1
     clear H1
     simp only [Option.some.injEq, Prod.mk.injEq] at H
     obtain ⟨rfl, rfl, rfl, rfl⟩ := H
     have hnb40 := NB1189_1188.out; have hnc40 := NB1188_1189.out; have hnb41 := NB1189_1197.out; have hnc41 := NB1197_1189.out
     have hcz42_0 := bc BK1189 0
     have hcz42_1 := bc BK1189 1
     have hcz42_2 := bc BK1189 2
     have hfz42_0 := bf BK1189 0
     have hfz42_1 := bf BK1189 1
     have hfz42_2 := bf BK1189 2
     go_wp2
     refine bodyPost_ret (results_ct rfl _ _ gb1189 37 #[.int .i64 0, .slice none 0 0, .slice none 0 0] (0, 0) _ rfl (by (repeat refine up1 ?_); refine blk_put (cs := #[.int .i64 0, .slice none 0 0, .slice none 0 0]) ?_ 2 _ rfl; (repeat refine up1 ?_); refine blk_put (cs := #[.int .i64 0, .slice none 0 0, .slice none 0 0]) ?_ 1 _ rfl; (repeat refine up1 ?_); refine blk_put (cs := #[.int .i64 0, .slice none 0 0, .slice none 0 0]) ?_ 0 _ rfl; (repeat refine up1 ?_); exact BK1189.out) Try.underlying37 rfl (by kernel_rfl)) rfl ?_
     exact ⟨_, _, by first | rfl | (simp [errW_none, errW_some] <;> rfl) | (simp [*, errW_none, errW_some] <;> rfl), by first | exact Kd.R_nil _ _ _ _ _ | exact Kd.N_nil _ _ _ _ _ | exact Kd.V_nil _ _ _ _ _ | exact Kd.Q_nil _ _ _ _ _ | exact Kd.S_nil _ _ _ _ _, by first | exact Kd.R_nil _ _ _ _ _ | exact Kd.N_nil _ _ _ _ _ | exact Kd.V_nil _ _ _ _ _ | exact Kd.Q_nil _ _ _ _ _ | exact Kd.S_nil _ _ _ _ _, uH HB.out⟩
    ·replace c39 := Bool.eq_false_iff.mpr c39
     subst c39
     have H1 : (spec_WeightsFor.l0 kj7 l1 0 a0_0 l0_1 a0_0 t1191 y1194) = some (r1, r2, r3, r4) := by rw [if_neg (show ¬ (false = true) by decide)] at H; exact H
     clear H
     have H := H1
     clear H1
     have H' := zA H
     clear H
     go_wp2
     go_loopg [7] kj7 (fun kq v7 w' => ∃ (x7_2 : Int) (x1198001_2 : List Int) (x1198002_2 : List Int) (u1198001 : Value) (u1198002 : Value), v7 = .int .i64 x7_2 ∧ Aside0 (spec_WeightsFor.l0 kq l1 x7_2 a0_0 l0_1 a0_0 x1198001_2 x1198002_2 = some (r1, r2, r3, r4)) ∧ Aside0 (kq ≤ kj7) ∧ Aside0 (Kd.R (Kd.int .i64) 2 w' w.heap.size (fun k_ => some k_ ≠ (u1198002 : Value).ownBlock) u1198001 x1198001_2) ∧ Aside0 (Kd.R (Kd.int .i64) 2 w' w.heap.size (fun k_ => some k_ ≠ (u1198001 : Value).ownBlock) u1198002 x1198002_2) ∧ Aside0 (w'.heap[gb1188]? = some (.cells #[.int .i64 a0_0, (.slice A0_1 l0_1.length c0_1)] 40 (0, 0))) ∧ Aside0 (w'.heap[gb1189]? = some (.cells #[.int .i64 0, (.slice none 0 0), (.slice none 0 0)] 37 (0, 0))) ∧ Aside0 (w'.heap[gb1197]? = some (.cells #[.int .i64 a0_0, u1198001, u1198002] 37 (0, 0))) ∧ Aside0 (Below w.heap.size w w'))
     case atStart => exact ⟨(0), (t1191), (y1194), (.slice Ao23 t1191.length co23), (.slice Ao22 y1194.length co22), (by first | rfl | (simp; done) | (simp [*]; done)), H', ⟨Nat.le_refl _⟩, ⟨uR HO_1198001.out⟩, ⟨uR HO_1198002.out⟩, ⟨uB BK1188.out⟩, ⟨uB BK1189.out⟩, ⟨uB BK1197.out⟩, ⟨uH HB.out⟩⟩
     case round =>
      clear H'
      (try clear c1);(try clear c2);(try clear p2);(try clear c3);(try clear c4);(try clear c6);(try clear c28);(try clear c29);(try clear c30);(try clear c33);(try clear c35);(try clear c36);(try clear c39);(try clear c40);(try clear c41);(try clear hcz31_0);(try clear hcz31_1);(try clear hcz31_2);(try clear hcz34_0);(try clear hcz34_1);(try clear hcz37_0);(try clear hcz37_1);(try clear hcz37_2);(try clear hcz42_0)
      (try clear hcz42_1);(try clear hcz42_2);(try clear hfz31_0);(try clear hfz31_1);(try clear hfz31_2);(try clear hfz34_0);(try clear hfz34_1);(try clear hfz37_0);(try clear hfz37_1);(try clear hfz37_2);(try clear hfz42_0);(try clear hfz42_1);(try clear hfz42_2);(try clear p2)
      obtain ⟨x7_2, x1198001_2, x1198002_2, u1198001, u1198002, rfl, HA, HK2, HO_1198001, HO_1198002, BK1188, BK1189, BK1197, HB⟩ := hrel
      cases gk with
      | zero => exact absurd HA.out (by simp [spec_WeightsFor.l0])
      | succ k2 =>
       have H := HA.out
       clear HA
       simp only [spec_WeightsFor.l0] at H
       by_cases c43 : x7_2 < (l1.length : Int)
       rotate_left
       ·rw [if_neg c43] at H
        have c43b0 : decide (x7_2 < (l1.length : Int)) = false := decide_eq_false c43
        clear c43
        simp only [Option.some.injEq, Prod.mk.injEq] at H
        obtain ⟨rfl, rfl, rfl, rfl⟩ := H
        have hnb72 := NB1197_1188.out; have hnc72 := NB1188_1197.out; have hnb73 := NB1197_1189.out; have hnc73 := NB1189_1197.out
        have hcz74_0 := bc BK1197 0
        have hcz74_1 := bc BK1197 1
        have hcz74_2 := bc BK1197 2
        have hfz74_0 := bf BK1197 0
        have hfz74_1 := bf BK1197 1
        have hfz74_2 := bf BK1197 2
        have hnb75 := NB1189_1188.out; have hnc75 := NB1188_1189.out
        have hcz76_0 := bc BK1189 0
        have hcz76_1 := bc BK1189 1
        have hcz76_2 := bc BK1189 2
        have hfz76_0 := bf BK1189 0
        have hfz76_1 := bf BK1189 1
        have hfz76_2 := bf BK1189 2
        obtain ⟨Ao77, co77, eo77⟩ := Kd.R_slice HO_1198001.out
        subst eo77
        obtain ⟨Ao78, co78, eo78⟩ := Kd.R_slice HO_1198002.out
        subst eo78
        go_wp2
        refine bodyPost_ret (results_ct rfl _ _ gb1189 37 #[.int .i64 a0_0, .slice Ao77 x1198001_2.length co77, .slice Ao78 x1198002_2.length co78] (0, 0) _ rfl (by (repeat refine up1 ?_); refine blk_put (cs := #[.int .i64 a0_0, .slice Ao77 x1198001_2.length co77, .slice none 0 0]) ?_ 2 _ rfl; (repeat refine up1 ?_); refine blk_put (cs := #[.int .i64 a0_0, .slice none 0 0, .slice none 0 0]) ?_ 1 _ rfl; (repeat refine up1 ?_); refine blk_put (cs := #[.int .i64 0, .slice none 0 0, .slice none 0 0]) ?_ 0 _ rfl; (repeat refine up1 ?_); exact BK1189.out) Try.underlying37 rfl (by kernel_rfl)) rfl ?_
        exact ⟨_, _, by first | rfl | (simp [errW_none, errW_some] <;> rfl) | (simp [*, errW_none, errW_some] <;> rfl), uR (rf3 HO_1198001 BK1189 (by decide) (.int .i64 a0_0) (.slice Ao77 x1198001_2.length co77) (.slice Ao78 x1198002_2.length co78)), uR (rf3 HO_1198002 BK1189 (by decide) (.int .i64 a0_0) (.slice Ao77 x1198001_2.length co77) (.slice Ao78 x1198002_2.length co78)), uH HB.out⟩
       rw [if_pos c43] at H
       have c43b0 : decide (x7_2 < (l1.length : Int)) = true := decide_eq_true c43
       clear c43
       by_cases c44 : 0 ≤ x7_2
       rotate_left
       ·rw [if_neg c44] at H
        exact absurd H (by simp)
       rw [if_pos c44] at H
       have c44b0 := eq_true c44
       have c44b1 : decide (0 ≤ x7_2) = true := decide_eq_true c44
       clear c44
       by_cases c45 : x7_2 ≤ (l1.length : Int)
       rotate_left
       ·rw [if_neg c45] at H
        exact absurd H (by simp)
       rw [if_pos c45] at H
       have c45b0 := eq_true c45
       have c45b1 : decide (x7_2 ≤ (l1.length : Int)) = true := decide_eq_true c45
       clear c45
       replace H := Option.bind_eq_some_iff.mp H
       obtain ⟨t1200, A460, H⟩ := H
       replace H : (if 0 ≤ (wrap64 (x7_2 + 1)) then (if (wrap64 (x7_2 + 1)) ≤ (l1.length : Int) then (if t1200.length + (l1.drop ((wrap64 (x7_2 + 1)) : Int).toNat).length < 17592186044416 then ((spec_l07Nodes.f k2 a0_0 (t1200 ++ (l1.drop ((wrap64 (x7_2 + 1)) : Int).toNat))).bind fun t1207 => ((spec_l07Apply.f k2 a0_0 l0_1 t1207).bind fun t1210 => ((spec_l01At.f k2 a0_0 t1207 (rd l1 x7_2)).bind fun t1212 => ((spec_l01Inverse.f k2 a0_0 t1212).bind fun t1213 => (if a0_0 = 0 then (none) else (if x7_2 < (x1198002_2.length : Int) then (spec_WeightsFor.l0 k2 l1 (wrap64 (x7_2 + 1)) a0_0 l0_1 a0_0 x1198001_2 (x1198002_2.set (x7_2 : Int).toNat (Int.tmod (wrap64 (t1210 * t1213)) a0_0))) else (none))))))) else (none)) else (none)) else (none)) = some (r1, r2, r3, r4) := H
       have A46 := zA A460
       clear A460
       obtain ⟨ji47, hji47⟩ : ∃ j_ : Int, (wrap64 (x7_2 + 1)) = j_ := ⟨_, rfl⟩
       replace H : (if 0 ≤ (ji47) then (if (ji47) ≤ (l1.length : Int) then (if t1200.length + (l1.drop ((ji47) : Int).toNat).length < 17592186044416 then ((spec_l07Nodes.f k2 a0_0 (t1200 ++ (l1.drop ((ji47) : Int).toNat))).bind fun t1207 => ((spec_l07Apply.f k2 a0_0 l0_1 t1207).bind fun t1210 => ((spec_l01At.f k2 a0_0 t1207 (rd l1 x7_2)).bind fun t1212 => ((spec_l01Inverse.f k2 a0_0 t1212).bind fun t1213 => (if a0_0 = 0 then (none) else (if x7_2 < (x1198002_2.length : Int) then (spec_WeightsFor.l0 k2 l1 ji47 a0_0 l0_1 a0_0 x1198001_2 (x1198002_2.set (x7_2 : Int).toNat (Int.tmod (wrap64 (t1210 * t1213)) a0_0))) else (none))))))) else (none)) else (none)) else (none)) = some (r1, r2, r3, r4) := by first | (rw [hji47] at H; exact H) | (simp only [hji47] at H ⊢; exact H)
       (try rw [hji47] at A46)
       have hji47w : (IntKind.i64.wrap (x7_2 + 1)) = ji47 := (i64_w _).trans hji47
       by_cases c48 : 0 ≤ (ji47)
       rotate_left
       ·rw [if_neg c48] at H
        exact absurd H (by simp)
       rw [if_pos c48] at H
       have c48b0 := eq_true c48
       have c48b1 : decide (0 ≤ (ji47)) = true := decide_eq_true c48
       clear c48
       by_cases c49 : (ji47) ≤ (l1.length : Int)
       rotate_left
       ·rw [if_neg c49] at H
        exact absurd H (by simp)
       rw [if_pos c49] at H
       have c49b0 := eq_true c49
       have c49b1 : decide ((ji47) ≤ (l1.length : Int)) = true := decide_eq_true c49
       clear c49
       by_cases c50 : t1200.length + (l1.drop ((ji47) : Int).toNat).length < 17592186044416
       rotate_left
       ·rw [if_neg c50] at H
        exact absurd H (by simp)
       rw [if_pos c50] at H
       have LMc50 := zA c50
       clear c50
       obtain ⟨y1204, hy1204⟩ : ∃ y_ : List Int, y_ = (t1200 ++ (l1.drop ((ji47) : Int).toNat)) := ⟨_, rfl⟩
       replace H : ((spec_l07Nodes.f k2 a0_0 y1204).bind fun t1207 => ((spec_l07Apply.f k2 a0_0 l0_1 t1207).bind fun t1210 => ((spec_l01At.f k2 a0_0 t1207 (rd l1 x7_2)).bind fun t1212 => ((spec_l01Inverse.f k2 a0_0 t1212).bind fun t1213 => (if a0_0 = 0 then (none) else (if x7_2 < (x1198002_2.length : Int) then (spec_WeightsFor.l0 k2 l1 ji47 a0_0 l0_1 a0_0 x1198001_2 (x1198002_2.set (x7_2 : Int).toNat (Int.tmod (wrap64 (t1210 * t1213)) a0_0))) else (none))))))) = some (r1, r2, r3, r4) := by first | (rw [hy1204]; exact H) | exact H
       have Ny1204 := zA hy1204
       clear hy1204
       replace H := Option.bind_eq_some_iff.mp H
       obtain ⟨t1207, A510, H⟩ := H
       replace H : ((spec_l07Apply.f k2 a0_0 l0_1 t1207).bind fun t1210 => ((spec_l01At.f k2 a0_0 t1207 (rd l1 x7_2)).bind fun t1212 => ((spec_l01Inverse.f k2 a0_0 t1212).bind fun t1213 => (if a0_0 = 0 then (none) else (if x7_2 < (x1198002_2.length : Int) then (spec_WeightsFor.l0 k2 l1 ji47 a0_0 l0_1 a0_0 x1198001_2 (x1198002_2.set (x7_2 : Int).toNat (Int.tmod (wrap64 (t1210 * t1213)) a0_0))) else (none)))))) = some (r1, r2, r3, r4) := H
       have A51 := zA A510
       clear A510
       replace H := Option.bind_eq_some_iff.mp H
       obtain ⟨t1210, A520, H⟩ := H
       replace H : ((spec_l01At.f k2 a0_0 t1207 (rd l1 x7_2)).bind fun t1212 => ((spec_l01Inverse.f k2 a0_0 t1212).bind fun t1213 => (if a0_0 = 0 then (none) else (if x7_2 < (x1198002_2.length : Int) then (spec_WeightsFor.l0 k2 l1 ji47 a0_0 l0_1 a0_0 x1198001_2 (x1198002_2.set (x7_2 : Int).toNat (Int.tmod (wrap64 (t1210 * t1213)) a0_0))) else (none))))) = some (r1, r2, r3, r4) := H
       have A52 := zA A520
       clear A520
       replace H := Option.bind_eq_some_iff.mp H
       obtain ⟨t1212, A530, H⟩ := H
       replace H : ((spec_l01Inverse.f k2 a0_0 t1212).bind fun t1213 => (if a0_0 = 0 then (none) else (if x7_2 < (x1198002_2.length : Int) then (spec_WeightsFor.l0 k2 l1 ji47 a0_0 l0_1 a0_0 x1198001_2 (x1198002_2.set (x7_2 : Int).toNat (Int.tmod (wrap64 (t1210 * t1213)) a0_0))) else (none)))) = some (r1, r2, r3, r4) := H
       have A53 := zA A530
       clear A530
       replace H := Option.bind_eq_some_iff.mp H
       obtain ⟨t1213, A540, H⟩ := H
       replace H : (if a0_0 = 0 then (none) else (if x7_2 < (x1198002_2.length : Int) then (spec_WeightsFor.l0 k2 l1 ji47 a0_0 l0_1 a0_0 x1198001_2 (x1198002_2.set (x7_2 : Int).toNat (Int.tmod (wrap64 (t1210 * t1213)) a0_0))) else (none))) = some (r1, r2, r3, r4) := H
       have A54 := zA A540
       clear A540
       by_cases c55 : a0_0 = 0
       rotate_left
       ·rw [if_neg c55] at H
        have c55b0 : (a0_0 == 0) = false := beq_eq_false_iff_ne.mpr c55
        have c55b1 : (a0_0 != 0) = true := bne_iff_ne.mpr c55
        by_cases c56 : x7_2 < (x1198002_2.length : Int)
        rotate_left
        ·rw [if_neg c56] at H
         exact absurd H (by simp)
        rw [if_pos c56] at H
        have c56b0 : decide (x7_2 < (x1198002_2.length : Int)) = true := decide_eq_true c56
        clear c56
        obtain ⟨y1214, hy1214⟩ : ∃ y_ : List Int, y_ = (x1198002_2.set (x7_2 : Int).toNat (Int.tmod (wrap64 (t1210 * t1213)) a0_0)) := ⟨_, rfl⟩
        replace H : (spec_WeightsFor.l0 k2 l1 ji47 a0_0 l0_1 a0_0 x1198001_2 y1214) = some (r1, r2, r3, r4) := by first | (rw [hy1214]; exact H) | exact H
        have Ny1214 := zA hy1214
        clear hy1214
        have H' := zA H
        clear H
        try go_wp2
        replace HO_1198001 := zA (Kd.R_drew HO_1198001.out)
        replace HO_1198002 := zA (Kd.R_drew HO_1198002.out)
        replace BK1188 := zA (blk_drew BK1188.out)
        replace BK1189 := zA (blk_drew BK1189.out)
        replace BK1197 := zA (blk_drew BK1197.out)
        replace HB := zA (below_drew1 HB.out)
        obtain ⟨i059, hi059, _, hsz59, _⟩ := info_parts info2
        obtain ⟨hcut59, hA59, hC59⟩ := print_take_of (P := Try.prog) (Value.int .i64) 0 22 2 .i64 Try.underlying22 hi059 hsz59 A1 c1 l1 x7_2 (of_decide_eq_true (by first | (with_reducible assumption) | assumption)) (of_decide_eq_true (by first | (with_reducible assumption) | assumption)) HC1.out
        have HR1199 := zA (Kd.C_of_reads (h1 := fun _ => rfl) (hA59 _ (Kd.reads_of_C HR1.out)))
        have HC1199 := zA hC59
        clear hA59 hC59 hi059 hsz59
        obtain ⟨i060, hi060, _, hsz60, _⟩ := info_parts info2
        obtain ⟨A60, hcut60, hA60, hC60⟩ := print_drop_of (P := Try.prog) (Value.int .i64) 0 22 2 .i64 Try.underlying22 hi060 hsz60 A1 c1 l1 (ji47) (of_decide_eq_true (by first | (with_reducible assumption) | assumption)) (of_decide_eq_true (by first | (with_reducible assumption) | assumption)) HC1.out
        have HR1203 := zA (Kd.C_of_reads (h1 := fun _ => rfl) (hA60 _ (Kd.reads_of_C HR1.out)))
        have HC1203 := zA hC60
        clear hA60 hC60 hi060 hsz60
        refine start_ (n := 10) (S := fun w' => True) (ds := []) #[false, false, false, false, false, false, false, false, false, false] (by kernel_rfl) rfl rfl trivial (fun hHeld => ?_); refine with_tabW spec_WeightsFor.tab9 spec_WeightsFor.bits9 (fun HT_ HW_ => ?_)
        generalize wr.drew = w58 at HO_1198001 HO_1198002 BK1188 BK1189 BK1197 HB HR1199 HR1203 hHeld ⊢
        refine pu_ 0 40 (bl 10 1) HT_ ?_
        refine pu_ 1 41 (bl 10 3) HT_ ?_
        refine pu_ 2 42 (bl 10 7) HT_ ?_
        refine pu_ 4 44 (bl 10 23) HT_ ?_
        refine pu_ 5 45 (bl 10 55) HT_ ?_
        refine pu_ 6 46 (bl 10 119) HT_ ?_
        refine pu_ 7 47 (bl 10 247) HT_ ?_
        refine on_ 3 (some 43) (bl 10 255) HT_ (fun K hK => ?_)
        refine goes_ Try.func62 (by kernel_rfl) rfl #[.slice A1 (l1.take (x7_2 : Int).toNat).length c1] (by rfl) rfl rfl (by (try simp only [la, lb, lc]); first | done | (rw [show (l1.take (x7_2 : Int).toNat).length = x7_2.toNat from (by rw [List.length_take]; have h_ : (x7_2 : Int) ≤ (l1.length : Int) := of_decide_eq_true (by first | (with_reducible assumption) | assumption); omega)] <;> rfl) | rfl | (simp only [ld, le]; rfl)) ?_
        with_reducible refine (spec_l01Own.calls _ _ (l1.take (x7_2 : Int).toNat) t1200 _ ?side1 ?side2 A46.out).mono ?_
        (case side1 => exact uC ((Kd.C_below HR1199.out HB.out)))
        (case side2 => exact HC1199.out)
        rintro e w61 ⟨v1201, rfl, ho0, hb⟩
        refine ⟨_, rfl, ?_⟩
        have HO1202 := zA (Kd.R_lower (Kd.R_new' (Kd.R_new' ho0 (Kd.R_lt (uR HO_1198001.out))) (Kd.R_lt (uR HO_1198002.out))) (below_size (uH HB.out)))
        replace HO_1198001 := zA (Kd.R_elder' (uR HO_1198001.out) (Kd.R_base ho0) hb)
        replace HO_1198002 := zA (Kd.R_elder' (uR HO_1198002.out) (Kd.R_base ho0) hb)
        replace BK1188 := xB BK1188 hb
        replace BK1189 := xB BK1189 hb
        replace BK1197 := xB BK1197 hb
        replace HB := xH HB hb
        (try clear hb); (try clear hb2); (try clear hk); (try clear hi); (try clear ho0)
        refine hK.out _ _ trivial (fun hHeld => ?_)
        clear hK K
        refine no_ 43 ?_
        refine on_ 8 (some 48) (bl 10 511) HT_ (fun K hK => ?_)
        refine Kd.R_append_rows_step (Kd.int .i64) (w0 := w) w.heap.size (by rfl) (.tmp 43) (.tmp 47) 22 2 (.int .i64 0) 8 rfl Try.underlying22 info2 rfl (by decide) (by omega) v1201 t1200 (l1.drop ((ji47) : Int).toNat) _ _ _ (fun k_ => some k_ ≠ (u1198001 : Value).ownBlock ∧ some k_ ≠ (u1198002 : Value).ownBlock) (fun _ => False) rfl rfl ?aO ?aR (fun _ _ h => h) (fun _ h => h.elim) ?aF ?aB ?aS ?aL ?_
        (case aR => first | (rw [← show (l1.drop ((ji47) : Int).toNat).length = (l1.length - (ji47).toNat) from List.length_drop]; exact uC ((Kd.C_below HR1203.out HB.out))) | (exact uC ((Kd.C_below HR1203.out HB.out))))
        (case aB => exact (uH HB.out))
        (case aF => exact (fun k_ hk => ⟨Kd.fresh' (Kd.R_lt (uR HO_1198001.out)) k_ hk, Kd.fresh' (Kd.R_lt (uR HO_1198002.out)) k_ hk⟩))
        (case aO => exact (uR (Kd.R_mono HO1202.out (fun _ hk => ⟨hk.1.2, hk.2⟩))))
        (case aS => exact (below_size (uH HB.out)))
        (case aL => have := LMc50.out; have hlx_ := (show (l1.drop ((ji47) : Int).toNat).length = (l1.length - (ji47).toNat) from List.length_drop); omega)
        intro v1205 w62 ho hb hg hat
        rw [← Ny1204.out] at ho
        replace HO_1198001 := zA (Kd.R_after (ok := (fun k_ => some k_ ≠ (u1198002 : Value).ownBlock)) (uR HO_1198001.out) hg hat)
        replace HO_1198002 := zA (Kd.R_after (ok := (fun k_ => some k_ ≠ (u1198001 : Value).ownBlock)) (uR HO_1198002.out) hg hat)
        replace BK1188 := zA (blk_grown (g := gb1188) (o := .cells #[.int .i64 a0_0, .slice A0_1 l0_1.length c0_1] 40 (0, 0)) (uB BK1188.out) hg (Kd.R_ne HO1202.out BK1188.out (by decide)))
        replace BK1189 := zA (blk_grown (g := gb1189) (o := .cells #[.int .i64 0, .slice none 0 0, .slice none 0 0] 37 (0, 0)) (uB BK1189.out) hg (Kd.R_ne HO1202.out BK1189.out (by decide)))
        replace BK1197 := zA (blk_grown (g := gb1197) (o := .cells #[.int .i64 a0_0, u1198001, u1198002] 37 (0, 0)) (uB BK1197.out) hg (Kd.R_ne HO1202.out BK1197.out (by decide)))
        replace HB := zA (hb)
        have HO1206 := zA (ho)
        clear HO1202
        clear ho hb hg hat
        refine hK.out _ _ trivial (fun hHeld => ?_)
        clear hK K
        refine no_ 48 ?_
        refine pu_ 9 8 (bl 10 1023) HT_ ?_
        refine done_ (done_of HT_.out (by kernel_rfl)) ?_
        have hnb63 := NB1188_1189.out; have hnc63 := NB1189_1188.out; have hnb64 := NB1188_1197.out; have hnc64 := NB1197_1188.out
        have hcz65_0 := bc BK1188 0
        have hcz65_1 := bc BK1188 1
        have hfz65_0 := bf BK1188 0
        have hfz65_1 := bf BK1188 1
        obtain ⟨Ao66, co66, eo66⟩ := Kd.R_slice HO1206.out
        subst eo66
        try go_wp2_with (first | ((with_reducible refine gate_callee (f := 64) rfl ?_); refine gL (some 52) Try.func64 #[.int .i64 a0_0, .slice Ao66 y1204.length co66] ?_; (with_reducible refine (spec_l07Nodes.calls k2 a0_0 _ _ y1204 t1207 _ ?side1 ?side2 A51.out).mono ?_); (case side1 => exact uC ((Kd.R_reads' HO1206.out).2.2)); (case side2 => exact (Kd.R_reads' HO1206.out).2.1); rintro e w67 ⟨v1208, rfl, ho0, hb⟩; refine ⟨_, rfl, ?_⟩; have HO1209 := zA (Kd.R_lower (Kd.R_new' (Kd.R_new' (Kd.R_new' ho0 (Kd.R_lt (uR HO_1198001.out))) (Kd.R_lt (uR HO_1198002.out))) (Kd.R_lt (uR HO1206.out))) (below_size (uH HB.out))); replace HO_1198001 := zA (Kd.R_elder' (uR HO_1198001.out) (Kd.R_base ho0) hb); replace HO_1198002 := zA (Kd.R_elder' (uR HO_1198002.out) (Kd.R_base ho0) hb); replace HO1206 := zA (Kd.R_elder' (uR HO1206.out) (Kd.R_base ho0) hb); replace BK1188 := xB BK1188 hb; replace BK1189 := xB BK1189 hb; replace BK1197 := xB BK1197 hb; replace HB := xH HB hb; (try clear hb); (try clear hb2); (try clear hk); (try clear hi); (try clear ho0)))
        replace HO_1198001 := zA (Kd.R_drew HO_1198001.out)
        replace HO_1198002 := zA (Kd.R_drew HO_1198002.out)
        replace HO1206 := zA (Kd.R_drew HO1206.out)
        replace HO1209 := zA (Kd.R_drew HO1209.out)
        replace BK1188 := zA (blk_drew BK1188.out)
        replace BK1189 := zA (blk_drew BK1189.out)
        replace BK1197 := zA (blk_drew BK1197.out)
        replace HB := zA (below_drew1 HB.out)
        have p1211 : 0 ≤ (x7_2 : Int) := of_decide_eq_true (by first | (with_reducible assumption) | assumption)
        have q1211 : x7_2 < (l1.length : Int) := of_decide_eq_true (by first | (with_reducible assumption) | assumption)
        obtain ⟨ad1211, e1211, hx1211_0⟩ := Kd.at_int HR1.out x7_2 p1211 q1211
        have hw1211_0 := hx1211_0
        cases e1211
        replace hx1211_0 := hc HB hx1211_0
        replace p1211 := eq_true p1211
        replace q1211 := eq_true q1211
        obtain ⟨Ao69, co69, eo69⟩ := Kd.R_slice HO1209.out
        (first | subst eo69 | (injection eo69 with f1_ f2_ f3_; have f4_ := f1_.symm; have f5_ := f3_.symm; clear f1_ f2_ f3_; subst f4_; subst f5_))
        refine start_ (n := 23) (S := fun w' => w'.cell? ⟨gb1197, 0, none⟩ = some (.int .i64 a0_0) ∧ w'.cell? ⟨gb1197, 1, none⟩ = some (u1198001) ∧ w'.cell? ⟨gb1197, 2, none⟩ = some (u1198002) ∧ w'.cell? ⟨gb1188, 0, none⟩ = some (.int .i64 a0_0) ∧ w'.cell? ⟨gb1188, 1, none⟩ = some (.slice A0_1 l0_1.length c0_1) ∧ w'.cell? (ad1211.add (x7_2).toNat) = some (.int .i64 (rd l1 x7_2))) (ds := [22]) #[false, false, false, false, false, false, false, false, false, false, false, false, false, false, false, false, false, false, false, false, false, false, false] (by kernel_rfl) rfl rfl ⟨bcu BK1197 0, bcu BK1197 1, bcu BK1197 2, bcu BK1188 0, bcu BK1188 1, (hcu HB hw1211_0)⟩ (fun hHeld => ?_); refine with_tabW spec_WeightsFor.tab11 spec_WeightsFor.bits11 (fun HT_ HW_ => ?_)
        generalize w67.drew = w68 at HO_1198001 HO_1198002 HO1206 HO1209 BK1188 BK1189 BK1197 HB hx1211_0 hHeld ⊢
        refine pu_ 0 53 (bl 23 1) HT_ ?_
        refine pu_ 2 55 (bl 23 5) HT_ ?_
        refine pu_ 4 57 (bl 23 21) HT_ ?_
        refine pu_ 6 59 (bl 23 85) HT_ ?_
        refine pu_ 8 61 (bl 23 341) HT_ ?_
        refine pu_ 10 63 (bl 23 1365) HT_ ?_
        refine pu_ 11 64 (bl 23 3413) HT_ ?_
        refine pu_ 12 65 (bl 23 7509) HT_ ?_
        refine pu_ 13 66 (bl 23 15701) HT_ ?_
        refine pu_ 18 71 (bl 23 277845) HT_ ?_
        refine ta_ 1 54 (bl 23 277847) HT_ HW_ hHeld ?_
        refine ta_ 3 56 (bl 23 277855) HT_ HW_ hHeld ?_
        refine ta_ 7 60 (bl 23 277983) HT_ HW_ hHeld ?_
        refine ta_ 9 62 (bl 23 278495) HT_ HW_ hHeld ?_
        refine ta_ 14 67 (bl 23 294879) HT_ HW_ hHeld ?_
        refine ta_ 19 72 (bl 23 819167) HT_ HW_ hHeld ?_
        refine on_ 5 (some 58) (bl 23 819199) HT_ (fun K hK => ?_)
        refine gS Try.func65 #[.agg #[.int .i64 a0_0, .slice A0_1 l0_1.length c0_1], .slice Ao69 t1207.length co69] ?_
        with_reducible refine (spec_l07Apply.calls k2 a0_0 _ _ l0_1 _ _ t1207 t1210 _ ?side1 ?side2 ?side3 ?side4 A52.out).mono ?_
        (case side1 => exact uC ((Kd.C_below HR0_1.out HB.out)))
        (case side2 => exact HC0_1.out)
        (case side3 => exact uC ((Kd.R_reads' HO1209.out).2.2))
        (case side4 => exact (Kd.R_reads' HO1209.out).2.1)
        rintro e w70 ⟨rfl, hb⟩
        refine ⟨_, rfl, ?_⟩
        replace HO_1198001 := xR HO_1198001 hb
        replace HO_1198002 := xR HO_1198002 hb
        replace HO1206 := xR HO1206 hb
        replace HO1209 := xR HO1209 hb
        replace BK1188 := xB BK1188 hb
        replace BK1189 := xB BK1189 hb
        replace BK1197 := xB BK1197 hb
        replace HB := xH HB hb
        (try clear hb); (try clear hb2); (try clear hk); (try clear hi)
        refine hK.out _ _ ⟨bcu BK1197 0, bcu BK1197 1, bcu BK1197 2, bcu BK1188 0, bcu BK1188 1, (hcu HB hw1211_0)⟩ (fun hHeld => ?_)
        clear hK K
        refine no_ 58 ?_
        refine on_ 15 (some 68) (bl 23 851967) HT_ (fun K hK => ?_)
        refine gS Try.func67 #[.int .i64 a0_0, .slice Ao69 t1207.length co69, .int .i64 (rd l1 x7_2)] ?_
        with_reducible refine (spec_l01At.calls k2 a0_0 _ _ t1207 (rd l1 x7_2) t1212 _ ?side1 ?side2 A53.out).mono ?_
        (case side1 => exact uC ((Kd.R_reads' HO1209.out).2.2))
        (case side2 => exact (Kd.R_reads' HO1209.out).2.1)
        rintro e w' ⟨rfl, ⟨nd, rfl⟩⟩
        refine ⟨_, rfl, ?_⟩
        refine hK.out _ _ ⟨bcu BK1197 0, bcu BK1197 1, bcu BK1197 2, bcu BK1188 0, bcu BK1188 1, (hcu HB hw1211_0)⟩ (fun hHeld => ?_)
        clear hK K
        refine no_ 68 ?_
        refine on_ 16 (some 69) (bl 23 917503) HT_ (fun K hK => ?_)
        refine gS Try.func66 #[.int .i64 a0_0, .int .i64 t1212] ?_
        with_reducible refine (spec_l01Inverse.calls k2 a0_0 t1212 t1213 _ A54.out).mono ?_
        rintro e w' ⟨rfl, ⟨nd, rfl⟩⟩
        refine ⟨_, rfl, ?_⟩
        have p57 : 0 ≤ (x7_2 : Int) := of_decide_eq_true (by first | (with_reducible assumption) | assumption)
        have q57 : (x7_2 : Int) < ((x1198002_2.length : Int) : Int) := of_decide_eq_true (by first | (with_reducible assumption) | assumption)
        obtain ⟨go57, co57, eo57, gb57, gl57, cl57, HG57⟩ := Kd.R_form HO_1198002.out (by omega)
        (first | cases eo57 | (injection eo57 with ea_ en_ ec_; (first | subst ea_ | (injection ea_ with ea_; subst ea_)); subst ec_; clear en_))
        have GB57 := zA gb57; have := geI GB57
        have GG57 := zA HG57
        clear gb57 gl57 HG57
        obtain ⟨hx57_0, hf57_0⟩ := Kd.R_celln 0 HO_1198002.out (x7_2 : Int) p57 q57
        replace p57 := eq_true p57
        replace q57 := eq_true q57
        have HP71 := Kd.R_putn HO_1198002.out (x7_2 : Int) (Int.tmod (wrap64 (t1210 * t1213)) a0_0)
        rw [← Ny1214.out] at HP71
        have HQ71 := zA HP71
        clear HP71
        refine hK.out _ _ ⟨bcu BK1197 0, bcu BK1197 1, bcu BK1197 2, bcu BK1188 0, bcu BK1188 1, (hcu HB hw1211_0)⟩ (fun hHeld => ?_)
        clear hK K
        refine no_ 69 ?_
        refine pu_ 17 70 (bl 23 1048575) HT_ ?_
        refine pu_ 20 73 (bl 23 2097151) HT_ ?_
        refine pu_ 21 74 (bl 23 4194303) HT_ ?_
        refine last_ (i := 22) (N := none) (bl 23 8388607) rfl rfl (one_of HT_.out (by kernel_rfl)) (by decide) (fun K hK => ?_)
        refine skip_ (w1 := ?_) (by rfl) rfl ?_ ?_
        rotate_left
        ·go_simp
         rfl
        refine hK.out _ _ ?_
        clear hK K
        refine done_ (done_of HT_.out (by kernel_rfl)) ?_
        try go_wp2
        go_roundg k2
        case measure => have := HJ7.out; have := HK2.out; omega
        case rel => exact ⟨(ji47), (x1198001_2), (y1214), (u1198001), (.slice (some ⟨go57, 0, none⟩) x1198002_2.length co57), (by first | rfl | (simp; done) | (simp only [← hji47] <;> (first | rfl | simp)) | (simp [*]; done)), H', ⟨by have := HJ7.out; have := HK2.out; omega⟩, ⟨uR (Kd.R_mono (Kd.R_far (p := ⟨go57, (x7_2 : Int).toNat, none⟩) (Kd.R_mono HO_1198001.out (fun k_ hk => (⟨hk, fun e_ => hk.1.1 (by rw [e_]; rfl)⟩ : _ ∧ k_ ≠ go57))) (fun _ hk => hk.2) (.int .i64 (Int.tmod (wrap64 (t1210 * t1213)) a0_0))) (fun _ hk => hk.1.1.1))⟩, ⟨uR (Kd.R_mono HQ71.out (fun _ hk => hk.1.1))⟩, ⟨by (repeat refine up1 ?_); refine blk_far ?_ (by have h_ := Kd.R_ne HO_1198002.out BK1188.out (by decide); intro e_; exact h_ (by rw [e_]; rfl)) _; (repeat refine up1 ?_); exact BK1188.out⟩, ⟨by (repeat refine up1 ?_); refine blk_far ?_ (by have h_ := Kd.R_ne HO_1198002.out BK1189.out (by decide); intro e_; exact h_ (by rw [e_]; rfl)) _; (repeat refine up1 ?_); exact BK1189.out⟩, ⟨by (repeat refine up1 ?_); refine blk_far ?_ (by have h_ := Kd.R_ne HO_1198002.out BK1197.out (by decide); intro e_; exact h_ (by rw [e_]; rfl)) _; (repeat refine up1 ?_); exact BK1197.out⟩, ⟨uH HB.out⟩⟩
       rw [if_pos c55] at H
       exact absurd H (by simp)
 ·replace c4 := Bool.eq_false_iff.mpr c4
  subst c4
  have H1 : (some (0, ([] : List Int), ([] : List Int), 1)) = some (r1, r2, r3, r4) := by rw [if_neg (show ¬ (false = true) by decide)] at H; exact H
  clear H
  have H := H1
  clear H1
  simp only [Option.some.injEq, Prod.mk.injEq] at H
  obtain ⟨rfl, rfl, rfl, rfl⟩ := H
  go_enter Try.func23, Try.ntmps23
  go_wp2_with (first | ((with_reducible refine gate_dst (N := 2) rfl ?_); (try (refine gate_guard (by rfl) ?_; dsimp only)); refine bx 2 #[.int .i64 a0_0, .slice A0_1 l0_1.length c0_1] 40 ?_; intro gb1188 hg w79 hbox hb; have BK1188 := zA (hbox); have GW1188 := gq HB hg; have GE1188 := gq HB hg; replace HB := xH HB hb; have := geI GE1188; clear hb hbox hg) | ((with_reducible refine gate_dst (N := 4) rfl ?_); (try (refine gate_guard (by rfl) ?_; dsimp only)); refine bx 4 #[.int .i64 0, .slice none 0 0, .slice none 0 0] 37 ?_; intro gb1189 hg w80 hbox hb; have BK1189 := zA (hbox); have GW1189 := gq HB hg; have GE1189 := gq HB hg; replace HB := xH HB hb; have NB1188_1189 := zA ((by rw [hg]; exact neL BK1188 : gb1188 ≠ gb1189)); have NB1189_1188 := zA ((by rw [hg]; exact neG BK1188 : gb1189 ≠ gb1188)); replace BK1188 := xB BK1188 hb; have := geI GE1189; clear hb hbox hg; have hnb81 := NB1188_1189.out; have hnc81 := NB1189_1188.out; have hcz82_0 := bc BK1188 0; have hcz82_1 := bc BK1188 1; have hfz82_0 := bf BK1188 0; have hfz82_1 := bf BK1188 1) | ((with_reducible refine gate_callee (f := 61) rfl ?_); refine gL (some 11) Try.func61 #[.agg #[.int .i64 a0_0, .slice A0_1 l0_1.length c0_1]] ?_; (with_reducible refine (spec_l02Are.calls k a0_0 _ _ l0_1 false _ ?side1 ?side2 A3.out).mono ?_); (case side1 => exact uC ((Kd.C_below HR0_1.out HB.out))); (case side2 => exact HC0_1.out); rintro e w83 ⟨rfl, hb⟩; refine ⟨_, rfl, ?_⟩; replace BK1188 := xB BK1188 hb; replace BK1189 := xB BK1189 hb; replace HB := xH HB hb; (try clear hb); (try clear hb2); (try clear hk); (try clear hi); have hcz84_0 := bc BK1189 0; have hcz84_1 := bc BK1189 1; have hcz84_2 := bc BK1189 2; have hfz84_0 := bf BK1189 0; have hfz84_1 := bf BK1189 1; have hfz84_2 := bf BK1189 2))
  refine bodyPost_ret (results_ct rfl _ _ gb1189 37 #[.int .i64 0, .slice none 0 0, .slice none 0 0] (0, 0) _ rfl (by (repeat refine up1 ?_); refine blk_put (cs := #[.int .i64 0, .slice none 0 0, .slice none 0 0]) ?_ 2 _ rfl; (repeat refine up1 ?_); refine blk_put (cs := #[.int .i64 0, .slice none 0 0, .slice none 0 0]) ?_ 1 _ rfl; (repeat refine up1 ?_); refine blk_put (cs := #[.int .i64 0, .slice none 0 0, .slice none 0 0]) ?_ 0 _ rfl; (repeat refine up1 ?_); exact BK1189.out) Try.underlying37 rfl (by kernel_rfl)) rfl ?_
  exact ⟨_, _, by first | rfl | (simp [errW_none, errW_some] <;> rfl) | (simp [*, errW_none, errW_some] <;> rfl), by first | exact Kd.R_nil _ _ _ _ _ | exact Kd.N_nil _ _ _ _ _ | exact Kd.V_nil _ _ _ _ _ | exact Kd.Q_nil _ _ _ _ _ | exact Kd.S_nil _ _ _ _ _, by first | exact Kd.R_nil _ _ _ _ _ | exact Kd.N_nil _ _ _ _ _ | exact Kd.V_nil _ _ _ _ _ | exact Kd.Q_nil _ _ _ _ _ | exact Kd.S_nil _ _ _ _ _, uH HB.out⟩

end Go.Proofs.Ytfbnkebgdmfcfaa.Pr
