/- Printed by a program of this session out of the translation: what these functions of the program compute, under the conditions that each theorem names. -/
import Derived.Test.YtokkabgkjhpecaaKC01
import Derived.Test.YtokkabgkjhpecaaKC03
import Derived.Test.YtokkabgkjhpecaaKC07
import Derived.Test.YtokkabgkjhpecaaKC02
import Derived.Test.YtokkabgkjhpecaaKSeriesOfJacobi1
namespace Go.Proofs.Ytokkabgkjhpecaa.Pr
open Go.RowKit Go.Proofs.YtokkabgkjhpecaaW.PrintWords Go.Proofs.YtokkabgkjhpecaaW.PrintLast Go.Proofs.YtokkabgkjhpecaaW.PrintMore
attribute [local go_sem] max2_int min2_int max_two min_two max_three min_three max_four min_four   -- for this text's walks alone
set_option linter.unusedVariables false
set_option linter.unusedSimpArgs false

/-! ### impl_SeriesOfJacobi: function 46 -/
def impl_SeriesOfJacobi.f (k : Nat) (a0_0 : Int) (l0_1 : List Int) (l0_2 : List Int) (a1 : Int) : Option (List Int × Int) := (impl_within.f a1 0 24).bind fun t1171 => ((impl_jacobiCode.f k a0_0 l0_1 l0_2 t1171).bind fun t1172 => (if t1172 = 0 then ((impl_Jacobi_field.f a0_0 l0_1 l0_2).bind fun t1173 => ((impl_Jacobi_size.f a0_0 l0_1 l0_2).bind fun t1174 => ((impl_Jacobi_associated.f k a0_0 l0_1 l0_2).bind fun t1175 => (if 0 ≤ t1174 then (if t1174 < (t1175.length : Int) then (if 0 < (l0_2.length : Int) then ((impl_field_times.f k t1173 (rd_L1 t1175 t1174) (rd l0_2 0)).bind fun t1180 => ((impl_reversed.f k t1180).bind fun t1183 => ((impl_Jacobi_polys.f k a0_0 l0_1 l0_2).bind fun t1186 => (if t1174 < (t1186.length : Int) then ((impl_reversed.f k (rd_L1 t1186 t1174)).bind fun t1190 => ((impl_field_series.f k t1173 t1183 t1190 a1).bind fun t1193 => (some (t1193, 0)))) else (none))))) else (none)) else (none)) else (none))))) else (some (([] : List Int), t1172))))
theorem impl_SeriesOfJacobi.mono : ∀ a0 a1 a2 a3 k, LeO (impl_SeriesOfJacobi.f k a0 a1 a2 a3) (impl_SeriesOfJacobi.f (k + 1) a0 a1 a2 a3) := by
 intro a0 a1 a2 a3 k
 unfold impl_SeriesOfJacobi.f
 repeat' first
   | (with_reducible exact impl_Jacobi_associated.mono _ _ _ _)
   | (with_reducible exact impl_Jacobi_polys.mono _ _ _ _)
   | (with_reducible exact impl_field_series.mono _ _ _ _ _)
   | (with_reducible exact impl_field_times.mono _ _ _ _)
   | (with_reducible exact impl_jacobiCode.mono _ _ _ _ _)
   | (with_reducible exact impl_reversed.mono _ _)
   | (with_reducible exact LeO.refl _)
   | (with_reducible exact LeO.none _)
   | (with_reducible refine LeO.ite ?_ ?_)
   | (with_reducible refine LeO.bind ?_ (fun _ => ?_))
   | exact impl_Jacobi_associated.mono _ _ _ _
   | exact impl_Jacobi_polys.mono _ _ _ _
   | exact impl_field_series.mono _ _ _ _ _
   | exact impl_field_times.mono _ _ _ _
   | exact impl_jacobiCode.mono _ _ _ _ _
   | exact impl_reversed.mono _ _
   | exact LeO.none _
   | refine LeO.ite ?_ ?_
   | refine LeO.bind ?_ (fun _ => ?_)
def impl_SeriesOfJacobi.T5 : Bool × List (List Nat × List Nat) := (true, [([], []), ([], []), ([], []), ([2], [2]), ([], []), ([3, 4], [3, 4]), ([5], [5]), ([], []), ([7], [7]), ([8], [8]), ([9], [9]), ([1, 6, 10, 3], [1, 6, 10]), ([11, 11], [11]), ([], []), ([13, 12], [13]), ([], []), ([14, 15], [14, 15]), ([16], [16]), ([17, 14], [17]), ([], []), ([0, 12, 18, 19, 18], [0, 12, 18, 19]), ([20, 20, 0, 1, 2, 3, 4, 5, 6, 7, 8, 9, 10, 11, 12, 13, 14, 15, 16, 17, 18, 19, 20], [20]), ([21, 0, 1, 2, 3, 4, 5, 6, 7, 8, 9, 10, 11, 12, 13, 14, 15, 16, 17, 18, 19, 20, 21], [])])
def impl_SeriesOfJacobi.B5 : List Nat := [0, 0, 0, 4, 0, 28, 60, 0, 128, 384, 896, 2046, 4094, 0, 16382, 0, 65534, 131070, 262142, 0, 1048575, 2097151, 4194303]
theorem impl_SeriesOfJacobi.tab5 : rtab .any (opsOf Try.f46 5) = impl_SeriesOfJacobi.T5 := by kernel_rfl
theorem impl_SeriesOfJacobi.bits5 : waitsOk impl_SeriesOfJacobi.T5.2 impl_SeriesOfJacobi.B5 = true := by kernel_rfl
set_option maxHeartbeats 8000000 in
set_option maxRecDepth 100000 in
theorem impl_SeriesOfJacobi.calls (k : Nat) (a0_0 : Int) (A0_1 : Option Addr) (c0_1 : Nat) (l0_1 : List Int) (A0_2 : Option Addr) (c0_2 : Nat) (l0_2 : List Int) (a1 : Int) (r1 : List Int) (r2 : Int) (w : World) (hr0_1 : Kd.C (Kd.int .i64) w A0_1 l0_1.length l0_1) (hc0_1 : l0_1.length ≤ c0_1) (hr0_2 : Kd.C (Kd.int .i64) w A0_2 l0_2.length l0_2) (hc0_2 : l0_2.length ≤ c0_2) (h : impl_SeriesOfJacobi.f k a0_0 l0_1 l0_2 a1 = some (r1, r2)) :
  Calls Try.prog 46 #[.agg #[.int .i64 a0_0, .slice A0_1 l0_1.length c0_1, .slice A0_2 l0_2.length c0_2], .int .i64 a1] w fun e w' => ∃ v0_ : Value, e = .returned (.tuple #[v0_, .int .i64 r2]) ∧ Kd.R (Kd.int .i64) 2 w' w.heap.size (fun _ => True) v0_ r1 ∧ Below w.heap.size w w' := by
 have hu46 := Try.underlying46
 have HR0_1 := zA hr0_1
 have HC0_1 := zA hc0_1
 clear hr0_1 hc0_1
 have HR0_2 := zA hr0_2
 have HC0_2 := zA hc0_2
 clear hr0_2 hc0_2
 have HB := zA (Below.refl w.heap.size w)
 have H : ((impl_within.f a1 0 24).bind fun t1171 => ((impl_jacobiCode.f k a0_0 l0_1 l0_2 t1171).bind fun t1172 => (if t1172 = 0 then ((impl_Jacobi_field.f a0_0 l0_1 l0_2).bind fun t1173 => ((impl_Jacobi_size.f a0_0 l0_1 l0_2).bind fun t1174 => ((impl_Jacobi_associated.f k a0_0 l0_1 l0_2).bind fun t1175 => (if 0 ≤ t1174 then (if t1174 < (t1175.length : Int) then (if 0 < (l0_2.length : Int) then ((impl_field_times.f k t1173 (rd_L1 t1175 t1174) (rd l0_2 0)).bind fun t1180 => ((impl_reversed.f k t1180).bind fun t1183 => ((impl_Jacobi_polys.f k a0_0 l0_1 l0_2).bind fun t1186 => (if t1174 < (t1186.length : Int) then ((impl_reversed.f k (rd_L1 t1186 t1174)).bind fun t1190 => ((impl_field_series.f k t1173 t1183 t1190 a1).bind fun t1193 => (some (t1193, 0)))) else (none))))) else (none)) else (none)) else (none))))) else (some (([] : List Int), t1172))))) = some (r1, r2) := h
 clear h
 replace H := Option.bind_eq_some_iff.mp H
 obtain ⟨t1171, A30, H⟩ := H
 replace H : ((impl_jacobiCode.f k a0_0 l0_1 l0_2 t1171).bind fun t1172 => (if t1172 = 0 then ((impl_Jacobi_field.f a0_0 l0_1 l0_2).bind fun t1173 => ((impl_Jacobi_size.f a0_0 l0_1 l0_2).bind fun t1174 => ((impl_Jacobi_associated.f k a0_0 l0_1 l0_2).bind fun t1175 => (if 0 ≤ t1174 then (if t1174 < (t1175.length : Int) then (if 0 < (l0_2.length : Int) then ((impl_field_times.f k t1173 (rd_L1 t1175 t1174) (rd l0_2 0)).bind fun t1180 => ((impl_reversed.f k t1180).bind fun t1183 => ((impl_Jacobi_polys.f k a0_0 l0_1 l0_2).bind fun t1186 => (if t1174 < (t1186.length : Int) then ((impl_reversed.f k (rd_L1 t1186 t1174)).bind fun t1190 => ((impl_field_series.f k t1173 t1183 t1190 a1).bind fun t1193 => (some (t1193, 0)))) else (none))))) else (none)) else (none)) else (none))))) else (some (([] : List Int), t1172)))) = some (r1, r2) := H
 have A3 := zA A30
 clear A30
 replace H := Option.bind_eq_some_iff.mp H
 obtain ⟨t1172, A40, H⟩ := H
 replace H : (if t1172 = 0 then ((impl_Jacobi_field.f a0_0 l0_1 l0_2).bind fun t1173 => ((impl_Jacobi_size.f a0_0 l0_1 l0_2).bind fun t1174 => ((impl_Jacobi_associated.f k a0_0 l0_1 l0_2).bind fun t1175 => (if 0 ≤ t1174 then (if t1174 < (t1175.length : Int) then (if 0 < (l0_2.length : Int) then ((impl_field_times.f k t1173 (rd_L1 t1175 t1174) (rd l0_2 0)).bind fun t1180 => ((impl_reversed.f k t1180).bind fun t1183 => ((impl_Jacobi_polys.f k a0_0 l0_1 l0_2).bind fun t1186 => (if t1174 < (t1186.length : Int) then ((impl_reversed.f k (rd_L1 t1186 t1174)).bind fun t1190 => ((impl_field_series.f k t1173 t1183 t1190 a1).bind fun t1193 => (some (t1193, 0)))) else (none))))) else (none)) else (none)) else (none))))) else (some (([] : List Int), t1172))) = some (r1, r2) := H
 have A4 := zA A40
 clear A40
 by_cases c5 : t1172 = 0
 rotate_left
 ·rw [if_neg c5] at H
  have c5b0 : (t1172 == 0) = false := beq_eq_false_iff_ne.mpr c5
  have c5b1 : (t1172 != 0) = true := bne_iff_ne.mpr c5
  simp only [Option.some.injEq, Prod.mk.injEq] at H
  obtain ⟨rfl, rfl⟩ := H
  go_enter Try.func46, Try.ntmps46
  try go_wp2_with (first | ((with_reducible refine gate_dst (N := 2) rfl ?_); refine bx 2 #[.int .i64 a0_0, .slice A0_1 l0_1.length c0_1, .slice A0_2 l0_2.length c0_2] 46 ?_; intro gb1170 hg w36 hbox hb; have BK1170 := zA (hbox); have GW1170 := gq HB hg; have GE1170 := gq HB hg; replace HB := xH HB hb; have := geI GE1170; clear hb hbox hg))
  replace BK1170 := zA (blk_drew BK1170.out)
  replace HB := zA (below_drew1 HB.out)
  refine start_ (n := 5) (S := fun w' => w'.cell? ⟨gb1170, 0, none⟩ = some (.int .i64 a0_0) ∧ w'.cell? ⟨gb1170, 1, none⟩ = some (.slice A0_1 l0_1.length c0_1) ∧ w'.cell? ⟨gb1170, 2, none⟩ = some (.slice A0_2 l0_2.length c0_2)) (ds := []) #[false, false, false, false, false] (by kernel_rfl) rfl rfl ⟨bcu BK1170 0, bcu BK1170 1, bcu BK1170 2⟩ (fun hHeld => ?_)
  generalize w36.drew = w37 at BK1170 HB hHeld ⊢
  refine pure_ (i := 1) (N := some 10) (v := ?_) (a' := ?_) (bl 5 2) rfl rfl (by kernel_rfl) (fun _ _ _ h => h) (Or.inl ⟨by rfl, ?_⟩) ?_ ?_
  rotate_left
  ·intro w'
   go_simp
   with_reducible rfl
  rotate_left
  ·simp only [Act.put, ls, lz, ln, i64_w, i32_w]
   rfl
  refine take_ (i := 0) (N := some 9) (v := ?_) (a' := ?_) (bl 5 3) rfl rfl (by kernel_rfl) (fun _ _ _ h => h) (Or.inl ⟨by rfl, ?_⟩) hHeld ?_ ?_
  rotate_left
  ·rintro w' ⟨s0, s1, s2⟩
   go_simp
   with_reducible rfl
  rotate_left
  ·simp only [Act.put, ls, lz, ln, i64_w, i32_w]
   rfl
  refine one_ (i := 2) (N := some 11) (bl 5 7) rfl rfl (by kernel_rfl) (by decide) (fun K hK => ?_)
  refine gS Try.func74 #[.int .i64 a1, .int .i64 0, .int .i64 24] ?_
  with_reducible refine (impl_within.calls a1 0 24 t1171 _ A3.out).mono ?_
  rintro e w' ⟨rfl, ⟨nd, rfl⟩⟩
  refine ⟨_, rfl, ?_⟩
  refine hK.out _ _ ⟨bcu BK1170 0, bcu BK1170 1, bcu BK1170 2⟩ (fun hHeld => ?_)
  clear hK K
  refine no_ 11 ?_
  refine one_ (i := 3) (N := some 12) (bl 5 15) rfl rfl (by kernel_rfl) (by decide) (fun K hK => ?_)
  refine gS Try.func73 #[.agg #[.int .i64 a0_0, .slice A0_1 l0_1.length c0_1, .slice A0_2 l0_2.length c0_2], .bool t1171] ?_
  with_reducible refine (impl_jacobiCode.calls k a0_0 _ _ l0_1 _ _ l0_2 t1171 t1172 _ ?side1 ?side2 ?side3 ?side4 A4.out).mono ?_
  (case side1 => repeat (first | exact (Kd.C_below HR0_1.out (uH HB.out)) | (with_reducible refine Kd.C_alloc ?_ _) | (with_reducible refine Kd.C_drewN ?_ _) | (with_reducible refine Kd.C_drew ?_)))
  (case side2 => exact HC0_1.out)
  (case side3 => repeat (first | exact (Kd.C_below HR0_2.out (uH HB.out)) | (with_reducible refine Kd.C_alloc ?_ _) | (with_reducible refine Kd.C_drewN ?_ _) | (with_reducible refine Kd.C_drew ?_)))
  (case side4 => exact HC0_2.out)
  rintro e w38 ⟨rfl, hb⟩
  refine ⟨_, rfl, ?_⟩
  replace BK1170 := xB BK1170 hb
  replace HB := xH HB hb
  (try clear hb); (try clear hb2); (try clear hk); (try clear hi)
  refine hK.out _ _ ⟨bcu BK1170 0, bcu BK1170 1, bcu BK1170 2⟩ (fun hHeld => ?_)
  clear hK K
  refine no_ 12 ?_
  refine pure_ (i := 4) (N := some 6) (v := ?_) (a' := ?_) (bl 5 31) rfl rfl (by kernel_rfl) (fun _ _ _ h => h) (Or.inl ⟨by rfl, ?_⟩) ?_ ?_
  rotate_left
  ·intro w'
   go_simp
   with_reducible rfl
  rotate_left
  ·simp only [Act.put, ls, lz, ln, i64_w, i32_w]
   rfl
  refine done_ (by kernel_rfl) ?_
  try go_wp2
  go_ret2
  exact ⟨_, by first | rfl | (simp [errW_none, errW_some] <;> rfl) | (simp [*, errW_none, errW_some] <;> rfl), by first | exact Kd.R_nil _ _ _ _ _ | exact Kd.N_nil _ _ _ _ _ | exact Kd.V_nil _ _ _ _ _ | exact Kd.Q_nil _ _ _ _ _ | exact Kd.S_nil _ _ _ _ _, uH HB.out⟩

 rw [if_pos c5] at H
 have c5b0 : (t1172 == 0) = true := beq_iff_eq.mpr c5
 have c5b1 : (t1172 != 0) = false := bne_eq_false_iff_eq.mpr c5
 clear c5
 replace H := Option.bind_eq_some_iff.mp H
 obtain ⟨t1173, A60, H⟩ := H
 replace H : ((impl_Jacobi_size.f a0_0 l0_1 l0_2).bind fun t1174 => ((impl_Jacobi_associated.f k a0_0 l0_1 l0_2).bind fun t1175 => (if 0 ≤ t1174 then (if t1174 < (t1175.length : Int) then (if 0 < (l0_2.length : Int) then ((impl_field_times.f k t1173 (rd_L1 t1175 t1174) (rd l0_2 0)).bind fun t1180 => ((impl_reversed.f k t1180).bind fun t1183 => ((impl_Jacobi_polys.f k a0_0 l0_1 l0_2).bind fun t1186 => (if t1174 < (t1186.length : Int) then ((impl_reversed.f k (rd_L1 t1186 t1174)).bind fun t1190 => ((impl_field_series.f k t1173 t1183 t1190 a1).bind fun t1193 => (some (t1193, 0)))) else (none))))) else (none)) else (none)) else (none)))) = some (r1, r2) := H
 have A6 := zA A60
 clear A60
 replace H := Option.bind_eq_some_iff.mp H
 obtain ⟨t1174, A70, H⟩ := H
 replace H : ((impl_Jacobi_associated.f k a0_0 l0_1 l0_2).bind fun t1175 => (if 0 ≤ t1174 then (if t1174 < (t1175.length : Int) then (if 0 < (l0_2.length : Int) then ((impl_field_times.f k t1173 (rd_L1 t1175 t1174) (rd l0_2 0)).bind fun t1180 => ((impl_reversed.f k t1180).bind fun t1183 => ((impl_Jacobi_polys.f k a0_0 l0_1 l0_2).bind fun t1186 => (if t1174 < (t1186.length : Int) then ((impl_reversed.f k (rd_L1 t1186 t1174)).bind fun t1190 => ((impl_field_series.f k t1173 t1183 t1190 a1).bind fun t1193 => (some (t1193, 0)))) else (none))))) else (none)) else (none)) else (none))) = some (r1, r2) := H
 have A7 := zA A70
 clear A70
 replace H := Option.bind_eq_some_iff.mp H
 obtain ⟨t1175, A80, H⟩ := H
 replace H : (if 0 ≤ t1174 then (if t1174 < (t1175.length : Int) then (if 0 < (l0_2.length : Int) then ((impl_field_times.f k t1173 (rd_L1 t1175 t1174) (rd l0_2 0)).bind fun t1180 => ((impl_reversed.f k t1180).bind fun t1183 => ((impl_Jacobi_polys.f k a0_0 l0_1 l0_2).bind fun t1186 => (if t1174 < (t1186.length : Int) then ((impl_reversed.f k (rd_L1 t1186 t1174)).bind fun t1190 => ((impl_field_series.f k t1173 t1183 t1190 a1).bind fun t1193 => (some (t1193, 0)))) else (none))))) else (none)) else (none)) else (none)) = some (r1, r2) := H
 have A8 := zA A80
 clear A80
 by_cases c9 : 0 ≤ t1174
 rotate_left
 ·rw [if_neg c9] at H
  exact absurd H (by simp)
 rw [if_pos c9] at H
 have c9b0 : decide (0 ≤ t1174) = true := decide_eq_true c9
 clear c9
 by_cases c10 : t1174 < (t1175.length : Int)
 rotate_left
 ·rw [if_neg c10] at H
  exact absurd H (by simp)
 rw [if_pos c10] at H
 have c10b0 : decide (t1174 < (t1175.length : Int)) = true := decide_eq_true c10
 clear c10
 by_cases c11 : 0 < (l0_2.length : Int)
 rotate_left
 ·rw [if_neg c11] at H
  exact absurd H (by simp)
 rw [if_pos c11] at H
 have c11b0 : decide (0 < (l0_2.length : Int)) = true := decide_eq_true c11
 have c11b1 : decide (0 < l0_2.length) = true := decide_eq_true (by omega)
 clear c11
 replace H := Option.bind_eq_some_iff.mp H
 obtain ⟨t1180, A120, H⟩ := H
 replace H : ((impl_reversed.f k t1180).bind fun t1183 => ((impl_Jacobi_polys.f k a0_0 l0_1 l0_2).bind fun t1186 => (if t1174 < (t1186.length : Int) then ((impl_reversed.f k (rd_L1 t1186 t1174)).bind fun t1190 => ((impl_field_series.f k t1173 t1183 t1190 a1).bind fun t1193 => (some (t1193, 0)))) else (none)))) = some (r1, r2) := H
 have A12 := zA A120
 clear A120
 replace H := Option.bind_eq_some_iff.mp H
 obtain ⟨t1183, A130, H⟩ := H
 replace H : ((impl_Jacobi_polys.f k a0_0 l0_1 l0_2).bind fun t1186 => (if t1174 < (t1186.length : Int) then ((impl_reversed.f k (rd_L1 t1186 t1174)).bind fun t1190 => ((impl_field_series.f k t1173 t1183 t1190 a1).bind fun t1193 => (some (t1193, 0)))) else (none))) = some (r1, r2) := H
 have A13 := zA A130
 clear A130
 replace H := Option.bind_eq_some_iff.mp H
 obtain ⟨t1186, A140, H⟩ := H
 replace H : (if t1174 < (t1186.length : Int) then ((impl_reversed.f k (rd_L1 t1186 t1174)).bind fun t1190 => ((impl_field_series.f k t1173 t1183 t1190 a1).bind fun t1193 => (some (t1193, 0)))) else (none)) = some (r1, r2) := H
 have A14 := zA A140
 clear A140
 by_cases c15 : t1174 < (t1186.length : Int)
 rotate_left
 ·rw [if_neg c15] at H
  exact absurd H (by simp)
 rw [if_pos c15] at H
 have c15b0 : decide (t1174 < (t1186.length : Int)) = true := decide_eq_true c15
 clear c15
 replace H := Option.bind_eq_some_iff.mp H
 obtain ⟨t1190, A160, H⟩ := H
 replace H : ((impl_field_series.f k t1173 t1183 t1190 a1).bind fun t1193 => (some (t1193, 0))) = some (r1, r2) := H
 have A16 := zA A160
 clear A160
 replace H := Option.bind_eq_some_iff.mp H
 obtain ⟨t1193, A170, H⟩ := H
 replace H : (some (t1193, 0)) = some (r1, r2) := H
 have A17 := zA A170
 clear A170
 simp only [Option.some.injEq, Prod.mk.injEq] at H
 obtain ⟨rfl, rfl⟩ := H
 go_enter Try.func46, Try.ntmps46
 try go_wp2_with (first | ((with_reducible refine gate_dst (N := 2) rfl ?_); refine bx 2 #[.int .i64 a0_0, .slice A0_1 l0_1.length c0_1, .slice A0_2 l0_2.length c0_2] 46 ?_; intro gb1170 hg w18 hbox hb; have BK1170 := zA (hbox); have GW1170 := gq HB hg; have GE1170 := gq HB hg; replace HB := xH HB hb; have := geI GE1170; clear hb hbox hg))
 replace BK1170 := zA (blk_drew BK1170.out)
 replace HB := zA (below_drew1 HB.out)
 refine start_ (n := 5) (S := fun w' => w'.cell? ⟨gb1170, 0, none⟩ = some (.int .i64 a0_0) ∧ w'.cell? ⟨gb1170, 1, none⟩ = some (.slice A0_1 l0_1.length c0_1) ∧ w'.cell? ⟨gb1170, 2, none⟩ = some (.slice A0_2 l0_2.length c0_2)) (ds := []) #[false, false, false, false, false] (by kernel_rfl) rfl rfl ⟨bcu BK1170 0, bcu BK1170 1, bcu BK1170 2⟩ (fun hHeld => ?_)
 generalize w18.drew = w19 at BK1170 HB hHeld ⊢
 refine pure_ (i := 1) (N := some 10) (v := ?_) (a' := ?_) (bl 5 2) rfl rfl (by kernel_rfl) (fun _ _ _ h => h) (Or.inl ⟨by rfl, ?_⟩) ?_ ?_
 rotate_left
 ·intro w'
  go_simp
  with_reducible rfl
 rotate_left
 ·simp only [Act.put, ls, lz, ln, i64_w, i32_w]
  rfl
 refine take_ (i := 0) (N := some 9) (v := ?_) (a' := ?_) (bl 5 3) rfl rfl (by kernel_rfl) (fun _ _ _ h => h) (Or.inl ⟨by rfl, ?_⟩) hHeld ?_ ?_
 rotate_left
 ·rintro w' ⟨s0, s1, s2⟩
  go_simp
  with_reducible rfl
 rotate_left
 ·simp only [Act.put, ls, lz, ln, i64_w, i32_w]
  rfl
 refine one_ (i := 2) (N := some 11) (bl 5 7) rfl rfl (by kernel_rfl) (by decide) (fun K hK => ?_)
 refine gS Try.func74 #[.int .i64 a1, .int .i64 0, .int .i64 24] ?_
 with_reducible refine (impl_within.calls a1 0 24 t1171 _ A3.out).mono ?_
 rintro e w' ⟨rfl, ⟨nd, rfl⟩⟩
 refine ⟨_, rfl, ?_⟩
 refine hK.out _ _ ⟨bcu BK1170 0, bcu BK1170 1, bcu BK1170 2⟩ (fun hHeld => ?_)
 clear hK K
 refine no_ 11 ?_
 refine one_ (i := 3) (N := some 12) (bl 5 15) rfl rfl (by kernel_rfl) (by decide) (fun K hK => ?_)
 refine gS Try.func73 #[.agg #[.int .i64 a0_0, .slice A0_1 l0_1.length c0_1, .slice A0_2 l0_2.length c0_2], .bool t1171] ?_
 with_reducible refine (impl_jacobiCode.calls k a0_0 _ _ l0_1 _ _ l0_2 t1171 t1172 _ ?side1 ?side2 ?side3 ?side4 A4.out).mono ?_
 (case side1 => repeat (first | exact (Kd.C_below HR0_1.out (uH HB.out)) | (with_reducible refine Kd.C_alloc ?_ _) | (with_reducible refine Kd.C_drewN ?_ _) | (with_reducible refine Kd.C_drew ?_)))
 (case side2 => exact HC0_1.out)
 (case side3 => repeat (first | exact (Kd.C_below HR0_2.out (uH HB.out)) | (with_reducible refine Kd.C_alloc ?_ _) | (with_reducible refine Kd.C_drewN ?_ _) | (with_reducible refine Kd.C_drew ?_)))
 (case side4 => exact HC0_2.out)
 rintro e w20 ⟨rfl, hb⟩
 refine ⟨_, rfl, ?_⟩
 replace BK1170 := xB BK1170 hb
 replace HB := xH HB hb
 (try clear hb); (try clear hb2); (try clear hk); (try clear hi)
 refine hK.out _ _ ⟨bcu BK1170 0, bcu BK1170 1, bcu BK1170 2⟩ (fun hHeld => ?_)
 clear hK K
 refine no_ 12 ?_
 refine pure_ (i := 4) (N := some 6) (v := ?_) (a' := ?_) (bl 5 31) rfl rfl (by kernel_rfl) (fun _ _ _ h => h) (Or.inl ⟨by rfl, ?_⟩) ?_ ?_
 rotate_left
 ·intro w'
  go_simp
  with_reducible rfl
 rotate_left
 ·simp only [Act.put, ls, lz, ln, i64_w, i32_w]
  rfl
 refine done_ (by kernel_rfl) ?_
 try go_wp2
 replace BK1170 := zA (blk_drew BK1170.out)
 replace HB := zA (below_drew1 HB.out)
 refine start_ (n := 6) (S := fun w' => w'.cell? ⟨gb1170, 0, none⟩ = some (.int .i64 a0_0) ∧ w'.cell? ⟨gb1170, 1, none⟩ = some (.slice A0_1 l0_1.length c0_1) ∧ w'.cell? ⟨gb1170, 2, none⟩ = some (.slice A0_2 l0_2.length c0_2)) (ds := []) #[false, false, false, false, false, false] (by kernel_rfl) rfl rfl ⟨bcu BK1170 0, bcu BK1170 1, bcu BK1170 2⟩ (fun hHeld => ?_)
 generalize w20.drew = w21 at BK1170 HB hHeld ⊢
 refine take_ (i := 0) (N := some 16) (v := ?_) (a' := ?_) (bl 6 1) rfl rfl (by kernel_rfl) (fun _ _ _ h => h) (Or.inl ⟨by rfl, ?_⟩) hHeld ?_ ?_
 rotate_left
 ·rintro w' ⟨s0, s1, s2⟩
  go_simp
  with_reducible rfl
 rotate_left
 ·simp only [Act.put, ls, lz, ln, i64_w, i32_w]
  rfl
 refine take_ (i := 2) (N := some 18) (v := ?_) (a' := ?_) (bl 6 5) rfl rfl (by kernel_rfl) (fun _ _ _ h => h) (Or.inl ⟨by rfl, ?_⟩) hHeld ?_ ?_
 rotate_left
 ·rintro w' ⟨s0, s1, s2⟩
  go_simp
  with_reducible rfl
 rotate_left
 ·simp only [Act.put, ls, lz, ln, i64_w, i32_w]
  rfl
 refine one_ (i := 1) (N := some 17) (bl 6 7) rfl rfl (by kernel_rfl) (by decide) (fun K hK => ?_)
 refine gS Try.func76 #[.agg #[.int .i64 a0_0, .slice A0_1 l0_1.length c0_1, .slice A0_2 l0_2.length c0_2]] ?_
 with_reducible refine (impl_Jacobi_field.calls a0_0 _ _ l0_1 _ _ l0_2 t1173 _ ?side1 ?side2 ?side3 ?side4 A6.out).mono ?_
 (case side1 => exact uC ((Kd.C_below HR0_1.out HB.out)))
 (case side2 => exact HC0_1.out)
 (case side3 => exact uC ((Kd.C_below HR0_2.out HB.out)))
 (case side4 => exact HC0_2.out)
 rintro e w22 ⟨rfl, hb⟩
 refine ⟨_, rfl, ?_⟩
 replace BK1170 := xB BK1170 hb
 replace HB := xH HB hb
 (try clear hb); (try clear hb2); (try clear hk); (try clear hi)
 refine hK.out _ _ ⟨bcu BK1170 0, bcu BK1170 1, bcu BK1170 2⟩ (fun hHeld => ?_)
 clear hK K
 refine no_ 17 ?_
 refine one_ (i := 3) (N := some 19) (bl 6 15) rfl rfl (by kernel_rfl) (by decide) (fun K hK => ?_)
 refine gS Try.func75 #[.agg #[.int .i64 a0_0, .slice A0_1 l0_1.length c0_1, .slice A0_2 l0_2.length c0_2]] ?_
 with_reducible refine (impl_Jacobi_size.calls a0_0 _ _ l0_1 _ _ l0_2 t1174 _ ?side1 ?side2 ?side3 ?side4 A7.out).mono ?_
 (case side1 => exact uC ((Kd.C_below HR0_1.out HB.out)))
 (case side2 => exact HC0_1.out)
 (case side3 => exact uC ((Kd.C_below HR0_2.out HB.out)))
 (case side4 => exact HC0_2.out)
 rintro e w23 ⟨rfl, hb⟩
 refine ⟨_, rfl, ?_⟩
 replace BK1170 := xB BK1170 hb
 replace HB := xH HB hb
 (try clear hb); (try clear hb2); (try clear hk); (try clear hi)
 refine hK.out _ _ ⟨bcu BK1170 0, bcu BK1170 1, bcu BK1170 2⟩ (fun hHeld => ?_)
 clear hK K
 refine no_ 19 ?_
 refine pure_ (i := 4) (N := some 7) (v := ?_) (a' := ?_) (bl 6 31) rfl rfl (by kernel_rfl) (fun _ _ _ h => h) (Or.inl ⟨by rfl, ?_⟩) ?_ ?_
 rotate_left
 ·intro w'
  go_simp
  with_reducible rfl
 rotate_left
 ·simp only [Act.put, ls, lz, ln, i64_w, i32_w]
  rfl
 refine pure_ (i := 5) (N := some 8) (v := ?_) (a' := ?_) (bl 6 63) rfl rfl (by kernel_rfl) (fun _ _ _ h => h) (Or.inl ⟨by rfl, ?_⟩) ?_ ?_
 rotate_left
 ·intro w'
  go_simp
  with_reducible rfl
 rotate_left
 ·simp only [Act.put, ls, lz, ln, i64_w, i32_w]
  rfl
 refine done_ (by kernel_rfl) ?_
 try go_wp2
 replace BK1170 := zA (blk_drew BK1170.out)
 replace HB := zA (below_drew1 HB.out)
 have p1179 : 0 ≤ (0 : Int) := (by omega)
 have q1179 : 0 < (l0_2.length : Int) := of_decide_eq_true (by first | (with_reducible assumption) | assumption)
 obtain ⟨ad1179, e1179, hx1179_0⟩ := Kd.at_int HR0_2.out 0 p1179 q1179
 have hw1179_0 := hx1179_0
 (try rw [show ((0 : Int)).toNat = 0 from rfl] at hw1179_0)
 (try rw [show 0 * 1 = 0 from rfl] at hw1179_0)
 (try rw [Addr.add_zero'] at hw1179_0)
 cases e1179
 have qi1179 : (0 < l0_2.length) = True := eq_true (by omega)
 (try rw [show ((0 : Int)).toNat = 0 from rfl] at hx1179_0)
 (try rw [Addr.add_zero'] at hx1179_0)
 replace hx1179_0 := hc HB hx1179_0
 replace p1179 := eq_true p1179
 replace q1179 := eq_true q1179
 refine start_ (n := 23) (S := fun w' => w'.cell? ⟨gb1170, 0, none⟩ = some (.int .i64 a0_0) ∧ w'.cell? ⟨gb1170, 1, none⟩ = some (.slice A0_1 l0_1.length c0_1) ∧ w'.cell? ⟨gb1170, 2, none⟩ = some (.slice (some ad1179) l0_2.length c0_2) ∧ w'.cell? ad1179 = some (.int .i64 (rd l0_2 0))) (ds := []) #[false, false, false, false, false, false, false, false, false, false, false, false, false, false, false, false, false, false, false, false, false, false, false] (by kernel_rfl) rfl rfl ⟨bcu BK1170 0, bcu BK1170 1, bcu BK1170 2, (hcu HB hw1179_0)⟩ (fun hHeld => ?_); refine with_tabW impl_SeriesOfJacobi.tab5 impl_SeriesOfJacobi.bits5 (fun HT_ HW_ => ?_)
 generalize w23.drew = w24 at BK1170 HB hx1179_0 hHeld ⊢
 refine pu_ 0 20 (bl 23 1) HT_ ?_
 refine pu_ 1 21 (bl 23 3) HT_ ?_
 refine pu_ 4 24 (bl 23 19) HT_ ?_
 refine pu_ 7 27 (bl 23 147) HT_ ?_
 refine pu_ 15 35 (bl 23 32915) HT_ ?_
 refine pu_ 19 39 (bl 23 557203) HT_ ?_
 refine ta_ 2 22 (bl 23 557207) HT_ HW_ hHeld ?_
 refine ta_ 8 28 (bl 23 557463) HT_ HW_ hHeld ?_
 refine pu_ 9 29 (bl 23 557975) HT_ ?_
 refine ta_ 10 30 (bl 23 558999) HT_ HW_ hHeld ?_
 refine ta_ 13 33 (bl 23 567191) HT_ HW_ hHeld ?_
 refine on_ 3 (some 23) (bl 23 567199) HT_ (fun K hK => ?_)
 refine gS Try.func111 #[.agg #[.int .i64 a0_0, .slice A0_1 l0_1.length c0_1, .slice (some ad1179) l0_2.length c0_2]] ?_
 with_reducible refine (impl_Jacobi_associated.calls k a0_0 _ _ l0_1 _ _ l0_2 t1175 _ ?side1 ?side2 ?side3 ?side4 A8.out).mono ?_
 (case side1 => exact uC ((Kd.C_below HR0_1.out HB.out)))
 (case side2 => exact HC0_1.out)
 (case side3 => exact uC ((Kd.C_below HR0_2.out HB.out)))
 (case side4 => exact HC0_2.out)
 rintro e w25 ⟨v1176, rfl, ho0, hb⟩
 refine ⟨_, rfl, ?_⟩
 have HO1177 := zA (Kd.N_lower (Kd.N_mono (ok' := fun k_ => k_ ≠ gb1170) ho0 (fun k_ hk_ => (Kd.freshB (g := gb1170) (o := .cells #[.int .i64 a0_0, .slice A0_1 l0_1.length c0_1, .slice (some ad1179) l0_2.length c0_2] 46 (0, 0)) (uB BK1170.out) k_ hk_))) (below_size (uH HB.out)))
 replace BK1170 := xB BK1170 hb
 replace HB := xH HB hb
 (try clear hb); (try clear hb2); (try clear hk); (try clear hi); (try clear ho0)
 obtain ⟨Ao26, co26, eo26⟩ := Kd.N_slice HO1177.out
 (first | subst eo26 | (injection eo26 with f1_ f2_ f3_; have f4_ := f1_.symm; have f5_ := f3_.symm; clear f1_ f2_ f3_; subst f4_; subst f5_))
 have p1178 : 0 ≤ (t1174 : Int) := of_decide_eq_true (by first | (with_reducible assumption) | assumption)
 have q1178 : t1174 < (t1175.length : Int) := of_decide_eq_true (by first | (with_reducible assumption) | assumption)
 obtain ⟨ad1178, A1178_0, c1178_0, e1178, hx1178_0, hl1178_0, hi1178_0⟩ := at_L1 (Kd.N_reads' HO1177.out).2.2 t1174 p1178 q1178
 cases e1178
 obtain ⟨ce1178, hce1178, hMe1178, hcc1178⟩ := Kd.N_get HO1177.out [] t1174 p1178 (by first | exact q1178 | exact of_decide_eq_true (by first | (with_reducible assumption) | assumption) | (have e_ := (Kd.N_reads' HO1177.out).1; omega))
 obtain ⟨ua1178_0, uc1178_0, rfl, ul1178_0, ge1178_0⟩ := Kd.FK_slice_open hMe1178
 have hv1178_0 := hcc1178 0 _ rfl
 rw [Nat.add_zero, show ((Kd.slice 2 (Kd.int .i64))).sz = 1 from rfl, Nat.mul_one] at hv1178_0
 replace hv1178_0 := Option.some.inj (hv1178_0.symm.trans hx1178_0)
 injection hv1178_0 with hva_ hvn_ hvc_
 rw [hva_] at ge1178_0
 rw [hvc_] at ul1178_0
 have HL1178_0 := zA (show Kd.V (Kd.int .i64) 2 _ w.heap.size _ _ (rd_L1 t1175 t1174) from Kd.V_mk ul1178_0 ge1178_0)
 clear hva_ hvn_ hvc_ ge1178_0 ul1178_0
 clear hcc1178 hce1178
 have HR1178_0 := zA hi1178_0
 have HC1178_0 := zA hl1178_0
 clear hi1178_0 hl1178_0
 replace p1178 := eq_true p1178
 replace q1178 := eq_true q1178
 refine hK.out _ _ ⟨bcu BK1170 0, bcu BK1170 1, bcu BK1170 2, (hcu HB hw1179_0)⟩ (fun hHeld => ?_)
 clear hK K
 refine no_ 23 ?_
 refine pu_ 5 25 (bl 23 567231) HT_ ?_
 refine lo_ 6 26 (bl 23 567295) HT_ hHeld ?_
 refine on_ 11 (some 31) (bl 23 569343) HT_ (fun K hK => ?_)
 refine gS Try.func110 #[.int .i64 t1173, .slice A1178_0 (rd_L1 t1175 t1174).length c1178_0, .int .i64 (rd l0_2 0)] ?_
 with_reducible refine (impl_field_times.calls k t1173 _ _ (rd_L1 t1175 t1174) (rd l0_2 0) t1180 _ ?side1 ?side2 A12.out).mono ?_
 (case side1 => repeat (first | exact (by repeat (first | (with_reducible exact HR1178_0.out) | (with_reducible refine Kd.C_alloc ?_ _) | (with_reducible refine Kd.C_drewN ?_ _) | (with_reducible refine Kd.C_drew ?_) | exact HR1178_0.out)) | (with_reducible refine Kd.C_alloc ?_ _) | (with_reducible refine Kd.C_drewN ?_ _) | (with_reducible refine Kd.C_drew ?_)))
 (case side2 => exact HC1178_0.out)
 rintro e w27 ⟨v1181, rfl, ho0, hb⟩
 refine ⟨_, rfl, ?_⟩
 replace HO1177 := zA (Kd.N_elder' (by (with_reducible repeat (first | apply Kd.N_alloc | apply Kd.N_drewN | apply Kd.N_drew)); exact HO1177.out) (Kd.R_base ho0) hb)
 replace HL1178_0 := zA (Kd.V_elder' (by (with_reducible repeat (first | apply Kd.V_alloc | apply Kd.V_drewN | apply Kd.V_drew)); exact HL1178_0.out) (Kd.R_base ho0) hb)
 have HO1182 := zA (Kd.R_lower ho0 (below_size (uH HB.out)))
 replace BK1170 := xB BK1170 hb
 replace HR1178_0 := zA (Kd.C_below (by repeat (first | (with_reducible exact HR1178_0.out) | (with_reducible refine Kd.C_alloc ?_ _) | (with_reducible refine Kd.C_drewN ?_ _) | (with_reducible refine Kd.C_drew ?_) | exact HR1178_0.out)) hb)
 replace HB := xH HB hb
 (try clear hb); (try clear hb2); (try clear hk); (try clear hi); (try clear ho0)
 obtain ⟨Ao28, co28, eo28⟩ := Kd.R_slice HO1182.out
 (first | subst eo28 | (injection eo28 with f1_ f2_ f3_; have f4_ := f1_.symm; have f5_ := f3_.symm; clear f1_ f2_ f3_; subst f4_; subst f5_))
 refine hK.out _ _ ⟨bcu BK1170 0, bcu BK1170 1, bcu BK1170 2, (hcu HB hw1179_0)⟩ (fun hHeld => ?_)
 clear hK K
 refine no_ 31 ?_
 refine on_ 12 (some 32) (bl 23 573439) HT_ (fun K hK => ?_)
 refine gS Try.func109 #[.slice Ao28 t1180.length co28] ?_
 with_reducible refine (impl_reversed.calls k _ _ t1180 t1183 _ ?side1 ?side2 A13.out).mono ?_
 (case side1 => exact uC ((Kd.R_reads' HO1182.out).2.2))
 (case side2 => exact (Kd.R_reads' HO1182.out).2.1)
 rintro e w29 ⟨v1184, rfl, ho0, hb⟩
 refine ⟨_, rfl, ?_⟩
 replace HO1177 := zA (Kd.N_elder' (by (with_reducible repeat (first | apply Kd.N_alloc | apply Kd.N_drewN | apply Kd.N_drew)); exact HO1177.out) (Kd.R_base ho0) hb)
 replace HL1178_0 := zA (Kd.V_elder' (by (with_reducible repeat (first | apply Kd.V_alloc | apply Kd.V_drewN | apply Kd.V_drew)); exact HL1178_0.out) (Kd.R_base ho0) hb)
 have HO1185 := zA (Kd.R_lower (Kd.R_new' ho0 (Kd.R_lt (uR HO1182.out))) (below_size (uH HB.out)))
 replace HO1182 := zA (Kd.R_elder' (uR HO1182.out) (Kd.R_base ho0) hb)
 replace BK1170 := xB BK1170 hb
 replace HR1178_0 := zA (Kd.C_below (by repeat (first | (with_reducible exact HR1178_0.out) | (with_reducible refine Kd.C_alloc ?_ _) | (with_reducible refine Kd.C_drewN ?_ _) | (with_reducible refine Kd.C_drew ?_) | exact HR1178_0.out)) hb)
 replace HB := xH HB hb
 (try clear hb); (try clear hb2); (try clear hk); (try clear hi); (try clear ho0)
 refine hK.out _ _ ⟨bcu BK1170 0, bcu BK1170 1, bcu BK1170 2, (hcu HB hw1179_0)⟩ (fun hHeld => ?_)
 clear hK K
 refine no_ 32 ?_
 refine on_ 14 (some 34) (bl 23 589823) HT_ (fun K hK => ?_)
 refine gS Try.func79 #[.agg #[.int .i64 a0_0, .slice A0_1 l0_1.length c0_1, .slice (some ad1179) l0_2.length c0_2]] ?_
 with_reducible refine (impl_Jacobi_polys.calls k a0_0 _ _ l0_1 _ _ l0_2 t1186 _ ?side1 ?side2 ?side3 ?side4 A14.out).mono ?_
 (case side1 => exact uC ((Kd.C_below HR0_1.out HB.out)))
 (case side2 => exact HC0_1.out)
 (case side3 => exact uC ((Kd.C_below HR0_2.out HB.out)))
 (case side4 => exact HC0_2.out)
 rintro e w30 ⟨v1187, rfl, ho0, hb⟩
 refine ⟨_, rfl, ?_⟩
 replace HL1178_0 := zA (Kd.V_elder' (by (with_reducible repeat (first | apply Kd.V_alloc | apply Kd.V_drewN | apply Kd.V_drew)); exact HL1178_0.out) (Kd.N_base ho0) hb)
 have HO1188 := zA (Kd.N_lower (Kd.N_mono (ok' := fun k_ => ax k_ (.slice (some ad1178) t1175.length co26) ∧ ax k_ (.slice Ao28 t1180.length co28) ∧ some k_ ≠ (v1184 : Value).ownBlock ∧ k_ ≠ gb1170) ho0 (fun k_ hk_ => ⟨(Kd.fresh' (Kd.N_lt (by (with_reducible repeat (first | apply Kd.N_alloc | apply Kd.N_drewN | apply Kd.N_drew)); exact HO1177.out)) k_ hk_), (Kd.fresh' (Kd.R_lt (uR HO1182.out)) k_ hk_), (Kd.fresh' (Kd.R_lt (uR HO1185.out)) k_ hk_), (Kd.freshB (g := gb1170) (o := .cells #[.int .i64 a0_0, .slice A0_1 l0_1.length c0_1, .slice (some ad1179) l0_2.length c0_2] 46 (0, 0)) (uB BK1170.out) k_ hk_)⟩)) (below_size (uH HB.out)))
 replace HO1177 := zA (Kd.N_elder' (by (with_reducible repeat (first | apply Kd.N_alloc | apply Kd.N_drewN | apply Kd.N_drew)); exact HO1177.out) (Kd.N_base ho0) hb)
 replace HO1182 := xR HO1182 hb
 replace HO1185 := xR HO1185 hb
 replace BK1170 := xB BK1170 hb
 replace HR1178_0 := zA (Kd.C_below (by repeat (first | (with_reducible exact HR1178_0.out) | (with_reducible refine Kd.C_alloc ?_ _) | (with_reducible refine Kd.C_drewN ?_ _) | (with_reducible refine Kd.C_drew ?_) | exact HR1178_0.out)) hb)
 replace HB := xH HB hb
 (try clear hb); (try clear hb2); (try clear hk); (try clear hi); (try clear ho0)
 obtain ⟨Ao31, co31, eo31⟩ := Kd.N_slice HO1188.out
 (first | subst eo31 | (injection eo31 with f1_ f2_ f3_; have f4_ := f1_.symm; have f5_ := f3_.symm; clear f1_ f2_ f3_; subst f4_; subst f5_))
 have p1189 : 0 ≤ (t1174 : Int) := of_decide_eq_true (by first | (with_reducible assumption) | assumption)
 have q1189 : t1174 < (t1186.length : Int) := of_decide_eq_true (by first | (with_reducible assumption) | assumption)
 obtain ⟨ad1189, A1189_0, c1189_0, e1189, hx1189_0, hl1189_0, hi1189_0⟩ := at_L1 (Kd.N_reads' HO1188.out).2.2 t1174 p1189 q1189
 cases e1189
 obtain ⟨ce1189, hce1189, hMe1189, hcc1189⟩ := Kd.N_get HO1188.out [] t1174 p1189 (by first | exact q1189 | exact of_decide_eq_true (by first | (with_reducible assumption) | assumption) | (have e_ := (Kd.N_reads' HO1188.out).1; omega))
 obtain ⟨ua1189_0, uc1189_0, rfl, ul1189_0, ge1189_0⟩ := Kd.FK_slice_open hMe1189
 have hv1189_0 := hcc1189 0 _ rfl
 rw [Nat.add_zero, show ((Kd.slice 2 (Kd.int .i64))).sz = 1 from rfl, Nat.mul_one] at hv1189_0
 replace hv1189_0 := Option.some.inj (hv1189_0.symm.trans hx1189_0)
 injection hv1189_0 with hva_ hvn_ hvc_
 rw [hva_] at ge1189_0
 rw [hvc_] at ul1189_0
 have HL1189_0 := zA (show Kd.V (Kd.int .i64) 2 _ w.heap.size _ _ (rd_L1 t1186 t1174) from Kd.V_mk ul1189_0 ge1189_0)
 clear hva_ hvn_ hvc_ ge1189_0 ul1189_0
 clear hcc1189 hce1189
 have HR1189_0 := zA hi1189_0
 have HC1189_0 := zA hl1189_0
 clear hi1189_0 hl1189_0
 replace p1189 := eq_true p1189
 replace q1189 := eq_true q1189
 refine hK.out _ _ ⟨bcu BK1170 0, bcu BK1170 1, bcu BK1170 2, (hcu HB hw1179_0)⟩ (fun hHeld => ?_)
 clear hK K
 refine no_ 34 ?_
 refine pu_ 16 36 (bl 23 655359) HT_ ?_
 refine lo_ 17 37 (bl 23 786431) HT_ hHeld ?_
 refine on_ 18 (some 38) (bl 23 1048575) HT_ (fun K hK => ?_)
 refine gS Try.func109 #[.slice A1189_0 (rd_L1 t1186 t1174).length c1189_0] ?_
 with_reducible refine (impl_reversed.calls k _ _ (rd_L1 t1186 t1174) t1190 _ ?side1 ?side2 A16.out).mono ?_
 (case side1 => repeat (first | exact (by repeat (first | (with_reducible exact HR1189_0.out) | (with_reducible refine Kd.C_alloc ?_ _) | (with_reducible refine Kd.C_drewN ?_ _) | (with_reducible refine Kd.C_drew ?_) | exact HR1189_0.out)) | (with_reducible refine Kd.C_alloc ?_ _) | (with_reducible refine Kd.C_drewN ?_ _) | (with_reducible refine Kd.C_drew ?_)))
 (case side2 => exact HC1189_0.out)
 rintro e w32 ⟨v1191, rfl, ho0, hb⟩
 refine ⟨_, rfl, ?_⟩
 replace HO1177 := zA (Kd.N_elder' (by (with_reducible repeat (first | apply Kd.N_alloc | apply Kd.N_drewN | apply Kd.N_drew)); exact HO1177.out) (Kd.R_base ho0) hb)
 replace HL1178_0 := zA (Kd.V_elder' (by (with_reducible repeat (first | apply Kd.V_alloc | apply Kd.V_drewN | apply Kd.V_drew)); exact HL1178_0.out) (Kd.R_base ho0) hb)
 replace HO1188 := zA (Kd.N_elder' (by (with_reducible repeat (first | apply Kd.N_alloc | apply Kd.N_drewN | apply Kd.N_drew)); exact HO1188.out) (Kd.R_base ho0) hb)
 replace HL1189_0 := zA (Kd.V_elder' (by (with_reducible repeat (first | apply Kd.V_alloc | apply Kd.V_drewN | apply Kd.V_drew)); exact HL1189_0.out) (Kd.R_base ho0) hb)
 have HO1192 := zA (Kd.R_lower (Kd.R_new' (Kd.R_new' ho0 (Kd.R_lt (uR HO1182.out))) (Kd.R_lt (uR HO1185.out))) (below_size (uH HB.out)))
 replace HO1182 := zA (Kd.R_elder' (uR HO1182.out) (Kd.R_base ho0) hb)
 replace HO1185 := zA (Kd.R_elder' (uR HO1185.out) (Kd.R_base ho0) hb)
 replace BK1170 := xB BK1170 hb
 replace HR1178_0 := zA (Kd.C_below (by repeat (first | (with_reducible exact HR1178_0.out) | (with_reducible refine Kd.C_alloc ?_ _) | (with_reducible refine Kd.C_drewN ?_ _) | (with_reducible refine Kd.C_drew ?_) | exact HR1178_0.out)) hb)
 replace HR1189_0 := zA (Kd.C_below (by repeat (first | (with_reducible exact HR1189_0.out) | (with_reducible refine Kd.C_alloc ?_ _) | (with_reducible refine Kd.C_drewN ?_ _) | (with_reducible refine Kd.C_drew ?_) | exact HR1189_0.out)) hb)
 replace HB := xH HB hb
 (try clear hb); (try clear hb2); (try clear hk); (try clear hi); (try clear ho0)
 obtain ⟨Ao33, co33, eo33⟩ := Kd.R_slice HO1185.out
 (first | subst eo33 | (injection eo33 with f1_ f2_ f3_; have f4_ := f1_.symm; have f5_ := f3_.symm; clear f1_ f2_ f3_; subst f4_; subst f5_))
 obtain ⟨Ao34, co34, eo34⟩ := Kd.R_slice HO1192.out
 (first | subst eo34 | (injection eo34 with f1_ f2_ f3_; have f4_ := f1_.symm; have f5_ := f3_.symm; clear f1_ f2_ f3_; subst f4_; subst f5_))
 refine hK.out _ _ ⟨bcu BK1170 0, bcu BK1170 1, bcu BK1170 2, (hcu HB hw1179_0)⟩ (fun hHeld => ?_)
 clear hK K
 refine no_ 38 ?_
 refine on_ 20 (some 40) (bl 23 2097151) HT_ (fun K hK => ?_)
 refine gS Try.func108 #[.int .i64 t1173, .slice Ao33 t1183.length co33, .slice Ao34 t1190.length co34, .int .i64 a1] ?_
 with_reducible refine (impl_field_series.calls k t1173 _ _ t1183 _ _ t1190 a1 t1193 _ ?side1 ?side2 ?side3 ?side4 A17.out).mono ?_
 (case side1 => exact uC ((Kd.R_reads' HO1185.out).2.2))
 (case side2 => exact (Kd.R_reads' HO1185.out).2.1)
 (case side3 => exact uC ((Kd.R_reads' HO1192.out).2.2))
 (case side4 => exact (Kd.R_reads' HO1192.out).2.1)
 rintro e w35 ⟨v1194, rfl, ho0, hb⟩
 refine ⟨_, rfl, ?_⟩
 replace HO1177 := zA (Kd.N_elder' (by (with_reducible repeat (first | apply Kd.N_alloc | apply Kd.N_drewN | apply Kd.N_drew)); exact HO1177.out) (Kd.R_base ho0) hb)
 replace HL1178_0 := zA (Kd.V_elder' (by (with_reducible repeat (first | apply Kd.V_alloc | apply Kd.V_drewN | apply Kd.V_drew)); exact HL1178_0.out) (Kd.R_base ho0) hb)
 replace HO1188 := zA (Kd.N_elder' (by (with_reducible repeat (first | apply Kd.N_alloc | apply Kd.N_drewN | apply Kd.N_drew)); exact HO1188.out) (Kd.R_base ho0) hb)
 replace HL1189_0 := zA (Kd.V_elder' (by (with_reducible repeat (first | apply Kd.V_alloc | apply Kd.V_drewN | apply Kd.V_drew)); exact HL1189_0.out) (Kd.R_base ho0) hb)
 have HO1195 := zA (Kd.R_lower (Kd.R_new' (Kd.R_new' (Kd.R_new' ho0 (Kd.R_lt (uR HO1182.out))) (Kd.R_lt (uR HO1185.out))) (Kd.R_lt (uR HO1192.out))) (below_size (uH HB.out)))
 replace HO1182 := zA (Kd.R_elder' (uR HO1182.out) (Kd.R_base ho0) hb)
 replace HO1185 := zA (Kd.R_elder' (uR HO1185.out) (Kd.R_base ho0) hb)
 replace HO1192 := zA (Kd.R_elder' (uR HO1192.out) (Kd.R_base ho0) hb)
 replace BK1170 := xB BK1170 hb
 replace HR1178_0 := zA (Kd.C_below (by repeat (first | (with_reducible exact HR1178_0.out) | (with_reducible refine Kd.C_alloc ?_ _) | (with_reducible refine Kd.C_drewN ?_ _) | (with_reducible refine Kd.C_drew ?_) | exact HR1178_0.out)) hb)
 replace HR1189_0 := zA (Kd.C_below (by repeat (first | (with_reducible exact HR1189_0.out) | (with_reducible refine Kd.C_alloc ?_ _) | (with_reducible refine Kd.C_drewN ?_ _) | (with_reducible refine Kd.C_drew ?_) | exact HR1189_0.out)) hb)
 replace HB := xH HB hb
 (try clear hb); (try clear hb2); (try clear hk); (try clear hi); (try clear ho0)
 refine hK.out _ _ ⟨bcu BK1170 0, bcu BK1170 1, bcu BK1170 2, (hcu HB hw1179_0)⟩ (fun hHeld => ?_)
 clear hK K
 refine no_ 40 ?_
 refine pu_ 21 4 (bl 23 4194303) HT_ ?_
 refine pu_ 22 5 (bl 23 8388607) HT_ ?_
 refine done_ (done_of HT_.out (by kernel_rfl)) ?_
 try go_wp2
 go_ret2
 exact ⟨_, by first | rfl | (simp [errW_none, errW_some] <;> rfl) | (simp [*, errW_none, errW_some] <;> rfl), uR (Kd.R_mono HO1195.out (fun _ hk => trivial)), uH HB.out⟩
end Go.Proofs.Ytokkabgkjhpecaa.Pr
