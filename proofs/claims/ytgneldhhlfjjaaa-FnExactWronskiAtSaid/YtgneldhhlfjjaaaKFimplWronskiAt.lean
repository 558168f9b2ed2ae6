/- Printed by a program of this session out of the translation: what these functions of the program compute, under the conditions that each theorem names. -/
import Derived.Test.YtgneldhhlfjjaaaKWronskiAt1
import Derived.Test.YtgneldhhlfjjaaaKWronskiAt2
import Derived.Test.YtgneldhhlfjjaaaKFimpljacobiCode
import Derived.Test.YtgneldhhlfjjaaaKFimplJacobiassociated
namespace Go.Proofs.Ytgneldhhlfjjaaa.Pr
open Go.RowKit Go.Proofs.YtgneldhhlfjjaaaW.PrintWords Go.Proofs.YtgneldhhlfjjaaaW.PrintLast Go.Proofs.YtgneldhhlfjjaaaW.PrintMore
attribute [local go_sem] max2_int min2_int max_two min_two max_three min_three max_four min_four   -- for this text's walks alone
set_option linter.unusedVariables false
set_option linter.unusedSimpArgs false

/-! ### impl_WronskiAt: function 43 -/
def impl_WronskiAt.f (k : Nat) (a0_0 : Int) (l0_1 : List Int) (l0_2 : List Int) (a1 : Int) : Option (List Int × Int) := (impl_Jacobi_size.f a0_0 l0_1 l0_2).bind fun t972 => ((impl_within.f a1 0 (wrap64 (t972 - 1))).bind fun t973 => ((impl_jacobiCode.f k a0_0 l0_1 l0_2 t973).bind fun t974 => (if t974 = 0 then ((impl_Jacobi_field.f a0_0 l0_1 l0_2).bind fun t975 => ((impl_Jacobi_polys.f k a0_0 l0_1 l0_2).bind fun t976 => ((impl_Jacobi_associated.f k a0_0 l0_1 l0_2).bind fun t979 => (if 0 ≤ a1 then (if a1 < (t976.length : Int) then (if 0 ≤ (wrap64 (a1 + 1)) then (if (wrap64 (a1 + 1)) < (t979.length : Int) then ((impl_field_product.f k t975 (rd_L1 t976 a1) (rd_L1 t979 (wrap64 (a1 + 1)))).bind fun t984 => (if a1 < (t979.length : Int) then (if (wrap64 (a1 + 1)) < (t976.length : Int) then ((impl_field_product.f k t975 (rd_L1 t979 a1) (rd_L1 t976 (wrap64 (a1 + 1)))).bind fun t989 => ((impl_field_mod.f t975 (-1)).bind fun t992 => ((impl_field_add.f k t975 t984 t989 t992).bind fun t993 => (some (t993, 0))))) else (none)) else (none))) else (none)) else (none)) else (none)) else (none))))) else (some (([] : List Int), t974)))))
theorem impl_WronskiAt.mono : ∀ a0 a1 a2 a3 k, LeO (impl_WronskiAt.f k a0 a1 a2 a3) (impl_WronskiAt.f (k + 1) a0 a1 a2 a3) := by
 intro a0 a1 a2 a3 k
 unfold impl_WronskiAt.f
 repeat' first
   | (with_reducible exact impl_Jacobi_associated.mono _ _ _ _)
   | (with_reducible exact impl_Jacobi_polys.mono _ _ _ _)
   | (with_reducible exact impl_field_add.mono _ _ _ _ _)
   | (with_reducible exact impl_field_product.mono _ _ _ _)
   | (with_reducible exact impl_jacobiCode.mono _ _ _ _ _)
   | (with_reducible exact LeO.refl _)
   | (with_reducible exact LeO.none _)
   | (with_reducible refine LeO.ite ?_ ?_)
   | (with_reducible refine LeO.bind ?_ (fun _ => ?_))
   | exact impl_Jacobi_associated.mono _ _ _ _
   | exact impl_Jacobi_polys.mono _ _ _ _
   | exact impl_field_add.mono _ _ _ _ _
   | exact impl_field_product.mono _ _ _ _
   | exact impl_jacobiCode.mono _ _ _ _ _
   | exact LeO.none _
   | refine LeO.ite ?_ ?_
   | refine LeO.bind ?_ (fun _ => ?_)
def impl_WronskiAt.T1 : Bool × List (List Nat × List Nat) := (true, [([], []), ([], []), ([], []), ([2], [2]), ([3], [3]), ([1, 4, 3], [1, 4]), ([0, 5, 5], [0, 5]), ([6, 6, 0, 1, 2, 3, 4, 5, 6], [6])])
def impl_WronskiAt.B1 : List Nat := [0, 0, 0, 4, 12, 30, 63, 127]
theorem impl_WronskiAt.tab1 : rtab .any (opsOf Try.f43 1) = impl_WronskiAt.T1 := by kernel_rfl
theorem impl_WronskiAt.bits1 : waitsOk impl_WronskiAt.T1.2 impl_WronskiAt.B1 = true := by kernel_rfl
def impl_WronskiAt.T4 : Bool × List (List Nat × List Nat) := (true, [([], []), ([0], [0]), ([], []), ([2, 1], [2]), ([], []), ([4, 3], [4]), ([1, 5, 0, 1], [1]), ([3, 6, 0, 1, 2, 3, 6], [3]), ([5, 7, 0, 1, 2, 3, 4, 5, 6, 7], [5])])
def impl_WronskiAt.B4 : List Nat := [0, 1, 0, 7, 0, 31, 63, 127, 255]
theorem impl_WronskiAt.tab4 : rtab .any (opsOf Try.f43 4) = impl_WronskiAt.T4 := by kernel_rfl
theorem impl_WronskiAt.bits4 : waitsOk impl_WronskiAt.T4.2 impl_WronskiAt.B4 = true := by kernel_rfl
def impl_WronskiAt.T5 : Bool × List (List Nat × List Nat) := (true, [([], []), ([], []), ([], []), ([], []), ([2, 3], [2, 3]), ([4], [4]), ([], []), ([], []), ([7], [7]), ([6, 8], [6, 8]), ([9], [9]), ([1, 5, 10], [1, 5, 10]), ([], []), ([], []), ([], []), ([13, 14], [13, 14]), ([15], [15]), ([], []), ([], []), ([18], [18]), ([17, 19], [17, 19]), ([20], [20]), ([12, 16, 21, 11], [12, 16, 21]), ([], []), ([23, 22], [23]), ([0, 11, 22, 24, 24], [0, 11, 22, 24]), ([25, 25, 0, 1, 2, 3, 4, 5, 6, 7, 8, 9, 10, 11, 12, 13, 14, 15, 16, 17, 18, 19, 20, 21, 22, 23, 24, 25], [25]), ([26, 0, 1, 2, 3, 4, 5, 6, 7, 8, 9, 10, 11, 12, 13, 14, 15, 16, 17, 18, 19, 20, 21, 22, 23, 24, 25, 26], [])])
def impl_WronskiAt.B5 : List Nat := [0, 0, 0, 0, 12, 28, 0, 0, 128, 448, 960, 2046, 0, 0, 0, 24576, 57344, 0, 0, 262144, 917504, 1966080, 4194302, 0, 16777214, 33554431, 67108863, 134217727]
theorem impl_WronskiAt.tab5 : rtab .any (opsOf Try.f43 5) = impl_WronskiAt.T5 := by kernel_rfl
theorem impl_WronskiAt.bits5 : waitsOk impl_WronskiAt.T5.2 impl_WronskiAt.B5 = true := by kernel_rfl
set_option maxHeartbeats 8000000 in
set_option maxRecDepth 100000 in
theorem impl_WronskiAt.calls (k : Nat) (a0_0 : Int) (A0_1 : Option Addr) (c0_1 : Nat) (l0_1 : List Int) (A0_2 : Option Addr) (c0_2 : Nat) (l0_2 : List Int) (a1 : Int) (r1 : List Int) (r2 : Int) (w : World) (hr0_1 : Kd.C (Kd.int .i64) w A0_1 l0_1.length l0_1) (hc0_1 : l0_1.length ≤ c0_1) (hr0_2 : Kd.C (Kd.int .i64) w A0_2 l0_2.length l0_2) (hc0_2 : l0_2.length ≤ c0_2) (h : impl_WronskiAt.f k a0_0 l0_1 l0_2 a1 = some (r1, r2)) :
  Calls Try.prog 43 #[.agg #[.int .i64 a0_0, .slice A0_1 l0_1.length c0_1, .slice A0_2 l0_2.length c0_2], .int .i64 a1] w fun e w' => ∃ v0_ : Value, e = .returned (.tuple #[v0_, .int .i64 r2]) ∧ Kd.R (Kd.int .i64) 2 w' w.heap.size (fun _ => True) v0_ r1 ∧ Below w.heap.size w w' := by
 have hu26 := Try.underlying26
 have HR0_1 := zA hr0_1
 have HC0_1 := zA hc0_1
 clear hr0_1 hc0_1
 have HR0_2 := zA hr0_2
 have HC0_2 := zA hc0_2
 clear hr0_2 hc0_2
 have HB := zA (Below.refl w.heap.size w)
 have H : ((impl_Jacobi_size.f a0_0 l0_1 l0_2).bind fun t972 => ((impl_within.f a1 0 (wrap64 (t972 - 1))).bind fun t973 => ((impl_jacobiCode.f k a0_0 l0_1 l0_2 t973).bind fun t974 => (if t974 = 0 then ((impl_Jacobi_field.f a0_0 l0_1 l0_2).bind fun t975 => ((impl_Jacobi_polys.f k a0_0 l0_1 l0_2).bind fun t976 => ((impl_Jacobi_associated.f k a0_0 l0_1 l0_2).bind fun t979 => (if 0 ≤ a1 then (if a1 < (t976.length : Int) then (if 0 ≤ (wrap64 (a1 + 1)) then (if (wrap64 (a1 + 1)) < (t979.length : Int) then ((impl_field_product.f k t975 (rd_L1 t976 a1) (rd_L1 t979 (wrap64 (a1 + 1)))).bind fun t984 => (if a1 < (t979.length : Int) then (if (wrap64 (a1 + 1)) < (t976.length : Int) then ((impl_field_product.f k t975 (rd_L1 t979 a1) (rd_L1 t976 (wrap64 (a1 + 1)))).bind fun t989 => ((impl_field_mod.f t975 (-1)).bind fun t992 => ((impl_field_add.f k t975 t984 t989 t992).bind fun t993 => (some (t993, 0))))) else (none)) else (none))) else (none)) else (none)) else (none)) else (none))))) else (some (([] : List Int), t974)))))) = some (r1, r2) := h
 clear h
 replace H := Option.bind_eq_some_iff.mp H
 obtain ⟨t972, A30, H⟩ := H
 replace H : ((impl_within.f a1 0 (wrap64 (t972 - 1))).bind fun t973 => ((impl_jacobiCode.f k a0_0 l0_1 l0_2 t973).bind fun t974 => (if t974 = 0 then ((impl_Jacobi_field.f a0_0 l0_1 l0_2).bind fun t975 => ((impl_Jacobi_polys.f k a0_0 l0_1 l0_2).bind fun t976 => ((impl_Jacobi_associated.f k a0_0 l0_1 l0_2).bind fun t979 => (if 0 ≤ a1 then (if a1 < (t976.length : Int) then (if 0 ≤ (wrap64 (a1 + 1)) then (if (wrap64 (a1 + 1)) < (t979.length : Int) then ((impl_field_product.f k t975 (rd_L1 t976 a1) (rd_L1 t979 (wrap64 (a1 + 1)))).bind fun t984 => (if a1 < (t979.length : Int) then (if (wrap64 (a1 + 1)) < (t976.length : Int) then ((impl_field_product.f k t975 (rd_L1 t979 a1) (rd_L1 t976 (wrap64 (a1 + 1)))).bind fun t989 => ((impl_field_mod.f t975 (-1)).bind fun t992 => ((impl_field_add.f k t975 t984 t989 t992).bind fun t993 => (some (t993, 0))))) else (none)) else (none))) else (none)) else (none)) else (none)) else (none))))) else (some (([] : List Int), t974))))) = some (r1, r2) := H
 have A3 := zA A30
 clear A30
 replace H := Option.bind_eq_some_iff.mp H
 obtain ⟨t973, A40, H⟩ := H
 replace H : ((impl_jacobiCode.f k a0_0 l0_1 l0_2 t973).bind fun t974 => (if t974 = 0 then ((impl_Jacobi_field.f a0_0 l0_1 l0_2).bind fun t975 => ((impl_Jacobi_polys.f k a0_0 l0_1 l0_2).bind fun t976 => ((impl_Jacobi_associated.f k a0_0 l0_1 l0_2).bind fun t979 => (if 0 ≤ a1 then (if a1 < (t976.length : Int) then (if 0 ≤ (wrap64 (a1 + 1)) then (if (wrap64 (a1 + 1)) < (t979.length : Int) then ((impl_field_product.f k t975 (rd_L1 t976 a1) (rd_L1 t979 (wrap64 (a1 + 1)))).bind fun t984 => (if a1 < (t979.length : Int) then (if (wrap64 (a1 + 1)) < (t976.length : Int) then ((impl_field_product.f k t975 (rd_L1 t979 a1) (rd_L1 t976 (wrap64 (a1 + 1)))).bind fun t989 => ((impl_field_mod.f t975 (-1)).bind fun t992 => ((impl_field_add.f k t975 t984 t989 t992).bind fun t993 => (some (t993, 0))))) else (none)) else (none))) else (none)) else (none)) else (none)) else (none))))) else (some (([] : List Int), t974)))) = some (r1, r2) := H
 have A4 := zA A40
 clear A40
 replace H := Option.bind_eq_some_iff.mp H
 obtain ⟨t974, A50, H⟩ := H
 replace H : (if t974 = 0 then ((impl_Jacobi_field.f a0_0 l0_1 l0_2).bind fun t975 => ((impl_Jacobi_polys.f k a0_0 l0_1 l0_2).bind fun t976 => ((impl_Jacobi_associated.f k a0_0 l0_1 l0_2).bind fun t979 => (if 0 ≤ a1 then (if a1 < (t976.length : Int) then (if 0 ≤ (wrap64 (a1 + 1)) then (if (wrap64 (a1 + 1)) < (t979.length : Int) then ((impl_field_product.f k t975 (rd_L1 t976 a1) (rd_L1 t979 (wrap64 (a1 + 1)))).bind fun t984 => (if a1 < (t979.length : Int) then (if (wrap64 (a1 + 1)) < (t976.length : Int) then ((impl_field_product.f k t975 (rd_L1 t979 a1) (rd_L1 t976 (wrap64 (a1 + 1)))).bind fun t989 => ((impl_field_mod.f t975 (-1)).bind fun t992 => ((impl_field_add.f k t975 t984 t989 t992).bind fun t993 => (some (t993, 0))))) else (none)) else (none))) else (none)) else (none)) else (none)) else (none))))) else (some (([] : List Int), t974))) = some (r1, r2) := H
 have A5 := zA A50
 clear A50
 by_cases c6 : t974 = 0
 ·rw [if_pos c6] at H
  have c6b0 : (t974 == 0) = true := beq_iff_eq.mpr c6
  have c6b1 : (t974 != 0) = false := bne_eq_false_iff_eq.mpr c6
  clear c6
  replace H := Option.bind_eq_some_iff.mp H
  obtain ⟨t975, A70, H⟩ := H
  replace H : ((impl_Jacobi_polys.f k a0_0 l0_1 l0_2).bind fun t976 => ((impl_Jacobi_associated.f k a0_0 l0_1 l0_2).bind fun t979 => (if 0 ≤ a1 then (if a1 < (t976.length : Int) then (if 0 ≤ (wrap64 (a1 + 1)) then (if (wrap64 (a1 + 1)) < (t979.length : Int) then ((impl_field_product.f k t975 (rd_L1 t976 a1) (rd_L1 t979 (wrap64 (a1 + 1)))).bind fun t984 => (if a1 < (t979.length : Int) then (if (wrap64 (a1 + 1)) < (t976.length : Int) then ((impl_field_product.f k t975 (rd_L1 t979 a1) (rd_L1 t976 (wrap64 (a1 + 1)))).bind fun t989 => ((impl_field_mod.f t975 (-1)).bind fun t992 => ((impl_field_add.f k t975 t984 t989 t992).bind fun t993 => (some (t993, 0))))) else (none)) else (none))) else (none)) else (none)) else (none)) else (none)))) = some (r1, r2) := H
  have A7 := zA A70
  clear A70
  replace H := Option.bind_eq_some_iff.mp H
  obtain ⟨t976, A80, H⟩ := H
  replace H : ((impl_Jacobi_associated.f k a0_0 l0_1 l0_2).bind fun t979 => (if 0 ≤ a1 then (if a1 < (t976.length : Int) then (if 0 ≤ (wrap64 (a1 + 1)) then (if (wrap64 (a1 + 1)) < (t979.length : Int) then ((impl_field_product.f k t975 (rd_L1 t976 a1) (rd_L1 t979 (wrap64 (a1 + 1)))).bind fun t984 => (if a1 < (t979.length : Int) then (if (wrap64 (a1 + 1)) < (t976.length : Int) then ((impl_field_product.f k t975 (rd_L1 t979 a1) (rd_L1 t976 (wrap64 (a1 + 1)))).bind fun t989 => ((impl_field_mod.f t975 (-1)).bind fun t992 => ((impl_field_add.f k t975 t984 t989 t992).bind fun t993 => (some (t993, 0))))) else (none)) else (none))) else (none)) else (none)) else (none)) else (none))) = some (r1, r2) := H
  have A8 := zA A80
  clear A80
  replace H := Option.bind_eq_some_iff.mp H
  obtain ⟨t979, A90, H⟩ := H
  replace H : (if 0 ≤ a1 then (if a1 < (t976.length : Int) then (if 0 ≤ (wrap64 (a1 + 1)) then (if (wrap64 (a1 + 1)) < (t979.length : Int) then ((impl_field_product.f k t975 (rd_L1 t976 a1) (rd_L1 t979 (wrap64 (a1 + 1)))).bind fun t984 => (if a1 < (t979.length : Int) then (if (wrap64 (a1 + 1)) < (t976.length : Int) then ((impl_field_product.f k t975 (rd_L1 t979 a1) (rd_L1 t976 (wrap64 (a1 + 1)))).bind fun t989 => ((impl_field_mod.f t975 (-1)).bind fun t992 => ((impl_field_add.f k t975 t984 t989 t992).bind fun t993 => (some (t993, 0))))) else (none)) else (none))) else (none)) else (none)) else (none)) else (none)) = some (r1, r2) := H
  have A9 := zA A90
  clear A90
  by_cases c10 : 0 ≤ a1
  ·rw [if_pos c10] at H
   have c10b0 : decide (0 ≤ a1) = true := decide_eq_true c10
   clear c10
   by_cases c11 : a1 < (t976.length : Int)
   ·rw [if_pos c11] at H
    have c11b0 : decide (a1 < (t976.length : Int)) = true := decide_eq_true c11
    clear c11
    obtain ⟨ji12, hji12⟩ : ∃ j_ : Int, (wrap64 (a1 + 1)) = j_ := ⟨_, rfl⟩
    replace H : (if 0 ≤ (ji12) then (if (ji12) < (t979.length : Int) then ((impl_field_product.f k t975 (rd_L1 t976 a1) (rd_L1 t979 (ji12))).bind fun t984 => (if a1 < (t979.length : Int) then (if (ji12) < (t976.length : Int) then ((impl_field_product.f k t975 (rd_L1 t979 a1) (rd_L1 t976 (ji12))).bind fun t989 => ((impl_field_mod.f t975 (-1)).bind fun t992 => ((impl_field_add.f k t975 t984 t989 t992).bind fun t993 => (some (t993, 0))))) else (none)) else (none))) else (none)) else (none)) = some (r1, r2) := by first | (rw [hji12] at H; exact H) | (simp only [hji12] at H ⊢; exact H)
    (try rw [hji12] at A3)
    (try rw [hji12] at A4)
    (try rw [hji12] at A5)
    (try rw [hji12] at A7)
    (try rw [hji12] at A8)
    (try rw [hji12] at A9)
    have hji12w : (IntKind.i64.wrap (a1 + 1)) = ji12 := (i64_w _).trans hji12
    by_cases c13 : 0 ≤ (ji12)
    ·rw [if_pos c13] at H
     have c13b0 : decide (0 ≤ (ji12)) = true := decide_eq_true c13
     clear c13
     by_cases c14 : (ji12) < (t979.length : Int)
     ·rw [if_pos c14] at H
      have c14b0 : decide ((ji12) < (t979.length : Int)) = true := decide_eq_true c14
      clear c14
      replace H := Option.bind_eq_some_iff.mp H
      obtain ⟨t984, A150, H⟩ := H
      replace H : (if a1 < (t979.length : Int) then (if (ji12) < (t976.length : Int) then ((impl_field_product.f k t975 (rd_L1 t979 a1) (rd_L1 t976 (ji12))).bind fun t989 => ((impl_field_mod.f t975 (-1)).bind fun t992 => ((impl_field_add.f k t975 t984 t989 t992).bind fun t993 => (some (t993, 0))))) else (none)) else (none)) = some (r1, r2) := H
      have A15 := zA A150
      clear A150
      by_cases c16 : a1 < (t979.length : Int)
      ·rw [if_pos c16] at H
       have c16b0 : decide (a1 < (t979.length : Int)) = true := decide_eq_true c16
       clear c16
       by_cases c17 : (ji12) < (t976.length : Int)
       ·rw [if_pos c17] at H
        have c17b0 : decide ((ji12) < (t976.length : Int)) = true := decide_eq_true c17
        clear c17
        replace H := Option.bind_eq_some_iff.mp H
        obtain ⟨t989, A180, H⟩ := H
        replace H : ((impl_field_mod.f t975 (-1)).bind fun t992 => ((impl_field_add.f k t975 t984 t989 t992).bind fun t993 => (some (t993, 0)))) = some (r1, r2) := H
        have A18 := zA A180
        clear A180
        replace H := Option.bind_eq_some_iff.mp H
        obtain ⟨t992, A190, H⟩ := H
        replace H : ((impl_field_add.f k t975 t984 t989 t992).bind fun t993 => (some (t993, 0))) = some (r1, r2) := H
        have A19 := zA A190
        clear A190
        replace H := Option.bind_eq_some_iff.mp H
        obtain ⟨t993, A200, H⟩ := H
        replace H : (some (t993, 0)) = some (r1, r2) := H
        have A20 := zA A200
        clear A200
        simp only [Option.some.injEq, Prod.mk.injEq] at H
        obtain ⟨rfl, rfl⟩ := H
        go_enter Try.func43, Try.ntmps43
        try go_wp2_with (first | ((with_reducible refine gate_dst (N := 2) rfl ?_); refine box_event ?hg (N := 2) ?hd (cs := #[.int .i64 a0_0, .slice A0_1 l0_1.length c0_1, .slice A0_2 l0_2.length c0_2]) (t := 26) ?hr ?_; (case hd => rfl); (case hg => rfl); (case hr => first | (go_simp; done) | (go_simp; rfl)); intro gb971 hg w21 hbox hb; have n0_ := xH HB hb; have n1_ := zA (hbox); have n2_ := zA ((by rw [hg]; exact (below_size (uH HB.out)) : w.heap.size ≤ gb971)); have n3_ := zA ((by rw [hg]; exact (below_size (uH HB.out)) : w.heap.size ≤ gb971)); clear HB; have HB := n0_; have BK971 := n1_; have GW971 := n2_; have GE971 := n3_; have := geI GE971; clear n0_ n1_ n2_ n3_ hb hbox hg))
        have n0_ := zA (blk_drew BK971.out)
        have n1_ := zA (below_drew1 HB.out)
        clear BK971 HB
        have BK971 := n0_; have HB := n1_
        clear n0_ n1_
        refine start_ (n := 8) (S := fun w' => w'.cell? ⟨gb971, 0, none⟩ = some (.int .i64 a0_0) ∧ w'.cell? ⟨gb971, 1, none⟩ = some (.slice A0_1 l0_1.length c0_1) ∧ w'.cell? ⟨gb971, 2, none⟩ = some (.slice A0_2 l0_2.length c0_2)) (ds := []) #[false, false, false, false, false, false, false, false] (by kernel_rfl) rfl rfl ⟨(blk_cell BK971.out 0).trans rfl, (blk_cell BK971.out 1).trans rfl, (blk_cell BK971.out 2).trans rfl⟩ (fun hHeld => ?_); refine with_tabW impl_WronskiAt.tab1 impl_WronskiAt.bits1 (fun HT_ HW_ => ?_)
        generalize w21.drew = w22 at BK971 HB hHeld ⊢
        refine pure_ (i := 1) (N := some 11) (v := ?_) (a' := ?_) #[false, true, false, false, false, false, false, false] rfl rfl (any_of HT_.out (by kernel_rfl)) (fun _ _ _ h => h) (Or.inl ⟨by rfl, ?_⟩) ?_ ?_
        rotate_left
        ·intro w'
         go_simp
         with_reducible rfl
        rotate_left
        ·simp only [Act.put, ls, lz, ln, i64_w, i32_w]
         rfl
        refine take_ (i := 0) (N := some 10) (v := ?_) (a' := ?_) #[true, true, false, false, false, false, false, false] rfl rfl (take_ofW HT_.out HW_.out (by kernel_rfl)) (fun _ _ _ h => h) (Or.inl ⟨by rfl, ?_⟩) hHeld ?_ ?_
        rotate_left
        ·rintro w' ⟨s0, s1, s2⟩
         go_simp
         with_reducible rfl
        rotate_left
        ·simp only [Act.put, ls, lz, ln, i64_w, i32_w]
         rfl
        refine take_ (i := 2) (N := some 12) (v := ?_) (a' := ?_) #[true, true, true, false, false, false, false, false] rfl rfl (take_ofW HT_.out HW_.out (by kernel_rfl)) (fun _ _ _ h => h) (Or.inl ⟨by rfl, ?_⟩) hHeld ?_ ?_
        rotate_left
        ·rintro w' ⟨s0, s1, s2⟩
         go_simp
         with_reducible rfl
        rotate_left
        ·simp only [Act.put, ls, lz, ln, i64_w, i32_w]
         rfl
        refine one_ (i := 3) (N := some 13) #[true, true, true, true, false, false, false, false] rfl rfl (one_of HT_.out (by kernel_rfl)) (by decide) (fun K hK => ?_)
        refine goes_ Try.func56 (by kernel_rfl) rfl #[.agg #[.int .i64 a0_0, .slice A0_1 l0_1.length c0_1, .slice A0_2 l0_2.length c0_2]] (by rfl) rfl rfl (by (try simp only [la, lb, lc]); first | done | rfl | (simp only [ld, le]; rfl)) ?_
        with_reducible refine (impl_Jacobi_size.calls a0_0 _ _ l0_1 _ _ l0_2 t972 _ ?side1 ?side2 ?side3 ?side4 A3.out).mono ?_
        (case side1 => exact uC ((Kd.C_below HR0_1.out HB.out)))
        (case side2 => exact HC0_1.out)
        (case side3 => exact uC ((Kd.C_below HR0_2.out HB.out)))
        (case side4 => exact HC0_2.out)
        rintro e w23 ⟨rfl, hb⟩
        refine ⟨_, rfl, ?_⟩
        have n0_ := xB BK971 hb
        have n1_ := xH HB hb
        clear BK971 HB
        have BK971 := n0_; have HB := n1_
        clear n0_ n1_
        (try clear hb); (try clear hb2); (try clear hk); (try clear hi)
        refine hK.out _ _ ⟨(blk_cell BK971.out 0).trans rfl, (blk_cell BK971.out 1).trans rfl, (blk_cell BK971.out 2).trans rfl⟩ (fun hHeld => ?_)
        clear hK K
        refine norm_ (a' := ?_) ?_ ?_
        rotate_left
        ·show Act.put _ (some 13) _ = _
         simp only [Act.put, ls, lz, ln, i64_w, i32_w]
         rfl
        refine pure_ (i := 4) (N := some 14) (v := ?_) (a' := ?_) #[true, true, true, true, true, false, false, false] rfl rfl (any_of HT_.out (by kernel_rfl)) (fun _ _ _ h => h) (Or.inl ⟨by rfl, ?_⟩) ?_ ?_
        rotate_left
        ·intro w'
         go_simp
         with_reducible rfl
        rotate_left
        ·simp only [Act.put, ls, lz, ln, i64_w, i32_w]
         rfl
        refine one_ (i := 5) (N := some 15) #[true, true, true, true, true, true, false, false] rfl rfl (one_of HT_.out (by kernel_rfl)) (by decide) (fun K hK => ?_)
        refine goes_ Try.func55 (by kernel_rfl) rfl #[.int .i64 a1, .int .i64 0, .int .i64 (wrap64 (t972 - 1))] (by rfl) rfl rfl (by (try simp only [la, lb, lc]); first | done | rfl | (simp only [ld, le]; rfl)) ?_
        with_reducible refine (impl_within.calls a1 0 (wrap64 (t972 - 1)) t973 _ A4.out).mono ?_
        rintro e w' ⟨rfl, ⟨nd, rfl⟩⟩
        refine ⟨_, rfl, ?_⟩
        refine hK.out _ _ ⟨(blk_cell BK971.out 0).trans rfl, (blk_cell BK971.out 1).trans rfl, (blk_cell BK971.out 2).trans rfl⟩ (fun hHeld => ?_)
        clear hK K
        refine norm_ (a' := ?_) ?_ ?_
        rotate_left
        ·show Act.put _ (some 15) _ = _
         simp only [Act.put, ls, lz, ln, i64_w, i32_w]
         rfl
        refine one_ (i := 6) (N := some 16) #[true, true, true, true, true, true, true, false] rfl rfl (one_of HT_.out (by kernel_rfl)) (by decide) (fun K hK => ?_)
        refine goes_ Try.func54 (by kernel_rfl) rfl #[.agg #[.int .i64 a0_0, .slice A0_1 l0_1.length c0_1, .slice A0_2 l0_2.length c0_2], .bool t973] (by rfl) rfl rfl (by (try simp only [la, lb, lc]); first | done | rfl | (simp only [ld, le]; rfl)) ?_
        with_reducible refine (impl_jacobiCode.calls k a0_0 _ _ l0_1 _ _ l0_2 t973 t974 _ ?side1 ?side2 ?side3 ?side4 A5.out).mono ?_
        (case side1 => repeat (first | exact (Kd.C_below HR0_1.out (uH HB.out)) | (with_reducible refine Kd.C_alloc ?_ _) | (with_reducible refine Kd.C_drewN ?_ _) | (with_reducible refine Kd.C_drew ?_)))
        (case side2 => exact HC0_1.out)
        (case side3 => repeat (first | exact (Kd.C_below HR0_2.out (uH HB.out)) | (with_reducible refine Kd.C_alloc ?_ _) | (with_reducible refine Kd.C_drewN ?_ _) | (with_reducible refine Kd.C_drew ?_)))
        (case side4 => exact HC0_2.out)
        rintro e w24 ⟨rfl, hb⟩
        refine ⟨_, rfl, ?_⟩
        have n0_ := xB BK971 hb
        have n1_ := xH HB hb
        clear BK971 HB
        have BK971 := n0_; have HB := n1_
        clear n0_ n1_
        (try clear hb); (try clear hb2); (try clear hk); (try clear hi)
        refine hK.out _ _ ⟨(blk_cell BK971.out 0).trans rfl, (blk_cell BK971.out 1).trans rfl, (blk_cell BK971.out 2).trans rfl⟩ (fun hHeld => ?_)
        clear hK K
        refine norm_ (a' := ?_) ?_ ?_
        rotate_left
        ·show Act.put _ (some 16) _ = _
         simp only [Act.put, ls, lz, ln, i64_w, i32_w]
         rfl
        refine pure_ (i := 7) (N := some 6) (v := ?_) (a' := ?_) #[true, true, true, true, true, true, true, true] rfl rfl (any_of HT_.out (by kernel_rfl)) (fun _ _ _ h => h) (Or.inl ⟨by rfl, ?_⟩) ?_ ?_
        rotate_left
        ·intro w'
         go_simp
         with_reducible rfl
        rotate_left
        ·simp only [Act.put, ls, lz, ln, i64_w, i32_w]
         rfl
        refine done_ (done_of HT_.out (by kernel_rfl)) ?_
        try go_wp2
        have n0_ := zA (blk_drew BK971.out)
        have n1_ := zA (below_drew1 HB.out)
        clear BK971 HB
        have BK971 := n0_; have HB := n1_
        clear n0_ n1_
        refine start_ (n := 9) (S := fun w' => w'.cell? ⟨gb971, 0, none⟩ = some (.int .i64 a0_0) ∧ w'.cell? ⟨gb971, 1, none⟩ = some (.slice A0_1 l0_1.length c0_1) ∧ w'.cell? ⟨gb971, 2, none⟩ = some (.slice A0_2 l0_2.length c0_2)) (ds := []) #[false, false, false, false, false, false, false, false, false] (by kernel_rfl) rfl rfl ⟨(blk_cell BK971.out 0).trans rfl, (blk_cell BK971.out 1).trans rfl, (blk_cell BK971.out 2).trans rfl⟩ (fun hHeld => ?_); refine with_tabW impl_WronskiAt.tab4 impl_WronskiAt.bits4 (fun HT_ HW_ => ?_)
        generalize w24.drew = w25 at BK971 HB hHeld ⊢
        refine take_ (i := 0) (N := some 20) (v := ?_) (a' := ?_) #[true, false, false, false, false, false, false, false, false] rfl rfl (take_ofW HT_.out HW_.out (by kernel_rfl)) (fun _ _ _ h => h) (Or.inl ⟨by rfl, ?_⟩) hHeld ?_ ?_
        rotate_left
        ·rintro w' ⟨s0, s1, s2⟩
         go_simp
         with_reducible rfl
        rotate_left
        ·simp only [Act.put, ls, lz, ln, i64_w, i32_w]
         rfl
        refine take_ (i := 2) (N := some 22) (v := ?_) (a' := ?_) #[true, false, true, false, false, false, false, false, false] rfl rfl (take_ofW HT_.out HW_.out (by kernel_rfl)) (fun _ _ _ h => h) (Or.inl ⟨by rfl, ?_⟩) hHeld ?_ ?_
        rotate_left
        ·rintro w' ⟨s0, s1, s2⟩
         go_simp
         with_reducible rfl
        rotate_left
        ·simp only [Act.put, ls, lz, ln, i64_w, i32_w]
         rfl
        refine take_ (i := 4) (N := some 24) (v := ?_) (a' := ?_) #[true, false, true, false, true, false, false, false, false] rfl rfl (take_ofW HT_.out HW_.out (by kernel_rfl)) (fun _ _ _ h => h) (Or.inl ⟨by rfl, ?_⟩) hHeld ?_ ?_
        rotate_left
        ·rintro w' ⟨s0, s1, s2⟩
         go_simp
         with_reducible rfl
        rotate_left
        ·simp only [Act.put, ls, lz, ln, i64_w, i32_w]
         rfl
        refine one_ (i := 1) (N := some 21) #[true, true, true, false, true, false, false, false, false] rfl rfl (one_of HT_.out (by kernel_rfl)) (by decide) (fun K hK => ?_)
        refine goes_ Try.func62 (by kernel_rfl) rfl #[.agg #[.int .i64 a0_0, .slice A0_1 l0_1.length c0_1, .slice A0_2 l0_2.length c0_2]] (by rfl) rfl rfl (by (try simp only [la, lb, lc]); first | done | rfl | (simp only [ld, le]; rfl)) ?_
        with_reducible refine (impl_Jacobi_field.calls a0_0 _ _ l0_1 _ _ l0_2 t975 _ ?side1 ?side2 ?side3 ?side4 A7.out).mono ?_
        (case side1 => exact uC ((Kd.C_below HR0_1.out HB.out)))
        (case side2 => exact HC0_1.out)
        (case side3 => exact uC ((Kd.C_below HR0_2.out HB.out)))
        (case side4 => exact HC0_2.out)
        rintro e w26 ⟨rfl, hb⟩
        refine ⟨_, rfl, ?_⟩
        have n0_ := xB BK971 hb
        have n1_ := xH HB hb
        clear BK971 HB
        have BK971 := n0_; have HB := n1_
        clear n0_ n1_
        (try clear hb); (try clear hb2); (try clear hk); (try clear hi)
        refine hK.out _ _ ⟨(blk_cell BK971.out 0).trans rfl, (blk_cell BK971.out 1).trans rfl, (blk_cell BK971.out 2).trans rfl⟩ (fun hHeld => ?_)
        clear hK K
        refine norm_ (a' := ?_) ?_ ?_
        rotate_left
        ·show Act.put _ (some 21) _ = _
         simp only [Act.put, ls, lz, ln, i64_w, i32_w]
         rfl
        refine one_ (i := 3) (N := some 23) #[true, true, true, true, true, false, false, false, false] rfl rfl (one_of HT_.out (by kernel_rfl)) (by decide) (fun K hK => ?_)
        refine goes_ Try.func72 (by kernel_rfl) rfl #[.agg #[.int .i64 a0_0, .slice A0_1 l0_1.length c0_1, .slice A0_2 l0_2.length c0_2]] (by rfl) rfl rfl (by (try simp only [la, lb, lc]); first | done | rfl | (simp only [ld, le]; rfl)) ?_
        with_reducible refine (impl_Jacobi_polys.calls k a0_0 _ _ l0_1 _ _ l0_2 t976 _ ?side1 ?side2 ?side3 ?side4 A8.out).mono ?_
        (case side1 => exact uC ((Kd.C_below HR0_1.out HB.out)))
        (case side2 => exact HC0_1.out)
        (case side3 => exact uC ((Kd.C_below HR0_2.out HB.out)))
        (case side4 => exact HC0_2.out)
        rintro e w27 ⟨v977, rfl, ho0, hb⟩
        refine ⟨_, rfl, ?_⟩
        have n0_ := zA (Kd.N_lower (Kd.N_mono (ok' := fun k_ => k_ ≠ gb971) ho0 (fun k_ hk_ => (Kd.freshB (g := gb971) (o := .cells #[.int .i64 a0_0, .slice A0_1 l0_1.length c0_1, .slice A0_2 l0_2.length c0_2] 26 (0, 0)) (uB BK971.out) k_ hk_))) (below_size (uH HB.out)))
        have n1_ := xB BK971 hb
        have n2_ := xH HB hb
        clear BK971 HB
        have HO978 := n0_; have BK971 := n1_; have HB := n2_
        clear n0_ n1_ n2_
        (try clear hb); (try clear hb2); (try clear hk); (try clear hi); (try clear ho0)
        refine hK.out _ _ ⟨(blk_cell BK971.out 0).trans rfl, (blk_cell BK971.out 1).trans rfl, (blk_cell BK971.out 2).trans rfl⟩ (fun hHeld => ?_)
        clear hK K
        refine norm_ (a' := ?_) ?_ ?_
        rotate_left
        ·show Act.put _ (some 23) _ = _
         simp only [Act.put, ls, lz, ln, i64_w, i32_w]
         rfl
        refine one_ (i := 5) (N := some 25) #[true, true, true, true, true, true, false, false, false] rfl rfl (one_of HT_.out (by kernel_rfl)) (by decide) (fun K hK => ?_)
        refine goes_ Try.func70 (by kernel_rfl) rfl #[.agg #[.int .i64 a0_0, .slice A0_1 l0_1.length c0_1, .slice A0_2 l0_2.length c0_2]] (by rfl) rfl rfl (by (try simp only [la, lb, lc]); first | done | rfl | (simp only [ld, le]; rfl)) ?_
        with_reducible refine (impl_Jacobi_associated.calls k a0_0 _ _ l0_1 _ _ l0_2 t979 _ ?side1 ?side2 ?side3 ?side4 A9.out).mono ?_
        (case side1 => exact uC ((Kd.C_below HR0_1.out HB.out)))
        (case side2 => exact HC0_1.out)
        (case side3 => exact uC ((Kd.C_below HR0_2.out HB.out)))
        (case side4 => exact HC0_2.out)
        rintro e w28 ⟨v980, rfl, ho0, hb⟩
        refine ⟨_, rfl, ?_⟩
        have n0_ := zA (Kd.N_elder' (by (with_reducible repeat (first | apply Kd.N_alloc | apply Kd.N_drewN | apply Kd.N_drew)); exact HO978.out) (Kd.N_base ho0) hb)
        have n1_ := zA (Kd.N_lower (Kd.N_mono (ok' := fun k_ => some k_ ≠ (v977 : Value).ownBlock ∧ k_ ≠ gb971) ho0 (fun k_ hk_ => ⟨(Kd.fresh' (Kd.N_lt (by (with_reducible repeat (first | apply Kd.N_alloc | apply Kd.N_drewN | apply Kd.N_drew)); exact HO978.out)) k_ hk_), (Kd.freshB (g := gb971) (o := .cells #[.int .i64 a0_0, .slice A0_1 l0_1.length c0_1, .slice A0_2 l0_2.length c0_2] 26 (0, 0)) (uB BK971.out) k_ hk_)⟩)) (below_size (uH HB.out)))
        have n2_ := xB BK971 hb
        have n3_ := xH HB hb
        clear HO978 BK971 HB
        have HO978 := n0_; have HO981 := n1_; have BK971 := n2_; have HB := n3_
        clear n0_ n1_ n2_ n3_
        (try clear hb); (try clear hb2); (try clear hk); (try clear hi); (try clear ho0)
        refine hK.out _ _ ⟨(blk_cell BK971.out 0).trans rfl, (blk_cell BK971.out 1).trans rfl, (blk_cell BK971.out 2).trans rfl⟩ (fun hHeld => ?_)
        clear hK K
        refine norm_ (a' := ?_) ?_ ?_
        rotate_left
        ·show Act.put _ (some 25) _ = _
         simp only [Act.put, ls, lz, ln, i64_w, i32_w]
         rfl
        refine pure_ (i := 6) (N := some 7) (v := ?_) (a' := ?_) #[true, true, true, true, true, true, true, false, false] rfl rfl (any_of HT_.out (by kernel_rfl)) (fun _ _ _ h => h) (Or.inl ⟨by rfl, ?_⟩) ?_ ?_
        rotate_left
        ·intro w'
         go_simp
         with_reducible rfl
        rotate_left
        ·simp only [Act.put, ls, lz, ln, i64_w, i32_w]
         rfl
        refine pure_ (i := 7) (N := some 8) (v := ?_) (a' := ?_) #[true, true, true, true, true, true, true, true, false] rfl rfl (any_of HT_.out (by kernel_rfl)) (fun _ _ _ h => h) (Or.inl ⟨by rfl, ?_⟩) ?_ ?_
        rotate_left
        ·intro w'
         go_simp
         with_reducible rfl
        rotate_left
        ·simp only [Act.put, ls, lz, ln, i64_w, i32_w]
         rfl
        refine pure_ (i := 8) (N := some 9) (v := ?_) (a' := ?_) #[true, true, true, true, true, true, true, true, true] rfl rfl (any_of HT_.out (by kernel_rfl)) (fun _ _ _ h => h) (Or.inl ⟨by rfl, ?_⟩) ?_ ?_
        rotate_left
        ·intro w'
         go_simp
         with_reducible rfl
        rotate_left
        ·simp only [Act.put, ls, lz, ln, i64_w, i32_w]
         rfl
        refine done_ (done_of HT_.out (by kernel_rfl)) ?_
        try go_wp2
        have n0_ := zA (Kd.N_drew HO978.out)
        have n1_ := zA (Kd.N_drew HO981.out)
        have n2_ := zA (blk_drew BK971.out)
        have n3_ := zA (below_drew1 HB.out)
        clear HO978 HO981 BK971 HB
        have HO978 := n0_; have HO981 := n1_; have BK971 := n2_; have HB := n3_
        clear n0_ n1_ n2_ n3_
        obtain ⟨Ao30, co30, eo30⟩ := Kd.N_slice HO978.out
        (first | subst eo30 | (injection eo30 with f1_ f2_ f3_; have f4_ := f1_.symm; have f5_ := f3_.symm; clear f1_ f2_ f3_; subst f4_; subst f5_))
        have p982 : 0 ≤ (a1 : Int) := of_decide_eq_true (by first | (with_reducible assumption) | assumption)
        have q982 : a1 < (t976.length : Int) := of_decide_eq_true (by first | (with_reducible assumption) | assumption)
        obtain ⟨ad982, A982_0, c982_0, e982, hx982_0, hl982_0, hi982_0⟩ := at_L1 (Kd.N_reads' HO978.out).2.2 a1 p982 q982
        cases e982
        obtain ⟨ce982, hce982, hMe982, hcc982⟩ := Kd.N_get HO978.out [] a1 p982 (by first | exact q982 | exact of_decide_eq_true (by first | (with_reducible assumption) | assumption) | (have e_ := (Kd.N_reads' HO978.out).1; omega))
        obtain ⟨ua982_0, uc982_0, rfl, ul982_0, ge982_0⟩ := Kd.FK_slice_open hMe982
        have hv982_0 := hcc982 0 _ rfl
        rw [Nat.add_zero, show ((Kd.slice 2 (Kd.int .i64))).sz = 1 from rfl, Nat.mul_one] at hv982_0
        replace hv982_0 := Option.some.inj (hv982_0.symm.trans hx982_0)
        injection hv982_0 with hva_ hvn_ hvc_
        rw [hva_] at ge982_0
        rw [hvc_] at ul982_0
        have HL982_0 := zA (show Kd.V (Kd.int .i64) 2 _ w.heap.size _ _ (rd_L1 t976 a1) from Kd.V_mk ul982_0 ge982_0)
        clear hva_ hvn_ hvc_ ge982_0 ul982_0
        clear hcc982 hce982
        have HR982_0 := zA hi982_0
        have HC982_0 := zA hl982_0
        clear hi982_0 hl982_0
        replace p982 := eq_true p982
        replace q982 := eq_true q982
        obtain ⟨Ao31, co31, eo31⟩ := Kd.N_slice HO981.out
        (first | subst eo31 | (injection eo31 with f1_ f2_ f3_; have f4_ := f1_.symm; have f5_ := f3_.symm; clear f1_ f2_ f3_; subst f4_; subst f5_))
        have p983 : 0 ≤ ((ji12) : Int) := of_decide_eq_true (by first | (with_reducible assumption) | assumption)
        have q983 : (ji12) < (t979.length : Int) := of_decide_eq_true (by first | (with_reducible assumption) | assumption)
        obtain ⟨ad983, A983_0, c983_0, e983, hx983_0, hl983_0, hi983_0⟩ := at_L1 (Kd.N_reads' HO981.out).2.2 (ji12) p983 q983
        cases e983
        obtain ⟨ce983, hce983, hMe983, hcc983⟩ := Kd.N_get HO981.out [] (ji12) p983 (by first | exact q983 | exact of_decide_eq_true (by first | (with_reducible assumption) | assumption) | (have e_ := (Kd.N_reads' HO981.out).1; omega))
        obtain ⟨ua983_0, uc983_0, rfl, ul983_0, ge983_0⟩ := Kd.FK_slice_open hMe983
        have hv983_0 := hcc983 0 _ rfl
        rw [Nat.add_zero, show ((Kd.slice 2 (Kd.int .i64))).sz = 1 from rfl, Nat.mul_one] at hv983_0
        replace hv983_0 := Option.some.inj (hv983_0.symm.trans hx983_0)
        injection hv983_0 with hva_ hvn_ hvc_
        rw [hva_] at ge983_0
        rw [hvc_] at ul983_0
        have HL983_0 := zA (show Kd.V (Kd.int .i64) 2 _ w.heap.size _ _ (rd_L1 t979 (ji12)) from Kd.V_mk ul983_0 ge983_0)
        clear hva_ hvn_ hvc_ ge983_0 ul983_0
        clear hcc983 hce983
        have HR983_0 := zA hi983_0
        have HC983_0 := zA hl983_0
        clear hi983_0 hl983_0
        replace p983 := eq_true p983
        replace q983 := eq_true q983
        have p987 : 0 ≤ (a1 : Int) := of_decide_eq_true (by first | (with_reducible assumption) | assumption)
        have q987 : a1 < (t979.length : Int) := of_decide_eq_true (by first | (with_reducible assumption) | assumption)
        obtain ⟨ad987, A987_0, c987_0, e987, hx987_0, hl987_0, hi987_0⟩ := at_L1 (Kd.N_reads' HO981.out).2.2 a1 p987 q987
        obtain rfl : ad983 = ad987 := (by injection e987)
        obtain ⟨ce987, hce987, hMe987, hcc987⟩ := Kd.N_get HO981.out [] a1 p987 (by first | exact q987 | exact of_decide_eq_true (by first | (with_reducible assumption) | assumption) | (have e_ := (Kd.N_reads' HO981.out).1; omega))
        obtain ⟨ua987_0, uc987_0, rfl, ul987_0, ge987_0⟩ := Kd.FK_slice_open hMe987
        have hv987_0 := hcc987 0 _ rfl
        rw [Nat.add_zero, show ((Kd.slice 2 (Kd.int .i64))).sz = 1 from rfl, Nat.mul_one] at hv987_0
        replace hv987_0 := Option.some.inj (hv987_0.symm.trans hx987_0)
        injection hv987_0 with hva_ hvn_ hvc_
        rw [hva_] at ge987_0
        rw [hvc_] at ul987_0
        have HL987_0 := zA (show Kd.V (Kd.int .i64) 2 _ w.heap.size _ _ (rd_L1 t979 a1) from Kd.V_mk ul987_0 ge987_0)
        clear hva_ hvn_ hvc_ ge987_0 ul987_0
        clear hcc987 hce987
        have HR987_0 := zA hi987_0
        have HC987_0 := zA hl987_0
        clear hi987_0 hl987_0
        replace p987 := eq_true p987
        replace q987 := eq_true q987
        have p988 : 0 ≤ ((ji12) : Int) := of_decide_eq_true (by first | (with_reducible assumption) | assumption)
        have q988 : (ji12) < (t976.length : Int) := of_decide_eq_true (by first | (with_reducible assumption) | assumption)
        obtain ⟨ad988, A988_0, c988_0, e988, hx988_0, hl988_0, hi988_0⟩ := at_L1 (Kd.N_reads' HO978.out).2.2 (ji12) p988 q988
        obtain rfl : ad982 = ad988 := (by injection e988)
        obtain ⟨ce988, hce988, hMe988, hcc988⟩ := Kd.N_get HO978.out [] (ji12) p988 (by first | exact q988 | exact of_decide_eq_true (by first | (with_reducible assumption) | assumption) | (have e_ := (Kd.N_reads' HO978.out).1; omega))
        obtain ⟨ua988_0, uc988_0, rfl, ul988_0, ge988_0⟩ := Kd.FK_slice_open hMe988
        have hv988_0 := hcc988 0 _ rfl
        rw [Nat.add_zero, show ((Kd.slice 2 (Kd.int .i64))).sz = 1 from rfl, Nat.mul_one] at hv988_0
        replace hv988_0 := Option.some.inj (hv988_0.symm.trans hx988_0)
        injection hv988_0 with hva_ hvn_ hvc_
        rw [hva_] at ge988_0
        rw [hvc_] at ul988_0
        have HL988_0 := zA (show Kd.V (Kd.int .i64) 2 _ w.heap.size _ _ (rd_L1 t976 (ji12)) from Kd.V_mk ul988_0 ge988_0)
        clear hva_ hvn_ hvc_ ge988_0 ul988_0
        clear hcc988 hce988
        have HR988_0 := zA hi988_0
        have HC988_0 := zA hl988_0
        clear hi988_0 hl988_0
        replace p988 := eq_true p988
        replace q988 := eq_true q988
        refine start_ (n := 28) (S := fun w' => w'.cell? (ad982.add (a1).toNat) = some (.slice A982_0 (rd_L1 t976 a1).length c982_0) ∧ w'.cell? (ad983.add ((ji12)).toNat) = some (.slice A983_0 (rd_L1 t979 (ji12)).length c983_0) ∧ w'.cell? (ad983.add (a1).toNat) = some (.slice A987_0 (rd_L1 t979 a1).length c987_0) ∧ w'.cell? (ad982.add ((ji12)).toNat) = some (.slice A988_0 (rd_L1 t976 (ji12)).length c988_0)) (ds := []) #[false, false, false, false, false, false, false, false, false, false, false, false, false, false, false, false, false, false, false, false, false, false, false, false, false, false, false, false] (by kernel_rfl) rfl rfl ⟨hx982_0, hx983_0, hx987_0, hx988_0⟩ (fun hHeld => ?_); refine with_tabW impl_WronskiAt.tab5 impl_WronskiAt.bits5 (fun HT_ HW_ => ?_)
        generalize w28.drew = w29 at HO978 HO981 BK971 HB HL982_0 HL983_0 HL987_0 HL988_0 HR982_0 HR983_0 HR987_0 HR988_0 hx982_0 hx983_0 hx987_0 hx988_0 hHeld ⊢
        refine pure_ (i := 0) (N := some 26) (v := ?_) (a' := ?_) #[true, false, false, false, false, false, false, false, false, false, false, false, false, false, false, false, false, false, false, false, false, false, false, false, false, false, false, false] rfl rfl (any_of HT_.out (by kernel_rfl)) (fun _ _ _ h => h) (Or.inl ⟨by rfl, ?_⟩) ?_ ?_
        rotate_left
        ·intro w'
         go_simp
         with_reducible rfl
        rotate_left
        ·simp only [Act.put, ls, lz, ln, i64_w, i32_w]
         rfl
        refine pure_ (i := 1) (N := some 27) (v := ?_) (a' := ?_) #[true, true, false, false, false, false, false, false, false, false, false, false, false, false, false, false, false, false, false, false, false, false, false, false, false, false, false, false] rfl rfl (any_of HT_.out (by kernel_rfl)) (fun _ _ _ h => h) (Or.inl ⟨by rfl, ?_⟩) ?_ ?_
        rotate_left
        ·intro w'
         go_simp
         with_reducible rfl
        rotate_left
        ·simp only [Act.put, ls, lz, ln, i64_w, i32_w]
         rfl
        refine pure_ (i := 2) (N := some 28) (v := ?_) (a' := ?_) #[true, true, true, false, false, false, false, false, false, false, false, false, false, false, false, false, false, false, false, false, false, false, false, false, false, false, false, false] rfl rfl (any_of HT_.out (by kernel_rfl)) (fun _ _ _ h => h) (Or.inl ⟨by rfl, ?_⟩) ?_ ?_
        rotate_left
        ·intro w'
         go_simp
         with_reducible rfl
        rotate_left
        ·simp only [Act.put, ls, lz, ln, i64_w, i32_w]
         rfl
        refine pure_ (i := 3) (N := some 29) (v := ?_) (a' := ?_) #[true, true, true, true, false, false, false, false, false, false, false, false, false, false, false, false, false, false, false, false, false, false, false, false, false, false, false, false] rfl rfl (any_of HT_.out (by kernel_rfl)) (fun _ _ _ h => h) (Or.inl ⟨by rfl, ?_⟩) ?_ ?_
        rotate_left
        ·intro w'
         go_simp
         with_reducible rfl
        rotate_left
        ·simp only [Act.put, ls, lz, ln, i64_w, i32_w]
         rfl
        refine pure_ (i := 4) (N := some 30) (v := ?_) (a' := ?_) #[true, true, true, true, true, false, false, false, false, false, false, false, false, false, false, false, false, false, false, false, false, false, false, false, false, false, false, false] rfl rfl (any_of HT_.out (by kernel_rfl)) (fun _ _ _ h => h) (Or.inl ⟨by rfl, ?_⟩) ?_ ?_
        rotate_left
        ·intro w'
         go_simp
         with_reducible rfl
        rotate_left
        ·simp only [Act.put, ls, lz, ln, i64_w, i32_w]
         rfl
        refine pure_ (i := 6) (N := some 32) (v := ?_) (a' := ?_) #[true, true, true, true, true, false, true, false, false, false, false, false, false, false, false, false, false, false, false, false, false, false, false, false, false, false, false, false] rfl rfl (any_of HT_.out (by kernel_rfl)) (fun _ _ _ h => h) (Or.inl ⟨by rfl, ?_⟩) ?_ ?_
        rotate_left
        ·intro w'
         go_simp
         with_reducible rfl
        rotate_left
        ·simp only [Act.put, ls, lz, ln, i64_w, i32_w]
         rfl
        refine pure_ (i := 7) (N := some 33) (v := ?_) (a' := ?_) #[true, true, true, true, true, false, true, true, false, false, false, false, false, false, false, false, false, false, false, false, false, false, false, false, false, false, false, false] rfl rfl (any_of HT_.out (by kernel_rfl)) (fun _ _ _ h => h) (Or.inl ⟨by rfl, ?_⟩) ?_ ?_
        rotate_left
        ·intro w'
         go_simp
         with_reducible rfl
        rotate_left
        ·simp only [Act.put, ls, lz, ln, i64_w, i32_w]
         rfl
        refine pure_ (i := 8) (N := some 34) (v := ?_) (a' := ?_) #[true, true, true, true, true, false, true, true, true, false, false, false, false, false, false, false, false, false, false, false, false, false, false, false, false, false, false, false] rfl rfl (any_of HT_.out (by kernel_rfl)) (fun _ _ _ h => h) (Or.inl ⟨by rfl, ?_⟩) ?_ ?_
        rotate_left
        ·intro w'
         go_simp
         with_reducible rfl
        rotate_left
        ·simp only [Act.put, ls, lz, ln, i64_w, i32_w]
         rfl
        refine pure_ (i := 9) (N := some 35) (v := ?_) (a' := ?_) #[true, true, true, true, true, false, true, true, true, true, false, false, false, false, false, false, false, false, false, false, false, false, false, false, false, false, false, false] rfl rfl (any_of HT_.out (by kernel_rfl)) (fun _ _ _ h => h) (Or.inl ⟨by rfl, ?_⟩) ?_ ?_
        rotate_left
        ·intro w'
         go_simp
         with_reducible rfl
        rotate_left
        ·simp only [Act.put, ls, lz, ln, i64_w, i32_w]
         rfl
        refine pure_ (i := 12) (N := some 38) (v := ?_) (a' := ?_) #[true, true, true, true, true, false, true, true, true, true, false, false, true, false, false, false, false, false, false, false, false, false, false, false, false, false, false, false] rfl rfl (any_of HT_.out (by kernel_rfl)) (fun _ _ _ h => h) (Or.inl ⟨by rfl, ?_⟩) ?_ ?_
        rotate_left
        ·intro w'
         go_simp
         with_reducible rfl
        rotate_left
        ·simp only [Act.put, ls, lz, ln, i64_w, i32_w]
         rfl
        refine pure_ (i := 13) (N := some 39) (v := ?_) (a' := ?_) #[true, true, true, true, true, false, true, true, true, true, false, false, true, true, false, false, false, false, false, false, false, false, false, false, false, false, false, false] rfl rfl (any_of HT_.out (by kernel_rfl)) (fun _ _ _ h => h) (Or.inl ⟨by rfl, ?_⟩) ?_ ?_
        rotate_left
        ·intro w'
         go_simp
         with_reducible rfl
        rotate_left
        ·simp only [Act.put, ls, lz, ln, i64_w, i32_w]
         rfl
        refine pure_ (i := 14) (N := some 40) (v := ?_) (a' := ?_) #[true, true, true, true, true, false, true, true, true, true, false, false, true, true, true, false, false, false, false, false, false, false, false, false, false, false, false, false] rfl rfl (any_of HT_.out (by kernel_rfl)) (fun _ _ _ h => h) (Or.inl ⟨by rfl, ?_⟩) ?_ ?_
        rotate_left
        ·intro w'
         go_simp
         with_reducible rfl
        rotate_left
        ·simp only [Act.put, ls, lz, ln, i64_w, i32_w]
         rfl
        refine pure_ (i := 15) (N := some 41) (v := ?_) (a' := ?_) #[true, true, true, true, true, false, true, true, true, true, false, false, true, true, true, true, false, false, false, false, false, false, false, false, false, false, false, false] rfl rfl (any_of HT_.out (by kernel_rfl)) (fun _ _ _ h => h) (Or.inl ⟨by rfl, ?_⟩) ?_ ?_
        rotate_left
        ·intro w'
         go_simp
         with_reducible rfl
        rotate_left
        ·simp only [Act.put, ls, lz, ln, i64_w, i32_w]
         rfl
        refine pure_ (i := 17) (N := some 43) (v := ?_) (a' := ?_) #[true, true, true, true, true, false, true, true, true, true, false, false, true, true, true, true, false, true, false, false, false, false, false, false, false, false, false, false] rfl rfl (any_of HT_.out (by kernel_rfl)) (fun _ _ _ h => h) (Or.inl ⟨by rfl, ?_⟩) ?_ ?_
        rotate_left
        ·intro w'
         go_simp
         with_reducible rfl
        rotate_left
        ·simp only [Act.put, ls, lz, ln, i64_w, i32_w]
         rfl
        refine pure_ (i := 18) (N := some 44) (v := ?_) (a' := ?_) #[true, true, true, true, true, false, true, true, true, true, false, false, true, true, true, true, false, true, true, false, false, false, false, false, false, false, false, false] rfl rfl (any_of HT_.out (by kernel_rfl)) (fun _ _ _ h => h) (Or.inl ⟨by rfl, ?_⟩) ?_ ?_
        rotate_left
        ·intro w'
         go_simp
         with_reducible rfl
        rotate_left
        ·simp only [Act.put, ls, lz, ln, i64_w, i32_w]
         rfl
        refine pure_ (i := 19) (N := some 45) (v := ?_) (a' := ?_) #[true, true, true, true, true, false, true, true, true, true, false, false, true, true, true, true, false, true, true, true, false, false, false, false, false, false, false, false] rfl rfl (any_of HT_.out (by kernel_rfl)) (fun _ _ _ h => h) (Or.inl ⟨by rfl, ?_⟩) ?_ ?_
        rotate_left
        ·intro w'
         go_simp
         with_reducible rfl
        rotate_left
        ·simp only [Act.put, ls, lz, ln, i64_w, i32_w]
         rfl
        refine pure_ (i := 20) (N := some 46) (v := ?_) (a' := ?_) #[true, true, true, true, true, false, true, true, true, true, false, false, true, true, true, true, false, true, true, true, true, false, false, false, false, false, false, false] rfl rfl (any_of HT_.out (by kernel_rfl)) (fun _ _ _ h => h) (Or.inl ⟨by rfl, ?_⟩) ?_ ?_
        rotate_left
        ·intro w'
         go_simp
         with_reducible rfl
        rotate_left
        ·simp only [Act.put, ls, lz, ln, i64_w, i32_w]
         rfl
        refine pure_ (i := 23) (N := some 49) (v := ?_) (a' := ?_) #[true, true, true, true, true, false, true, true, true, true, false, false, true, true, true, true, false, true, true, true, true, false, false, true, false, false, false, false] rfl rfl (any_of HT_.out (by kernel_rfl)) (fun _ _ _ h => h) (Or.inl ⟨by rfl, ?_⟩) ?_ ?_
        rotate_left
        ·intro w'
         go_simp
         with_reducible rfl
        rotate_left
        ·simp only [Act.put, ls, lz, ln, i64_w, i32_w]
         rfl
        refine take_ (i := 5) (N := some 31) (v := ?_) (a' := ?_) #[true, true, true, true, true, true, true, true, true, true, false, false, true, true, true, true, false, true, true, true, true, false, false, true, false, false, false, false] rfl rfl (take_ofW HT_.out HW_.out (by kernel_rfl)) (fun _ _ _ h => h) (Or.inl ⟨by rfl, ?_⟩) hHeld ?_ ?_
        rotate_left
        ·rintro w' ⟨s0, s1, s2, s3⟩
         go_simp
         with_reducible rfl
        rotate_left
        ·simp only [Act.put, ls, lz, ln, i64_w, i32_w]
         rfl
        refine take_ (i := 10) (N := some 36) (v := ?_) (a' := ?_) #[true, true, true, true, true, true, true, true, true, true, true, false, true, true, true, true, false, true, true, true, true, false, false, true, false, false, false, false] rfl rfl (take_ofW HT_.out HW_.out (by kernel_rfl)) (fun _ _ _ h => h) (Or.inl ⟨by rfl, ?_⟩) hHeld ?_ ?_
        rotate_left
        ·rintro w' ⟨s0, s1, s2, s3⟩
         go_simp
         with_reducible rfl
        rotate_left
        ·simp only [Act.put, ls, lz, ln, i64_w, i32_w]
         rfl
        refine take_ (i := 16) (N := some 42) (v := ?_) (a' := ?_) #[true, true, true, true, true, true, true, true, true, true, true, false, true, true, true, true, true, true, true, true, true, false, false, true, false, false, false, false] rfl rfl (take_ofW HT_.out HW_.out (by kernel_rfl)) (fun _ _ _ h => h) (Or.inl ⟨by rfl, ?_⟩) hHeld ?_ ?_
        rotate_left
        ·rintro w' ⟨s0, s1, s2, s3⟩
         go_simp
         with_reducible rfl
        rotate_left
        ·simp only [Act.put, ls, lz, ln, i64_w, i32_w]
         rfl
        refine take_ (i := 21) (N := some 47) (v := ?_) (a' := ?_) #[true, true, true, true, true, true, true, true, true, true, true, false, true, true, true, true, true, true, true, true, true, true, false, true, false, false, false, false] rfl rfl (take_ofW HT_.out HW_.out (by kernel_rfl)) (fun _ _ _ h => h) (Or.inl ⟨by rfl, ?_⟩) hHeld ?_ ?_
        rotate_left
        ·rintro w' ⟨s0, s1, s2, s3⟩
         go_simp
         with_reducible rfl
        rotate_left
        ·simp only [Act.put, ls, lz, ln, i64_w, i32_w]
         rfl
        refine one_ (i := 11) (N := some 37) #[true, true, true, true, true, true, true, true, true, true, true, true, true, true, true, true, true, true, true, true, true, true, false, true, false, false, false, false] rfl rfl (one_of HT_.out (by kernel_rfl)) (by decide) (fun K hK => ?_)
        refine goes_ Try.func78 (by kernel_rfl) rfl #[.int .i64 t975, .slice A982_0 (rd_L1 t976 a1).length c982_0, .slice A983_0 (rd_L1 t979 (ji12)).length c983_0] (by rfl) rfl rfl (by (try simp only [la, lb, lc]); first | done | (simp only [hji12]; rfl) | rfl | (simp only [ld, le]; rfl)) ?_
        with_reducible refine (impl_field_product.calls k t975 _ _ (rd_L1 t976 a1) _ _ (rd_L1 t979 (ji12)) t984 _ ?side1 ?side2 ?side3 ?side4 A15.out).mono ?_
        (case side1 => repeat (first | exact (by repeat (first | (with_reducible exact HR982_0.out) | (with_reducible refine Kd.C_alloc ?_ _) | (with_reducible refine Kd.C_drewN ?_ _) | (with_reducible refine Kd.C_drew ?_) | exact HR982_0.out)) | (with_reducible refine Kd.C_alloc ?_ _) | (with_reducible refine Kd.C_drewN ?_ _) | (with_reducible refine Kd.C_drew ?_)))
        (case side2 => exact HC982_0.out)
        (case side3 => repeat (first | exact (by repeat (first | (with_reducible exact HR983_0.out) | (with_reducible refine Kd.C_alloc ?_ _) | (with_reducible refine Kd.C_drewN ?_ _) | (with_reducible refine Kd.C_drew ?_) | exact HR983_0.out)) | (with_reducible refine Kd.C_alloc ?_ _) | (with_reducible refine Kd.C_drewN ?_ _) | (with_reducible refine Kd.C_drew ?_)))
        (case side4 => exact HC983_0.out)
        rintro e w32 ⟨v985, rfl, ho0, hb⟩
        have HS0_ := (hb.cell (World.block_lt_of_cell? _ _ (hHeld.1))).trans (hHeld.1)
        have HS1_ := (hb.cell (World.block_lt_of_cell? _ _ (hHeld.2.1))).trans (hHeld.2.1)
        have HS2_ := (hb.cell (World.block_lt_of_cell? _ _ (hHeld.2.2.1))).trans (hHeld.2.2.1)
        have HS3_ := (hb.cell (World.block_lt_of_cell? _ _ (hHeld.2.2.2))).trans (hHeld.2.2.2)
        refine ⟨_, rfl, ?_⟩
        have n0_ := zA (Kd.N_elder' (by (with_reducible repeat (first | apply Kd.N_alloc | apply Kd.N_drewN | apply Kd.N_drew)); exact HO978.out) (Kd.R_base ho0) hb)
        have n1_ := zA (Kd.N_elder' (by (with_reducible repeat (first | apply Kd.N_alloc | apply Kd.N_drewN | apply Kd.N_drew)); exact HO981.out) (Kd.R_base ho0) hb)
        have n2_ := zA (Kd.V_elder' (by (with_reducible repeat (first | apply Kd.V_alloc | apply Kd.V_drewN | apply Kd.V_drew)); exact HL982_0.out) (Kd.R_base ho0) hb)
        have n3_ := zA (Kd.V_elder' (by (with_reducible repeat (first | apply Kd.V_alloc | apply Kd.V_drewN | apply Kd.V_drew)); exact HL983_0.out) (Kd.R_base ho0) hb)
        have n4_ := zA (Kd.V_elder' (by (with_reducible repeat (first | apply Kd.V_alloc | apply Kd.V_drewN | apply Kd.V_drew)); exact HL987_0.out) (Kd.R_base ho0) hb)
        have n5_ := zA (Kd.V_elder' (by (with_reducible repeat (first | apply Kd.V_alloc | apply Kd.V_drewN | apply Kd.V_drew)); exact HL988_0.out) (Kd.R_base ho0) hb)
        have n6_ := zA (Kd.R_lower ho0 (below_size (uH HB.out)))
        have n7_ := xB BK971 hb
        have n8_ := zA (Kd.C_below (by repeat (first | (with_reducible exact HR982_0.out) | (with_reducible refine Kd.C_alloc ?_ _) | (with_reducible refine Kd.C_drewN ?_ _) | (with_reducible refine Kd.C_drew ?_) | exact HR982_0.out)) hb)
        have n9_ := zA (Kd.C_below (by repeat (first | (with_reducible exact HR983_0.out) | (with_reducible refine Kd.C_alloc ?_ _) | (with_reducible refine Kd.C_drewN ?_ _) | (with_reducible refine Kd.C_drew ?_) | exact HR983_0.out)) hb)
        have n10_ := zA (Kd.C_below (by repeat (first | (with_reducible exact HR987_0.out) | (with_reducible refine Kd.C_alloc ?_ _) | (with_reducible refine Kd.C_drewN ?_ _) | (with_reducible refine Kd.C_drew ?_) | exact HR987_0.out)) hb)
        have n11_ := zA (Kd.C_below (by repeat (first | (with_reducible exact HR988_0.out) | (with_reducible refine Kd.C_alloc ?_ _) | (with_reducible refine Kd.C_drewN ?_ _) | (with_reducible refine Kd.C_drew ?_) | exact HR988_0.out)) hb)
        have n12_ := xH HB hb
        clear HO978 HO981 HL982_0 HL983_0 HL987_0 HL988_0 BK971 HR982_0 HR983_0 HR987_0 HR988_0 HB
        have HO978 := n0_; have HO981 := n1_; have HL982_0 := n2_; have HL983_0 := n3_; have HL987_0 := n4_; have HL988_0 := n5_; have HO986 := n6_; have BK971 := n7_; have HR982_0 := n8_; have HR983_0 := n9_; have HR987_0 := n10_; have HR988_0 := n11_; have HB := n12_
        clear n0_ n1_ n2_ n3_ n4_ n5_ n6_ n7_ n8_ n9_ n10_ n11_ n12_
        (try clear hb); (try clear hb2); (try clear hk); (try clear hi); (try clear ho0)
        refine hK.out _ _ ⟨HS0_, HS1_, HS2_, HS3_⟩ (fun hHeld => ?_)
        clear hK K
        refine norm_ (a' := ?_) ?_ ?_
        rotate_left
        ·show Act.put _ (some 37) _ = _
         simp only [Act.put, ls, lz, ln, i64_w, i32_w]
         rfl
        refine one_ (i := 22) (N := some 48) #[true, true, true, true, true, true, true, true, true, true, true, true, true, true, true, true, true, true, true, true, true, true, true, true, false, false, false, false] rfl rfl (one_of HT_.out (by kernel_rfl)) (by decide) (fun K hK => ?_)
        refine goes_ Try.func78 (by kernel_rfl) rfl #[.int .i64 t975, .slice A987_0 (rd_L1 t979 a1).length c987_0, .slice A988_0 (rd_L1 t976 (ji12)).length c988_0] (by rfl) rfl rfl (by (try simp only [la, lb, lc]); first | done | (simp only [hji12]; rfl) | rfl | (simp only [ld, le]; rfl)) ?_
        with_reducible refine (impl_field_product.calls k t975 _ _ (rd_L1 t979 a1) _ _ (rd_L1 t976 (ji12)) t989 _ ?side1 ?side2 ?side3 ?side4 A18.out).mono ?_
        (case side1 => repeat (first | exact (by repeat (first | (with_reducible exact HR987_0.out) | (with_reducible refine Kd.C_alloc ?_ _) | (with_reducible refine Kd.C_drewN ?_ _) | (with_reducible refine Kd.C_drew ?_) | exact HR987_0.out)) | (with_reducible refine Kd.C_alloc ?_ _) | (with_reducible refine Kd.C_drewN ?_ _) | (with_reducible refine Kd.C_drew ?_)))
        (case side2 => exact HC987_0.out)
        (case side3 => repeat (first | exact (by repeat (first | (with_reducible exact HR988_0.out) | (with_reducible refine Kd.C_alloc ?_ _) | (with_reducible refine Kd.C_drewN ?_ _) | (with_reducible refine Kd.C_drew ?_) | exact HR988_0.out)) | (with_reducible refine Kd.C_alloc ?_ _) | (with_reducible refine Kd.C_drewN ?_ _) | (with_reducible refine Kd.C_drew ?_)))
        (case side4 => exact HC988_0.out)
        rintro e w33 ⟨v990, rfl, ho0, hb⟩
        have HS0_ := (hb.cell (World.block_lt_of_cell? _ _ (hHeld.1))).trans (hHeld.1)
        have HS1_ := (hb.cell (World.block_lt_of_cell? _ _ (hHeld.2.1))).trans (hHeld.2.1)
        have HS2_ := (hb.cell (World.block_lt_of_cell? _ _ (hHeld.2.2.1))).trans (hHeld.2.2.1)
        have HS3_ := (hb.cell (World.block_lt_of_cell? _ _ (hHeld.2.2.2))).trans (hHeld.2.2.2)
        refine ⟨_, rfl, ?_⟩
        have n0_ := zA (Kd.N_elder' (by (with_reducible repeat (first | apply Kd.N_alloc | apply Kd.N_drewN | apply Kd.N_drew)); exact HO978.out) (Kd.R_base ho0) hb)
        have n1_ := zA (Kd.N_elder' (by (with_reducible repeat (first | apply Kd.N_alloc | apply Kd.N_drewN | apply Kd.N_drew)); exact HO981.out) (Kd.R_base ho0) hb)
        have n2_ := zA (Kd.V_elder' (by (with_reducible repeat (first | apply Kd.V_alloc | apply Kd.V_drewN | apply Kd.V_drew)); exact HL982_0.out) (Kd.R_base ho0) hb)
        have n3_ := zA (Kd.V_elder' (by (with_reducible repeat (first | apply Kd.V_alloc | apply Kd.V_drewN | apply Kd.V_drew)); exact HL983_0.out) (Kd.R_base ho0) hb)
        have n4_ := zA (Kd.V_elder' (by (with_reducible repeat (first | apply Kd.V_alloc | apply Kd.V_drewN | apply Kd.V_drew)); exact HL987_0.out) (Kd.R_base ho0) hb)
        have n5_ := zA (Kd.V_elder' (by (with_reducible repeat (first | apply Kd.V_alloc | apply Kd.V_drewN | apply Kd.V_drew)); exact HL988_0.out) (Kd.R_base ho0) hb)
        have n6_ := zA (Kd.R_elder' (uR HO986.out) (Kd.R_base ho0) hb)
        have n7_ := zA (Kd.R_lower (Kd.R_new' ho0 (Kd.R_lt (uR HO986.out))) (below_size (uH HB.out)))
        have n8_ := xB BK971 hb
        have n9_ := zA (Kd.C_below (by repeat (first | (with_reducible exact HR982_0.out) | (with_reducible refine Kd.C_alloc ?_ _) | (with_reducible refine Kd.C_drewN ?_ _) | (with_reducible refine Kd.C_drew ?_) | exact HR982_0.out)) hb)
        have n10_ := zA (Kd.C_below (by repeat (first | (with_reducible exact HR983_0.out) | (with_reducible refine Kd.C_alloc ?_ _) | (with_reducible refine Kd.C_drewN ?_ _) | (with_reducible refine Kd.C_drew ?_) | exact HR983_0.out)) hb)
        have n11_ := zA (Kd.C_below (by repeat (first | (with_reducible exact HR987_0.out) | (with_reducible refine Kd.C_alloc ?_ _) | (with_reducible refine Kd.C_drewN ?_ _) | (with_reducible refine Kd.C_drew ?_) | exact HR987_0.out)) hb)
        have n12_ := zA (Kd.C_below (by repeat (first | (with_reducible exact HR988_0.out) | (with_reducible refine Kd.C_alloc ?_ _) | (with_reducible refine Kd.C_drewN ?_ _) | (with_reducible refine Kd.C_drew ?_) | exact HR988_0.out)) hb)
        have n13_ := xH HB hb
        clear HO978 HO981 HL982_0 HL983_0 HL987_0 HL988_0 HO986 BK971 HR982_0 HR983_0 HR987_0 HR988_0 HB
        have HO978 := n0_; have HO981 := n1_; have HL982_0 := n2_; have HL983_0 := n3_; have HL987_0 := n4_; have HL988_0 := n5_; have HO986 := n6_; have HO991 := n7_; have BK971 := n8_; have HR982_0 := n9_; have HR983_0 := n10_; have HR987_0 := n11_; have HR988_0 := n12_; have HB := n13_
        clear n0_ n1_ n2_ n3_ n4_ n5_ n6_ n7_ n8_ n9_ n10_ n11_ n12_ n13_
        (try clear hb); (try clear hb2); (try clear hk); (try clear hi); (try clear ho0)
        refine hK.out _ _ ⟨HS0_, HS1_, HS2_, HS3_⟩ (fun hHeld => ?_)
        clear hK K
        refine norm_ (a' := ?_) ?_ ?_
        rotate_left
        ·show Act.put _ (some 48) _ = _
         simp only [Act.put, ls, lz, ln, i64_w, i32_w]
         rfl
        refine one_ (i := 24) (N := some 50) #[true, true, true, true, true, true, true, true, true, true, true, true, true, true, true, true, true, true, true, true, true, true, true, true, true, false, false, false] rfl rfl (one_of HT_.out (by kernel_rfl)) (by decide) (fun K hK => ?_)
        refine goes_ Try.func65 (by kernel_rfl) rfl #[.int .i64 t975, .int .i64 (-1)] (by rfl) rfl rfl (by (try simp only [la, lb, lc]); first | done | rfl | (simp only [ld, le]; rfl)) ?_
        with_reducible refine (impl_field_mod.calls t975 (-1) t992 _ A19.out).mono ?_
        rintro e w' ⟨rfl, ⟨nd, rfl⟩⟩
        refine ⟨_, rfl, ?_⟩
        obtain ⟨Ao34, co34, eo34⟩ := Kd.R_slice HO986.out
        (first | subst eo34 | (injection eo34 with f1_ f2_ f3_; have f4_ := f1_.symm; have f5_ := f3_.symm; clear f1_ f2_ f3_; subst f4_; subst f5_))
        obtain ⟨Ao35, co35, eo35⟩ := Kd.R_slice HO991.out
        (first | subst eo35 | (injection eo35 with f1_ f2_ f3_; have f4_ := f1_.symm; have f5_ := f3_.symm; clear f1_ f2_ f3_; subst f4_; subst f5_))
        refine hK.out _ _ ⟨hHeld.1, hHeld.2.1, hHeld.2.2.1, hHeld.2.2.2⟩ (fun hHeld => ?_)
        clear hK K
        refine norm_ (a' := ?_) ?_ ?_
        rotate_left
        ·show Act.put _ (some 50) _ = _
         simp only [Act.put, ls, lz, ln, i64_w, i32_w]
         rfl
        refine one_ (i := 25) (N := some 51) #[true, true, true, true, true, true, true, true, true, true, true, true, true, true, true, true, true, true, true, true, true, true, true, true, true, true, false, false] rfl rfl (one_of HT_.out (by kernel_rfl)) (by decide) (fun K hK => ?_)
        refine goes_ Try.func77 (by kernel_rfl) rfl #[.int .i64 t975, .slice Ao34 t984.length co34, .slice Ao35 t989.length co35, .int .i64 t992] (by rfl) rfl rfl (by (try simp only [la, lb, lc]); first | done | rfl | (simp only [ld, le]; rfl)) ?_
        with_reducible refine (impl_field_add.calls k t975 _ _ t984 _ _ t989 t992 t993 _ ?side1 ?side2 ?side3 ?side4 A20.out).mono ?_
        (case side1 => exact uC ((Kd.R_reads' HO986.out).2.2))
        (case side2 => exact (Kd.R_reads' HO986.out).2.1)
        (case side3 => exact uC ((Kd.R_reads' HO991.out).2.2))
        (case side4 => exact (Kd.R_reads' HO991.out).2.1)
        rintro e w36 ⟨v994, rfl, ho0, hb⟩
        have HS0_ := (hb.cell (World.block_lt_of_cell? _ _ (hHeld.1))).trans (hHeld.1)
        have HS1_ := (hb.cell (World.block_lt_of_cell? _ _ (hHeld.2.1))).trans (hHeld.2.1)
        have HS2_ := (hb.cell (World.block_lt_of_cell? _ _ (hHeld.2.2.1))).trans (hHeld.2.2.1)
        have HS3_ := (hb.cell (World.block_lt_of_cell? _ _ (hHeld.2.2.2))).trans (hHeld.2.2.2)
        refine ⟨_, rfl, ?_⟩
        have n0_ := zA (Kd.N_elder' (by (with_reducible repeat (first | apply Kd.N_alloc | apply Kd.N_drewN | apply Kd.N_drew)); exact HO978.out) (Kd.R_base ho0) hb)
        have n1_ := zA (Kd.N_elder' (by (with_reducible repeat (first | apply Kd.N_alloc | apply Kd.N_drewN | apply Kd.N_drew)); exact HO981.out) (Kd.R_base ho0) hb)
        have n2_ := zA (Kd.V_elder' (by (with_reducible repeat (first | apply Kd.V_alloc | apply Kd.V_drewN | apply Kd.V_drew)); exact HL982_0.out) (Kd.R_base ho0) hb)
        have n3_ := zA (Kd.V_elder' (by (with_reducible repeat (first | apply Kd.V_alloc | apply Kd.V_drewN | apply Kd.V_drew)); exact HL983_0.out) (Kd.R_base ho0) hb)
        have n4_ := zA (Kd.V_elder' (by (with_reducible repeat (first | apply Kd.V_alloc | apply Kd.V_drewN | apply Kd.V_drew)); exact HL987_0.out) (Kd.R_base ho0) hb)
        have n5_ := zA (Kd.V_elder' (by (with_reducible repeat (first | apply Kd.V_alloc | apply Kd.V_drewN | apply Kd.V_drew)); exact HL988_0.out) (Kd.R_base ho0) hb)
        have n6_ := zA (Kd.R_elder' (uR HO986.out) (Kd.R_base ho0) hb)
        have n7_ := zA (Kd.R_elder' (uR HO991.out) (Kd.R_base ho0) hb)
        have n8_ := zA (Kd.R_lower (Kd.R_new' (Kd.R_new' ho0 (Kd.R_lt (uR HO986.out))) (Kd.R_lt (uR HO991.out))) (below_size (uH HB.out)))
        have n9_ := xB BK971 hb
        have n10_ := zA (Kd.C_below (by repeat (first | (with_reducible exact HR982_0.out) | (with_reducible refine Kd.C_alloc ?_ _) | (with_reducible refine Kd.C_drewN ?_ _) | (with_reducible refine Kd.C_drew ?_) | exact HR982_0.out)) hb)
        have n11_ := zA (Kd.C_below (by repeat (first | (with_reducible exact HR983_0.out) | (with_reducible refine Kd.C_alloc ?_ _) | (with_reducible refine Kd.C_drewN ?_ _) | (with_reducible refine Kd.C_drew ?_) | exact HR983_0.out)) hb)
        have n12_ := zA (Kd.C_below (by repeat (first | (with_reducible exact HR987_0.out) | (with_reducible refine Kd.C_alloc ?_ _) | (with_reducible refine Kd.C_drewN ?_ _) | (with_reducible refine Kd.C_drew ?_) | exact HR987_0.out)) hb)
        have n13_ := zA (Kd.C_below (by repeat (first | (with_reducible exact HR988_0.out) | (with_reducible refine Kd.C_alloc ?_ _) | (with_reducible refine Kd.C_drewN ?_ _) | (with_reducible refine Kd.C_drew ?_) | exact HR988_0.out)) hb)
        have n14_ := xH HB hb
        clear HO978 HO981 HL982_0 HL983_0 HL987_0 HL988_0 HO986 HO991 BK971 HR982_0 HR983_0 HR987_0 HR988_0 HB
        have HO978 := n0_; have HO981 := n1_; have HL982_0 := n2_; have HL983_0 := n3_; have HL987_0 := n4_; have HL988_0 := n5_; have HO986 := n6_; have HO991 := n7_; have HO995 := n8_; have BK971 := n9_; have HR982_0 := n10_; have HR983_0 := n11_; have HR987_0 := n12_; have HR988_0 := n13_; have HB := n14_
        clear n0_ n1_ n2_ n3_ n4_ n5_ n6_ n7_ n8_ n9_ n10_ n11_ n12_ n13_ n14_
        (try clear hb); (try clear hb2); (try clear hk); (try clear hi); (try clear ho0)
        refine hK.out _ _ ⟨HS0_, HS1_, HS2_, HS3_⟩ (fun hHeld => ?_)
        clear hK K
        refine norm_ (a' := ?_) ?_ ?_
        rotate_left
        ·show Act.put _ (some 51) _ = _
         simp only [Act.put, ls, lz, ln, i64_w, i32_w]
         rfl
        refine pure_ (i := 26) (N := some 4) (v := ?_) (a' := ?_) #[true, true, true, true, true, true, true, true, true, true, true, true, true, true, true, true, true, true, true, true, true, true, true, true, true, true, true, false] rfl rfl (any_of HT_.out (by kernel_rfl)) (fun _ _ _ h => h) (Or.inl ⟨by rfl, ?_⟩) ?_ ?_
        rotate_left
        ·intro w'
         go_simp
         with_reducible rfl
        rotate_left
        ·simp only [Act.put, ls, lz, ln, i64_w, i32_w]
         rfl
        refine pure_ (i := 27) (N := some 5) (v := ?_) (a' := ?_) #[true, true, true, true, true, true, true, true, true, true, true, true, true, true, true, true, true, true, true, true, true, true, true, true, true, true, true, true] rfl rfl (any_of HT_.out (by kernel_rfl)) (fun _ _ _ h => h) (Or.inl ⟨by rfl, ?_⟩) ?_ ?_
        rotate_left
        ·intro w'
         go_simp
         with_reducible rfl
        rotate_left
        ·simp only [Act.put, ls, lz, ln, i64_w, i32_w]
         rfl
        refine done_ (done_of HT_.out (by kernel_rfl)) ?_
        try go_wp2
        go_ret2
        exact ⟨_, by first | rfl | (simp [errW_none, errW_some] <;> rfl) | (simp only [← hji12]; first | rfl | (simp [errW_none, errW_some] <;> rfl)) | (simp [*, errW_none, errW_some] <;> rfl), uR (Kd.R_mono HO995.out (fun _ hk => trivial)), uH HB.out⟩
       ·rw [if_neg c17] at H
        exact absurd H (by simp)
      ·rw [if_neg c16] at H
       exact absurd H (by simp)
     ·rw [if_neg c14] at H
      exact absurd H (by simp)
    ·rw [if_neg c13] at H
     exact absurd H (by simp)
   ·rw [if_neg c11] at H
    exact absurd H (by simp)
  ·rw [if_neg c10] at H
   exact absurd H (by simp)
 ·rw [if_neg c6] at H
  have c6b0 : (t974 == 0) = false := beq_eq_false_iff_ne.mpr c6
  have c6b1 : (t974 != 0) = true := bne_iff_ne.mpr c6
  simp only [Option.some.injEq, Prod.mk.injEq] at H
  obtain ⟨rfl, rfl⟩ := H
  go_enter Try.func43, Try.ntmps43
  try go_wp2_with (first | ((with_reducible refine gate_dst (N := 2) rfl ?_); refine box_event ?hg (N := 2) ?hd (cs := #[.int .i64 a0_0, .slice A0_1 l0_1.length c0_1, .slice A0_2 l0_2.length c0_2]) (t := 26) ?hr ?_; (case hd => rfl); (case hg => rfl); (case hr => first | (go_simp; done) | (go_simp; rfl)); intro gb971 hg w37 hbox hb; have n0_ := xH HB hb; have n1_ := zA (hbox); have n2_ := zA ((by rw [hg]; exact (below_size (uH HB.out)) : w.heap.size ≤ gb971)); have n3_ := zA ((by rw [hg]; exact (below_size (uH HB.out)) : w.heap.size ≤ gb971)); clear HB; have HB := n0_; have BK971 := n1_; have GW971 := n2_; have GE971 := n3_; have := geI GE971; clear n0_ n1_ n2_ n3_ hb hbox hg))
  have n0_ := zA (blk_drew BK971.out)
  have n1_ := zA (below_drew1 HB.out)
  clear BK971 HB
  have BK971 := n0_; have HB := n1_
  clear n0_ n1_
  refine start_ (n := 8) (S := fun w' => w'.cell? ⟨gb971, 0, none⟩ = some (.int .i64 a0_0) ∧ w'.cell? ⟨gb971, 1, none⟩ = some (.slice A0_1 l0_1.length c0_1) ∧ w'.cell? ⟨gb971, 2, none⟩ = some (.slice A0_2 l0_2.length c0_2)) (ds := []) #[false, false, false, false, false, false, false, false] (by kernel_rfl) rfl rfl ⟨(blk_cell BK971.out 0).trans rfl, (blk_cell BK971.out 1).trans rfl, (blk_cell BK971.out 2).trans rfl⟩ (fun hHeld => ?_); refine with_tabW impl_WronskiAt.tab1 impl_WronskiAt.bits1 (fun HT_ HW_ => ?_)
  generalize w37.drew = w38 at BK971 HB hHeld ⊢
  refine pure_ (i := 1) (N := some 11) (v := ?_) (a' := ?_) #[false, true, false, false, false, false, false, false] rfl rfl (any_of HT_.out (by kernel_rfl)) (fun _ _ _ h => h) (Or.inl ⟨by rfl, ?_⟩) ?_ ?_
  rotate_left
  ·intro w'
   go_simp
   with_reducible rfl
  rotate_left
  ·simp only [Act.put, ls, lz, ln, i64_w, i32_w]
   rfl
  refine take_ (i := 0) (N := some 10) (v := ?_) (a' := ?_) #[true, true, false, false, false, false, false, false] rfl rfl (take_ofW HT_.out HW_.out (by kernel_rfl)) (fun _ _ _ h => h) (Or.inl ⟨by rfl, ?_⟩) hHeld ?_ ?_
  rotate_left
  ·rintro w' ⟨s0, s1, s2⟩
   go_simp
   with_reducible rfl
  rotate_left
  ·simp only [Act.put, ls, lz, ln, i64_w, i32_w]
   rfl
  refine take_ (i := 2) (N := some 12) (v := ?_) (a' := ?_) #[true, true, true, false, false, false, false, false] rfl rfl (take_ofW HT_.out HW_.out (by kernel_rfl)) (fun _ _ _ h => h) (Or.inl ⟨by rfl, ?_⟩) hHeld ?_ ?_
  rotate_left
  ·rintro w' ⟨s0, s1, s2⟩
   go_simp
   with_reducible rfl
  rotate_left
  ·simp only [Act.put, ls, lz, ln, i64_w, i32_w]
   rfl
  refine one_ (i := 3) (N := some 13) #[true, true, true, true, false, false, false, false] rfl rfl (one_of HT_.out (by kernel_rfl)) (by decide) (fun K hK => ?_)
  refine goes_ Try.func56 (by kernel_rfl) rfl #[.agg #[.int .i64 a0_0, .slice A0_1 l0_1.length c0_1, .slice A0_2 l0_2.length c0_2]] (by rfl) rfl rfl (by (try simp only [la, lb, lc]); first | done | rfl | (simp only [ld, le]; rfl)) ?_
  with_reducible refine (impl_Jacobi_size.calls a0_0 _ _ l0_1 _ _ l0_2 t972 _ ?side1 ?side2 ?side3 ?side4 A3.out).mono ?_
  (case side1 => exact uC ((Kd.C_below HR0_1.out HB.out)))
  (case side2 => exact HC0_1.out)
  (case side3 => exact uC ((Kd.C_below HR0_2.out HB.out)))
  (case side4 => exact HC0_2.out)
  rintro e w39 ⟨rfl, hb⟩
  refine ⟨_, rfl, ?_⟩
  have n0_ := xB BK971 hb
  have n1_ := xH HB hb
  clear BK971 HB
  have BK971 := n0_; have HB := n1_
  clear n0_ n1_
  (try clear hb); (try clear hb2); (try clear hk); (try clear hi)
  refine hK.out _ _ ⟨(blk_cell BK971.out 0).trans rfl, (blk_cell BK971.out 1).trans rfl, (blk_cell BK971.out 2).trans rfl⟩ (fun hHeld => ?_)
  clear hK K
  refine norm_ (a' := ?_) ?_ ?_
  rotate_left
  ·show Act.put _ (some 13) _ = _
   simp only [Act.put, ls, lz, ln, i64_w, i32_w]
   rfl
  refine pure_ (i := 4) (N := some 14) (v := ?_) (a' := ?_) #[true, true, true, true, true, false, false, false] rfl rfl (any_of HT_.out (by kernel_rfl)) (fun _ _ _ h => h) (Or.inl ⟨by rfl, ?_⟩) ?_ ?_
  rotate_left
  ·intro w'
   go_simp
   with_reducible rfl
  rotate_left
  ·simp only [Act.put, ls, lz, ln, i64_w, i32_w]
   rfl
  refine one_ (i := 5) (N := some 15) #[true, true, true, true, true, true, false, false] rfl rfl (one_of HT_.out (by kernel_rfl)) (by decide) (fun K hK => ?_)
  refine goes_ Try.func55 (by kernel_rfl) rfl #[.int .i64 a1, .int .i64 0, .int .i64 (wrap64 (t972 - 1))] (by rfl) rfl rfl (by (try simp only [la, lb, lc]); first | done | rfl | (simp only [ld, le]; rfl)) ?_
  with_reducible refine (impl_within.calls a1 0 (wrap64 (t972 - 1)) t973 _ A4.out).mono ?_
  rintro e w' ⟨rfl, ⟨nd, rfl⟩⟩
  refine ⟨_, rfl, ?_⟩
  refine hK.out _ _ ⟨(blk_cell BK971.out 0).trans rfl, (blk_cell BK971.out 1).trans rfl, (blk_cell BK971.out 2).trans rfl⟩ (fun hHeld => ?_)
  clear hK K
  refine norm_ (a' := ?_) ?_ ?_
  rotate_left
  ·show Act.put _ (some 15) _ = _
   simp only [Act.put, ls, lz, ln, i64_w, i32_w]
   rfl
  refine one_ (i := 6) (N := some 16) #[true, true, true, true, true, true, true, false] rfl rfl (one_of HT_.out (by kernel_rfl)) (by decide) (fun K hK => ?_)
  refine goes_ Try.func54 (by kernel_rfl) rfl #[.agg #[.int .i64 a0_0, .slice A0_1 l0_1.length c0_1, .slice A0_2 l0_2.length c0_2], .bool t973] (by rfl) rfl rfl (by (try simp only [la, lb, lc]); first | done | rfl | (simp only [ld, le]; rfl)) ?_
  with_reducible refine (impl_jacobiCode.calls k a0_0 _ _ l0_1 _ _ l0_2 t973 t974 _ ?side1 ?side2 ?side3 ?side4 A5.out).mono ?_
  (case side1 => repeat (first | exact (Kd.C_below HR0_1.out (uH HB.out)) | (with_reducible refine Kd.C_alloc ?_ _) | (with_reducible refine Kd.C_drewN ?_ _) | (with_reducible refine Kd.C_drew ?_)))
  (case side2 => exact HC0_1.out)
  (case side3 => repeat (first | exact (Kd.C_below HR0_2.out (uH HB.out)) | (with_reducible refine Kd.C_alloc ?_ _) | (with_reducible refine Kd.C_drewN ?_ _) | (with_reducible refine Kd.C_drew ?_)))
  (case side4 => exact HC0_2.out)
  rintro e w40 ⟨rfl, hb⟩
  refine ⟨_, rfl, ?_⟩
  have n0_ := xB BK971 hb
  have n1_ := xH HB hb
  clear BK971 HB
  have BK971 := n0_; have HB := n1_
  clear n0_ n1_
  (try clear hb); (try clear hb2); (try clear hk); (try clear hi)
  refine hK.out _ _ ⟨(blk_cell BK971.out 0).trans rfl, (blk_cell BK971.out 1).trans rfl, (blk_cell BK971.out 2).trans rfl⟩ (fun hHeld => ?_)
  clear hK K
  refine norm_ (a' := ?_) ?_ ?_
  rotate_left
  ·show Act.put _ (some 16) _ = _
   simp only [Act.put, ls, lz, ln, i64_w, i32_w]
   rfl
  refine pure_ (i := 7) (N := some 6) (v := ?_) (a' := ?_) #[true, true, true, true, true, true, true, true] rfl rfl (any_of HT_.out (by kernel_rfl)) (fun _ _ _ h => h) (Or.inl ⟨by rfl, ?_⟩) ?_ ?_
  rotate_left
  ·intro w'
   go_simp
   with_reducible rfl
  rotate_left
  ·simp only [Act.put, ls, lz, ln, i64_w, i32_w]
   rfl
  refine done_ (done_of HT_.out (by kernel_rfl)) ?_
  try go_wp2
  go_ret2
  exact ⟨_, by first | rfl | (simp [errW_none, errW_some] <;> rfl) | (simp [*, errW_none, errW_some] <;> rfl), by first | exact Kd.R_nil _ _ _ _ _ | exact Kd.N_nil _ _ _ _ _ | exact Kd.V_nil _ _ _ _ _ | exact Kd.Q_nil _ _ _ _ _ | exact Kd.S_nil _ _ _ _ _, uH HB.out⟩

end Go.Proofs.Ytgneldhhlfjjaaa.Pr
