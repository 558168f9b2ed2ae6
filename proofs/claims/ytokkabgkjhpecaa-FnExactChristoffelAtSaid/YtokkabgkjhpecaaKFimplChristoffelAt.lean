/- Printed by a program of this session out of the translation: what these functions of the program compute, under the conditions that each theorem names. -/
import Derived.Test.YtokkabgkjhpecaaKC01
import Derived.Test.YtokkabgkjhpecaaKC05
import Derived.Test.YtokkabgkjhpecaaKC08
import Derived.Test.YtokkabgkjhpecaaKC09
import Derived.Test.YtokkabgkjhpecaaKChristoffelAt1
namespace Go.Proofs.Ytokkabgkjhpecaa.Pr
open Go.RowKit Go.Proofs.YtokkabgkjhpecaaW.PrintWords Go.Proofs.YtokkabgkjhpecaaW.PrintLast Go.Proofs.YtokkabgkjhpecaaW.PrintMore
attribute [local go_sem] max2_int min2_int max_two min_two max_three min_three max_four min_four   -- for this text's walks alone
set_option linter.unusedVariables false
set_option linter.unusedSimpArgs false

/-! ### impl_ChristoffelAt: function 33 -/
def impl_ChristoffelAt.f (k : Nat) (a0_0 : Int) (l0_1 : List Int) (l0_2 : List Int) (a1 : Int) : Option (Int × Int) := (impl_Jacobi_field.f a0_0 l0_1 l0_2).bind fun t689 => ((impl_field_has.f t689 a1).bind fun t690 => ((impl_jacobiCode.f k a0_0 l0_1 l0_2 t690).bind fun t691 => (if t691 = 0 then ((impl_Jacobi_field.f a0_0 l0_1 l0_2).bind fun t692 => ((impl_Jacobi_polys.f k a0_0 l0_1 l0_2).bind fun t693 => ((impl_Jacobi_size.f a0_0 l0_1 l0_2).bind fun t696 => (if 0 ≤ t696 then (if t696 < (t693.length : Int) then ((impl_field_value.f t692 (rd_L1 t693 t696) a1).bind fun t698 => (if t698 = 0 then ((impl_field_derivative.f k t692 (rd_L1 t693 t696)).bind fun t699 => ((impl_field_value.f t692 t699 a1).bind fun t702 => (if t702 = 0 then (some (0, 5)) else ((impl_Jacobi_christoffel.f k a0_0 l0_1 l0_2 a1).bind fun t703 => (some (t703, 0)))))) else (some (0, 5)))) else (none)) else (none))))) else (some (0, t691)))))
theorem impl_ChristoffelAt.mono : ∀ a0 a1 a2 a3 k, LeO (impl_ChristoffelAt.f k a0 a1 a2 a3) (impl_ChristoffelAt.f (k + 1) a0 a1 a2 a3) := by
 intro a0 a1 a2 a3 k
 unfold impl_ChristoffelAt.f
 repeat' first
   | (with_reducible exact impl_Jacobi_christoffel.mono _ _ _ _ _)
   | (with_reducible exact impl_Jacobi_polys.mono _ _ _ _)
   | (with_reducible exact impl_field_derivative.mono _ _ _)
   | (with_reducible exact impl_jacobiCode.mono _ _ _ _ _)
   | (with_reducible exact LeO.refl _)
   | (with_reducible exact LeO.none _)
   | (with_reducible refine LeO.ite ?_ ?_)
   | (with_reducible refine LeO.bind ?_ (fun _ => ?_))
   | exact impl_Jacobi_christoffel.mono _ _ _ _ _
   | exact impl_Jacobi_polys.mono _ _ _ _
   | exact impl_field_derivative.mono _ _ _
   | exact impl_jacobiCode.mono _ _ _ _ _
   | exact LeO.none _
   | refine LeO.ite ?_ ?_
   | refine LeO.bind ?_ (fun _ => ?_)
def impl_ChristoffelAt.T4 : Bool × List (List Nat × List Nat) := (true, [([], []), ([0], [0]), ([], []), ([2, 1], [2]), ([], []), ([4, 3], [4]), ([3, 5], [3, 5]), ([6], [6]), ([1, 5, 0, 1], [1]), ([7, 8, 0, 1, 2, 3, 4, 5, 6, 7, 8], [7])])
def impl_ChristoffelAt.B4 : List Nat := [0, 1, 0, 7, 0, 31, 63, 127, 63, 511]
theorem impl_ChristoffelAt.tab4 : rtab .any (opsOf Try.f33 4) = impl_ChristoffelAt.T4 := by kernel_rfl
theorem impl_ChristoffelAt.bits4 : waitsOk impl_ChristoffelAt.T4.2 impl_ChristoffelAt.B4 = true := by kernel_rfl
set_option maxHeartbeats 8000000 in
set_option maxRecDepth 100000 in
theorem impl_ChristoffelAt.calls (k : Nat) (a0_0 : Int) (A0_1 : Option Addr) (c0_1 : Nat) (l0_1 : List Int) (A0_2 : Option Addr) (c0_2 : Nat) (l0_2 : List Int) (a1 : Int) (r1 : Int) (r2 : Int) (w : World) (hr0_1 : Kd.C (Kd.int .i64) w A0_1 l0_1.length l0_1) (hc0_1 : l0_1.length ≤ c0_1) (hr0_2 : Kd.C (Kd.int .i64) w A0_2 l0_2.length l0_2) (hc0_2 : l0_2.length ≤ c0_2) (h : impl_ChristoffelAt.f k a0_0 l0_1 l0_2 a1 = some (r1, r2)) :
  Calls Try.prog 33 #[.agg #[.int .i64 a0_0, .slice A0_1 l0_1.length c0_1, .slice A0_2 l0_2.length c0_2], .int .i64 a1] w fun e w' => e = .returned (.tuple #[.int .i64 r1, .int .i64 r2]) ∧ Below w.heap.size w w' := by
 have hu46 := Try.underlying46
 have HR0_1 := zA hr0_1
 have HC0_1 := zA hc0_1
 clear hr0_1 hc0_1
 have HR0_2 := zA hr0_2
 have HC0_2 := zA hc0_2
 clear hr0_2 hc0_2
 have HB := zA (Below.refl w.heap.size w)
 have H : ((impl_Jacobi_field.f a0_0 l0_1 l0_2).bind fun t689 => ((impl_field_has.f t689 a1).bind fun t690 => ((impl_jacobiCode.f k a0_0 l0_1 l0_2 t690).bind fun t691 => (if t691 = 0 then ((impl_Jacobi_field.f a0_0 l0_1 l0_2).bind fun t692 => ((impl_Jacobi_polys.f k a0_0 l0_1 l0_2).bind fun t693 => ((impl_Jacobi_size.f a0_0 l0_1 l0_2).bind fun t696 => (if 0 ≤ t696 then (if t696 < (t693.length : Int) then ((impl_field_value.f t692 (rd_L1 t693 t696) a1).bind fun t698 => (if t698 = 0 then ((impl_field_derivative.f k t692 (rd_L1 t693 t696)).bind fun t699 => ((impl_field_value.f t692 t699 a1).bind fun t702 => (if t702 = 0 then (some (0, 5)) else ((impl_Jacobi_christoffel.f k a0_0 l0_1 l0_2 a1).bind fun t703 => (some (t703, 0)))))) else (some (0, 5)))) else (none)) else (none))))) else (some (0, t691)))))) = some (r1, r2) := h
 clear h
 replace H := Option.bind_eq_some_iff.mp H
 obtain ⟨t689, A30, H⟩ := H
 replace H : ((impl_field_has.f t689 a1).bind fun t690 => ((impl_jacobiCode.f k a0_0 l0_1 l0_2 t690).bind fun t691 => (if t691 = 0 then ((impl_Jacobi_field.f a0_0 l0_1 l0_2).bind fun t692 => ((impl_Jacobi_polys.f k a0_0 l0_1 l0_2).bind fun t693 => ((impl_Jacobi_size.f a0_0 l0_1 l0_2).bind fun t696 => (if 0 ≤ t696 then (if t696 < (t693.length : Int) then ((impl_field_value.f t692 (rd_L1 t693 t696) a1).bind fun t698 => (if t698 = 0 then ((impl_field_derivative.f k t692 (rd_L1 t693 t696)).bind fun t699 => ((impl_field_value.f t692 t699 a1).bind fun t702 => (if t702 = 0 then (some (0, 5)) else ((impl_Jacobi_christoffel.f k a0_0 l0_1 l0_2 a1).bind fun t703 => (some (t703, 0)))))) else (some (0, 5)))) else (none)) else (none))))) else (some (0, t691))))) = some (r1, r2) := H
 have A3 := zA A30
 clear A30
 replace H := Option.bind_eq_some_iff.mp H
 obtain ⟨t690, A40, H⟩ := H
 replace H : ((impl_jacobiCode.f k a0_0 l0_1 l0_2 t690).bind fun t691 => (if t691 = 0 then ((impl_Jacobi_field.f a0_0 l0_1 l0_2).bind fun t692 => ((impl_Jacobi_polys.f k a0_0 l0_1 l0_2).bind fun t693 => ((impl_Jacobi_size.f a0_0 l0_1 l0_2).bind fun t696 => (if 0 ≤ t696 then (if t696 < (t693.length : Int) then ((impl_field_value.f t692 (rd_L1 t693 t696) a1).bind fun t698 => (if t698 = 0 then ((impl_field_derivative.f k t692 (rd_L1 t693 t696)).bind fun t699 => ((impl_field_value.f t692 t699 a1).bind fun t702 => (if t702 = 0 then (some (0, 5)) else ((impl_Jacobi_christoffel.f k a0_0 l0_1 l0_2 a1).bind fun t703 => (some (t703, 0)))))) else (some (0, 5)))) else (none)) else (none))))) else (some (0, t691)))) = some (r1, r2) := H
 have A4 := zA A40
 clear A40
 replace H := Option.bind_eq_some_iff.mp H
 obtain ⟨t691, A50, H⟩ := H
 replace H : (if t691 = 0 then ((impl_Jacobi_field.f a0_0 l0_1 l0_2).bind fun t692 => ((impl_Jacobi_polys.f k a0_0 l0_1 l0_2).bind fun t693 => ((impl_Jacobi_size.f a0_0 l0_1 l0_2).bind fun t696 => (if 0 ≤ t696 then (if t696 < (t693.length : Int) then ((impl_field_value.f t692 (rd_L1 t693 t696) a1).bind fun t698 => (if t698 = 0 then ((impl_field_derivative.f k t692 (rd_L1 t693 t696)).bind fun t699 => ((impl_field_value.f t692 t699 a1).bind fun t702 => (if t702 = 0 then (some (0, 5)) else ((impl_Jacobi_christoffel.f k a0_0 l0_1 l0_2 a1).bind fun t703 => (some (t703, 0)))))) else (some (0, 5)))) else (none)) else (none))))) else (some (0, t691))) = some (r1, r2) := H
 have A5 := zA A50
 clear A50
 by_cases c6 : t691 = 0
 ·rw [if_pos c6] at H
  have c6b0 : (t691 == 0) = true := beq_iff_eq.mpr c6
  have c6b1 : (t691 != 0) = false := bne_eq_false_iff_eq.mpr c6
  clear c6
  replace H := Option.bind_eq_some_iff.mp H
  obtain ⟨t692, A70, H⟩ := H
  replace H : ((impl_Jacobi_polys.f k a0_0 l0_1 l0_2).bind fun t693 => ((impl_Jacobi_size.f a0_0 l0_1 l0_2).bind fun t696 => (if 0 ≤ t696 then (if t696 < (t693.length : Int) then ((impl_field_value.f t692 (rd_L1 t693 t696) a1).bind fun t698 => (if t698 = 0 then ((impl_field_derivative.f k t692 (rd_L1 t693 t696)).bind fun t699 => ((impl_field_value.f t692 t699 a1).bind fun t702 => (if t702 = 0 then (some (0, 5)) else ((impl_Jacobi_christoffel.f k a0_0 l0_1 l0_2 a1).bind fun t703 => (some (t703, 0)))))) else (some (0, 5)))) else (none)) else (none)))) = some (r1, r2) := H
  have A7 := zA A70
  clear A70
  replace H := Option.bind_eq_some_iff.mp H
  obtain ⟨t693, A80, H⟩ := H
  replace H : ((impl_Jacobi_size.f a0_0 l0_1 l0_2).bind fun t696 => (if 0 ≤ t696 then (if t696 < (t693.length : Int) then ((impl_field_value.f t692 (rd_L1 t693 t696) a1).bind fun t698 => (if t698 = 0 then ((impl_field_derivative.f k t692 (rd_L1 t693 t696)).bind fun t699 => ((impl_field_value.f t692 t699 a1).bind fun t702 => (if t702 = 0 then (some (0, 5)) else ((impl_Jacobi_christoffel.f k a0_0 l0_1 l0_2 a1).bind fun t703 => (some (t703, 0)))))) else (some (0, 5)))) else (none)) else (none))) = some (r1, r2) := H
  have A8 := zA A80
  clear A80
  replace H := Option.bind_eq_some_iff.mp H
  obtain ⟨t696, A90, H⟩ := H
  replace H : (if 0 ≤ t696 then (if t696 < (t693.length : Int) then ((impl_field_value.f t692 (rd_L1 t693 t696) a1).bind fun t698 => (if t698 = 0 then ((impl_field_derivative.f k t692 (rd_L1 t693 t696)).bind fun t699 => ((impl_field_value.f t692 t699 a1).bind fun t702 => (if t702 = 0 then (some (0, 5)) else ((impl_Jacobi_christoffel.f k a0_0 l0_1 l0_2 a1).bind fun t703 => (some (t703, 0)))))) else (some (0, 5)))) else (none)) else (none)) = some (r1, r2) := H
  have A9 := zA A90
  clear A90
  by_cases c10 : 0 ≤ t696
  ·rw [if_pos c10] at H
   have c10b0 : decide (0 ≤ t696) = true := decide_eq_true c10
   clear c10
   by_cases c11 : t696 < (t693.length : Int)
   ·rw [if_pos c11] at H
    have c11b0 : decide (t696 < (t693.length : Int)) = true := decide_eq_true c11
    clear c11
    replace H := Option.bind_eq_some_iff.mp H
    obtain ⟨t698, A120, H⟩ := H
    replace H : (if t698 = 0 then ((impl_field_derivative.f k t692 (rd_L1 t693 t696)).bind fun t699 => ((impl_field_value.f t692 t699 a1).bind fun t702 => (if t702 = 0 then (some (0, 5)) else ((impl_Jacobi_christoffel.f k a0_0 l0_1 l0_2 a1).bind fun t703 => (some (t703, 0)))))) else (some (0, 5))) = some (r1, r2) := H
    have A12 := zA A120
    clear A120
    by_cases c13 : t698 = 0
    ·rw [if_pos c13] at H
     have c13b0 : (t698 == 0) = true := beq_iff_eq.mpr c13
     have c13b1 : (t698 != 0) = false := bne_eq_false_iff_eq.mpr c13
     clear c13
     replace H := Option.bind_eq_some_iff.mp H
     obtain ⟨t699, A140, H⟩ := H
     replace H : ((impl_field_value.f t692 t699 a1).bind fun t702 => (if t702 = 0 then (some (0, 5)) else ((impl_Jacobi_christoffel.f k a0_0 l0_1 l0_2 a1).bind fun t703 => (some (t703, 0))))) = some (r1, r2) := H
     have A14 := zA A140
     clear A140
     replace H := Option.bind_eq_some_iff.mp H
     obtain ⟨t702, A150, H⟩ := H
     replace H : (if t702 = 0 then (some (0, 5)) else ((impl_Jacobi_christoffel.f k a0_0 l0_1 l0_2 a1).bind fun t703 => (some (t703, 0)))) = some (r1, r2) := H
     have A15 := zA A150
     clear A150
     by_cases c16 : t702 = 0
     ·rw [if_pos c16] at H
      have c16b0 : (t702 == 0) = true := beq_iff_eq.mpr c16
      have c16b1 : (t702 != 0) = false := bne_eq_false_iff_eq.mpr c16
      clear c16
      simp only [Option.some.injEq, Prod.mk.injEq] at H
      obtain ⟨rfl, rfl⟩ := H
      go_enter Try.func33, Try.ntmps33
      try go_wp2_with (first | ((with_reducible refine gate_dst (N := 2) rfl ?_); refine box_event ?hg (N := 2) ?hd (cs := #[.int .i64 a0_0, .slice A0_1 l0_1.length c0_1, .slice A0_2 l0_2.length c0_2]) (t := 46) ?hr ?_; (case hd => rfl); (case hg => rfl); (case hr => first | (go_simp; done) | (go_simp; rfl)); intro gb688 hg w17 hbox hb; have n0_ := xH HB hb; have n1_ := zA (hbox); have n2_ := zA ((by rw [hg]; exact (below_size (uH HB.out)) : w.heap.size ≤ gb688)); have n3_ := zA ((by rw [hg]; exact (below_size (uH HB.out)) : w.heap.size ≤ gb688)); clear HB; have HB := n0_; have BK688 := n1_; have GW688 := n2_; have GE688 := n3_; have := geI GE688; clear n0_ n1_ n2_ n3_ hb hbox hg))
      have n0_ := zA (blk_drew BK688.out)
      have n1_ := zA (below_drew1 HB.out)
      clear BK688 HB
      have BK688 := n0_; have HB := n1_
      clear n0_ n1_
      refine start_ (n := 7) (S := fun w' => w'.cell? ⟨gb688, 0, none⟩ = some (.int .i64 a0_0) ∧ w'.cell? ⟨gb688, 1, none⟩ = some (.slice A0_1 l0_1.length c0_1) ∧ w'.cell? ⟨gb688, 2, none⟩ = some (.slice A0_2 l0_2.length c0_2)) (ds := []) #[false, false, false, false, false, false, false] (by kernel_rfl) rfl rfl ⟨(blk_cell BK688.out 0).trans rfl, (blk_cell BK688.out 1).trans rfl, (blk_cell BK688.out 2).trans rfl⟩ (fun hHeld => ?_)
      generalize w17.drew = w18 at BK688 HB hHeld ⊢
      refine pure_ (i := 3) (N := some 12) (v := ?_) (a' := ?_) (bl 7 8) rfl rfl (by kernel_rfl) (fun _ _ _ h => h) (Or.inl ⟨by rfl, ?_⟩) ?_ ?_
      rotate_left
      ·intro w'
       go_simp
       with_reducible rfl
      rotate_left
      ·simp only [Act.put, ls, lz, ln, i64_w, i32_w]
       rfl
      refine take_ (i := 0) (N := some 9) (v := ?_) (a' := ?_) (bl 7 9) rfl rfl (by kernel_rfl) (fun _ _ _ h => h) (Or.inl ⟨by rfl, ?_⟩) hHeld ?_ ?_
      rotate_left
      ·rintro w' ⟨s0, s1, s2⟩
       go_simp
       with_reducible rfl
      rotate_left
      ·simp only [Act.put, ls, lz, ln, i64_w, i32_w]
       rfl
      refine take_ (i := 1) (N := some 10) (v := ?_) (a' := ?_) (bl 7 11) rfl rfl (by kernel_rfl) (fun _ _ _ h => h) (Or.inl ⟨by rfl, ?_⟩) hHeld ?_ ?_
      rotate_left
      ·rintro w' ⟨s0, s1, s2⟩
       go_simp
       with_reducible rfl
      rotate_left
      ·simp only [Act.put, ls, lz, ln, i64_w, i32_w]
       rfl
      refine one_ (i := 2) (N := some 11) (bl 7 15) rfl rfl (by kernel_rfl) (by decide) (fun K hK => ?_)
      refine goes_ Try.func76 (by kernel_rfl) rfl #[.agg #[.int .i64 a0_0, .slice A0_1 l0_1.length c0_1, .slice A0_2 l0_2.length c0_2]] (by rfl) rfl rfl (by (try simp only [la, lb, lc]); first | done | rfl | (simp only [ld, le]; rfl)) ?_
      with_reducible refine (impl_Jacobi_field.calls a0_0 _ _ l0_1 _ _ l0_2 t689 _ ?side1 ?side2 ?side3 ?side4 A3.out).mono ?_
      (case side1 => exact uC ((Kd.C_below HR0_1.out HB.out)))
      (case side2 => exact HC0_1.out)
      (case side3 => exact uC ((Kd.C_below HR0_2.out HB.out)))
      (case side4 => exact HC0_2.out)
      rintro e w19 ⟨rfl, hb⟩
      refine ⟨_, rfl, ?_⟩
      have n0_ := xB BK688 hb
      have n1_ := xH HB hb
      clear BK688 HB
      have BK688 := n0_; have HB := n1_
      clear n0_ n1_
      (try clear hb); (try clear hb2); (try clear hk); (try clear hi)
      refine hK.out _ _ ⟨(blk_cell BK688.out 0).trans rfl, (blk_cell BK688.out 1).trans rfl, (blk_cell BK688.out 2).trans rfl⟩ (fun hHeld => ?_)
      clear hK K
      refine no_ 11 ?_
      refine one_ (i := 4) (N := some 13) (bl 7 31) rfl rfl (by kernel_rfl) (by decide) (fun K hK => ?_)
      refine goes_ Try.func77 (by kernel_rfl) rfl #[.int .i64 t689, .int .i64 a1] (by rfl) rfl rfl (by (try simp only [la, lb, lc]); first | done | rfl | (simp only [ld, le]; rfl)) ?_
      with_reducible refine (impl_field_has.calls t689 a1 t690 _ A4.out).mono ?_
      rintro e w' ⟨rfl, ⟨nd, rfl⟩⟩
      refine ⟨_, rfl, ?_⟩
      refine hK.out _ _ ⟨(blk_cell BK688.out 0).trans rfl, (blk_cell BK688.out 1).trans rfl, (blk_cell BK688.out 2).trans rfl⟩ (fun hHeld => ?_)
      clear hK K
      refine no_ 13 ?_
      refine one_ (i := 5) (N := some 14) (bl 7 63) rfl rfl (by kernel_rfl) (by decide) (fun K hK => ?_)
      refine goes_ Try.func73 (by kernel_rfl) rfl #[.agg #[.int .i64 a0_0, .slice A0_1 l0_1.length c0_1, .slice A0_2 l0_2.length c0_2], .bool t690] (by rfl) rfl rfl (by (try simp only [la, lb, lc]); first | done | rfl | (simp only [ld, le]; rfl)) ?_
      with_reducible refine (impl_jacobiCode.calls k a0_0 _ _ l0_1 _ _ l0_2 t690 t691 _ ?side1 ?side2 ?side3 ?side4 A5.out).mono ?_
      (case side1 => repeat (first | exact (Kd.C_below HR0_1.out (uH HB.out)) | (with_reducible refine Kd.C_alloc ?_ _) | (with_reducible refine Kd.C_drewN ?_ _) | (with_reducible refine Kd.C_drew ?_)))
      (case side2 => exact HC0_1.out)
      (case side3 => repeat (first | exact (Kd.C_below HR0_2.out (uH HB.out)) | (with_reducible refine Kd.C_alloc ?_ _) | (with_reducible refine Kd.C_drewN ?_ _) | (with_reducible refine Kd.C_drew ?_)))
      (case side4 => exact HC0_2.out)
      rintro e w20 ⟨rfl, hb⟩
      refine ⟨_, rfl, ?_⟩
      have n0_ := xB BK688 hb
      have n1_ := xH HB hb
      clear BK688 HB
      have BK688 := n0_; have HB := n1_
      clear n0_ n1_
      (try clear hb); (try clear hb2); (try clear hk); (try clear hi)
      refine hK.out _ _ ⟨(blk_cell BK688.out 0).trans rfl, (blk_cell BK688.out 1).trans rfl, (blk_cell BK688.out 2).trans rfl⟩ (fun hHeld => ?_)
      clear hK K
      refine no_ 14 ?_
      refine pure_ (i := 6) (N := some 6) (v := ?_) (a' := ?_) (bl 7 127) rfl rfl (by kernel_rfl) (fun _ _ _ h => h) (Or.inl ⟨by rfl, ?_⟩) ?_ ?_
      rotate_left
      ·intro w'
       go_simp
       with_reducible rfl
      rotate_left
      ·simp only [Act.put, ls, lz, ln, i64_w, i32_w]
       rfl
      refine done_ (by kernel_rfl) ?_
      try go_wp2
      have n0_ := zA (blk_drew BK688.out)
      have n1_ := zA (below_drew1 HB.out)
      clear BK688 HB
      have BK688 := n0_; have HB := n1_
      clear n0_ n1_
      refine start_ (n := 10) (S := fun w' => w'.cell? ⟨gb688, 0, none⟩ = some (.int .i64 a0_0) ∧ w'.cell? ⟨gb688, 1, none⟩ = some (.slice A0_1 l0_1.length c0_1) ∧ w'.cell? ⟨gb688, 2, none⟩ = some (.slice A0_2 l0_2.length c0_2)) (ds := []) #[false, false, false, false, false, false, false, false, false, false] (by kernel_rfl) rfl rfl ⟨(blk_cell BK688.out 0).trans rfl, (blk_cell BK688.out 1).trans rfl, (blk_cell BK688.out 2).trans rfl⟩ (fun hHeld => ?_); refine with_tabW impl_ChristoffelAt.tab4 impl_ChristoffelAt.bits4 (fun HT_ HW_ => ?_)
      generalize w20.drew = w21 at BK688 HB hHeld ⊢
      refine ta_ 0 18 (bl 10 1) HT_ HW_ hHeld ?_
      refine ta_ 2 20 (bl 10 5) HT_ HW_ hHeld ?_
      refine ta_ 4 22 (bl 10 21) HT_ HW_ hHeld ?_
      refine on_ 1 (some 19) (bl 10 23) HT_ (fun K hK => ?_)
      refine goes_ Try.func76 (by kernel_rfl) rfl #[.agg #[.int .i64 a0_0, .slice A0_1 l0_1.length c0_1, .slice A0_2 l0_2.length c0_2]] (by rfl) rfl rfl (by (try simp only [la, lb, lc]); first | done | rfl | (simp only [ld, le]; rfl)) ?_
      with_reducible refine (impl_Jacobi_field.calls a0_0 _ _ l0_1 _ _ l0_2 t692 _ ?side1 ?side2 ?side3 ?side4 A7.out).mono ?_
      (case side1 => exact uC ((Kd.C_below HR0_1.out HB.out)))
      (case side2 => exact HC0_1.out)
      (case side3 => exact uC ((Kd.C_below HR0_2.out HB.out)))
      (case side4 => exact HC0_2.out)
      rintro e w22 ⟨rfl, hb⟩
      refine ⟨_, rfl, ?_⟩
      have n0_ := xB BK688 hb
      have n1_ := xH HB hb
      clear BK688 HB
      have BK688 := n0_; have HB := n1_
      clear n0_ n1_
      (try clear hb); (try clear hb2); (try clear hk); (try clear hi)
      refine hK.out _ _ ⟨(blk_cell BK688.out 0).trans rfl, (blk_cell BK688.out 1).trans rfl, (blk_cell BK688.out 2).trans rfl⟩ (fun hHeld => ?_)
      clear hK K
      refine no_ 19 ?_
      refine on_ 3 (some 21) (bl 10 31) HT_ (fun K hK => ?_)
      refine goes_ Try.func79 (by kernel_rfl) rfl #[.agg #[.int .i64 a0_0, .slice A0_1 l0_1.length c0_1, .slice A0_2 l0_2.length c0_2]] (by rfl) rfl rfl (by (try simp only [la, lb, lc]); first | done | rfl | (simp only [ld, le]; rfl)) ?_
      with_reducible refine (impl_Jacobi_polys.calls k a0_0 _ _ l0_1 _ _ l0_2 t693 _ ?side1 ?side2 ?side3 ?side4 A8.out).mono ?_
      (case side1 => exact uC ((Kd.C_below HR0_1.out HB.out)))
      (case side2 => exact HC0_1.out)
      (case side3 => exact uC ((Kd.C_below HR0_2.out HB.out)))
      (case side4 => exact HC0_2.out)
      rintro e w23 ⟨v694, rfl, ho0, hb⟩
      refine ⟨_, rfl, ?_⟩
      have n0_ := zA (Kd.N_lower (Kd.N_mono (ok' := fun k_ => k_ ≠ gb688) ho0 (fun k_ hk_ => (Kd.freshB (g := gb688) (o := .cells #[.int .i64 a0_0, .slice A0_1 l0_1.length c0_1, .slice A0_2 l0_2.length c0_2] 46 (0, 0)) (uB BK688.out) k_ hk_))) (below_size (uH HB.out)))
      have n1_ := xB BK688 hb
      have n2_ := xH HB hb
      clear BK688 HB
      have HO695 := n0_; have BK688 := n1_; have HB := n2_
      clear n0_ n1_ n2_
      (try clear hb); (try clear hb2); (try clear hk); (try clear hi); (try clear ho0)
      refine hK.out _ _ ⟨(blk_cell BK688.out 0).trans rfl, (blk_cell BK688.out 1).trans rfl, (blk_cell BK688.out 2).trans rfl⟩ (fun hHeld => ?_)
      clear hK K
      refine no_ 21 ?_
      refine on_ 5 (some 23) (bl 10 63) HT_ (fun K hK => ?_)
      refine goes_ Try.func75 (by kernel_rfl) rfl #[.agg #[.int .i64 a0_0, .slice A0_1 l0_1.length c0_1, .slice A0_2 l0_2.length c0_2]] (by rfl) rfl rfl (by (try simp only [la, lb, lc]); first | done | rfl | (simp only [ld, le]; rfl)) ?_
      with_reducible refine (impl_Jacobi_size.calls a0_0 _ _ l0_1 _ _ l0_2 t696 _ ?side1 ?side2 ?side3 ?side4 A9.out).mono ?_
      (case side1 => exact uC ((Kd.C_below HR0_1.out HB.out)))
      (case side2 => exact HC0_1.out)
      (case side3 => exact uC ((Kd.C_below HR0_2.out HB.out)))
      (case side4 => exact HC0_2.out)
      rintro e w24 ⟨rfl, hb⟩
      refine ⟨_, rfl, ?_⟩
      have n0_ := zA (Kd.N_below (by (with_reducible repeat (first | apply Kd.N_alloc | apply Kd.N_drewN | apply Kd.N_drew)); exact HO695.out) hb)
      have n1_ := xB BK688 hb
      have n2_ := xH HB hb
      clear HO695 BK688 HB
      have HO695 := n0_; have BK688 := n1_; have HB := n2_
      clear n0_ n1_ n2_
      (try clear hb); (try clear hb2); (try clear hk); (try clear hi)
      obtain ⟨Ao25, co25, eo25⟩ := Kd.N_slice HO695.out
      (first | subst eo25 | (injection eo25 with f1_ f2_ f3_; have f4_ := f1_.symm; have f5_ := f3_.symm; clear f1_ f2_ f3_; subst f4_; subst f5_))
      have p697 : 0 ≤ (t696 : Int) := of_decide_eq_true (by first | (with_reducible assumption) | assumption)
      have q697 : t696 < (t693.length : Int) := of_decide_eq_true (by first | (with_reducible assumption) | assumption)
      obtain ⟨ad697, A697_0, c697_0, e697, hx697_0, hl697_0, hi697_0⟩ := at_L1 (Kd.N_reads' HO695.out).2.2 t696 p697 q697
      cases e697
      obtain ⟨ce697, hce697, hMe697, hcc697⟩ := Kd.N_get HO695.out [] t696 p697 (by first | exact q697 | exact of_decide_eq_true (by first | (with_reducible assumption) | assumption) | (have e_ := (Kd.N_reads' HO695.out).1; omega))
      obtain ⟨ua697_0, uc697_0, rfl, ul697_0, ge697_0⟩ := Kd.FK_slice_open hMe697
      have hv697_0 := hcc697 0 _ rfl
      rw [Nat.add_zero, show ((Kd.slice 2 (Kd.int .i64))).sz = 1 from rfl, Nat.mul_one] at hv697_0
      replace hv697_0 := Option.some.inj (hv697_0.symm.trans hx697_0)
      injection hv697_0 with hva_ hvn_ hvc_
      rw [hva_] at ge697_0
      rw [hvc_] at ul697_0
      have HL697_0 := zA (show Kd.V (Kd.int .i64) 2 _ w.heap.size _ _ (rd_L1 t693 t696) from Kd.V_mk ul697_0 ge697_0)
      clear hva_ hvn_ hvc_ ge697_0 ul697_0
      clear hcc697 hce697
      have HR697_0 := zA hi697_0
      have HC697_0 := zA hl697_0
      clear hi697_0 hl697_0
      replace p697 := eq_true p697
      replace q697 := eq_true q697
      refine hK.out _ _ ⟨(blk_cell BK688.out 0).trans rfl, (blk_cell BK688.out 1).trans rfl, (blk_cell BK688.out 2).trans rfl⟩ (fun hHeld => ?_)
      clear hK K
      refine no_ 23 ?_
      refine pu_ 6 24 (bl 10 127) HT_ ?_
      refine pu_ 8 7 (bl 10 383) HT_ ?_
      refine lo_ 7 25 (bl 10 511) HT_ hHeld ?_
      refine pu_ 9 8 (bl 10 1023) HT_ ?_
      refine done_ (done_of HT_.out (by kernel_rfl)) ?_
      try go_wp2_with (first | ((with_reducible refine gate_callee (f := 78) rfl ?_); refine goesL_ (some 29) rfl rfl Try.func78 (by kernel_rfl) rfl #[.int .i64 t692, .slice A697_0 (rd_L1 t693 t696).length c697_0, .int .i64 a1] rfl (by (try simp only [la, lb, lc]); first | done | rfl | (simp only [ld, le]; rfl)) ?_; (with_reducible refine (impl_field_value.calls t692 _ _ (rd_L1 t693 t696) a1 t698 _ ?side1 ?side2 A12.out).mono ?_); (case side1 => repeat (first | exact (by repeat (first | (with_reducible exact HR697_0.out) | (with_reducible refine Kd.C_alloc ?_ _) | (with_reducible refine Kd.C_drewN ?_ _) | (with_reducible refine Kd.C_drew ?_) | exact HR697_0.out)) | (with_reducible refine Kd.C_alloc ?_ _) | (with_reducible refine Kd.C_drewN ?_ _) | (with_reducible refine Kd.C_drew ?_))); (case side2 => exact HC697_0.out); rintro e w26 ⟨rfl, hb⟩; refine ⟨_, rfl, ?_⟩; have n0_ := zA (Kd.N_below (by (with_reducible repeat (first | apply Kd.N_alloc | apply Kd.N_drewN | apply Kd.N_drew)); exact HO695.out) hb); have n1_ := zA (Kd.V_below (by (with_reducible repeat (first | apply Kd.V_alloc | apply Kd.V_drewN | apply Kd.V_drew)); exact HL697_0.out) hb); have n2_ := xB BK688 hb; have n3_ := zA (Kd.C_below (by repeat (first | (with_reducible exact HR697_0.out) | (with_reducible refine Kd.C_alloc ?_ _) | (with_reducible refine Kd.C_drewN ?_ _) | (with_reducible refine Kd.C_drew ?_) | exact HR697_0.out)) hb); have n4_ := xH HB hb; clear HO695 HL697_0 BK688 HR697_0 HB; have HO695 := n0_; have HL697_0 := n1_; have BK688 := n2_; have HR697_0 := n3_; have HB := n4_; clear n0_ n1_ n2_ n3_ n4_; (try clear hb); (try clear hb2); (try clear hk); (try clear hi)) | (go_at_call 83; (with_reducible refine (impl_field_derivative.calls k t692 _ _ (rd_L1 t693 t696) t699 _ ?side1 ?side2 A14.out).mono ?_); (case side1 => repeat (first | exact (by repeat (first | (with_reducible exact HR697_0.out) | (with_reducible refine Kd.C_alloc ?_ _) | (with_reducible refine Kd.C_drewN ?_ _) | (with_reducible refine Kd.C_drew ?_) | exact HR697_0.out)) | (with_reducible refine Kd.C_alloc ?_ _) | (with_reducible refine Kd.C_drewN ?_ _) | (with_reducible refine Kd.C_drew ?_))); (case side2 => exact HC697_0.out); rintro e w27 ⟨v700, rfl, ho0, hb⟩; have n0_ := zA (Kd.N_elder' (by (with_reducible repeat (first | apply Kd.N_alloc | apply Kd.N_drewN | apply Kd.N_drew)); exact HO695.out) (Kd.R_base ho0) hb); have n1_ := zA (Kd.V_elder' (by (with_reducible repeat (first | apply Kd.V_alloc | apply Kd.V_drewN | apply Kd.V_drew)); exact HL697_0.out) (Kd.R_base ho0) hb); have n2_ := zA (Kd.R_lower ho0 (below_size (uH HB.out))); have n3_ := xB BK688 hb; have n4_ := zA (Kd.C_below (by repeat (first | (with_reducible exact HR697_0.out) | (with_reducible refine Kd.C_alloc ?_ _) | (with_reducible refine Kd.C_drewN ?_ _) | (with_reducible refine Kd.C_drew ?_) | exact HR697_0.out)) hb); have n5_ := xH HB hb; clear HO695 HL697_0 BK688 HR697_0 HB; have HO695 := n0_; have HL697_0 := n1_; have HO701 := n2_; have BK688 := n3_; have HR697_0 := n4_; have HB := n5_; clear n0_ n1_ n2_ n3_ n4_ n5_; (try clear hb); (try clear hb2); (try clear hk); (try clear hi); (try clear ho0); obtain ⟨Ao28, co28, eo28⟩ := Kd.R_slice HO701.out; subst eo28) | (go_at_call 78; (with_reducible refine (impl_field_value.calls t692 _ _ t699 a1 t702 _ ?side1 ?side2 A15.out).mono ?_); (case side1 => exact uC ((Kd.R_reads' HO701.out).2.2)); (case side2 => exact (Kd.R_reads' HO701.out).2.1); rintro e w29 ⟨rfl, hb⟩; have n0_ := zA (Kd.N_below (by (with_reducible repeat (first | apply Kd.N_alloc | apply Kd.N_drewN | apply Kd.N_drew)); exact HO695.out) hb); have n1_ := zA (Kd.V_below (by (with_reducible repeat (first | apply Kd.V_alloc | apply Kd.V_drewN | apply Kd.V_drew)); exact HL697_0.out) hb); have n2_ := xR HO701 hb; have n3_ := xB BK688 hb; have n4_ := zA (Kd.C_below (by repeat (first | (with_reducible exact HR697_0.out) | (with_reducible refine Kd.C_alloc ?_ _) | (with_reducible refine Kd.C_drewN ?_ _) | (with_reducible refine Kd.C_drew ?_) | exact HR697_0.out)) hb); have n5_ := xH HB hb; clear HO695 HL697_0 HO701 BK688 HR697_0 HB; have HO695 := n0_; have HL697_0 := n1_; have HO701 := n2_; have BK688 := n3_; have HR697_0 := n4_; have HB := n5_; clear n0_ n1_ n2_ n3_ n4_ n5_; (try clear hb); (try clear hb2); (try clear hk); (try clear hi)))
      go_ret2
      exact ⟨by first | rfl | (simp [errW_none, errW_some] <;> rfl) | (simp [*, errW_none, errW_some] <;> rfl), uH HB.out⟩
     ·rw [if_neg c16] at H
      have c16b0 : (t702 == 0) = false := beq_eq_false_iff_ne.mpr c16
      have c16b1 : (t702 != 0) = true := bne_iff_ne.mpr c16
      replace H := Option.bind_eq_some_iff.mp H
      obtain ⟨t703, A300, H⟩ := H
      replace H : (some (t703, 0)) = some (r1, r2) := H
      have A30 := zA A300
      clear A300
      simp only [Option.some.injEq, Prod.mk.injEq] at H
      obtain ⟨rfl, rfl⟩ := H
      go_enter Try.func33, Try.ntmps33
      try go_wp2_with (first | ((with_reducible refine gate_dst (N := 2) rfl ?_); refine box_event ?hg (N := 2) ?hd (cs := #[.int .i64 a0_0, .slice A0_1 l0_1.length c0_1, .slice A0_2 l0_2.length c0_2]) (t := 46) ?hr ?_; (case hd => rfl); (case hg => rfl); (case hr => first | (go_simp; done) | (go_simp; rfl)); intro gb688 hg w31 hbox hb; have n0_ := xH HB hb; have n1_ := zA (hbox); have n2_ := zA ((by rw [hg]; exact (below_size (uH HB.out)) : w.heap.size ≤ gb688)); have n3_ := zA ((by rw [hg]; exact (below_size (uH HB.out)) : w.heap.size ≤ gb688)); clear HB; have HB := n0_; have BK688 := n1_; have GW688 := n2_; have GE688 := n3_; have := geI GE688; clear n0_ n1_ n2_ n3_ hb hbox hg))
      have n0_ := zA (blk_drew BK688.out)
      have n1_ := zA (below_drew1 HB.out)
      clear BK688 HB
      have BK688 := n0_; have HB := n1_
      clear n0_ n1_
      refine start_ (n := 7) (S := fun w' => w'.cell? ⟨gb688, 0, none⟩ = some (.int .i64 a0_0) ∧ w'.cell? ⟨gb688, 1, none⟩ = some (.slice A0_1 l0_1.length c0_1) ∧ w'.cell? ⟨gb688, 2, none⟩ = some (.slice A0_2 l0_2.length c0_2)) (ds := []) #[false, false, false, false, false, false, false] (by kernel_rfl) rfl rfl ⟨(blk_cell BK688.out 0).trans rfl, (blk_cell BK688.out 1).trans rfl, (blk_cell BK688.out 2).trans rfl⟩ (fun hHeld => ?_)
      generalize w31.drew = w32 at BK688 HB hHeld ⊢
      refine pure_ (i := 3) (N := some 12) (v := ?_) (a' := ?_) (bl 7 8) rfl rfl (by kernel_rfl) (fun _ _ _ h => h) (Or.inl ⟨by rfl, ?_⟩) ?_ ?_
      rotate_left
      ·intro w'
       go_simp
       with_reducible rfl
      rotate_left
      ·simp only [Act.put, ls, lz, ln, i64_w, i32_w]
       rfl
      refine take_ (i := 0) (N := some 9) (v := ?_) (a' := ?_) (bl 7 9) rfl rfl (by kernel_rfl) (fun _ _ _ h => h) (Or.inl ⟨by rfl, ?_⟩) hHeld ?_ ?_
      rotate_left
      ·rintro w' ⟨s0, s1, s2⟩
       go_simp
       with_reducible rfl
      rotate_left
      ·simp only [Act.put, ls, lz, ln, i64_w, i32_w]
       rfl
      refine take_ (i := 1) (N := some 10) (v := ?_) (a' := ?_) (bl 7 11) rfl rfl (by kernel_rfl) (fun _ _ _ h => h) (Or.inl ⟨by rfl, ?_⟩) hHeld ?_ ?_
      rotate_left
      ·rintro w' ⟨s0, s1, s2⟩
       go_simp
       with_reducible rfl
      rotate_left
      ·simp only [Act.put, ls, lz, ln, i64_w, i32_w]
       rfl
      refine one_ (i := 2) (N := some 11) (bl 7 15) rfl rfl (by kernel_rfl) (by decide) (fun K hK => ?_)
      refine goes_ Try.func76 (by kernel_rfl) rfl #[.agg #[.int .i64 a0_0, .slice A0_1 l0_1.length c0_1, .slice A0_2 l0_2.length c0_2]] (by rfl) rfl rfl (by (try simp only [la, lb, lc]); first | done | rfl | (simp only [ld, le]; rfl)) ?_
      with_reducible refine (impl_Jacobi_field.calls a0_0 _ _ l0_1 _ _ l0_2 t689 _ ?side1 ?side2 ?side3 ?side4 A3.out).mono ?_
      (case side1 => exact uC ((Kd.C_below HR0_1.out HB.out)))
      (case side2 => exact HC0_1.out)
      (case side3 => exact uC ((Kd.C_below HR0_2.out HB.out)))
      (case side4 => exact HC0_2.out)
      rintro e w33 ⟨rfl, hb⟩
      refine ⟨_, rfl, ?_⟩
      have n0_ := xB BK688 hb
      have n1_ := xH HB hb
      clear BK688 HB
      have BK688 := n0_; have HB := n1_
      clear n0_ n1_
      (try clear hb); (try clear hb2); (try clear hk); (try clear hi)
      refine hK.out _ _ ⟨(blk_cell BK688.out 0).trans rfl, (blk_cell BK688.out 1).trans rfl, (blk_cell BK688.out 2).trans rfl⟩ (fun hHeld => ?_)
      clear hK K
      refine no_ 11 ?_
      refine one_ (i := 4) (N := some 13) (bl 7 31) rfl rfl (by kernel_rfl) (by decide) (fun K hK => ?_)
      refine goes_ Try.func77 (by kernel_rfl) rfl #[.int .i64 t689, .int .i64 a1] (by rfl) rfl rfl (by (try simp only [la, lb, lc]); first | done | rfl | (simp only [ld, le]; rfl)) ?_
      with_reducible refine (impl_field_has.calls t689 a1 t690 _ A4.out).mono ?_
      rintro e w' ⟨rfl, ⟨nd, rfl⟩⟩
      refine ⟨_, rfl, ?_⟩
      refine hK.out _ _ ⟨(blk_cell BK688.out 0).trans rfl, (blk_cell BK688.out 1).trans rfl, (blk_cell BK688.out 2).trans rfl⟩ (fun hHeld => ?_)
      clear hK K
      refine no_ 13 ?_
      refine one_ (i := 5) (N := some 14) (bl 7 63) rfl rfl (by kernel_rfl) (by decide) (fun K hK => ?_)
      refine goes_ Try.func73 (by kernel_rfl) rfl #[.agg #[.int .i64 a0_0, .slice A0_1 l0_1.length c0_1, .slice A0_2 l0_2.length c0_2], .bool t690] (by rfl) rfl rfl (by (try simp only [la, lb, lc]); first | done | rfl | (simp only [ld, le]; rfl)) ?_
      with_reducible refine (impl_jacobiCode.calls k a0_0 _ _ l0_1 _ _ l0_2 t690 t691 _ ?side1 ?side2 ?side3 ?side4 A5.out).mono ?_
      (case side1 => repeat (first | exact (Kd.C_below HR0_1.out (uH HB.out)) | (with_reducible refine Kd.C_alloc ?_ _) | (with_reducible refine Kd.C_drewN ?_ _) | (with_reducible refine Kd.C_drew ?_)))
      (case side2 => exact HC0_1.out)
      (case side3 => repeat (first | exact (Kd.C_below HR0_2.out (uH HB.out)) | (with_reducible refine Kd.C_alloc ?_ _) | (with_reducible refine Kd.C_drewN ?_ _) | (with_reducible refine Kd.C_drew ?_)))
      (case side4 => exact HC0_2.out)
      rintro e w34 ⟨rfl, hb⟩
      refine ⟨_, rfl, ?_⟩
      have n0_ := xB BK688 hb
      have n1_ := xH HB hb
      clear BK688 HB
      have BK688 := n0_; have HB := n1_
      clear n0_ n1_
      (try clear hb); (try clear hb2); (try clear hk); (try clear hi)
      refine hK.out _ _ ⟨(blk_cell BK688.out 0).trans rfl, (blk_cell BK688.out 1).trans rfl, (blk_cell BK688.out 2).trans rfl⟩ (fun hHeld => ?_)
      clear hK K
      refine no_ 14 ?_
      refine pure_ (i := 6) (N := some 6) (v := ?_) (a' := ?_) (bl 7 127) rfl rfl (by kernel_rfl) (fun _ _ _ h => h) (Or.inl ⟨by rfl, ?_⟩) ?_ ?_
      rotate_left
      ·intro w'
       go_simp
       with_reducible rfl
      rotate_left
      ·simp only [Act.put, ls, lz, ln, i64_w, i32_w]
       rfl
      refine done_ (by kernel_rfl) ?_
      try go_wp2
      have n0_ := zA (blk_drew BK688.out)
      have n1_ := zA (below_drew1 HB.out)
      clear BK688 HB
      have BK688 := n0_; have HB := n1_
      clear n0_ n1_
      refine start_ (n := 10) (S := fun w' => w'.cell? ⟨gb688, 0, none⟩ = some (.int .i64 a0_0) ∧ w'.cell? ⟨gb688, 1, none⟩ = some (.slice A0_1 l0_1.length c0_1) ∧ w'.cell? ⟨gb688, 2, none⟩ = some (.slice A0_2 l0_2.length c0_2)) (ds := []) #[false, false, false, false, false, false, false, false, false, false] (by kernel_rfl) rfl rfl ⟨(blk_cell BK688.out 0).trans rfl, (blk_cell BK688.out 1).trans rfl, (blk_cell BK688.out 2).trans rfl⟩ (fun hHeld => ?_); refine with_tabW impl_ChristoffelAt.tab4 impl_ChristoffelAt.bits4 (fun HT_ HW_ => ?_)
      generalize w34.drew = w35 at BK688 HB hHeld ⊢
      refine ta_ 0 18 (bl 10 1) HT_ HW_ hHeld ?_
      refine ta_ 2 20 (bl 10 5) HT_ HW_ hHeld ?_
      refine ta_ 4 22 (bl 10 21) HT_ HW_ hHeld ?_
      refine on_ 1 (some 19) (bl 10 23) HT_ (fun K hK => ?_)
      refine goes_ Try.func76 (by kernel_rfl) rfl #[.agg #[.int .i64 a0_0, .slice A0_1 l0_1.length c0_1, .slice A0_2 l0_2.length c0_2]] (by rfl) rfl rfl (by (try simp only [la, lb, lc]); first | done | rfl | (simp only [ld, le]; rfl)) ?_
      with_reducible refine (impl_Jacobi_field.calls a0_0 _ _ l0_1 _ _ l0_2 t692 _ ?side1 ?side2 ?side3 ?side4 A7.out).mono ?_
      (case side1 => exact uC ((Kd.C_below HR0_1.out HB.out)))
      (case side2 => exact HC0_1.out)
      (case side3 => exact uC ((Kd.C_below HR0_2.out HB.out)))
      (case side4 => exact HC0_2.out)
      rintro e w36 ⟨rfl, hb⟩
      refine ⟨_, rfl, ?_⟩
      have n0_ := xB BK688 hb
      have n1_ := xH HB hb
      clear BK688 HB
      have BK688 := n0_; have HB := n1_
      clear n0_ n1_
      (try clear hb); (try clear hb2); (try clear hk); (try clear hi)
      refine hK.out _ _ ⟨(blk_cell BK688.out 0).trans rfl, (blk_cell BK688.out 1).trans rfl, (blk_cell BK688.out 2).trans rfl⟩ (fun hHeld => ?_)
      clear hK K
      refine no_ 19 ?_
      refine on_ 3 (some 21) (bl 10 31) HT_ (fun K hK => ?_)
      refine goes_ Try.func79 (by kernel_rfl) rfl #[.agg #[.int .i64 a0_0, .slice A0_1 l0_1.length c0_1, .slice A0_2 l0_2.length c0_2]] (by rfl) rfl rfl (by (try simp only [la, lb, lc]); first | done | rfl | (simp only [ld, le]; rfl)) ?_
      with_reducible refine (impl_Jacobi_polys.calls k a0_0 _ _ l0_1 _ _ l0_2 t693 _ ?side1 ?side2 ?side3 ?side4 A8.out).mono ?_
      (case side1 => exact uC ((Kd.C_below HR0_1.out HB.out)))
      (case side2 => exact HC0_1.out)
      (case side3 => exact uC ((Kd.C_below HR0_2.out HB.out)))
      (case side4 => exact HC0_2.out)
      rintro e w37 ⟨v694, rfl, ho0, hb⟩
      refine ⟨_, rfl, ?_⟩
      have n0_ := zA (Kd.N_lower (Kd.N_mono (ok' := fun k_ => k_ ≠ gb688) ho0 (fun k_ hk_ => (Kd.freshB (g := gb688) (o := .cells #[.int .i64 a0_0, .slice A0_1 l0_1.length c0_1, .slice A0_2 l0_2.length c0_2] 46 (0, 0)) (uB BK688.out) k_ hk_))) (below_size (uH HB.out)))
      have n1_ := xB BK688 hb
      have n2_ := xH HB hb
      clear BK688 HB
      have HO695 := n0_; have BK688 := n1_; have HB := n2_
      clear n0_ n1_ n2_
      (try clear hb); (try clear hb2); (try clear hk); (try clear hi); (try clear ho0)
      refine hK.out _ _ ⟨(blk_cell BK688.out 0).trans rfl, (blk_cell BK688.out 1).trans rfl, (blk_cell BK688.out 2).trans rfl⟩ (fun hHeld => ?_)
      clear hK K
      refine no_ 21 ?_
      refine on_ 5 (some 23) (bl 10 63) HT_ (fun K hK => ?_)
      refine goes_ Try.func75 (by kernel_rfl) rfl #[.agg #[.int .i64 a0_0, .slice A0_1 l0_1.length c0_1, .slice A0_2 l0_2.length c0_2]] (by rfl) rfl rfl (by (try simp only [la, lb, lc]); first | done | rfl | (simp only [ld, le]; rfl)) ?_
      with_reducible refine (impl_Jacobi_size.calls a0_0 _ _ l0_1 _ _ l0_2 t696 _ ?side1 ?side2 ?side3 ?side4 A9.out).mono ?_
      (case side1 => exact uC ((Kd.C_below HR0_1.out HB.out)))
      (case side2 => exact HC0_1.out)
      (case side3 => exact uC ((Kd.C_below HR0_2.out HB.out)))
      (case side4 => exact HC0_2.out)
      rintro e w38 ⟨rfl, hb⟩
      refine ⟨_, rfl, ?_⟩
      have n0_ := zA (Kd.N_below (by (with_reducible repeat (first | apply Kd.N_alloc | apply Kd.N_drewN | apply Kd.N_drew)); exact HO695.out) hb)
      have n1_ := xB BK688 hb
      have n2_ := xH HB hb
      clear HO695 BK688 HB
      have HO695 := n0_; have BK688 := n1_; have HB := n2_
      clear n0_ n1_ n2_
      (try clear hb); (try clear hb2); (try clear hk); (try clear hi)
      obtain ⟨Ao39, co39, eo39⟩ := Kd.N_slice HO695.out
      (first | subst eo39 | (injection eo39 with f1_ f2_ f3_; have f4_ := f1_.symm; have f5_ := f3_.symm; clear f1_ f2_ f3_; subst f4_; subst f5_))
      have p697 : 0 ≤ (t696 : Int) := of_decide_eq_true (by first | (with_reducible assumption) | assumption)
      have q697 : t696 < (t693.length : Int) := of_decide_eq_true (by first | (with_reducible assumption) | assumption)
      obtain ⟨ad697, A697_0, c697_0, e697, hx697_0, hl697_0, hi697_0⟩ := at_L1 (Kd.N_reads' HO695.out).2.2 t696 p697 q697
      cases e697
      obtain ⟨ce697, hce697, hMe697, hcc697⟩ := Kd.N_get HO695.out [] t696 p697 (by first | exact q697 | exact of_decide_eq_true (by first | (with_reducible assumption) | assumption) | (have e_ := (Kd.N_reads' HO695.out).1; omega))
      obtain ⟨ua697_0, uc697_0, rfl, ul697_0, ge697_0⟩ := Kd.FK_slice_open hMe697
      have hv697_0 := hcc697 0 _ rfl
      rw [Nat.add_zero, show ((Kd.slice 2 (Kd.int .i64))).sz = 1 from rfl, Nat.mul_one] at hv697_0
      replace hv697_0 := Option.some.inj (hv697_0.symm.trans hx697_0)
      injection hv697_0 with hva_ hvn_ hvc_
      rw [hva_] at ge697_0
      rw [hvc_] at ul697_0
      have HL697_0 := zA (show Kd.V (Kd.int .i64) 2 _ w.heap.size _ _ (rd_L1 t693 t696) from Kd.V_mk ul697_0 ge697_0)
      clear hva_ hvn_ hvc_ ge697_0 ul697_0
      clear hcc697 hce697
      have HR697_0 := zA hi697_0
      have HC697_0 := zA hl697_0
      clear hi697_0 hl697_0
      replace p697 := eq_true p697
      replace q697 := eq_true q697
      refine hK.out _ _ ⟨(blk_cell BK688.out 0).trans rfl, (blk_cell BK688.out 1).trans rfl, (blk_cell BK688.out 2).trans rfl⟩ (fun hHeld => ?_)
      clear hK K
      refine no_ 23 ?_
      refine pu_ 6 24 (bl 10 127) HT_ ?_
      refine pu_ 8 7 (bl 10 383) HT_ ?_
      refine lo_ 7 25 (bl 10 511) HT_ hHeld ?_
      refine pu_ 9 8 (bl 10 1023) HT_ ?_
      refine done_ (done_of HT_.out (by kernel_rfl)) ?_
      try go_wp2_with (first | ((with_reducible refine gate_callee (f := 78) rfl ?_); refine goesL_ (some 29) rfl rfl Try.func78 (by kernel_rfl) rfl #[.int .i64 t692, .slice A697_0 (rd_L1 t693 t696).length c697_0, .int .i64 a1] rfl (by (try simp only [la, lb, lc]); first | done | rfl | (simp only [ld, le]; rfl)) ?_; (with_reducible refine (impl_field_value.calls t692 _ _ (rd_L1 t693 t696) a1 t698 _ ?side1 ?side2 A12.out).mono ?_); (case side1 => repeat (first | exact (by repeat (first | (with_reducible exact HR697_0.out) | (with_reducible refine Kd.C_alloc ?_ _) | (with_reducible refine Kd.C_drewN ?_ _) | (with_reducible refine Kd.C_drew ?_) | exact HR697_0.out)) | (with_reducible refine Kd.C_alloc ?_ _) | (with_reducible refine Kd.C_drewN ?_ _) | (with_reducible refine Kd.C_drew ?_))); (case side2 => exact HC697_0.out); rintro e w40 ⟨rfl, hb⟩; refine ⟨_, rfl, ?_⟩; have n0_ := zA (Kd.N_below (by (with_reducible repeat (first | apply Kd.N_alloc | apply Kd.N_drewN | apply Kd.N_drew)); exact HO695.out) hb); have n1_ := zA (Kd.V_below (by (with_reducible repeat (first | apply Kd.V_alloc | apply Kd.V_drewN | apply Kd.V_drew)); exact HL697_0.out) hb); have n2_ := xB BK688 hb; have n3_ := zA (Kd.C_below (by repeat (first | (with_reducible exact HR697_0.out) | (with_reducible refine Kd.C_alloc ?_ _) | (with_reducible refine Kd.C_drewN ?_ _) | (with_reducible refine Kd.C_drew ?_) | exact HR697_0.out)) hb); have n4_ := xH HB hb; clear HO695 HL697_0 BK688 HR697_0 HB; have HO695 := n0_; have HL697_0 := n1_; have BK688 := n2_; have HR697_0 := n3_; have HB := n4_; clear n0_ n1_ n2_ n3_ n4_; (try clear hb); (try clear hb2); (try clear hk); (try clear hi)) | (go_at_call 83; (with_reducible refine (impl_field_derivative.calls k t692 _ _ (rd_L1 t693 t696) t699 _ ?side1 ?side2 A14.out).mono ?_); (case side1 => repeat (first | exact (by repeat (first | (with_reducible exact HR697_0.out) | (with_reducible refine Kd.C_alloc ?_ _) | (with_reducible refine Kd.C_drewN ?_ _) | (with_reducible refine Kd.C_drew ?_) | exact HR697_0.out)) | (with_reducible refine Kd.C_alloc ?_ _) | (with_reducible refine Kd.C_drewN ?_ _) | (with_reducible refine Kd.C_drew ?_))); (case side2 => exact HC697_0.out); rintro e w41 ⟨v700, rfl, ho0, hb⟩; have n0_ := zA (Kd.N_elder' (by (with_reducible repeat (first | apply Kd.N_alloc | apply Kd.N_drewN | apply Kd.N_drew)); exact HO695.out) (Kd.R_base ho0) hb); have n1_ := zA (Kd.V_elder' (by (with_reducible repeat (first | apply Kd.V_alloc | apply Kd.V_drewN | apply Kd.V_drew)); exact HL697_0.out) (Kd.R_base ho0) hb); have n2_ := zA (Kd.R_lower ho0 (below_size (uH HB.out))); have n3_ := xB BK688 hb; have n4_ := zA (Kd.C_below (by repeat (first | (with_reducible exact HR697_0.out) | (with_reducible refine Kd.C_alloc ?_ _) | (with_reducible refine Kd.C_drewN ?_ _) | (with_reducible refine Kd.C_drew ?_) | exact HR697_0.out)) hb); have n5_ := xH HB hb; clear HO695 HL697_0 BK688 HR697_0 HB; have HO695 := n0_; have HL697_0 := n1_; have HO701 := n2_; have BK688 := n3_; have HR697_0 := n4_; have HB := n5_; clear n0_ n1_ n2_ n3_ n4_ n5_; (try clear hb); (try clear hb2); (try clear hk); (try clear hi); (try clear ho0); obtain ⟨Ao42, co42, eo42⟩ := Kd.R_slice HO701.out; subst eo42) | (go_at_call 78; (with_reducible refine (impl_field_value.calls t692 _ _ t699 a1 t702 _ ?side1 ?side2 A15.out).mono ?_); (case side1 => exact uC ((Kd.R_reads' HO701.out).2.2)); (case side2 => exact (Kd.R_reads' HO701.out).2.1); rintro e w43 ⟨rfl, hb⟩; have n0_ := zA (Kd.N_below (by (with_reducible repeat (first | apply Kd.N_alloc | apply Kd.N_drewN | apply Kd.N_drew)); exact HO695.out) hb); have n1_ := zA (Kd.V_below (by (with_reducible repeat (first | apply Kd.V_alloc | apply Kd.V_drewN | apply Kd.V_drew)); exact HL697_0.out) hb); have n2_ := xR HO701 hb; have n3_ := xB BK688 hb; have n4_ := zA (Kd.C_below (by repeat (first | (with_reducible exact HR697_0.out) | (with_reducible refine Kd.C_alloc ?_ _) | (with_reducible refine Kd.C_drewN ?_ _) | (with_reducible refine Kd.C_drew ?_) | exact HR697_0.out)) hb); have n5_ := xH HB hb; clear HO695 HL697_0 HO701 BK688 HR697_0 HB; have HO695 := n0_; have HL697_0 := n1_; have HO701 := n2_; have BK688 := n3_; have HR697_0 := n4_; have HB := n5_; clear n0_ n1_ n2_ n3_ n4_ n5_; (try clear hb); (try clear hb2); (try clear hk); (try clear hi); have hcz44_0 : w43.cell? ⟨gb688, 0, none⟩ = some (.int .i64 a0_0) := (blk_cell BK688.out 0).trans rfl; have hcz44_1 : w43.cell? ⟨gb688, 1, none⟩ = some (.slice A0_1 l0_1.length c0_1) := (blk_cell BK688.out 1).trans rfl; have hcz44_2 : w43.cell? ⟨gb688, 2, none⟩ = some (.slice A0_2 l0_2.length c0_2) := (blk_cell BK688.out 2).trans rfl; have hfz44_0 := blk_frozen BK688.out 0; have hfz44_1 := blk_frozen BK688.out 1; have hfz44_2 := blk_frozen BK688.out 2) | ((with_reducible refine gate_callee (f := 84) rfl ?_); refine goesL_ (some 42) rfl rfl Try.func84 (by kernel_rfl) rfl #[.agg #[.int .i64 a0_0, .slice A0_1 l0_1.length c0_1, .slice A0_2 l0_2.length c0_2], .int .i64 a1] rfl (by (try simp only [la, lb, lc]); first | done | rfl | (simp only [ld, le]; rfl)) ?_; (with_reducible refine (impl_Jacobi_christoffel.calls k a0_0 _ _ l0_1 _ _ l0_2 a1 t703 _ ?side1 ?side2 ?side3 ?side4 A30.out).mono ?_); (case side1 => exact uC ((Kd.C_below HR0_1.out HB.out))); (case side2 => exact HC0_1.out); (case side3 => exact uC ((Kd.C_below HR0_2.out HB.out))); (case side4 => exact HC0_2.out); rintro e w45 ⟨rfl, hb⟩; refine ⟨_, rfl, ?_⟩; have n0_ := zA (Kd.N_below (by (with_reducible repeat (first | apply Kd.N_alloc | apply Kd.N_drewN | apply Kd.N_drew)); exact HO695.out) hb); have n1_ := zA (Kd.V_below (by (with_reducible repeat (first | apply Kd.V_alloc | apply Kd.V_drewN | apply Kd.V_drew)); exact HL697_0.out) hb); have n2_ := xR HO701 hb; have n3_ := xB BK688 hb; have n4_ := zA (Kd.C_below (by repeat (first | (with_reducible exact HR697_0.out) | (with_reducible refine Kd.C_alloc ?_ _) | (with_reducible refine Kd.C_drewN ?_ _) | (with_reducible refine Kd.C_drew ?_) | exact HR697_0.out)) hb); have n5_ := xH HB hb; clear HO695 HL697_0 HO701 BK688 HR697_0 HB; have HO695 := n0_; have HL697_0 := n1_; have HO701 := n2_; have BK688 := n3_; have HR697_0 := n4_; have HB := n5_; clear n0_ n1_ n2_ n3_ n4_ n5_; (try clear hb); (try clear hb2); (try clear hk); (try clear hi)))
      go_ret2
      exact ⟨by first | rfl | (simp [errW_none, errW_some] <;> rfl) | (simp [*, errW_none, errW_some] <;> rfl), uH HB.out⟩
    ·rw [if_neg c13] at H
     have c13b0 : (t698 == 0) = false := beq_eq_false_iff_ne.mpr c13
     have c13b1 : (t698 != 0) = true := bne_iff_ne.mpr c13
     simp only [Option.some.injEq, Prod.mk.injEq] at H
     obtain ⟨rfl, rfl⟩ := H
     go_enter Try.func33, Try.ntmps33
     try go_wp2_with (first | ((with_reducible refine gate_dst (N := 2) rfl ?_); refine box_event ?hg (N := 2) ?hd (cs := #[.int .i64 a0_0, .slice A0_1 l0_1.length c0_1, .slice A0_2 l0_2.length c0_2]) (t := 46) ?hr ?_; (case hd => rfl); (case hg => rfl); (case hr => first | (go_simp; done) | (go_simp; rfl)); intro gb688 hg w46 hbox hb; have n0_ := xH HB hb; have n1_ := zA (hbox); have n2_ := zA ((by rw [hg]; exact (below_size (uH HB.out)) : w.heap.size ≤ gb688)); have n3_ := zA ((by rw [hg]; exact (below_size (uH HB.out)) : w.heap.size ≤ gb688)); clear HB; have HB := n0_; have BK688 := n1_; have GW688 := n2_; have GE688 := n3_; have := geI GE688; clear n0_ n1_ n2_ n3_ hb hbox hg))
     have n0_ := zA (blk_drew BK688.out)
     have n1_ := zA (below_drew1 HB.out)
     clear BK688 HB
     have BK688 := n0_; have HB := n1_
     clear n0_ n1_
     refine start_ (n := 7) (S := fun w' => w'.cell? ⟨gb688, 0, none⟩ = some (.int .i64 a0_0) ∧ w'.cell? ⟨gb688, 1, none⟩ = some (.slice A0_1 l0_1.length c0_1) ∧ w'.cell? ⟨gb688, 2, none⟩ = some (.slice A0_2 l0_2.length c0_2)) (ds := []) #[false, false, false, false, false, false, false] (by kernel_rfl) rfl rfl ⟨(blk_cell BK688.out 0).trans rfl, (blk_cell BK688.out 1).trans rfl, (blk_cell BK688.out 2).trans rfl⟩ (fun hHeld => ?_)
     generalize w46.drew = w47 at BK688 HB hHeld ⊢
     refine pure_ (i := 3) (N := some 12) (v := ?_) (a' := ?_) (bl 7 8) rfl rfl (by kernel_rfl) (fun _ _ _ h => h) (Or.inl ⟨by rfl, ?_⟩) ?_ ?_
     rotate_left
     ·intro w'
      go_simp
      with_reducible rfl
     rotate_left
     ·simp only [Act.put, ls, lz, ln, i64_w, i32_w]
      rfl
     refine take_ (i := 0) (N := some 9) (v := ?_) (a' := ?_) (bl 7 9) rfl rfl (by kernel_rfl) (fun _ _ _ h => h) (Or.inl ⟨by rfl, ?_⟩) hHeld ?_ ?_
     rotate_left
     ·rintro w' ⟨s0, s1, s2⟩
      go_simp
      with_reducible rfl
     rotate_left
     ·simp only [Act.put, ls, lz, ln, i64_w, i32_w]
      rfl
     refine take_ (i := 1) (N := some 10) (v := ?_) (a' := ?_) (bl 7 11) rfl rfl (by kernel_rfl) (fun _ _ _ h => h) (Or.inl ⟨by rfl, ?_⟩) hHeld ?_ ?_
     rotate_left
     ·rintro w' ⟨s0, s1, s2⟩
      go_simp
      with_reducible rfl
     rotate_left
     ·simp only [Act.put, ls, lz, ln, i64_w, i32_w]
      rfl
     refine one_ (i := 2) (N := some 11) (bl 7 15) rfl rfl (by kernel_rfl) (by decide) (fun K hK => ?_)
     refine goes_ Try.func76 (by kernel_rfl) rfl #[.agg #[.int .i64 a0_0, .slice A0_1 l0_1.length c0_1, .slice A0_2 l0_2.length c0_2]] (by rfl) rfl rfl (by (try simp only [la, lb, lc]); first | done | rfl | (simp only [ld, le]; rfl)) ?_
     with_reducible refine (impl_Jacobi_field.calls a0_0 _ _ l0_1 _ _ l0_2 t689 _ ?side1 ?side2 ?side3 ?side4 A3.out).mono ?_
     (case side1 => exact uC ((Kd.C_below HR0_1.out HB.out)))
     (case side2 => exact HC0_1.out)
     (case side3 => exact uC ((Kd.C_below HR0_2.out HB.out)))
     (case side4 => exact HC0_2.out)
     rintro e w48 ⟨rfl, hb⟩
     refine ⟨_, rfl, ?_⟩
     have n0_ := xB BK688 hb
     have n1_ := xH HB hb
     clear BK688 HB
     have BK688 := n0_; have HB := n1_
     clear n0_ n1_
     (try clear hb); (try clear hb2); (try clear hk); (try clear hi)
     refine hK.out _ _ ⟨(blk_cell BK688.out 0).trans rfl, (blk_cell BK688.out 1).trans rfl, (blk_cell BK688.out 2).trans rfl⟩ (fun hHeld => ?_)
     clear hK K
     refine no_ 11 ?_
     refine one_ (i := 4) (N := some 13) (bl 7 31) rfl rfl (by kernel_rfl) (by decide) (fun K hK => ?_)
     refine goes_ Try.func77 (by kernel_rfl) rfl #[.int .i64 t689, .int .i64 a1] (by rfl) rfl rfl (by (try simp only [la, lb, lc]); first | done | rfl | (simp only [ld, le]; rfl)) ?_
     with_reducible refine (impl_field_has.calls t689 a1 t690 _ A4.out).mono ?_
     rintro e w' ⟨rfl, ⟨nd, rfl⟩⟩
     refine ⟨_, rfl, ?_⟩
     refine hK.out _ _ ⟨(blk_cell BK688.out 0).trans rfl, (blk_cell BK688.out 1).trans rfl, (blk_cell BK688.out 2).trans rfl⟩ (fun hHeld => ?_)
     clear hK K
     refine no_ 13 ?_
     refine one_ (i := 5) (N := some 14) (bl 7 63) rfl rfl (by kernel_rfl) (by decide) (fun K hK => ?_)
     refine goes_ Try.func73 (by kernel_rfl) rfl #[.agg #[.int .i64 a0_0, .slice A0_1 l0_1.length c0_1, .slice A0_2 l0_2.length c0_2], .bool t690] (by rfl) rfl rfl (by (try simp only [la, lb, lc]); first | done | rfl | (simp only [ld, le]; rfl)) ?_
     with_reducible refine (impl_jacobiCode.calls k a0_0 _ _ l0_1 _ _ l0_2 t690 t691 _ ?side1 ?side2 ?side3 ?side4 A5.out).mono ?_
     (case side1 => repeat (first | exact (Kd.C_below HR0_1.out (uH HB.out)) | (with_reducible refine Kd.C_alloc ?_ _) | (with_reducible refine Kd.C_drewN ?_ _) | (with_reducible refine Kd.C_drew ?_)))
     (case side2 => exact HC0_1.out)
     (case side3 => repeat (first | exact (Kd.C_below HR0_2.out (uH HB.out)) | (with_reducible refine Kd.C_alloc ?_ _) | (with_reducible refine Kd.C_drewN ?_ _) | (with_reducible refine Kd.C_drew ?_)))
     (case side4 => exact HC0_2.out)
     rintro e w49 ⟨rfl, hb⟩
     refine ⟨_, rfl, ?_⟩
     have n0_ := xB BK688 hb
     have n1_ := xH HB hb
     clear BK688 HB
     have BK688 := n0_; have HB := n1_
     clear n0_ n1_
     (try clear hb); (try clear hb2); (try clear hk); (try clear hi)
     refine hK.out _ _ ⟨(blk_cell BK688.out 0).trans rfl, (blk_cell BK688.out 1).trans rfl, (blk_cell BK688.out 2).trans rfl⟩ (fun hHeld => ?_)
     clear hK K
     refine no_ 14 ?_
     refine pure_ (i := 6) (N := some 6) (v := ?_) (a' := ?_) (bl 7 127) rfl rfl (by kernel_rfl) (fun _ _ _ h => h) (Or.inl ⟨by rfl, ?_⟩) ?_ ?_
     rotate_left
     ·intro w'
      go_simp
      with_reducible rfl
     rotate_left
     ·simp only [Act.put, ls, lz, ln, i64_w, i32_w]
      rfl
     refine done_ (by kernel_rfl) ?_
     try go_wp2
     have n0_ := zA (blk_drew BK688.out)
     have n1_ := zA (below_drew1 HB.out)
     clear BK688 HB
     have BK688 := n0_; have HB := n1_
     clear n0_ n1_
     refine start_ (n := 10) (S := fun w' => w'.cell? ⟨gb688, 0, none⟩ = some (.int .i64 a0_0) ∧ w'.cell? ⟨gb688, 1, none⟩ = some (.slice A0_1 l0_1.length c0_1) ∧ w'.cell? ⟨gb688, 2, none⟩ = some (.slice A0_2 l0_2.length c0_2)) (ds := []) #[false, false, false, false, false, false, false, false, false, false] (by kernel_rfl) rfl rfl ⟨(blk_cell BK688.out 0).trans rfl, (blk_cell BK688.out 1).trans rfl, (blk_cell BK688.out 2).trans rfl⟩ (fun hHeld => ?_); refine with_tabW impl_ChristoffelAt.tab4 impl_ChristoffelAt.bits4 (fun HT_ HW_ => ?_)
     generalize w49.drew = w50 at BK688 HB hHeld ⊢
     refine ta_ 0 18 (bl 10 1) HT_ HW_ hHeld ?_
     refine ta_ 2 20 (bl 10 5) HT_ HW_ hHeld ?_
     refine ta_ 4 22 (bl 10 21) HT_ HW_ hHeld ?_
     refine on_ 1 (some 19) (bl 10 23) HT_ (fun K hK => ?_)
     refine goes_ Try.func76 (by kernel_rfl) rfl #[.agg #[.int .i64 a0_0, .slice A0_1 l0_1.length c0_1, .slice A0_2 l0_2.length c0_2]] (by rfl) rfl rfl (by (try simp only [la, lb, lc]); first | done | rfl | (simp only [ld, le]; rfl)) ?_
     with_reducible refine (impl_Jacobi_field.calls a0_0 _ _ l0_1 _ _ l0_2 t692 _ ?side1 ?side2 ?side3 ?side4 A7.out).mono ?_
     (case side1 => exact uC ((Kd.C_below HR0_1.out HB.out)))
     (case side2 => exact HC0_1.out)
     (case side3 => exact uC ((Kd.C_below HR0_2.out HB.out)))
     (case side4 => exact HC0_2.out)
     rintro e w51 ⟨rfl, hb⟩
     refine ⟨_, rfl, ?_⟩
     have n0_ := xB BK688 hb
     have n1_ := xH HB hb
     clear BK688 HB
     have BK688 := n0_; have HB := n1_
     clear n0_ n1_
     (try clear hb); (try clear hb2); (try clear hk); (try clear hi)
     refine hK.out _ _ ⟨(blk_cell BK688.out 0).trans rfl, (blk_cell BK688.out 1).trans rfl, (blk_cell BK688.out 2).trans rfl⟩ (fun hHeld => ?_)
     clear hK K
     refine no_ 19 ?_
     refine on_ 3 (some 21) (bl 10 31) HT_ (fun K hK => ?_)
     refine goes_ Try.func79 (by kernel_rfl) rfl #[.agg #[.int .i64 a0_0, .slice A0_1 l0_1.length c0_1, .slice A0_2 l0_2.length c0_2]] (by rfl) rfl rfl (by (try simp only [la, lb, lc]); first | done | rfl | (simp only [ld, le]; rfl)) ?_
     with_reducible refine (impl_Jacobi_polys.calls k a0_0 _ _ l0_1 _ _ l0_2 t693 _ ?side1 ?side2 ?side3 ?side4 A8.out).mono ?_
     (case side1 => exact uC ((Kd.C_below HR0_1.out HB.out)))
     (case side2 => exact HC0_1.out)
     (case side3 => exact uC ((Kd.C_below HR0_2.out HB.out)))
     (case side4 => exact HC0_2.out)
     rintro e w52 ⟨v694, rfl, ho0, hb⟩
     refine ⟨_, rfl, ?_⟩
     have n0_ := zA (Kd.N_lower (Kd.N_mono (ok' := fun k_ => k_ ≠ gb688) ho0 (fun k_ hk_ => (Kd.freshB (g := gb688) (o := .cells #[.int .i64 a0_0, .slice A0_1 l0_1.length c0_1, .slice A0_2 l0_2.length c0_2] 46 (0, 0)) (uB BK688.out) k_ hk_))) (below_size (uH HB.out)))
     have n1_ := xB BK688 hb
     have n2_ := xH HB hb
     clear BK688 HB
     have HO695 := n0_; have BK688 := n1_; have HB := n2_
     clear n0_ n1_ n2_
     (try clear hb); (try clear hb2); (try clear hk); (try clear hi); (try clear ho0)
     refine hK.out _ _ ⟨(blk_cell BK688.out 0).trans rfl, (blk_cell BK688.out 1).trans rfl, (blk_cell BK688.out 2).trans rfl⟩ (fun hHeld => ?_)
     clear hK K
     refine no_ 21 ?_
     refine on_ 5 (some 23) (bl 10 63) HT_ (fun K hK => ?_)
     refine goes_ Try.func75 (by kernel_rfl) rfl #[.agg #[.int .i64 a0_0, .slice A0_1 l0_1.length c0_1, .slice A0_2 l0_2.length c0_2]] (by rfl) rfl rfl (by (try simp only [la, lb, lc]); first | done | rfl | (simp only [ld, le]; rfl)) ?_
     with_reducible refine (impl_Jacobi_size.calls a0_0 _ _ l0_1 _ _ l0_2 t696 _ ?side1 ?side2 ?side3 ?side4 A9.out).mono ?_
     (case side1 => exact uC ((Kd.C_below HR0_1.out HB.out)))
     (case side2 => exact HC0_1.out)
     (case side3 => exact uC ((Kd.C_below HR0_2.out HB.out)))
     (case side4 => exact HC0_2.out)
     rintro e w53 ⟨rfl, hb⟩
     refine ⟨_, rfl, ?_⟩
     have n0_ := zA (Kd.N_below (by (with_reducible repeat (first | apply Kd.N_alloc | apply Kd.N_drewN | apply Kd.N_drew)); exact HO695.out) hb)
     have n1_ := xB BK688 hb
     have n2_ := xH HB hb
     clear HO695 BK688 HB
     have HO695 := n0_; have BK688 := n1_; have HB := n2_
     clear n0_ n1_ n2_
     (try clear hb); (try clear hb2); (try clear hk); (try clear hi)
     obtain ⟨Ao54, co54, eo54⟩ := Kd.N_slice HO695.out
     (first | subst eo54 | (injection eo54 with f1_ f2_ f3_; have f4_ := f1_.symm; have f5_ := f3_.symm; clear f1_ f2_ f3_; subst f4_; subst f5_))
     have p697 : 0 ≤ (t696 : Int) := of_decide_eq_true (by first | (with_reducible assumption) | assumption)
     have q697 : t696 < (t693.length : Int) := of_decide_eq_true (by first | (with_reducible assumption) | assumption)
     obtain ⟨ad697, A697_0, c697_0, e697, hx697_0, hl697_0, hi697_0⟩ := at_L1 (Kd.N_reads' HO695.out).2.2 t696 p697 q697
     cases e697
     obtain ⟨ce697, hce697, hMe697, hcc697⟩ := Kd.N_get HO695.out [] t696 p697 (by first | exact q697 | exact of_decide_eq_true (by first | (with_reducible assumption) | assumption) | (have e_ := (Kd.N_reads' HO695.out).1; omega))
     obtain ⟨ua697_0, uc697_0, rfl, ul697_0, ge697_0⟩ := Kd.FK_slice_open hMe697
     have hv697_0 := hcc697 0 _ rfl
     rw [Nat.add_zero, show ((Kd.slice 2 (Kd.int .i64))).sz = 1 from rfl, Nat.mul_one] at hv697_0
     replace hv697_0 := Option.some.inj (hv697_0.symm.trans hx697_0)
     injection hv697_0 with hva_ hvn_ hvc_
     rw [hva_] at ge697_0
     rw [hvc_] at ul697_0
     have HL697_0 := zA (show Kd.V (Kd.int .i64) 2 _ w.heap.size _ _ (rd_L1 t693 t696) from Kd.V_mk ul697_0 ge697_0)
     clear hva_ hvn_ hvc_ ge697_0 ul697_0
     clear hcc697 hce697
     have HR697_0 := zA hi697_0
     have HC697_0 := zA hl697_0
     clear hi697_0 hl697_0
     replace p697 := eq_true p697
     replace q697 := eq_true q697
     refine hK.out _ _ ⟨(blk_cell BK688.out 0).trans rfl, (blk_cell BK688.out 1).trans rfl, (blk_cell BK688.out 2).trans rfl⟩ (fun hHeld => ?_)
     clear hK K
     refine no_ 23 ?_
     refine pu_ 6 24 (bl 10 127) HT_ ?_
     refine pu_ 8 7 (bl 10 383) HT_ ?_
     refine lo_ 7 25 (bl 10 511) HT_ hHeld ?_
     refine pu_ 9 8 (bl 10 1023) HT_ ?_
     refine done_ (done_of HT_.out (by kernel_rfl)) ?_
     try go_wp2_with (first | ((with_reducible refine gate_callee (f := 78) rfl ?_); refine goesL_ (some 29) rfl rfl Try.func78 (by kernel_rfl) rfl #[.int .i64 t692, .slice A697_0 (rd_L1 t693 t696).length c697_0, .int .i64 a1] rfl (by (try simp only [la, lb, lc]); first | done | rfl | (simp only [ld, le]; rfl)) ?_; (with_reducible refine (impl_field_value.calls t692 _ _ (rd_L1 t693 t696) a1 t698 _ ?side1 ?side2 A12.out).mono ?_); (case side1 => repeat (first | exact (by repeat (first | (with_reducible exact HR697_0.out) | (with_reducible refine Kd.C_alloc ?_ _) | (with_reducible refine Kd.C_drewN ?_ _) | (with_reducible refine Kd.C_drew ?_) | exact HR697_0.out)) | (with_reducible refine Kd.C_alloc ?_ _) | (with_reducible refine Kd.C_drewN ?_ _) | (with_reducible refine Kd.C_drew ?_))); (case side2 => exact HC697_0.out); rintro e w55 ⟨rfl, hb⟩; refine ⟨_, rfl, ?_⟩; have n0_ := zA (Kd.N_below (by (with_reducible repeat (first | apply Kd.N_alloc | apply Kd.N_drewN | apply Kd.N_drew)); exact HO695.out) hb); have n1_ := zA (Kd.V_below (by (with_reducible repeat (first | apply Kd.V_alloc | apply Kd.V_drewN | apply Kd.V_drew)); exact HL697_0.out) hb); have n2_ := xB BK688 hb; have n3_ := zA (Kd.C_below (by repeat (first | (with_reducible exact HR697_0.out) | (with_reducible refine Kd.C_alloc ?_ _) | (with_reducible refine Kd.C_drewN ?_ _) | (with_reducible refine Kd.C_drew ?_) | exact HR697_0.out)) hb); have n4_ := xH HB hb; clear HO695 HL697_0 BK688 HR697_0 HB; have HO695 := n0_; have HL697_0 := n1_; have BK688 := n2_; have HR697_0 := n3_; have HB := n4_; clear n0_ n1_ n2_ n3_ n4_; (try clear hb); (try clear hb2); (try clear hk); (try clear hi)))
     go_ret2
     exact ⟨by first | rfl | (simp [errW_none, errW_some] <;> rfl) | (simp [*, errW_none, errW_some] <;> rfl), uH HB.out⟩
   ·rw [if_neg c11] at H
    exact absurd H (by simp)
  ·rw [if_neg c10] at H
   exact absurd H (by simp)
 ·rw [if_neg c6] at H
  have c6b0 : (t691 == 0) = false := beq_eq_false_iff_ne.mpr c6
  have c6b1 : (t691 != 0) = true := bne_iff_ne.mpr c6
  simp only [Option.some.injEq, Prod.mk.injEq] at H
  obtain ⟨rfl, rfl⟩ := H
  go_enter Try.func33, Try.ntmps33
  try go_wp2_with (first | ((with_reducible refine gate_dst (N := 2) rfl ?_); refine box_event ?hg (N := 2) ?hd (cs := #[.int .i64 a0_0, .slice A0_1 l0_1.length c0_1, .slice A0_2 l0_2.length c0_2]) (t := 46) ?hr ?_; (case hd => rfl); (case hg => rfl); (case hr => first | (go_simp; done) | (go_simp; rfl)); intro gb688 hg w56 hbox hb; have n0_ := xH HB hb; have n1_ := zA (hbox); have n2_ := zA ((by rw [hg]; exact (below_size (uH HB.out)) : w.heap.size ≤ gb688)); have n3_ := zA ((by rw [hg]; exact (below_size (uH HB.out)) : w.heap.size ≤ gb688)); clear HB; have HB := n0_; have BK688 := n1_; have GW688 := n2_; have GE688 := n3_; have := geI GE688; clear n0_ n1_ n2_ n3_ hb hbox hg))
  have n0_ := zA (blk_drew BK688.out)
  have n1_ := zA (below_drew1 HB.out)
  clear BK688 HB
  have BK688 := n0_; have HB := n1_
  clear n0_ n1_
  refine start_ (n := 7) (S := fun w' => w'.cell? ⟨gb688, 0, none⟩ = some (.int .i64 a0_0) ∧ w'.cell? ⟨gb688, 1, none⟩ = some (.slice A0_1 l0_1.length c0_1) ∧ w'.cell? ⟨gb688, 2, none⟩ = some (.slice A0_2 l0_2.length c0_2)) (ds := []) #[false, false, false, false, false, false, false] (by kernel_rfl) rfl rfl ⟨(blk_cell BK688.out 0).trans rfl, (blk_cell BK688.out 1).trans rfl, (blk_cell BK688.out 2).trans rfl⟩ (fun hHeld => ?_)
  generalize w56.drew = w57 at BK688 HB hHeld ⊢
  refine pure_ (i := 3) (N := some 12) (v := ?_) (a' := ?_) (bl 7 8) rfl rfl (by kernel_rfl) (fun _ _ _ h => h) (Or.inl ⟨by rfl, ?_⟩) ?_ ?_
  rotate_left
  ·intro w'
   go_simp
   with_reducible rfl
  rotate_left
  ·simp only [Act.put, ls, lz, ln, i64_w, i32_w]
   rfl
  refine take_ (i := 0) (N := some 9) (v := ?_) (a' := ?_) (bl 7 9) rfl rfl (by kernel_rfl) (fun _ _ _ h => h) (Or.inl ⟨by rfl, ?_⟩) hHeld ?_ ?_
  rotate_left
  ·rintro w' ⟨s0, s1, s2⟩
   go_simp
   with_reducible rfl
  rotate_left
  ·simp only [Act.put, ls, lz, ln, i64_w, i32_w]
   rfl
  refine take_ (i := 1) (N := some 10) (v := ?_) (a' := ?_) (bl 7 11) rfl rfl (by kernel_rfl) (fun _ _ _ h => h) (Or.inl ⟨by rfl, ?_⟩) hHeld ?_ ?_
  rotate_left
  ·rintro w' ⟨s0, s1, s2⟩
   go_simp
   with_reducible rfl
  rotate_left
  ·simp only [Act.put, ls, lz, ln, i64_w, i32_w]
   rfl
  refine one_ (i := 2) (N := some 11) (bl 7 15) rfl rfl (by kernel_rfl) (by decide) (fun K hK => ?_)
  refine goes_ Try.func76 (by kernel_rfl) rfl #[.agg #[.int .i64 a0_0, .slice A0_1 l0_1.length c0_1, .slice A0_2 l0_2.length c0_2]] (by rfl) rfl rfl (by (try simp only [la, lb, lc]); first | done | rfl | (simp only [ld, le]; rfl)) ?_
  with_reducible refine (impl_Jacobi_field.calls a0_0 _ _ l0_1 _ _ l0_2 t689 _ ?side1 ?side2 ?side3 ?side4 A3.out).mono ?_
  (case side1 => exact uC ((Kd.C_below HR0_1.out HB.out)))
  (case side2 => exact HC0_1.out)
  (case side3 => exact uC ((Kd.C_below HR0_2.out HB.out)))
  (case side4 => exact HC0_2.out)
  rintro e w58 ⟨rfl, hb⟩
  refine ⟨_, rfl, ?_⟩
  have n0_ := xB BK688 hb
  have n1_ := xH HB hb
  clear BK688 HB
  have BK688 := n0_; have HB := n1_
  clear n0_ n1_
  (try clear hb); (try clear hb2); (try clear hk); (try clear hi)
  refine hK.out _ _ ⟨(blk_cell BK688.out 0).trans rfl, (blk_cell BK688.out 1).trans rfl, (blk_cell BK688.out 2).trans rfl⟩ (fun hHeld => ?_)
  clear hK K
  refine no_ 11 ?_
  refine one_ (i := 4) (N := some 13) (bl 7 31) rfl rfl (by kernel_rfl) (by decide) (fun K hK => ?_)
  refine goes_ Try.func77 (by kernel_rfl) rfl #[.int .i64 t689, .int .i64 a1] (by rfl) rfl rfl (by (try simp only [la, lb, lc]); first | done | rfl | (simp only [ld, le]; rfl)) ?_
  with_reducible refine (impl_field_has.calls t689 a1 t690 _ A4.out).mono ?_
  rintro e w' ⟨rfl, ⟨nd, rfl⟩⟩
  refine ⟨_, rfl, ?_⟩
  refine hK.out _ _ ⟨(blk_cell BK688.out 0).trans rfl, (blk_cell BK688.out 1).trans rfl, (blk_cell BK688.out 2).trans rfl⟩ (fun hHeld => ?_)
  clear hK K
  refine no_ 13 ?_
  refine one_ (i := 5) (N := some 14) (bl 7 63) rfl rfl (by kernel_rfl) (by decide) (fun K hK => ?_)
  refine goes_ Try.func73 (by kernel_rfl) rfl #[.agg #[.int .i64 a0_0, .slice A0_1 l0_1.length c0_1, .slice A0_2 l0_2.length c0_2], .bool t690] (by rfl) rfl rfl (by (try simp only [la, lb, lc]); first | done | rfl | (simp only [ld, le]; rfl)) ?_
  with_reducible refine (impl_jacobiCode.calls k a0_0 _ _ l0_1 _ _ l0_2 t690 t691 _ ?side1 ?side2 ?side3 ?side4 A5.out).mono ?_
  (case side1 => repeat (first | exact (Kd.C_below HR0_1.out (uH HB.out)) | (with_reducible refine Kd.C_alloc ?_ _) | (with_reducible refine Kd.C_drewN ?_ _) | (with_reducible refine Kd.C_drew ?_)))
  (case side2 => exact HC0_1.out)
  (case side3 => repeat (first | exact (Kd.C_below HR0_2.out (uH HB.out)) | (with_reducible refine Kd.C_alloc ?_ _) | (with_reducible refine Kd.C_drewN ?_ _) | (with_reducible refine Kd.C_drew ?_)))
  (case side4 => exact HC0_2.out)
  rintro e w59 ⟨rfl, hb⟩
  refine ⟨_, rfl, ?_⟩
  have n0_ := xB BK688 hb
  have n1_ := xH HB hb
  clear BK688 HB
  have BK688 := n0_; have HB := n1_
  clear n0_ n1_
  (try clear hb); (try clear hb2); (try clear hk); (try clear hi)
  refine hK.out _ _ ⟨(blk_cell BK688.out 0).trans rfl, (blk_cell BK688.out 1).trans rfl, (blk_cell BK688.out 2).trans rfl⟩ (fun hHeld => ?_)
  clear hK K
  refine no_ 14 ?_
  refine pure_ (i := 6) (N := some 6) (v := ?_) (a' := ?_) (bl 7 127) rfl rfl (by kernel_rfl) (fun _ _ _ h => h) (Or.inl ⟨by rfl, ?_⟩) ?_ ?_
  rotate_left
  ·intro w'
   go_simp
   with_reducible rfl
  rotate_left
  ·simp only [Act.put, ls, lz, ln, i64_w, i32_w]
   rfl
  refine done_ (by kernel_rfl) ?_
  try go_wp2
  go_ret2
  exact ⟨by first | rfl | (simp [errW_none, errW_some] <;> rfl) | (simp [*, errW_none, errW_some] <;> rfl), uH HB.out⟩

end Go.Proofs.Ytokkabgkjhpecaa.Pr
