/- Printed by a program of this session out of the translation: what these functions of the program compute, under the conditions that each theorem names. -/
import Derived.Test.YtokkabgkjhpecaaKC01
import Derived.Test.YtokkabgkjhpecaaKC05
import Derived.Test.YtokkabgkjhpecaaKC04
import Derived.Test.YtokkabgkjhpecaaKC07
import Derived.Test.YtokkabgkjhpecaaKChristoffelAt1
namespace Go.Proofs.Ytokkabgkjhpecaa.Pr
open Go.RowKit Go.Proofs.YtokkabgkjhpecaaW.PrintWords Go.Proofs.YtokkabgkjhpecaaW.PrintLast Go.Proofs.YtokkabgkjhpecaaW.PrintMore
attribute [local go_sem] max2_int min2_int max_two min_two max_three min_three max_four min_four   -- for this text's walks alone
set_option linter.unusedVariables false
set_option linter.unusedSimpArgs false

/-! ### spec_ChristoffelAt: function 32 -/
def spec_ChristoffelAt.f (k : Nat) (a0_0 : Int) (l0_1 : List Int) (l0_2 : List Int) (a1 : Int) : Option (Int × Int) := (spec_l03Is.f k a0_0 l0_1 l0_2).bind fun t624 => (if t624 = true then ((spec_l01In.f a1 0 (wrap64 (a0_0 - 1))).bind fun t625 => (if t625 = true then ((spec_l03Poly.f k a0_0 l0_1 l0_2 (l0_1.length : Int)).bind fun t626 => ((spec_l01At.f k a0_0 t626 a1).bind fun t629 => (if t629 = 0 then ((spec_l01Derive.f k a0_0 t626).bind fun t630 => ((spec_l01At.f k a0_0 t630 a1).bind fun t633 => (if t633 = 0 then (some (0, 5)) else ((spec_l07Christoffel.f k a0_0 l0_1 l0_2 a1).bind fun t634 => (some (t634, 0)))))) else (some (0, 5))))) else (some (0, 2)))) else (some (0, 1)))
theorem spec_ChristoffelAt.mono : ∀ a0 a1 a2 a3 k, LeO (spec_ChristoffelAt.f k a0 a1 a2 a3) (spec_ChristoffelAt.f (k + 1) a0 a1 a2 a3) := by
 intro a0 a1 a2 a3 k
 unfold spec_ChristoffelAt.f
 repeat' first
   | (with_reducible exact spec_l01At.mono _ _ _ _)
   | (with_reducible exact spec_l01Derive.mono _ _ _)
   | (with_reducible exact spec_l03Is.mono _ _ _ _)
   | (with_reducible exact spec_l03Poly.mono _ _ _ _ _)
   | (with_reducible exact spec_l07Christoffel.mono _ _ _ _ _)
   | (with_reducible exact LeO.refl _)
   | (with_reducible exact LeO.none _)
   | (with_reducible refine LeO.ite ?_ ?_)
   | (with_reducible refine LeO.bind ?_ (fun _ => ?_))
   | exact spec_l01At.mono _ _ _ _
   | exact spec_l01Derive.mono _ _ _
   | exact spec_l03Is.mono _ _ _ _
   | exact spec_l03Poly.mono _ _ _ _ _
   | exact spec_l07Christoffel.mono _ _ _ _ _
   | exact LeO.none _
   | refine LeO.ite ?_ ?_
   | refine LeO.bind ?_ (fun _ => ?_)
def spec_ChristoffelAt.T6 : Bool × List (List Nat × List Nat) := (true, [([], []), ([0], [0]), ([], []), ([], []), ([1, 2, 3], [1, 2, 3]), ([4], [4]), ([5, 4], [5]), ([6], [6]), ([7, 6], [6, 7]), ([6], [6]), ([9, 6], [6, 9]), ([6], [6]), ([10, 11, 6, 6], [6, 10, 11]), ([6], [6]), ([8, 12, 13, 12, 6], [6, 8, 12, 13]), ([14, 6], [6, 14]), ([6, 15], [6, 15])])
def spec_ChristoffelAt.B6 : List Nat := [0, 1, 0, 0, 15, 31, 63, 127, 255, 127, 639, 127, 3711, 127, 16383, 32767, 65535]
theorem spec_ChristoffelAt.tab6 : rtab .any (opsOf Try.f32 6) = spec_ChristoffelAt.T6 := by kernel_rfl
theorem spec_ChristoffelAt.bits6 : waitsOk spec_ChristoffelAt.T6.2 spec_ChristoffelAt.B6 = true := by kernel_rfl
set_option maxHeartbeats 8000000 in
set_option maxRecDepth 100000 in
theorem spec_ChristoffelAt.calls (k : Nat) (a0_0 : Int) (A0_1 : Option Addr) (c0_1 : Nat) (l0_1 : List Int) (A0_2 : Option Addr) (c0_2 : Nat) (l0_2 : List Int) (a1 : Int) (r1 : Int) (r2 : Int) (w : World) (hr0_1 : Kd.C (Kd.int .i64) w A0_1 l0_1.length l0_1) (hc0_1 : l0_1.length ≤ c0_1) (hr0_2 : Kd.C (Kd.int .i64) w A0_2 l0_2.length l0_2) (hc0_2 : l0_2.length ≤ c0_2) (h : spec_ChristoffelAt.f k a0_0 l0_1 l0_2 a1 = some (r1, r2)) :
  Calls Try.prog 32 #[.agg #[.int .i64 a0_0, .slice A0_1 l0_1.length c0_1, .slice A0_2 l0_2.length c0_2], .int .i64 a1] w fun e w' => e = .returned (.tuple #[.int .i64 r1, .int .i64 r2]) ∧ Below w.heap.size w w' := by
 have hu46 := Try.underlying46
 have HR0_1 := zA hr0_1
 have HC0_1 := zA hc0_1
 clear hr0_1 hc0_1
 have HR0_2 := zA hr0_2
 have HC0_2 := zA hc0_2
 clear hr0_2 hc0_2
 have HB := zA (Below.refl w.heap.size w)
 have H : ((spec_l03Is.f k a0_0 l0_1 l0_2).bind fun t624 => (if t624 = true then ((spec_l01In.f a1 0 (wrap64 (a0_0 - 1))).bind fun t625 => (if t625 = true then ((spec_l03Poly.f k a0_0 l0_1 l0_2 (l0_1.length : Int)).bind fun t626 => ((spec_l01At.f k a0_0 t626 a1).bind fun t629 => (if t629 = 0 then ((spec_l01Derive.f k a0_0 t626).bind fun t630 => ((spec_l01At.f k a0_0 t630 a1).bind fun t633 => (if t633 = 0 then (some (0, 5)) else ((spec_l07Christoffel.f k a0_0 l0_1 l0_2 a1).bind fun t634 => (some (t634, 0)))))) else (some (0, 5))))) else (some (0, 2)))) else (some (0, 1)))) = some (r1, r2) := h
 clear h
 replace H := Option.bind_eq_some_iff.mp H
 obtain ⟨t624, A30, H⟩ := H
 replace H : (if t624 = true then ((spec_l01In.f a1 0 (wrap64 (a0_0 - 1))).bind fun t625 => (if t625 = true then ((spec_l03Poly.f k a0_0 l0_1 l0_2 (l0_1.length : Int)).bind fun t626 => ((spec_l01At.f k a0_0 t626 a1).bind fun t629 => (if t629 = 0 then ((spec_l01Derive.f k a0_0 t626).bind fun t630 => ((spec_l01At.f k a0_0 t630 a1).bind fun t633 => (if t633 = 0 then (some (0, 5)) else ((spec_l07Christoffel.f k a0_0 l0_1 l0_2 a1).bind fun t634 => (some (t634, 0)))))) else (some (0, 5))))) else (some (0, 2)))) else (some (0, 1))) = some (r1, r2) := H
 have A3 := zA A30
 clear A30
 by_cases c4 : t624 = true
 ·subst c4
  have H1 : ((spec_l01In.f a1 0 (wrap64 (a0_0 - 1))).bind fun t625 => (if t625 = true then ((spec_l03Poly.f k a0_0 l0_1 l0_2 (l0_1.length : Int)).bind fun t626 => ((spec_l01At.f k a0_0 t626 a1).bind fun t629 => (if t629 = 0 then ((spec_l01Derive.f k a0_0 t626).bind fun t630 => ((spec_l01At.f k a0_0 t630 a1).bind fun t633 => (if t633 = 0 then (some (0, 5)) else ((spec_l07Christoffel.f k a0_0 l0_1 l0_2 a1).bind fun t634 => (some (t634, 0)))))) else (some (0, 5))))) else (some (0, 2)))) = some (r1, r2) := by rw [if_pos rfl] at H; exact H
  clear H
  have H := H1
  clear H1
  replace H := Option.bind_eq_some_iff.mp H
  obtain ⟨t625, A50, H⟩ := H
  replace H : (if t625 = true then ((spec_l03Poly.f k a0_0 l0_1 l0_2 (l0_1.length : Int)).bind fun t626 => ((spec_l01At.f k a0_0 t626 a1).bind fun t629 => (if t629 = 0 then ((spec_l01Derive.f k a0_0 t626).bind fun t630 => ((spec_l01At.f k a0_0 t630 a1).bind fun t633 => (if t633 = 0 then (some (0, 5)) else ((spec_l07Christoffel.f k a0_0 l0_1 l0_2 a1).bind fun t634 => (some (t634, 0)))))) else (some (0, 5))))) else (some (0, 2))) = some (r1, r2) := H
  have A5 := zA A50
  clear A50
  by_cases c6 : t625 = true
  ·subst c6
   have H1 : ((spec_l03Poly.f k a0_0 l0_1 l0_2 (l0_1.length : Int)).bind fun t626 => ((spec_l01At.f k a0_0 t626 a1).bind fun t629 => (if t629 = 0 then ((spec_l01Derive.f k a0_0 t626).bind fun t630 => ((spec_l01At.f k a0_0 t630 a1).bind fun t633 => (if t633 = 0 then (some (0, 5)) else ((spec_l07Christoffel.f k a0_0 l0_1 l0_2 a1).bind fun t634 => (some (t634, 0)))))) else (some (0, 5))))) = some (r1, r2) := by rw [if_pos rfl] at H; exact H
   clear H
   have H := H1
   clear H1
   replace H := Option.bind_eq_some_iff.mp H
   obtain ⟨t626, A70, H⟩ := H
   replace H : ((spec_l01At.f k a0_0 t626 a1).bind fun t629 => (if t629 = 0 then ((spec_l01Derive.f k a0_0 t626).bind fun t630 => ((spec_l01At.f k a0_0 t630 a1).bind fun t633 => (if t633 = 0 then (some (0, 5)) else ((spec_l07Christoffel.f k a0_0 l0_1 l0_2 a1).bind fun t634 => (some (t634, 0)))))) else (some (0, 5)))) = some (r1, r2) := H
   have A7 := zA A70
   clear A70
   replace H := Option.bind_eq_some_iff.mp H
   obtain ⟨t629, A80, H⟩ := H
   replace H : (if t629 = 0 then ((spec_l01Derive.f k a0_0 t626).bind fun t630 => ((spec_l01At.f k a0_0 t630 a1).bind fun t633 => (if t633 = 0 then (some (0, 5)) else ((spec_l07Christoffel.f k a0_0 l0_1 l0_2 a1).bind fun t634 => (some (t634, 0)))))) else (some (0, 5))) = some (r1, r2) := H
   have A8 := zA A80
   clear A80
   by_cases c9 : t629 = 0
   ·rw [if_pos c9] at H
    have c9b0 : (t629 == 0) = true := beq_iff_eq.mpr c9
    have c9b1 : (t629 != 0) = false := bne_eq_false_iff_eq.mpr c9
    clear c9
    replace H := Option.bind_eq_some_iff.mp H
    obtain ⟨t630, A100, H⟩ := H
    replace H : ((spec_l01At.f k a0_0 t630 a1).bind fun t633 => (if t633 = 0 then (some (0, 5)) else ((spec_l07Christoffel.f k a0_0 l0_1 l0_2 a1).bind fun t634 => (some (t634, 0))))) = some (r1, r2) := H
    have A10 := zA A100
    clear A100
    replace H := Option.bind_eq_some_iff.mp H
    obtain ⟨t633, A110, H⟩ := H
    replace H : (if t633 = 0 then (some (0, 5)) else ((spec_l07Christoffel.f k a0_0 l0_1 l0_2 a1).bind fun t634 => (some (t634, 0)))) = some (r1, r2) := H
    have A11 := zA A110
    clear A110
    by_cases c12 : t633 = 0
    ·rw [if_pos c12] at H
     have c12b0 : (t633 == 0) = true := beq_iff_eq.mpr c12
     have c12b1 : (t633 != 0) = false := bne_eq_false_iff_eq.mpr c12
     clear c12
     simp only [Option.some.injEq, Prod.mk.injEq] at H
     obtain ⟨rfl, rfl⟩ := H
     go_enter Try.func32, Try.ntmps32
     try go_wp2_with (first | ((with_reducible refine gate_dst (N := 2) rfl ?_); refine box_event ?hg (N := 2) ?hd (cs := #[.int .i64 a0_0, .slice A0_1 l0_1.length c0_1, .slice A0_2 l0_2.length c0_2]) (t := 46) ?hr ?_; (case hd => rfl); (case hg => rfl); (case hr => first | (go_simp; done) | (go_simp; rfl)); intro gb623 hg w13 hbox hb; have n0_ := xH HB hb; have n1_ := zA (hbox); have n2_ := zA ((by rw [hg]; exact (below_size (uH HB.out)) : w.heap.size ≤ gb623)); have n3_ := zA ((by rw [hg]; exact (below_size (uH HB.out)) : w.heap.size ≤ gb623)); clear HB; have HB := n0_; have BK623 := n1_; have GW623 := n2_; have GE623 := n3_; have := geI GE623; clear n0_ n1_ n2_ n3_ hb hbox hg; have hcz14_0 : w13.cell? ⟨gb623, 0, none⟩ = some (.int .i64 a0_0) := (blk_cell BK623.out 0).trans rfl; have hcz14_1 : w13.cell? ⟨gb623, 1, none⟩ = some (.slice A0_1 l0_1.length c0_1) := (blk_cell BK623.out 1).trans rfl; have hcz14_2 : w13.cell? ⟨gb623, 2, none⟩ = some (.slice A0_2 l0_2.length c0_2) := (blk_cell BK623.out 2).trans rfl; have hfz14_0 := blk_frozen BK623.out 0; have hfz14_1 := blk_frozen BK623.out 1; have hfz14_2 := blk_frozen BK623.out 2) | ((with_reducible refine gate_callee (f := 80) rfl ?_); refine goesL_ (some 9) rfl rfl Try.func80 (by kernel_rfl) rfl #[.agg #[.int .i64 a0_0, .slice A0_1 l0_1.length c0_1, .slice A0_2 l0_2.length c0_2]] rfl (by (try simp only [la, lb, lc]); first | done | rfl | (simp only [ld, le]; rfl)) ?_; (with_reducible refine (spec_l03Is.calls k a0_0 _ _ l0_1 _ _ l0_2 true _ ?side1 ?side2 ?side3 ?side4 A3.out).mono ?_); (case side1 => exact uC ((Kd.C_below HR0_1.out HB.out))); (case side2 => exact HC0_1.out); (case side3 => exact uC ((Kd.C_below HR0_2.out HB.out))); (case side4 => exact HC0_2.out); rintro e w15 ⟨rfl, hb⟩; refine ⟨_, rfl, ?_⟩; have n0_ := xB BK623 hb; have n1_ := xH HB hb; clear BK623 HB; have BK623 := n0_; have HB := n1_; clear n0_ n1_; (try clear hb); (try clear hb2); (try clear hk); (try clear hi); have hcz16_0 : w15.cell? ⟨gb623, 0, none⟩ = some (.int .i64 a0_0) := (blk_cell BK623.out 0).trans rfl; have hcz16_1 : w15.cell? ⟨gb623, 1, none⟩ = some (.slice A0_1 l0_1.length c0_1) := (blk_cell BK623.out 1).trans rfl; have hcz16_2 : w15.cell? ⟨gb623, 2, none⟩ = some (.slice A0_2 l0_2.length c0_2) := (blk_cell BK623.out 2).trans rfl; have hfz16_0 := blk_frozen BK623.out 0; have hfz16_1 := blk_frozen BK623.out 1; have hfz16_2 := blk_frozen BK623.out 2) | ((with_reducible refine gate_callee (f := 70) rfl ?_); refine goesL_ (some 16) rfl rfl Try.func70 (by kernel_rfl) rfl #[.int .i64 a1, .int .i64 0, .int .i64 (wrap64 (a0_0 - 1))] rfl (by (try simp only [la, lb, lc]); first | done | rfl | (simp only [ld, le]; rfl)) ?_; (with_reducible refine (spec_l01In.calls a1 0 (wrap64 (a0_0 - 1)) true _ A5.out).mono ?_); rintro e w' ⟨rfl, ⟨nd, rfl⟩⟩; refine ⟨_, rfl, ?_⟩) | ((with_reducible refine gate_callee (f := 72) rfl ?_); refine goesL_ (some 22) rfl rfl Try.func72 (by kernel_rfl) rfl #[.agg #[.int .i64 a0_0, .slice A0_1 l0_1.length c0_1, .slice A0_2 l0_2.length c0_2], .int .i64 (l0_1.length : Int)] rfl (by (try simp only [la, lb, lc]); first | done | rfl | (simp only [ld, le]; rfl)) ?_; (with_reducible refine (spec_l03Poly.calls k a0_0 _ _ l0_1 _ _ l0_2 (l0_1.length : Int) t626 _ ?side1 ?side2 ?side3 ?side4 A7.out).mono ?_); (case side1 => repeat (first | exact (Kd.C_below HR0_1.out (uH HB.out)) | (with_reducible refine Kd.C_alloc ?_ _) | (with_reducible refine Kd.C_drewN ?_ _) | (with_reducible refine Kd.C_drew ?_))); (case side2 => exact HC0_1.out); (case side3 => repeat (first | exact (Kd.C_below HR0_2.out (uH HB.out)) | (with_reducible refine Kd.C_alloc ?_ _) | (with_reducible refine Kd.C_drewN ?_ _) | (with_reducible refine Kd.C_drew ?_))); (case side4 => exact HC0_2.out); rintro e w17 ⟨v627, rfl, ho0, hb⟩; refine ⟨_, rfl, ?_⟩; have n0_ := zA (Kd.R_lower ho0 (below_size (uH HB.out))); have n1_ := xB BK623 hb; have n2_ := xH HB hb; clear BK623 HB; have HO628 := n0_; have BK623 := n1_; have HB := n2_; clear n0_ n1_ n2_; (try clear hb); (try clear hb2); (try clear hk); (try clear hi); (try clear ho0)))
     have n0_ := zA (Kd.R_drew HO628.out)
     have n1_ := zA (blk_drew BK623.out)
     have n2_ := zA (below_drew1 HB.out)
     clear HO628 BK623 HB
     have HO628 := n0_; have BK623 := n1_; have HB := n2_
     clear n0_ n1_ n2_
     obtain ⟨Ao19, co19, eo19⟩ := Kd.R_slice HO628.out
     (first | subst eo19 | (injection eo19 with f1_ f2_ f3_; have f4_ := f1_.symm; have f5_ := f3_.symm; clear f1_ f2_ f3_; subst f4_; subst f5_))
     refine start_ (n := 17) (S := fun w' => w'.cell? ⟨gb623, 0, none⟩ = some (.int .i64 a0_0) ∧ w'.cell? ⟨gb623, 1, none⟩ = some (.slice A0_1 l0_1.length c0_1) ∧ w'.cell? ⟨gb623, 2, none⟩ = some (.slice A0_2 l0_2.length c0_2)) (ds := []) #[false, false, false, false, false, false, false, false, false, false, false, false, false, false, false, false, false] (by kernel_rfl) rfl rfl ⟨(blk_cell BK623.out 0).trans rfl, (blk_cell BK623.out 1).trans rfl, (blk_cell BK623.out 2).trans rfl⟩ (fun hHeld => ?_); refine with_tabW spec_ChristoffelAt.tab6 spec_ChristoffelAt.bits6 (fun HT_ HW_ => ?_)
     generalize w17.drew = w18 at HO628 BK623 HB hHeld ⊢
     refine pu_ 0 23 (bl 17 1) HT_ ?_
     refine pu_ 2 25 (bl 17 5) HT_ ?_
     refine pu_ 3 26 (bl 17 13) HT_ ?_
     refine ta_ 1 24 (bl 17 15) HT_ HW_ hHeld ?_
     refine on_ 4 (some 27) (bl 17 31) HT_ (fun K hK => ?_)
     refine goes_ Try.func71 (by kernel_rfl) rfl #[.int .i64 a0_0, .slice Ao19 t626.length co19, .int .i64 a1] (by rfl) rfl rfl (by (try simp only [la, lb, lc]); first | done | rfl | (simp only [ld, le]; rfl)) ?_
     with_reducible refine (spec_l01At.calls k a0_0 _ _ t626 a1 t629 _ ?side1 ?side2 A8.out).mono ?_
     (case side1 => exact uC ((Kd.R_reads' HO628.out).2.2))
     (case side2 => exact (Kd.R_reads' HO628.out).2.1)
     rintro e w' ⟨rfl, ⟨nd, rfl⟩⟩
     refine ⟨_, rfl, ?_⟩
     refine hK.out _ _ ⟨(blk_cell BK623.out 0).trans rfl, (blk_cell BK623.out 1).trans rfl, (blk_cell BK623.out 2).trans rfl⟩ (fun hHeld => ?_)
     clear hK K
     refine no_ 27 ?_
     refine pu_ 5 28 (bl 17 63) HT_ ?_
     refine pu_ 6 29 (bl 17 127) HT_ ?_
     refine pu_ 7 30 (bl 17 255) HT_ ?_
     refine pu_ 9 32 (bl 17 767) HT_ ?_
     refine pu_ 11 34 (bl 17 2815) HT_ ?_
     refine pu_ 13 36 (bl 17 11007) HT_ ?_
     refine ta_ 8 31 (bl 17 11263) HT_ HW_ hHeld ?_
     refine ta_ 10 33 (bl 17 12287) HT_ HW_ hHeld ?_
     refine on_ 12 (some 35) (bl 17 16383) HT_ (fun K hK => ?_)
     refine goes_ Try.func81 (by kernel_rfl) rfl #[.int .i64 a0_0, .slice Ao19 t626.length co19] (by rfl) rfl rfl (by (try simp only [la, lb, lc]); first | done | rfl | (simp only [ld, le]; rfl)) ?_
     with_reducible refine (spec_l01Derive.calls k a0_0 _ _ t626 t630 _ ?side1 ?side2 A10.out).mono ?_
     (case side1 => exact uC ((Kd.R_reads' HO628.out).2.2))
     (case side2 => exact (Kd.R_reads' HO628.out).2.1)
     rintro e w20 ⟨v631, rfl, ho0, hb⟩
     refine ⟨_, rfl, ?_⟩
     have n0_ := zA (Kd.R_elder' (uR HO628.out) (Kd.R_base ho0) hb)
     have n1_ := zA (Kd.R_lower (Kd.R_new' ho0 (Kd.R_lt (uR HO628.out))) (below_size (uH HB.out)))
     have n2_ := xB BK623 hb
     have n3_ := xH HB hb
     clear HO628 BK623 HB
     have HO628 := n0_; have HO632 := n1_; have BK623 := n2_; have HB := n3_
     clear n0_ n1_ n2_ n3_
     (try clear hb); (try clear hb2); (try clear hk); (try clear hi); (try clear ho0)
     obtain ⟨Ao21, co21, eo21⟩ := Kd.R_slice HO632.out
     (first | subst eo21 | (injection eo21 with f1_ f2_ f3_; have f4_ := f1_.symm; have f5_ := f3_.symm; clear f1_ f2_ f3_; subst f4_; subst f5_))
     refine hK.out _ _ ⟨(blk_cell BK623.out 0).trans rfl, (blk_cell BK623.out 1).trans rfl, (blk_cell BK623.out 2).trans rfl⟩ (fun hHeld => ?_)
     clear hK K
     refine no_ 35 ?_
     refine on_ 14 (some 37) (bl 17 32767) HT_ (fun K hK => ?_)
     refine goes_ Try.func71 (by kernel_rfl) rfl #[.int .i64 a0_0, .slice Ao21 t630.length co21, .int .i64 a1] (by rfl) rfl rfl (by (try simp only [la, lb, lc]); first | done | rfl | (simp only [ld, le]; rfl)) ?_
     with_reducible refine (spec_l01At.calls k a0_0 _ _ t630 a1 t633 _ ?side1 ?side2 A11.out).mono ?_
     (case side1 => exact uC ((Kd.R_reads' HO632.out).2.2))
     (case side2 => exact (Kd.R_reads' HO632.out).2.1)
     rintro e w' ⟨rfl, ⟨nd, rfl⟩⟩
     refine ⟨_, rfl, ?_⟩
     refine hK.out _ _ ⟨(blk_cell BK623.out 0).trans rfl, (blk_cell BK623.out 1).trans rfl, (blk_cell BK623.out 2).trans rfl⟩ (fun hHeld => ?_)
     clear hK K
     refine no_ 37 ?_
     refine pu_ 15 38 (bl 17 65535) HT_ ?_
     refine pu_ 16 39 (bl 17 131071) HT_ ?_
     refine done_ (done_of HT_.out (by kernel_rfl)) ?_
     try go_wp2
     go_ret2
     exact ⟨by first | rfl | (simp [errW_none, errW_some] <;> rfl) | (simp [*, errW_none, errW_some] <;> rfl), uH HB.out⟩
    ·rw [if_neg c12] at H
     have c12b0 : (t633 == 0) = false := beq_eq_false_iff_ne.mpr c12
     have c12b1 : (t633 != 0) = true := bne_iff_ne.mpr c12
     replace H := Option.bind_eq_some_iff.mp H
     obtain ⟨t634, A220, H⟩ := H
     replace H : (some (t634, 0)) = some (r1, r2) := H
     have A22 := zA A220
     clear A220
     simp only [Option.some.injEq, Prod.mk.injEq] at H
     obtain ⟨rfl, rfl⟩ := H
     go_enter Try.func32, Try.ntmps32
     try go_wp2_with (first | ((with_reducible refine gate_dst (N := 2) rfl ?_); refine box_event ?hg (N := 2) ?hd (cs := #[.int .i64 a0_0, .slice A0_1 l0_1.length c0_1, .slice A0_2 l0_2.length c0_2]) (t := 46) ?hr ?_; (case hd => rfl); (case hg => rfl); (case hr => first | (go_simp; done) | (go_simp; rfl)); intro gb623 hg w23 hbox hb; have n0_ := xH HB hb; have n1_ := zA (hbox); have n2_ := zA ((by rw [hg]; exact (below_size (uH HB.out)) : w.heap.size ≤ gb623)); have n3_ := zA ((by rw [hg]; exact (below_size (uH HB.out)) : w.heap.size ≤ gb623)); clear HB; have HB := n0_; have BK623 := n1_; have GW623 := n2_; have GE623 := n3_; have := geI GE623; clear n0_ n1_ n2_ n3_ hb hbox hg; have hcz24_0 : w23.cell? ⟨gb623, 0, none⟩ = some (.int .i64 a0_0) := (blk_cell BK623.out 0).trans rfl; have hcz24_1 : w23.cell? ⟨gb623, 1, none⟩ = some (.slice A0_1 l0_1.length c0_1) := (blk_cell BK623.out 1).trans rfl; have hcz24_2 : w23.cell? ⟨gb623, 2, none⟩ = some (.slice A0_2 l0_2.length c0_2) := (blk_cell BK623.out 2).trans rfl; have hfz24_0 := blk_frozen BK623.out 0; have hfz24_1 := blk_frozen BK623.out 1; have hfz24_2 := blk_frozen BK623.out 2) | ((with_reducible refine gate_callee (f := 80) rfl ?_); refine goesL_ (some 9) rfl rfl Try.func80 (by kernel_rfl) rfl #[.agg #[.int .i64 a0_0, .slice A0_1 l0_1.length c0_1, .slice A0_2 l0_2.length c0_2]] rfl (by (try simp only [la, lb, lc]); first | done | rfl | (simp only [ld, le]; rfl)) ?_; (with_reducible refine (spec_l03Is.calls k a0_0 _ _ l0_1 _ _ l0_2 true _ ?side1 ?side2 ?side3 ?side4 A3.out).mono ?_); (case side1 => exact uC ((Kd.C_below HR0_1.out HB.out))); (case side2 => exact HC0_1.out); (case side3 => exact uC ((Kd.C_below HR0_2.out HB.out))); (case side4 => exact HC0_2.out); rintro e w25 ⟨rfl, hb⟩; refine ⟨_, rfl, ?_⟩; have n0_ := xB BK623 hb; have n1_ := xH HB hb; clear BK623 HB; have BK623 := n0_; have HB := n1_; clear n0_ n1_; (try clear hb); (try clear hb2); (try clear hk); (try clear hi); have hcz26_0 : w25.cell? ⟨gb623, 0, none⟩ = some (.int .i64 a0_0) := (blk_cell BK623.out 0).trans rfl; have hcz26_1 : w25.cell? ⟨gb623, 1, none⟩ = some (.slice A0_1 l0_1.length c0_1) := (blk_cell BK623.out 1).trans rfl; have hcz26_2 : w25.cell? ⟨gb623, 2, none⟩ = some (.slice A0_2 l0_2.length c0_2) := (blk_cell BK623.out 2).trans rfl; have hfz26_0 := blk_frozen BK623.out 0; have hfz26_1 := blk_frozen BK623.out 1; have hfz26_2 := blk_frozen BK623.out 2) | ((with_reducible refine gate_callee (f := 70) rfl ?_); refine goesL_ (some 16) rfl rfl Try.func70 (by kernel_rfl) rfl #[.int .i64 a1, .int .i64 0, .int .i64 (wrap64 (a0_0 - 1))] rfl (by (try simp only [la, lb, lc]); first | done | rfl | (simp only [ld, le]; rfl)) ?_; (with_reducible refine (spec_l01In.calls a1 0 (wrap64 (a0_0 - 1)) true _ A5.out).mono ?_); rintro e w' ⟨rfl, ⟨nd, rfl⟩⟩; refine ⟨_, rfl, ?_⟩) | ((with_reducible refine gate_callee (f := 72) rfl ?_); refine goesL_ (some 22) rfl rfl Try.func72 (by kernel_rfl) rfl #[.agg #[.int .i64 a0_0, .slice A0_1 l0_1.length c0_1, .slice A0_2 l0_2.length c0_2], .int .i64 (l0_1.length : Int)] rfl (by (try simp only [la, lb, lc]); first | done | rfl | (simp only [ld, le]; rfl)) ?_; (with_reducible refine (spec_l03Poly.calls k a0_0 _ _ l0_1 _ _ l0_2 (l0_1.length : Int) t626 _ ?side1 ?side2 ?side3 ?side4 A7.out).mono ?_); (case side1 => repeat (first | exact (Kd.C_below HR0_1.out (uH HB.out)) | (with_reducible refine Kd.C_alloc ?_ _) | (with_reducible refine Kd.C_drewN ?_ _) | (with_reducible refine Kd.C_drew ?_))); (case side2 => exact HC0_1.out); (case side3 => repeat (first | exact (Kd.C_below HR0_2.out (uH HB.out)) | (with_reducible refine Kd.C_alloc ?_ _) | (with_reducible refine Kd.C_drewN ?_ _) | (with_reducible refine Kd.C_drew ?_))); (case side4 => exact HC0_2.out); rintro e w27 ⟨v627, rfl, ho0, hb⟩; refine ⟨_, rfl, ?_⟩; have n0_ := zA (Kd.R_lower ho0 (below_size (uH HB.out))); have n1_ := xB BK623 hb; have n2_ := xH HB hb; clear BK623 HB; have HO628 := n0_; have BK623 := n1_; have HB := n2_; clear n0_ n1_ n2_; (try clear hb); (try clear hb2); (try clear hk); (try clear hi); (try clear ho0)))
     have n0_ := zA (Kd.R_drew HO628.out)
     have n1_ := zA (blk_drew BK623.out)
     have n2_ := zA (below_drew1 HB.out)
     clear HO628 BK623 HB
     have HO628 := n0_; have BK623 := n1_; have HB := n2_
     clear n0_ n1_ n2_
     obtain ⟨Ao29, co29, eo29⟩ := Kd.R_slice HO628.out
     (first | subst eo29 | (injection eo29 with f1_ f2_ f3_; have f4_ := f1_.symm; have f5_ := f3_.symm; clear f1_ f2_ f3_; subst f4_; subst f5_))
     refine start_ (n := 17) (S := fun w' => w'.cell? ⟨gb623, 0, none⟩ = some (.int .i64 a0_0) ∧ w'.cell? ⟨gb623, 1, none⟩ = some (.slice A0_1 l0_1.length c0_1) ∧ w'.cell? ⟨gb623, 2, none⟩ = some (.slice A0_2 l0_2.length c0_2)) (ds := []) #[false, false, false, false, false, false, false, false, false, false, false, false, false, false, false, false, false] (by kernel_rfl) rfl rfl ⟨(blk_cell BK623.out 0).trans rfl, (blk_cell BK623.out 1).trans rfl, (blk_cell BK623.out 2).trans rfl⟩ (fun hHeld => ?_); refine with_tabW spec_ChristoffelAt.tab6 spec_ChristoffelAt.bits6 (fun HT_ HW_ => ?_)
     generalize w27.drew = w28 at HO628 BK623 HB hHeld ⊢
     refine pu_ 0 23 (bl 17 1) HT_ ?_
     refine pu_ 2 25 (bl 17 5) HT_ ?_
     refine pu_ 3 26 (bl 17 13) HT_ ?_
     refine ta_ 1 24 (bl 17 15) HT_ HW_ hHeld ?_
     refine on_ 4 (some 27) (bl 17 31) HT_ (fun K hK => ?_)
     refine goes_ Try.func71 (by kernel_rfl) rfl #[.int .i64 a0_0, .slice Ao29 t626.length co29, .int .i64 a1] (by rfl) rfl rfl (by (try simp only [la, lb, lc]); first | done | rfl | (simp only [ld, le]; rfl)) ?_
     with_reducible refine (spec_l01At.calls k a0_0 _ _ t626 a1 t629 _ ?side1 ?side2 A8.out).mono ?_
     (case side1 => exact uC ((Kd.R_reads' HO628.out).2.2))
     (case side2 => exact (Kd.R_reads' HO628.out).2.1)
     rintro e w' ⟨rfl, ⟨nd, rfl⟩⟩
     refine ⟨_, rfl, ?_⟩
     refine hK.out _ _ ⟨(blk_cell BK623.out 0).trans rfl, (blk_cell BK623.out 1).trans rfl, (blk_cell BK623.out 2).trans rfl⟩ (fun hHeld => ?_)
     clear hK K
     refine no_ 27 ?_
     refine pu_ 5 28 (bl 17 63) HT_ ?_
     refine pu_ 6 29 (bl 17 127) HT_ ?_
     refine pu_ 7 30 (bl 17 255) HT_ ?_
     refine pu_ 9 32 (bl 17 767) HT_ ?_
     refine pu_ 11 34 (bl 17 2815) HT_ ?_
     refine pu_ 13 36 (bl 17 11007) HT_ ?_
     refine ta_ 8 31 (bl 17 11263) HT_ HW_ hHeld ?_
     refine ta_ 10 33 (bl 17 12287) HT_ HW_ hHeld ?_
     refine on_ 12 (some 35) (bl 17 16383) HT_ (fun K hK => ?_)
     refine goes_ Try.func81 (by kernel_rfl) rfl #[.int .i64 a0_0, .slice Ao29 t626.length co29] (by rfl) rfl rfl (by (try simp only [la, lb, lc]); first | done | rfl | (simp only [ld, le]; rfl)) ?_
     with_reducible refine (spec_l01Derive.calls k a0_0 _ _ t626 t630 _ ?side1 ?side2 A10.out).mono ?_
     (case side1 => exact uC ((Kd.R_reads' HO628.out).2.2))
     (case side2 => exact (Kd.R_reads' HO628.out).2.1)
     rintro e w30 ⟨v631, rfl, ho0, hb⟩
     refine ⟨_, rfl, ?_⟩
     have n0_ := zA (Kd.R_elder' (uR HO628.out) (Kd.R_base ho0) hb)
     have n1_ := zA (Kd.R_lower (Kd.R_new' ho0 (Kd.R_lt (uR HO628.out))) (below_size (uH HB.out)))
     have n2_ := xB BK623 hb
     have n3_ := xH HB hb
     clear HO628 BK623 HB
     have HO628 := n0_; have HO632 := n1_; have BK623 := n2_; have HB := n3_
     clear n0_ n1_ n2_ n3_
     (try clear hb); (try clear hb2); (try clear hk); (try clear hi); (try clear ho0)
     obtain ⟨Ao31, co31, eo31⟩ := Kd.R_slice HO632.out
     (first | subst eo31 | (injection eo31 with f1_ f2_ f3_; have f4_ := f1_.symm; have f5_ := f3_.symm; clear f1_ f2_ f3_; subst f4_; subst f5_))
     refine hK.out _ _ ⟨(blk_cell BK623.out 0).trans rfl, (blk_cell BK623.out 1).trans rfl, (blk_cell BK623.out 2).trans rfl⟩ (fun hHeld => ?_)
     clear hK K
     refine no_ 35 ?_
     refine on_ 14 (some 37) (bl 17 32767) HT_ (fun K hK => ?_)
     refine goes_ Try.func71 (by kernel_rfl) rfl #[.int .i64 a0_0, .slice Ao31 t630.length co31, .int .i64 a1] (by rfl) rfl rfl (by (try simp only [la, lb, lc]); first | done | rfl | (simp only [ld, le]; rfl)) ?_
     with_reducible refine (spec_l01At.calls k a0_0 _ _ t630 a1 t633 _ ?side1 ?side2 A11.out).mono ?_
     (case side1 => exact uC ((Kd.R_reads' HO632.out).2.2))
     (case side2 => exact (Kd.R_reads' HO632.out).2.1)
     rintro e w' ⟨rfl, ⟨nd, rfl⟩⟩
     refine ⟨_, rfl, ?_⟩
     refine hK.out _ _ ⟨(blk_cell BK623.out 0).trans rfl, (blk_cell BK623.out 1).trans rfl, (blk_cell BK623.out 2).trans rfl⟩ (fun hHeld => ?_)
     clear hK K
     refine no_ 37 ?_
     refine pu_ 15 38 (bl 17 65535) HT_ ?_
     refine pu_ 16 39 (bl 17 131071) HT_ ?_
     refine done_ (done_of HT_.out (by kernel_rfl)) ?_
     have hcz32_0 : w30.cell? ⟨gb623, 0, none⟩ = some (.int .i64 a0_0) := (blk_cell BK623.out 0).trans rfl
     have hcz32_1 : w30.cell? ⟨gb623, 1, none⟩ = some (.slice A0_1 l0_1.length c0_1) := (blk_cell BK623.out 1).trans rfl
     have hcz32_2 : w30.cell? ⟨gb623, 2, none⟩ = some (.slice A0_2 l0_2.length c0_2) := (blk_cell BK623.out 2).trans rfl
     have hfz32_0 := blk_frozen BK623.out 0
     have hfz32_1 := blk_frozen BK623.out 1
     have hfz32_2 := blk_frozen BK623.out 2
     try go_wp2_with (first | ((with_reducible refine gate_callee (f := 82) rfl ?_); refine goesL_ (some 42) rfl rfl Try.func82 (by kernel_rfl) rfl #[.agg #[.int .i64 a0_0, .slice A0_1 l0_1.length c0_1, .slice A0_2 l0_2.length c0_2], .int .i64 a1] rfl (by (try simp only [la, lb, lc]); first | done | rfl | (simp only [ld, le]; rfl)) ?_; (with_reducible refine (spec_l07Christoffel.calls k a0_0 _ _ l0_1 _ _ l0_2 a1 t634 _ ?side1 ?side2 ?side3 ?side4 A22.out).mono ?_); (case side1 => repeat (first | exact (Kd.C_below HR0_1.out (uH HB.out)) | (with_reducible refine Kd.C_alloc ?_ _) | (with_reducible refine Kd.C_drewN ?_ _) | (with_reducible refine Kd.C_drew ?_))); (case side2 => exact HC0_1.out); (case side3 => repeat (first | exact (Kd.C_below HR0_2.out (uH HB.out)) | (with_reducible refine Kd.C_alloc ?_ _) | (with_reducible refine Kd.C_drewN ?_ _) | (with_reducible refine Kd.C_drew ?_))); (case side4 => exact HC0_2.out); rintro e w33 ⟨rfl, hb⟩; refine ⟨_, rfl, ?_⟩; have n0_ := xR HO628 hb; have n1_ := xR HO632 hb; have n2_ := xB BK623 hb; have n3_ := xH HB hb; clear HO628 HO632 BK623 HB; have HO628 := n0_; have HO632 := n1_; have BK623 := n2_; have HB := n3_; clear n0_ n1_ n2_ n3_; (try clear hb); (try clear hb2); (try clear hk); (try clear hi)))
     go_ret2
     exact ⟨by first | rfl | (simp [errW_none, errW_some] <;> rfl) | (simp [*, errW_none, errW_some] <;> rfl), uH HB.out⟩
   ·rw [if_neg c9] at H
    have c9b0 : (t629 == 0) = false := beq_eq_false_iff_ne.mpr c9
    have c9b1 : (t629 != 0) = true := bne_iff_ne.mpr c9
    simp only [Option.some.injEq, Prod.mk.injEq] at H
    obtain ⟨rfl, rfl⟩ := H
    go_enter Try.func32, Try.ntmps32
    try go_wp2_with (first | ((with_reducible refine gate_dst (N := 2) rfl ?_); refine box_event ?hg (N := 2) ?hd (cs := #[.int .i64 a0_0, .slice A0_1 l0_1.length c0_1, .slice A0_2 l0_2.length c0_2]) (t := 46) ?hr ?_; (case hd => rfl); (case hg => rfl); (case hr => first | (go_simp; done) | (go_simp; rfl)); intro gb623 hg w34 hbox hb; have n0_ := xH HB hb; have n1_ := zA (hbox); have n2_ := zA ((by rw [hg]; exact (below_size (uH HB.out)) : w.heap.size ≤ gb623)); have n3_ := zA ((by rw [hg]; exact (below_size (uH HB.out)) : w.heap.size ≤ gb623)); clear HB; have HB := n0_; have BK623 := n1_; have GW623 := n2_; have GE623 := n3_; have := geI GE623; clear n0_ n1_ n2_ n3_ hb hbox hg; have hcz35_0 : w34.cell? ⟨gb623, 0, none⟩ = some (.int .i64 a0_0) := (blk_cell BK623.out 0).trans rfl; have hcz35_1 : w34.cell? ⟨gb623, 1, none⟩ = some (.slice A0_1 l0_1.length c0_1) := (blk_cell BK623.out 1).trans rfl; have hcz35_2 : w34.cell? ⟨gb623, 2, none⟩ = some (.slice A0_2 l0_2.length c0_2) := (blk_cell BK623.out 2).trans rfl; have hfz35_0 := blk_frozen BK623.out 0; have hfz35_1 := blk_frozen BK623.out 1; have hfz35_2 := blk_frozen BK623.out 2) | ((with_reducible refine gate_callee (f := 80) rfl ?_); refine goesL_ (some 9) rfl rfl Try.func80 (by kernel_rfl) rfl #[.agg #[.int .i64 a0_0, .slice A0_1 l0_1.length c0_1, .slice A0_2 l0_2.length c0_2]] rfl (by (try simp only [la, lb, lc]); first | done | rfl | (simp only [ld, le]; rfl)) ?_; (with_reducible refine (spec_l03Is.calls k a0_0 _ _ l0_1 _ _ l0_2 true _ ?side1 ?side2 ?side3 ?side4 A3.out).mono ?_); (case side1 => exact uC ((Kd.C_below HR0_1.out HB.out))); (case side2 => exact HC0_1.out); (case side3 => exact uC ((Kd.C_below HR0_2.out HB.out))); (case side4 => exact HC0_2.out); rintro e w36 ⟨rfl, hb⟩; refine ⟨_, rfl, ?_⟩; have n0_ := xB BK623 hb; have n1_ := xH HB hb; clear BK623 HB; have BK623 := n0_; have HB := n1_; clear n0_ n1_; (try clear hb); (try clear hb2); (try clear hk); (try clear hi); have hcz37_0 : w36.cell? ⟨gb623, 0, none⟩ = some (.int .i64 a0_0) := (blk_cell BK623.out 0).trans rfl; have hcz37_1 : w36.cell? ⟨gb623, 1, none⟩ = some (.slice A0_1 l0_1.length c0_1) := (blk_cell BK623.out 1).trans rfl; have hcz37_2 : w36.cell? ⟨gb623, 2, none⟩ = some (.slice A0_2 l0_2.length c0_2) := (blk_cell BK623.out 2).trans rfl; have hfz37_0 := blk_frozen BK623.out 0; have hfz37_1 := blk_frozen BK623.out 1; have hfz37_2 := blk_frozen BK623.out 2) | ((with_reducible refine gate_callee (f := 70) rfl ?_); refine goesL_ (some 16) rfl rfl Try.func70 (by kernel_rfl) rfl #[.int .i64 a1, .int .i64 0, .int .i64 (wrap64 (a0_0 - 1))] rfl (by (try simp only [la, lb, lc]); first | done | rfl | (simp only [ld, le]; rfl)) ?_; (with_reducible refine (spec_l01In.calls a1 0 (wrap64 (a0_0 - 1)) true _ A5.out).mono ?_); rintro e w' ⟨rfl, ⟨nd, rfl⟩⟩; refine ⟨_, rfl, ?_⟩) | ((with_reducible refine gate_callee (f := 72) rfl ?_); refine goesL_ (some 22) rfl rfl Try.func72 (by kernel_rfl) rfl #[.agg #[.int .i64 a0_0, .slice A0_1 l0_1.length c0_1, .slice A0_2 l0_2.length c0_2], .int .i64 (l0_1.length : Int)] rfl (by (try simp only [la, lb, lc]); first | done | rfl | (simp only [ld, le]; rfl)) ?_; (with_reducible refine (spec_l03Poly.calls k a0_0 _ _ l0_1 _ _ l0_2 (l0_1.length : Int) t626 _ ?side1 ?side2 ?side3 ?side4 A7.out).mono ?_); (case side1 => repeat (first | exact (Kd.C_below HR0_1.out (uH HB.out)) | (with_reducible refine Kd.C_alloc ?_ _) | (with_reducible refine Kd.C_drewN ?_ _) | (with_reducible refine Kd.C_drew ?_))); (case side2 => exact HC0_1.out); (case side3 => repeat (first | exact (Kd.C_below HR0_2.out (uH HB.out)) | (with_reducible refine Kd.C_alloc ?_ _) | (with_reducible refine Kd.C_drewN ?_ _) | (with_reducible refine Kd.C_drew ?_))); (case side4 => exact HC0_2.out); rintro e w38 ⟨v627, rfl, ho0, hb⟩; refine ⟨_, rfl, ?_⟩; have n0_ := zA (Kd.R_lower ho0 (below_size (uH HB.out))); have n1_ := xB BK623 hb; have n2_ := xH HB hb; clear BK623 HB; have HO628 := n0_; have BK623 := n1_; have HB := n2_; clear n0_ n1_ n2_; (try clear hb); (try clear hb2); (try clear hk); (try clear hi); (try clear ho0)))
    have n0_ := zA (Kd.R_drew HO628.out)
    have n1_ := zA (blk_drew BK623.out)
    have n2_ := zA (below_drew1 HB.out)
    clear HO628 BK623 HB
    have HO628 := n0_; have BK623 := n1_; have HB := n2_
    clear n0_ n1_ n2_
    obtain ⟨Ao40, co40, eo40⟩ := Kd.R_slice HO628.out
    (first | subst eo40 | (injection eo40 with f1_ f2_ f3_; have f4_ := f1_.symm; have f5_ := f3_.symm; clear f1_ f2_ f3_; subst f4_; subst f5_))
    refine start_ (n := 17) (S := fun w' => w'.cell? ⟨gb623, 0, none⟩ = some (.int .i64 a0_0) ∧ w'.cell? ⟨gb623, 1, none⟩ = some (.slice A0_1 l0_1.length c0_1) ∧ w'.cell? ⟨gb623, 2, none⟩ = some (.slice A0_2 l0_2.length c0_2)) (ds := []) #[false, false, false, false, false, false, false, false, false, false, false, false, false, false, false, false, false] (by kernel_rfl) rfl rfl ⟨(blk_cell BK623.out 0).trans rfl, (blk_cell BK623.out 1).trans rfl, (blk_cell BK623.out 2).trans rfl⟩ (fun hHeld => ?_); refine with_tabW spec_ChristoffelAt.tab6 spec_ChristoffelAt.bits6 (fun HT_ HW_ => ?_)
    generalize w38.drew = w39 at HO628 BK623 HB hHeld ⊢
    refine pu_ 0 23 (bl 17 1) HT_ ?_
    refine pu_ 2 25 (bl 17 5) HT_ ?_
    refine pu_ 3 26 (bl 17 13) HT_ ?_
    refine ta_ 1 24 (bl 17 15) HT_ HW_ hHeld ?_
    refine on_ 4 (some 27) (bl 17 31) HT_ (fun K hK => ?_)
    refine goes_ Try.func71 (by kernel_rfl) rfl #[.int .i64 a0_0, .slice Ao40 t626.length co40, .int .i64 a1] (by rfl) rfl rfl (by (try simp only [la, lb, lc]); first | done | rfl | (simp only [ld, le]; rfl)) ?_
    with_reducible refine (spec_l01At.calls k a0_0 _ _ t626 a1 t629 _ ?side1 ?side2 A8.out).mono ?_
    (case side1 => exact uC ((Kd.R_reads' HO628.out).2.2))
    (case side2 => exact (Kd.R_reads' HO628.out).2.1)
    rintro e w' ⟨rfl, ⟨nd, rfl⟩⟩
    refine ⟨_, rfl, ?_⟩
    refine hK.out _ _ ⟨(blk_cell BK623.out 0).trans rfl, (blk_cell BK623.out 1).trans rfl, (blk_cell BK623.out 2).trans rfl⟩ (fun hHeld => ?_)
    clear hK K
    refine no_ 27 ?_
    refine pu_ 5 28 (bl 17 63) HT_ ?_
    refine pu_ 6 29 (bl 17 127) HT_ ?_
    refine un_ 7 30 (bl 17 255) HT_ ?_
    refine un_ 8 31 (bl 17 511) HT_ ?_
    refine un_ 9 32 (bl 17 1023) HT_ ?_
    refine un_ 10 33 (bl 17 2047) HT_ ?_
    refine un_ 11 34 (bl 17 4095) HT_ ?_
    refine un_ 12 35 (bl 17 8191) HT_ ?_
    refine un_ 13 36 (bl 17 16383) HT_ ?_
    refine un_ 14 37 (bl 17 32767) HT_ ?_
    refine un_ 15 38 (bl 17 65535) HT_ ?_
    refine pu_ 16 39 (bl 17 131071) HT_ ?_
    refine done_ (done_of HT_.out (by kernel_rfl)) ?_
    try go_wp2
    go_ret2
    exact ⟨by first | rfl | (simp [errW_none, errW_some] <;> rfl) | (simp [*, errW_none, errW_some] <;> rfl), uH HB.out⟩
  ·replace c6 := Bool.eq_false_iff.mpr c6
   subst c6
   have H1 : (some (0, 2)) = some (r1, r2) := by rw [if_neg (show ¬ (false = true) by decide)] at H; exact H
   clear H
   have H := H1
   clear H1
   simp only [Option.some.injEq, Prod.mk.injEq] at H
   obtain ⟨rfl, rfl⟩ := H
   go_enter Try.func32, Try.ntmps32
   go_wp2_with (first | ((with_reducible refine gate_dst (N := 2) rfl ?_); refine box_event ?hg (N := 2) ?hd (cs := #[.int .i64 a0_0, .slice A0_1 l0_1.length c0_1, .slice A0_2 l0_2.length c0_2]) (t := 46) ?hr ?_; (case hd => rfl); (case hg => rfl); (case hr => first | (go_simp; done) | (go_simp; rfl)); intro gb623 hg w41 hbox hb; have n0_ := xH HB hb; have n1_ := zA (hbox); have n2_ := zA ((by rw [hg]; exact (below_size (uH HB.out)) : w.heap.size ≤ gb623)); have n3_ := zA ((by rw [hg]; exact (below_size (uH HB.out)) : w.heap.size ≤ gb623)); clear HB; have HB := n0_; have BK623 := n1_; have GW623 := n2_; have GE623 := n3_; have := geI GE623; clear n0_ n1_ n2_ n3_ hb hbox hg; have hcz42_0 : w41.cell? ⟨gb623, 0, none⟩ = some (.int .i64 a0_0) := (blk_cell BK623.out 0).trans rfl; have hcz42_1 : w41.cell? ⟨gb623, 1, none⟩ = some (.slice A0_1 l0_1.length c0_1) := (blk_cell BK623.out 1).trans rfl; have hcz42_2 : w41.cell? ⟨gb623, 2, none⟩ = some (.slice A0_2 l0_2.length c0_2) := (blk_cell BK623.out 2).trans rfl; have hfz42_0 := blk_frozen BK623.out 0; have hfz42_1 := blk_frozen BK623.out 1; have hfz42_2 := blk_frozen BK623.out 2) | ((with_reducible refine gate_callee (f := 80) rfl ?_); refine goesL_ (some 9) rfl rfl Try.func80 (by kernel_rfl) rfl #[.agg #[.int .i64 a0_0, .slice A0_1 l0_1.length c0_1, .slice A0_2 l0_2.length c0_2]] rfl (by (try simp only [la, lb, lc]); first | done | rfl | (simp only [ld, le]; rfl)) ?_; (with_reducible refine (spec_l03Is.calls k a0_0 _ _ l0_1 _ _ l0_2 true _ ?side1 ?side2 ?side3 ?side4 A3.out).mono ?_); (case side1 => exact uC ((Kd.C_below HR0_1.out HB.out))); (case side2 => exact HC0_1.out); (case side3 => exact uC ((Kd.C_below HR0_2.out HB.out))); (case side4 => exact HC0_2.out); rintro e w43 ⟨rfl, hb⟩; refine ⟨_, rfl, ?_⟩; have n0_ := xB BK623 hb; have n1_ := xH HB hb; clear BK623 HB; have BK623 := n0_; have HB := n1_; clear n0_ n1_; (try clear hb); (try clear hb2); (try clear hk); (try clear hi); have hcz44_0 : w43.cell? ⟨gb623, 0, none⟩ = some (.int .i64 a0_0) := (blk_cell BK623.out 0).trans rfl; have hcz44_1 : w43.cell? ⟨gb623, 1, none⟩ = some (.slice A0_1 l0_1.length c0_1) := (blk_cell BK623.out 1).trans rfl; have hcz44_2 : w43.cell? ⟨gb623, 2, none⟩ = some (.slice A0_2 l0_2.length c0_2) := (blk_cell BK623.out 2).trans rfl; have hfz44_0 := blk_frozen BK623.out 0; have hfz44_1 := blk_frozen BK623.out 1; have hfz44_2 := blk_frozen BK623.out 2) | ((with_reducible refine gate_callee (f := 70) rfl ?_); refine goesL_ (some 16) rfl rfl Try.func70 (by kernel_rfl) rfl #[.int .i64 a1, .int .i64 0, .int .i64 (wrap64 (a0_0 - 1))] rfl (by (try simp only [la, lb, lc]); first | done | rfl | (simp only [ld, le]; rfl)) ?_; (with_reducible refine (spec_l01In.calls a1 0 (wrap64 (a0_0 - 1)) false _ A5.out).mono ?_); rintro e w' ⟨rfl, ⟨nd, rfl⟩⟩; refine ⟨_, rfl, ?_⟩))
   go_ret2
   exact ⟨by first | rfl | (simp [errW_none, errW_some] <;> rfl) | (simp [*, errW_none, errW_some] <;> rfl), uH HB.out⟩
 ·replace c4 := Bool.eq_false_iff.mpr c4
  subst c4
  have H1 : (some (0, 1)) = some (r1, r2) := by rw [if_neg (show ¬ (false = true) by decide)] at H; exact H
  clear H
  have H := H1
  clear H1
  simp only [Option.some.injEq, Prod.mk.injEq] at H
  obtain ⟨rfl, rfl⟩ := H
  go_enter Try.func32, Try.ntmps32
  go_wp2_with (first | ((with_reducible refine gate_dst (N := 2) rfl ?_); refine box_event ?hg (N := 2) ?hd (cs := #[.int .i64 a0_0, .slice A0_1 l0_1.length c0_1, .slice A0_2 l0_2.length c0_2]) (t := 46) ?hr ?_; (case hd => rfl); (case hg => rfl); (case hr => first | (go_simp; done) | (go_simp; rfl)); intro gb623 hg w45 hbox hb; have n0_ := xH HB hb; have n1_ := zA (hbox); have n2_ := zA ((by rw [hg]; exact (below_size (uH HB.out)) : w.heap.size ≤ gb623)); have n3_ := zA ((by rw [hg]; exact (below_size (uH HB.out)) : w.heap.size ≤ gb623)); clear HB; have HB := n0_; have BK623 := n1_; have GW623 := n2_; have GE623 := n3_; have := geI GE623; clear n0_ n1_ n2_ n3_ hb hbox hg; have hcz46_0 : w45.cell? ⟨gb623, 0, none⟩ = some (.int .i64 a0_0) := (blk_cell BK623.out 0).trans rfl; have hcz46_1 : w45.cell? ⟨gb623, 1, none⟩ = some (.slice A0_1 l0_1.length c0_1) := (blk_cell BK623.out 1).trans rfl; have hcz46_2 : w45.cell? ⟨gb623, 2, none⟩ = some (.slice A0_2 l0_2.length c0_2) := (blk_cell BK623.out 2).trans rfl; have hfz46_0 := blk_frozen BK623.out 0; have hfz46_1 := blk_frozen BK623.out 1; have hfz46_2 := blk_frozen BK623.out 2) | ((with_reducible refine gate_callee (f := 80) rfl ?_); refine goesL_ (some 9) rfl rfl Try.func80 (by kernel_rfl) rfl #[.agg #[.int .i64 a0_0, .slice A0_1 l0_1.length c0_1, .slice A0_2 l0_2.length c0_2]] rfl (by (try simp only [la, lb, lc]); first | done | rfl | (simp only [ld, le]; rfl)) ?_; (with_reducible refine (spec_l03Is.calls k a0_0 _ _ l0_1 _ _ l0_2 false _ ?side1 ?side2 ?side3 ?side4 A3.out).mono ?_); (case side1 => exact uC ((Kd.C_below HR0_1.out HB.out))); (case side2 => exact HC0_1.out); (case side3 => exact uC ((Kd.C_below HR0_2.out HB.out))); (case side4 => exact HC0_2.out); rintro e w47 ⟨rfl, hb⟩; refine ⟨_, rfl, ?_⟩; have n0_ := xB BK623 hb; have n1_ := xH HB hb; clear BK623 HB; have BK623 := n0_; have HB := n1_; clear n0_ n1_; (try clear hb); (try clear hb2); (try clear hk); (try clear hi)))
  go_ret2
  exact ⟨by first | rfl | (simp [errW_none, errW_some] <;> rfl) | (simp [*, errW_none, errW_some] <;> rfl), uH HB.out⟩

end Go.Proofs.Ytokkabgkjhpecaa.Pr
