/- Texts of this session in one: what functions of the program compute, and plain facts of it, under the conditions that each theorem names. -/
import Derived.Test.YtokkabgkjhpecaaKC01
import Derived.Test.YtokkabgkjhpecaaKC02
import Derived.Test.YtokkabgkjhpecaaKC04
import Derived.Test.YtokkabgkjhpecaaKC05
import Derived.Test.YtokkabgkjhpecaaKC07
import Derived.Test.YtokkabgkjhpecaaKC08
import Derived.Test.YtokkabgkjhpecaaKC09
/- Printed by a program of this session out of the translation: what these functions of the program compute, under the conditions that each theorem names. -/
namespace Go.Proofs.Ytokkabgkjhpecaa.Pr
open Go.RowKit Go.Proofs.YtokkabgkjhpecaaW.PrintWords Go.Proofs.YtokkabgkjhpecaaW.PrintLast Go.Proofs.YtokkabgkjhpecaaW.PrintMore
attribute [local go_sem] max2_int min2_int max_two min_two max_three min_three max_four min_four   -- for this text's walks alone
set_option linter.unusedVariables false
set_option linter.unusedSimpArgs false

/-! ### impl_ValueOf: function 30 -/
def impl_ValueOf.j0 : Nat → Int → Int → Int → Int → List Int → List Int → Option (Int × Int)
 | 0, _, _, _, _, _, _ => none
 | k + 1, x1, x2, x8, x538000, x538001, x538002 => if x8 = 0 then ((impl_Jacobi_field.f x538000 x538001 x538002).bind fun t544 => ((impl_Jacobi_polys.f k x538000 x538001 x538002).bind fun t545 => (if 0 ≤ x1 then (if x1 < (t545.length : Int) then ((impl_field_value.f t544 (rd_L1 t545 x1) x2).bind fun t549 => (some (t549, 0))) else (none)) else (none)))) else (some (0, x8))
def impl_ValueOf.f (k : Nat) (a0_0 : Int) (l0_1 : List Int) (l0_2 : List Int) (a1 : Int) (a2 : Int) : Option (Int × Int) := (impl_Jacobi_size.f a0_0 l0_1 l0_2).bind fun t538 => ((impl_within.f a1 0 t538).bind fun t539 => (if t539 = true then ((impl_Jacobi_field.f a0_0 l0_1 l0_2).bind fun t540 => ((impl_field_has.f t540 a2).bind fun t541 => ((impl_jacobiCode.f k a0_0 l0_1 l0_2 t541).bind fun t542 => (impl_ValueOf.j0 k a1 a2 t542 a0_0 l0_1 l0_2)))) else ((impl_jacobiCode.f k a0_0 l0_1 l0_2 false).bind fun t543 => (impl_ValueOf.j0 k a1 a2 t543 a0_0 l0_1 l0_2))))
theorem impl_ValueOf.mono_l : ∀ k, (∀ y0 y1 y2 y3 y4 y5, LeO (impl_ValueOf.j0 k y0 y1 y2 y3 y4 y5) (impl_ValueOf.j0 (k + 1) y0 y1 y2 y3 y4 y5))
 | 0 => fun _ _ _ _ _ _ r h => by simp [impl_ValueOf.j0] at h
 | k + 1 => by
  have ih0 := impl_ValueOf.mono_l k
  ·intro y0 y1 y2 y3 y4 y5
   unfold impl_ValueOf.j0
   repeat' first
   | (with_reducible exact ih0 _ _ _ _ _ _)
   | (with_reducible exact impl_Jacobi_polys.mono _ _ _ _)
   | (with_reducible exact impl_jacobiCode.mono _ _ _ _ _)
   | (with_reducible exact LeO.refl _)
   | (with_reducible exact LeO.none _)
   | (with_reducible refine LeO.ite ?_ ?_)
   | (with_reducible refine LeO.bind ?_ (fun _ => ?_))
   | exact ih0 _ _ _ _ _ _
   | exact impl_Jacobi_polys.mono _ _ _ _
   | exact impl_jacobiCode.mono _ _ _ _ _
   | exact LeO.none _
   | refine LeO.ite ?_ ?_
   | refine LeO.bind ?_ (fun _ => ?_)
theorem impl_ValueOf.mono : ∀ a0 a1 a2 a3 a4 k, LeO (impl_ValueOf.f k a0 a1 a2 a3 a4) (impl_ValueOf.f (k + 1) a0 a1 a2 a3 a4) := by
 intro a0 a1 a2 a3 a4 k
 have ih0 := impl_ValueOf.mono_l k
 unfold impl_ValueOf.f
 repeat' first
   | (with_reducible exact ih0 _ _ _ _ _ _)
   | (with_reducible exact impl_Jacobi_polys.mono _ _ _ _)
   | (with_reducible exact impl_jacobiCode.mono _ _ _ _ _)
   | (with_reducible exact LeO.refl _)
   | (with_reducible exact LeO.none _)
   | (with_reducible refine LeO.ite ?_ ?_)
   | (with_reducible refine LeO.bind ?_ (fun _ => ?_))
   | exact ih0 _ _ _ _ _ _
   | exact impl_Jacobi_polys.mono _ _ _ _
   | exact impl_jacobiCode.mono _ _ _ _ _
   | exact LeO.none _
   | refine LeO.ite ?_ ?_
   | refine LeO.bind ?_ (fun _ => ?_)
def impl_ValueOf.T1 : Bool × List (List Nat × List Nat) := (true, [([], []), ([], []), ([], []), ([2], [2]), ([1, 3, 3], [1, 3]), ([4, 4], [4]), ([5], [5]), ([6, 5, 5], [5, 6]), ([5], [5]), ([7, 8, 7, 5], [5, 7, 8]), ([5, 9], [5, 9]), ([0, 10, 9], [0, 10]), ([11, 11, 0, 1, 2, 3, 4, 5, 6, 7, 8, 9, 10, 11], [11])])
def impl_ValueOf.B1 : List Nat := [0, 0, 0, 4, 14, 30, 62, 126, 62, 510, 1022, 2047, 4095]
theorem impl_ValueOf.tab1 : rtab .any (opsOf Try.f30 1) = impl_ValueOf.T1 := by kernel_rfl
theorem impl_ValueOf.bits1 : waitsOk impl_ValueOf.T1.2 impl_ValueOf.B1 = true := by kernel_rfl
def impl_ValueOf.T4 : Bool × List (List Nat × List Nat) := (true, [([], []), ([0], [0]), ([], []), ([2, 1], [2]), ([], []), ([3, 4], [3, 4]), ([5], [5]), ([], []), ([1, 6, 7, 3], [1, 6, 7]), ([8, 8, 0, 1, 2, 3, 4, 5, 6, 7, 8], [8]), ([9, 0, 1, 2, 3, 4, 5, 6, 7, 8, 9], [])])
def impl_ValueOf.B4 : List Nat := [0, 1, 0, 7, 0, 31, 63, 0, 255, 511, 1023]
theorem impl_ValueOf.tab4 : rtab .any (opsOf Try.f30 4) = impl_ValueOf.T4 := by kernel_rfl
theorem impl_ValueOf.bits4 : waitsOk impl_ValueOf.T4.2 impl_ValueOf.B4 = true := by kernel_rfl
set_option maxHeartbeats 8000000 in
set_option maxRecDepth 100000 in
theorem impl_ValueOf.calls (k : Nat) (a0_0 : Int) (A0_1 : Option Addr) (c0_1 : Nat) (l0_1 : List Int) (A0_2 : Option Addr) (c0_2 : Nat) (l0_2 : List Int) (a1 : Int) (a2 : Int) (r1 : Int) (r2 : Int) (w : World) (hr0_1 : Kd.C (Kd.int .i64) w A0_1 l0_1.length l0_1) (hc0_1 : l0_1.length ≤ c0_1) (hr0_2 : Kd.C (Kd.int .i64) w A0_2 l0_2.length l0_2) (hc0_2 : l0_2.length ≤ c0_2) (h : impl_ValueOf.f k a0_0 l0_1 l0_2 a1 a2 = some (r1, r2)) :
  Calls Try.prog 30 #[.agg #[.int .i64 a0_0, .slice A0_1 l0_1.length c0_1, .slice A0_2 l0_2.length c0_2], .int .i64 a1, .int .i64 a2] w fun e w' => e = .returned (.tuple #[.int .i64 r1, .int .i64 r2]) ∧ Below w.heap.size w w' := by
 have hu46 := Try.underlying46
 have HR0_1 := zA hr0_1
 have HC0_1 := zA hc0_1
 clear hr0_1 hc0_1
 have HR0_2 := zA hr0_2
 have HC0_2 := zA hc0_2
 clear hr0_2 hc0_2
 have HB := zA (Below.refl w.heap.size w)
 have H : ((impl_Jacobi_size.f a0_0 l0_1 l0_2).bind fun t538 => ((impl_within.f a1 0 t538).bind fun t539 => (if t539 = true then ((impl_Jacobi_field.f a0_0 l0_1 l0_2).bind fun t540 => ((impl_field_has.f t540 a2).bind fun t541 => ((impl_jacobiCode.f k a0_0 l0_1 l0_2 t541).bind fun t542 => (impl_ValueOf.j0 k a1 a2 t542 a0_0 l0_1 l0_2)))) else ((impl_jacobiCode.f k a0_0 l0_1 l0_2 false).bind fun t543 => (impl_ValueOf.j0 k a1 a2 t543 a0_0 l0_1 l0_2))))) = some (r1, r2) := h
 clear h
 have HC4 := zA H
 clear H
 go_enter Try.func30, Try.ntmps30
 go_upto_region 1 with (first | ((with_reducible refine gate_dst (N := 3) rfl ?_); refine box_event ?hg (N := 3) ?hd (cs := #[.int .i64 a0_0, .slice A0_1 l0_1.length c0_1, .slice A0_2 l0_2.length c0_2]) (t := 46) ?hr ?_; (case hd => rfl); (case hg => rfl); (case hr => first | (go_simp; done) | (go_simp; rfl)); intro gb537 hg w5 hbox hb; have n0_ := xH HB hb; have n1_ := zA (hbox); have n2_ := zA ((by rw [hg]; exact (below_size (uH HB.out)) : w.heap.size ≤ gb537)); have n3_ := zA ((by rw [hg]; exact (below_size (uH HB.out)) : w.heap.size ≤ gb537)); clear HB; have HB := n0_; have BK537 := n1_; have GW537 := n2_; have GE537 := n3_; have := geI GE537; clear n0_ n1_ n2_ n3_ hb hbox hg))
 (try simp only [Act.put, ls, lz, ln])
 go_cut [8] (fun v8 wc => ∃ (kq : Nat) (x8_3 : Int), v8 = .int .i64 x8_3 ∧ Aside0 (impl_ValueOf.j0 kq a1 a2 x8_3 a0_0 l0_1 l0_2 = some (r1, r2)) ∧ Aside0 (kq ≤ k) ∧ Aside0 (wc.heap[gb537]? = some (.cells #[.int .i64 a0_0, (.slice A0_1 l0_1.length c0_1), (.slice A0_2 l0_2.length c0_2)] 46 (0, 0))) ∧ Aside0 (Below w.heap.size w wc))
 case first =>
  have H := HC4.out
  clear HC4
  replace H := Option.bind_eq_some_iff.mp H
  obtain ⟨t538, A60, H⟩ := H
  replace H : ((impl_within.f a1 0 t538).bind fun t539 => (if t539 = true then ((impl_Jacobi_field.f a0_0 l0_1 l0_2).bind fun t540 => ((impl_field_has.f t540 a2).bind fun t541 => ((impl_jacobiCode.f k a0_0 l0_1 l0_2 t541).bind fun t542 => (impl_ValueOf.j0 k a1 a2 t542 a0_0 l0_1 l0_2)))) else ((impl_jacobiCode.f k a0_0 l0_1 l0_2 false).bind fun t543 => (impl_ValueOf.j0 k a1 a2 t543 a0_0 l0_1 l0_2)))) = some (r1, r2) := H
  have A6 := zA A60
  clear A60
  replace H := Option.bind_eq_some_iff.mp H
  obtain ⟨t539, A70, H⟩ := H
  replace H : (if t539 = true then ((impl_Jacobi_field.f a0_0 l0_1 l0_2).bind fun t540 => ((impl_field_has.f t540 a2).bind fun t541 => ((impl_jacobiCode.f k a0_0 l0_1 l0_2 t541).bind fun t542 => (impl_ValueOf.j0 k a1 a2 t542 a0_0 l0_1 l0_2)))) else ((impl_jacobiCode.f k a0_0 l0_1 l0_2 false).bind fun t543 => (impl_ValueOf.j0 k a1 a2 t543 a0_0 l0_1 l0_2))) = some (r1, r2) := H
  have A7 := zA A70
  clear A70
  by_cases c8 : t539 = true
  ·subst c8
   have H1 : ((impl_Jacobi_field.f a0_0 l0_1 l0_2).bind fun t540 => ((impl_field_has.f t540 a2).bind fun t541 => ((impl_jacobiCode.f k a0_0 l0_1 l0_2 t541).bind fun t542 => (impl_ValueOf.j0 k a1 a2 t542 a0_0 l0_1 l0_2)))) = some (r1, r2) := by rw [if_pos rfl] at H; exact H
   clear H
   have H := H1
   clear H1
   replace H := Option.bind_eq_some_iff.mp H
   obtain ⟨t540, A90, H⟩ := H
   replace H : ((impl_field_has.f t540 a2).bind fun t541 => ((impl_jacobiCode.f k a0_0 l0_1 l0_2 t541).bind fun t542 => (impl_ValueOf.j0 k a1 a2 t542 a0_0 l0_1 l0_2))) = some (r1, r2) := H
   have A9 := zA A90
   clear A90
   replace H := Option.bind_eq_some_iff.mp H
   obtain ⟨t541, A100, H⟩ := H
   replace H : ((impl_jacobiCode.f k a0_0 l0_1 l0_2 t541).bind fun t542 => (impl_ValueOf.j0 k a1 a2 t542 a0_0 l0_1 l0_2)) = some (r1, r2) := H
   have A10 := zA A100
   clear A100
   replace H := Option.bind_eq_some_iff.mp H
   obtain ⟨t542, A110, H⟩ := H
   replace H : (impl_ValueOf.j0 k a1 a2 t542 a0_0 l0_1 l0_2) = some (r1, r2) := H
   have A11 := zA A110
   clear A110
   have H' := zA H
   clear H
   try go_wp2
   have n0_ := zA (blk_drew BK537.out)
   have n1_ := zA (below_drew1 HB.out)
   clear BK537 HB
   have BK537 := n0_; have HB := n1_
   clear n0_ n1_
   refine start_ (n := 13) (S := fun w' => w'.cell? ⟨gb537, 0, none⟩ = some (.int .i64 a0_0) ∧ w'.cell? ⟨gb537, 1, none⟩ = some (.slice A0_1 l0_1.length c0_1) ∧ w'.cell? ⟨gb537, 2, none⟩ = some (.slice A0_2 l0_2.length c0_2)) (ds := []) #[false, false, false, false, false, false, false, false, false, false, false, false, false] (by kernel_rfl) rfl rfl ⟨(blk_cell BK537.out 0).trans rfl, (blk_cell BK537.out 1).trans rfl, (blk_cell BK537.out 2).trans rfl⟩ (fun hHeld => ?_); refine with_tabW impl_ValueOf.tab1 impl_ValueOf.bits1 (fun HT_ HW_ => ?_)
   generalize w5.drew = w12 at BK537 HB hHeld ⊢
   refine pu_ 1 10 (bl 13 2) HT_ ?_
   refine ta_ 0 9 (bl 13 3) HT_ HW_ hHeld ?_
   refine ta_ 2 11 (bl 13 7) HT_ HW_ hHeld ?_
   refine on_ 3 (some 12) (bl 13 15) HT_ (fun K hK => ?_)
   refine goes_ Try.func75 (by kernel_rfl) rfl #[.agg #[.int .i64 a0_0, .slice A0_1 l0_1.length c0_1, .slice A0_2 l0_2.length c0_2]] (by rfl) rfl rfl (by (try simp only [la, lb, lc]); first | done | rfl | (simp only [ld, le]; rfl)) ?_
   with_reducible refine (impl_Jacobi_size.calls a0_0 _ _ l0_1 _ _ l0_2 t538 _ ?side1 ?side2 ?side3 ?side4 A6.out).mono ?_
   (case side1 => exact uC ((Kd.C_below HR0_1.out HB.out)))
   (case side2 => exact HC0_1.out)
   (case side3 => exact uC ((Kd.C_below HR0_2.out HB.out)))
   (case side4 => exact HC0_2.out)
   rintro e w13 ⟨rfl, hb⟩
   refine ⟨_, rfl, ?_⟩
   have n0_ := xB BK537 hb
   have n1_ := xH HB hb
   clear BK537 HB
   have BK537 := n0_; have HB := n1_
   clear n0_ n1_
   (try clear hb); (try clear hb2); (try clear hk); (try clear hi)
   refine hK.out _ _ ⟨(blk_cell BK537.out 0).trans rfl, (blk_cell BK537.out 1).trans rfl, (blk_cell BK537.out 2).trans rfl⟩ (fun hHeld => ?_)
   clear hK K
   refine no_ 12 ?_
   refine on_ 4 (some 13) (bl 13 31) HT_ (fun K hK => ?_)
   refine goes_ Try.func74 (by kernel_rfl) rfl #[.int .i64 a1, .int .i64 0, .int .i64 t538] (by rfl) rfl rfl (by (try simp only [la, lb, lc]); first | done | rfl | (simp only [ld, le]; rfl)) ?_
   with_reducible refine (impl_within.calls a1 0 t538 true _ A7.out).mono ?_
   rintro e w' ⟨rfl, ⟨nd, rfl⟩⟩
   refine ⟨_, rfl, ?_⟩
   refine hK.out _ _ ⟨(blk_cell BK537.out 0).trans rfl, (blk_cell BK537.out 1).trans rfl, (blk_cell BK537.out 2).trans rfl⟩ (fun hHeld => ?_)
   clear hK K
   refine no_ 13 ?_
   refine pu_ 5 14 (bl 13 63) HT_ ?_
   refine pu_ 8 17 (bl 13 319) HT_ ?_
   refine ta_ 6 15 (bl 13 383) HT_ HW_ hHeld ?_
   refine on_ 7 (some 16) (bl 13 511) HT_ (fun K hK => ?_)
   refine goes_ Try.func76 (by kernel_rfl) rfl #[.agg #[.int .i64 a0_0, .slice A0_1 l0_1.length c0_1, .slice A0_2 l0_2.length c0_2]] (by rfl) rfl rfl (by (try simp only [la, lb, lc]); first | done | rfl | (simp only [ld, le]; rfl)) ?_
   with_reducible refine (impl_Jacobi_field.calls a0_0 _ _ l0_1 _ _ l0_2 t540 _ ?side1 ?side2 ?side3 ?side4 A9.out).mono ?_
   (case side1 => repeat (first | exact (Kd.C_below HR0_1.out (uH HB.out)) | (with_reducible refine Kd.C_alloc ?_ _) | (with_reducible refine Kd.C_drewN ?_ _) | (with_reducible refine Kd.C_drew ?_)))
   (case side2 => exact HC0_1.out)
   (case side3 => repeat (first | exact (Kd.C_below HR0_2.out (uH HB.out)) | (with_reducible refine Kd.C_alloc ?_ _) | (with_reducible refine Kd.C_drewN ?_ _) | (with_reducible refine Kd.C_drew ?_)))
   (case side4 => exact HC0_2.out)
   rintro e w14 ⟨rfl, hb⟩
   refine ⟨_, rfl, ?_⟩
   have n0_ := xB BK537 hb
   have n1_ := xH HB hb
   clear BK537 HB
   have BK537 := n0_; have HB := n1_
   clear n0_ n1_
   (try clear hb); (try clear hb2); (try clear hk); (try clear hi)
   refine hK.out _ _ ⟨(blk_cell BK537.out 0).trans rfl, (blk_cell BK537.out 1).trans rfl, (blk_cell BK537.out 2).trans rfl⟩ (fun hHeld => ?_)
   clear hK K
   refine no_ 16 ?_
   refine on_ 9 (some 18) (bl 13 1023) HT_ (fun K hK => ?_)
   refine goes_ Try.func77 (by kernel_rfl) rfl #[.int .i64 t540, .int .i64 a2] (by rfl) rfl rfl (by (try simp only [la, lb, lc]); first | done | rfl | (simp only [ld, le]; rfl)) ?_
   with_reducible refine (impl_field_has.calls t540 a2 t541 _ A10.out).mono ?_
   rintro e w' ⟨rfl, ⟨nd, rfl⟩⟩
   refine ⟨_, rfl, ?_⟩
   refine hK.out _ _ ⟨(blk_cell BK537.out 0).trans rfl, (blk_cell BK537.out 1).trans rfl, (blk_cell BK537.out 2).trans rfl⟩ (fun hHeld => ?_)
   clear hK K
   refine no_ 18 ?_
   refine pu_ 10 19 (bl 13 2047) HT_ ?_
   refine on_ 11 (some 20) (bl 13 4095) HT_ (fun K hK => ?_)
   refine goes_ Try.func73 (by kernel_rfl) rfl #[.agg #[.int .i64 a0_0, .slice A0_1 l0_1.length c0_1, .slice A0_2 l0_2.length c0_2], .bool t541] (by rfl) rfl rfl (by (try simp only [la, lb, lc]); first | done | rfl | (simp only [ld, le]; rfl)) ?_
   with_reducible refine (impl_jacobiCode.calls k a0_0 _ _ l0_1 _ _ l0_2 t541 t542 _ ?side1 ?side2 ?side3 ?side4 A11.out).mono ?_
   (case side1 => repeat (first | exact (Kd.C_below HR0_1.out (uH HB.out)) | (with_reducible refine Kd.C_alloc ?_ _) | (with_reducible refine Kd.C_drewN ?_ _) | (with_reducible refine Kd.C_drew ?_)))
   (case side2 => exact HC0_1.out)
   (case side3 => repeat (first | exact (Kd.C_below HR0_2.out (uH HB.out)) | (with_reducible refine Kd.C_alloc ?_ _) | (with_reducible refine Kd.C_drewN ?_ _) | (with_reducible refine Kd.C_drew ?_)))
   (case side4 => exact HC0_2.out)
   rintro e w15 ⟨rfl, hb⟩
   refine ⟨_, rfl, ?_⟩
   have n0_ := xB BK537 hb
   have n1_ := xH HB hb
   clear BK537 HB
   have BK537 := n0_; have HB := n1_
   clear n0_ n1_
   (try clear hb); (try clear hb2); (try clear hk); (try clear hi)
   refine hK.out _ _ ⟨(blk_cell BK537.out 0).trans rfl, (blk_cell BK537.out 1).trans rfl, (blk_cell BK537.out 2).trans rfl⟩ (fun hHeld => ?_)
   clear hK K
   refine no_ 20 ?_
   refine pu_ 12 8 (bl 13 8191) HT_ ?_
   refine done_ (done_of HT_.out (by kernel_rfl)) ?_
   try go_wp2
   go_meet
   case rel => exact ⟨_, (t542), (by first | rfl | (simp; done) | (simp [*]; done)), H', ⟨by first | omega | exact Nat.le_refl _⟩, ⟨uB BK537.out⟩, ⟨uH HB.out⟩⟩
  ·replace c8 := Bool.eq_false_iff.mpr c8
   subst c8
   have H1 : ((impl_jacobiCode.f k a0_0 l0_1 l0_2 false).bind fun t543 => (impl_ValueOf.j0 k a1 a2 t543 a0_0 l0_1 l0_2)) = some (r1, r2) := by rw [if_neg (show ¬ (false = true) by decide)] at H; exact H
   clear H
   have H := H1
   clear H1
   replace H := Option.bind_eq_some_iff.mp H
   obtain ⟨t543, A160, H⟩ := H
   replace H : (impl_ValueOf.j0 k a1 a2 t543 a0_0 l0_1 l0_2) = some (r1, r2) := H
   have A16 := zA A160
   clear A160
   have H' := zA H
   clear H
   try go_wp2
   have n0_ := zA (blk_drew BK537.out)
   have n1_ := zA (below_drew1 HB.out)
   clear BK537 HB
   have BK537 := n0_; have HB := n1_
   clear n0_ n1_
   refine start_ (n := 13) (S := fun w' => w'.cell? ⟨gb537, 0, none⟩ = some (.int .i64 a0_0) ∧ w'.cell? ⟨gb537, 1, none⟩ = some (.slice A0_1 l0_1.length c0_1) ∧ w'.cell? ⟨gb537, 2, none⟩ = some (.slice A0_2 l0_2.length c0_2)) (ds := []) #[false, false, false, false, false, false, false, false, false, false, false, false, false] (by kernel_rfl) rfl rfl ⟨(blk_cell BK537.out 0).trans rfl, (blk_cell BK537.out 1).trans rfl, (blk_cell BK537.out 2).trans rfl⟩ (fun hHeld => ?_); refine with_tabW impl_ValueOf.tab1 impl_ValueOf.bits1 (fun HT_ HW_ => ?_)
   generalize w5.drew = w17 at BK537 HB hHeld ⊢
   refine pu_ 1 10 (bl 13 2) HT_ ?_
   refine ta_ 0 9 (bl 13 3) HT_ HW_ hHeld ?_
   refine ta_ 2 11 (bl 13 7) HT_ HW_ hHeld ?_
   refine on_ 3 (some 12) (bl 13 15) HT_ (fun K hK => ?_)
   refine goes_ Try.func75 (by kernel_rfl) rfl #[.agg #[.int .i64 a0_0, .slice A0_1 l0_1.length c0_1, .slice A0_2 l0_2.length c0_2]] (by rfl) rfl rfl (by (try simp only [la, lb, lc]); first | done | rfl | (simp only [ld, le]; rfl)) ?_
   with_reducible refine (impl_Jacobi_size.calls a0_0 _ _ l0_1 _ _ l0_2 t538 _ ?side1 ?side2 ?side3 ?side4 A6.out).mono ?_
   (case side1 => exact uC ((Kd.C_below HR0_1.out HB.out)))
   (case side2 => exact HC0_1.out)
   (case side3 => exact uC ((Kd.C_below HR0_2.out HB.out)))
   (case side4 => exact HC0_2.out)
   rintro e w18 ⟨rfl, hb⟩
   refine ⟨_, rfl, ?_⟩
   have n0_ := xB BK537 hb
   have n1_ := xH HB hb
   clear BK537 HB
   have BK537 := n0_; have HB := n1_
   clear n0_ n1_
   (try clear hb); (try clear hb2); (try clear hk); (try clear hi)
   refine hK.out _ _ ⟨(blk_cell BK537.out 0).trans rfl, (blk_cell BK537.out 1).trans rfl, (blk_cell BK537.out 2).trans rfl⟩ (fun hHeld => ?_)
   clear hK K
   refine no_ 12 ?_
   refine on_ 4 (some 13) (bl 13 31) HT_ (fun K hK => ?_)
   refine goes_ Try.func74 (by kernel_rfl) rfl #[.int .i64 a1, .int .i64 0, .int .i64 t538] (by rfl) rfl rfl (by (try simp only [la, lb, lc]); first | done | rfl | (simp only [ld, le]; rfl)) ?_
   with_reducible refine (impl_within.calls a1 0 t538 false _ A7.out).mono ?_
   rintro e w' ⟨rfl, ⟨nd, rfl⟩⟩
   refine ⟨_, rfl, ?_⟩
   refine hK.out _ _ ⟨(blk_cell BK537.out 0).trans rfl, (blk_cell BK537.out 1).trans rfl, (blk_cell BK537.out 2).trans rfl⟩ (fun hHeld => ?_)
   clear hK K
   refine no_ 13 ?_
   refine pu_ 5 14 (bl 13 63) HT_ ?_
   refine un_ 6 15 (bl 13 127) HT_ ?_
   refine un_ 7 16 (bl 13 255) HT_ ?_
   refine un_ 8 17 (bl 13 511) HT_ ?_
   refine un_ 9 18 (bl 13 1023) HT_ ?_
   refine pu_ 10 19 (bl 13 2047) HT_ ?_
   refine on_ 11 (some 20) (bl 13 4095) HT_ (fun K hK => ?_)
   refine goes_ Try.func73 (by kernel_rfl) rfl #[.agg #[.int .i64 a0_0, .slice A0_1 l0_1.length c0_1, .slice A0_2 l0_2.length c0_2], .bool false] (by rfl) rfl rfl (by (try simp only [la, lb, lc]); first | done | rfl | (simp only [ld, le]; rfl)) ?_
   with_reducible refine (impl_jacobiCode.calls k a0_0 _ _ l0_1 _ _ l0_2 false t543 _ ?side1 ?side2 ?side3 ?side4 A16.out).mono ?_
   (case side1 => repeat (first | exact (Kd.C_below HR0_1.out (uH HB.out)) | (with_reducible refine Kd.C_alloc ?_ _) | (with_reducible refine Kd.C_drewN ?_ _) | (with_reducible refine Kd.C_drew ?_)))
   (case side2 => exact HC0_1.out)
   (case side3 => repeat (first | exact (Kd.C_below HR0_2.out (uH HB.out)) | (with_reducible refine Kd.C_alloc ?_ _) | (with_reducible refine Kd.C_drewN ?_ _) | (with_reducible refine Kd.C_drew ?_)))
   (case side4 => exact HC0_2.out)
   rintro e w19 ⟨rfl, hb⟩
   refine ⟨_, rfl, ?_⟩
   have n0_ := xB BK537 hb
   have n1_ := xH HB hb
   clear BK537 HB
   have BK537 := n0_; have HB := n1_
   clear n0_ n1_
   (try clear hb); (try clear hb2); (try clear hk); (try clear hi)
   refine hK.out _ _ ⟨(blk_cell BK537.out 0).trans rfl, (blk_cell BK537.out 1).trans rfl, (blk_cell BK537.out 2).trans rfl⟩ (fun hHeld => ?_)
   clear hK K
   refine no_ 20 ?_
   refine pu_ 12 8 (bl 13 8191) HT_ ?_
   refine done_ (done_of HT_.out (by kernel_rfl)) ?_
   try go_wp2
   go_meet
   case rel => exact ⟨_, (t543), (by first | rfl | (simp; done) | (simp [*]; done)), H', ⟨by first | omega | exact Nat.le_refl _⟩, ⟨uB BK537.out⟩, ⟨uH HB.out⟩⟩
 case rest =>
  clear HC4
  try clear p2
  try clear c3
  try clear c7
  try clear c8
  obtain ⟨kq, x8_3, rfl, HA, HJ3, BK537, HB⟩ := hcut
  cases kq with
  | zero => exact absurd HA.out (by simp [impl_ValueOf.j0])
  | succ kj3 =>
   have H := HA.out
   clear HA
   simp only [impl_ValueOf.j0] at H
   by_cases c20 : x8_3 = 0
   ·rw [if_pos c20] at H
    have c20b0 : (x8_3 == 0) = true := beq_iff_eq.mpr c20
    have c20b1 : (x8_3 != 0) = false := bne_eq_false_iff_eq.mpr c20
    clear c20
    replace H := Option.bind_eq_some_iff.mp H
    obtain ⟨t544, A210, H⟩ := H
    replace H : ((impl_Jacobi_polys.f kj3 a0_0 l0_1 l0_2).bind fun t545 => (if 0 ≤ a1 then (if a1 < (t545.length : Int) then ((impl_field_value.f t544 (rd_L1 t545 a1) a2).bind fun t549 => (some (t549, 0))) else (none)) else (none))) = some (r1, r2) := H
    have A21 := zA A210
    clear A210
    replace H := Option.bind_eq_some_iff.mp H
    obtain ⟨t545, A220, H⟩ := H
    replace H : (if 0 ≤ a1 then (if a1 < (t545.length : Int) then ((impl_field_value.f t544 (rd_L1 t545 a1) a2).bind fun t549 => (some (t549, 0))) else (none)) else (none)) = some (r1, r2) := H
    have A22 := zA A220
    clear A220
    by_cases c23 : 0 ≤ a1
    ·rw [if_pos c23] at H
     have c23b0 : decide (0 ≤ a1) = true := decide_eq_true c23
     clear c23
     by_cases c24 : a1 < (t545.length : Int)
     ·rw [if_pos c24] at H
      have c24b0 : decide (a1 < (t545.length : Int)) = true := decide_eq_true c24
      clear c24
      replace H := Option.bind_eq_some_iff.mp H
      obtain ⟨t549, A250, H⟩ := H
      replace H : (some (t549, 0)) = some (r1, r2) := H
      have A25 := zA A250
      clear A250
      simp only [Option.some.injEq, Prod.mk.injEq] at H
      obtain ⟨rfl, rfl⟩ := H
      try go_wp2
      have n0_ := zA (blk_drew BK537.out)
      have n1_ := zA (below_drew1 HB.out)
      clear BK537 HB
      have BK537 := n0_; have HB := n1_
      clear n0_ n1_
      refine start_ (n := 11) (S := fun w' => w'.cell? ⟨gb537, 0, none⟩ = some (.int .i64 a0_0) ∧ w'.cell? ⟨gb537, 1, none⟩ = some (.slice A0_1 l0_1.length c0_1) ∧ w'.cell? ⟨gb537, 2, none⟩ = some (.slice A0_2 l0_2.length c0_2)) (ds := []) #[false, false, false, false, false, false, false, false, false, false, false] (by kernel_rfl) rfl rfl ⟨(blk_cell BK537.out 0).trans rfl, (blk_cell BK537.out 1).trans rfl, (blk_cell BK537.out 2).trans rfl⟩ (fun hHeld => ?_); refine with_tabW impl_ValueOf.tab4 impl_ValueOf.bits4 (fun HT_ HW_ => ?_)
      generalize wc.drew = w26 at BK537 HB hHeld ⊢
      refine pu_ 4 28 (bl 11 16) HT_ ?_
      refine pu_ 7 31 (bl 11 144) HT_ ?_
      refine ta_ 0 24 (bl 11 145) HT_ HW_ hHeld ?_
      refine ta_ 2 26 (bl 11 149) HT_ HW_ hHeld ?_
      refine on_ 1 (some 25) (bl 11 151) HT_ (fun K hK => ?_)
      refine goes_ Try.func76 (by kernel_rfl) rfl #[.agg #[.int .i64 a0_0, .slice A0_1 l0_1.length c0_1, .slice A0_2 l0_2.length c0_2]] (by rfl) rfl rfl (by (try simp only [la, lb, lc]); first | done | rfl | (simp only [ld, le]; rfl)) ?_
      with_reducible refine (impl_Jacobi_field.calls a0_0 _ _ l0_1 _ _ l0_2 t544 _ ?side1 ?side2 ?side3 ?side4 A21.out).mono ?_
      (case side1 => exact uC ((Kd.C_below HR0_1.out HB.out)))
      (case side2 => exact HC0_1.out)
      (case side3 => exact uC ((Kd.C_below HR0_2.out HB.out)))
      (case side4 => exact HC0_2.out)
      rintro e w27 ⟨rfl, hb⟩
      refine ⟨_, rfl, ?_⟩
      have n0_ := xB BK537 hb
      have n1_ := xH HB hb
      clear BK537 HB
      have BK537 := n0_; have HB := n1_
      clear n0_ n1_
      (try clear hb); (try clear hb2); (try clear hk); (try clear hi)
      refine hK.out _ _ ⟨(blk_cell BK537.out 0).trans rfl, (blk_cell BK537.out 1).trans rfl, (blk_cell BK537.out 2).trans rfl⟩ (fun hHeld => ?_)
      clear hK K
      refine no_ 25 ?_
      refine on_ 3 (some 27) (bl 11 159) HT_ (fun K hK => ?_)
      refine goes_ Try.func79 (by kernel_rfl) rfl #[.agg #[.int .i64 a0_0, .slice A0_1 l0_1.length c0_1, .slice A0_2 l0_2.length c0_2]] (by rfl) rfl rfl (by (try simp only [la, lb, lc]); first | done | rfl | (simp only [ld, le]; rfl)) ?_
      with_reducible refine (impl_Jacobi_polys.calls kj3 a0_0 _ _ l0_1 _ _ l0_2 t545 _ ?side1 ?side2 ?side3 ?side4 A22.out).mono ?_
      (case side1 => exact uC ((Kd.C_below HR0_1.out HB.out)))
      (case side2 => exact HC0_1.out)
      (case side3 => exact uC ((Kd.C_below HR0_2.out HB.out)))
      (case side4 => exact HC0_2.out)
      rintro e w28 ⟨v546, rfl, ho0, hb⟩
      refine ⟨_, rfl, ?_⟩
      have n0_ := zA (Kd.N_lower (Kd.N_mono (ok' := fun k_ => k_ ≠ gb537) ho0 (fun k_ hk_ => (Kd.freshB (g := gb537) (o := .cells #[.int .i64 a0_0, .slice A0_1 l0_1.length c0_1, .slice A0_2 l0_2.length c0_2] 46 (0, 0)) (uB BK537.out) k_ hk_))) (below_size (uH HB.out)))
      have n1_ := xB BK537 hb
      have n2_ := xH HB hb
      clear BK537 HB
      have HO547 := n0_; have BK537 := n1_; have HB := n2_
      clear n0_ n1_ n2_
      (try clear hb); (try clear hb2); (try clear hk); (try clear hi); (try clear ho0)
      obtain ⟨Ao29, co29, eo29⟩ := Kd.N_slice HO547.out
      (first | subst eo29 | (injection eo29 with f1_ f2_ f3_; have f4_ := f1_.symm; have f5_ := f3_.symm; clear f1_ f2_ f3_; subst f4_; subst f5_))
      have p548 : 0 ≤ (a1 : Int) := of_decide_eq_true (by first | (with_reducible assumption) | assumption)
      have q548 : a1 < (t545.length : Int) := of_decide_eq_true (by first | (with_reducible assumption) | assumption)
      obtain ⟨ad548, A548_0, c548_0, e548, hx548_0, hl548_0, hi548_0⟩ := at_L1 (Kd.N_reads' HO547.out).2.2 a1 p548 q548
      cases e548
      obtain ⟨ce548, hce548, hMe548, hcc548⟩ := Kd.N_get HO547.out [] a1 p548 (by first | exact q548 | exact of_decide_eq_true (by first | (with_reducible assumption) | assumption) | (have e_ := (Kd.N_reads' HO547.out).1; omega))
      obtain ⟨ua548_0, uc548_0, rfl, ul548_0, ge548_0⟩ := Kd.FK_slice_open hMe548
      have hv548_0 := hcc548 0 _ rfl
      rw [Nat.add_zero, show ((Kd.slice 2 (Kd.int .i64))).sz = 1 from rfl, Nat.mul_one] at hv548_0
      replace hv548_0 := Option.some.inj (hv548_0.symm.trans hx548_0)
      injection hv548_0 with hva_ hvn_ hvc_
      rw [hva_] at ge548_0
      rw [hvc_] at ul548_0
      have HL548_0 := zA (show Kd.V (Kd.int .i64) 2 _ w.heap.size _ _ (rd_L1 t545 a1) from Kd.V_mk ul548_0 ge548_0)
      clear hva_ hvn_ hvc_ ge548_0 ul548_0
      clear hcc548 hce548
      have HR548_0 := zA hi548_0
      have HC548_0 := zA hl548_0
      clear hi548_0 hl548_0
      replace p548 := eq_true p548
      replace q548 := eq_true q548
      refine hK.out _ _ ⟨(blk_cell BK537.out 0).trans rfl, (blk_cell BK537.out 1).trans rfl, (blk_cell BK537.out 2).trans rfl⟩ (fun hHeld => ?_)
      clear hK K
      refine no_ 27 ?_
      refine pu_ 5 29 (bl 11 191) HT_ ?_
      refine lo_ 6 30 (bl 11 255) HT_ hHeld ?_
      refine on_ 8 (some 32) (bl 11 511) HT_ (fun K hK => ?_)
      refine goes_ Try.func78 (by kernel_rfl) rfl #[.int .i64 t544, .slice A548_0 (rd_L1 t545 a1).length c548_0, .int .i64 a2] (by rfl) rfl rfl (by (try simp only [la, lb, lc]); first | done | rfl | (simp only [ld, le]; rfl)) ?_
      with_reducible refine (impl_field_value.calls t544 _ _ (rd_L1 t545 a1) a2 t549 _ ?side1 ?side2 A25.out).mono ?_
      (case side1 => repeat (first | exact (by repeat (first | (with_reducible exact HR548_0.out) | (with_reducible refine Kd.C_alloc ?_ _) | (with_reducible refine Kd.C_drewN ?_ _) | (with_reducible refine Kd.C_drew ?_) | exact HR548_0.out)) | (with_reducible refine Kd.C_alloc ?_ _) | (with_reducible refine Kd.C_drewN ?_ _) | (with_reducible refine Kd.C_drew ?_)))
      (case side2 => exact HC548_0.out)
      rintro e w30 ⟨rfl, hb⟩
      refine ⟨_, rfl, ?_⟩
      have n0_ := zA (Kd.N_below (by (with_reducible repeat (first | apply Kd.N_alloc | apply Kd.N_drewN | apply Kd.N_drew)); exact HO547.out) hb)
      have n1_ := zA (Kd.V_below (by (with_reducible repeat (first | apply Kd.V_alloc | apply Kd.V_drewN | apply Kd.V_drew)); exact HL548_0.out) hb)
      have n2_ := xB BK537 hb
      have n3_ := zA (Kd.C_below (by repeat (first | (with_reducible exact HR548_0.out) | (with_reducible refine Kd.C_alloc ?_ _) | (with_reducible refine Kd.C_drewN ?_ _) | (with_reducible refine Kd.C_drew ?_) | exact HR548_0.out)) hb)
      have n4_ := xH HB hb
      clear HO547 HL548_0 BK537 HR548_0 HB
      have HO547 := n0_; have HL548_0 := n1_; have BK537 := n2_; have HR548_0 := n3_; have HB := n4_
      clear n0_ n1_ n2_ n3_ n4_
      (try clear hb); (try clear hb2); (try clear hk); (try clear hi)
      refine hK.out _ _ ⟨(blk_cell BK537.out 0).trans rfl, (blk_cell BK537.out 1).trans rfl, (blk_cell BK537.out 2).trans rfl⟩ (fun hHeld => ?_)
      clear hK K
      refine no_ 32 ?_
      refine pu_ 9 6 (bl 11 1023) HT_ ?_
      refine pu_ 10 7 (bl 11 2047) HT_ ?_
      refine done_ (done_of HT_.out (by kernel_rfl)) ?_
      try go_wp2
      go_ret2
      exact ⟨by first | rfl | (simp [errW_none, errW_some] <;> rfl) | (simp [*, errW_none, errW_some] <;> rfl), uH HB.out⟩
     ·rw [if_neg c24] at H
      exact absurd H (by simp)
    ·rw [if_neg c23] at H
     exact absurd H (by simp)
   ·rw [if_neg c20] at H
    have c20b0 : (x8_3 == 0) = false := beq_eq_false_iff_ne.mpr c20
    have c20b1 : (x8_3 != 0) = true := bne_iff_ne.mpr c20
    simp only [Option.some.injEq, Prod.mk.injEq] at H
    obtain ⟨rfl, rfl⟩ := H
    go_wp2
    go_ret2
    exact ⟨by first | rfl | (simp [errW_none, errW_some] <;> rfl) | (simp [*, errW_none, errW_some] <;> rfl), uH HB.out⟩

end Go.Proofs.Ytokkabgkjhpecaa.Pr
/- Printed by a program of this session out of the translation: what these functions of the program compute, under the conditions that each theorem names. -/
namespace Go.Proofs.Ytokkabgkjhpecaa.Pr
open Go.RowKit Go.Proofs.YtokkabgkjhpecaaW.PrintWords Go.Proofs.YtokkabgkjhpecaaW.PrintLast Go.Proofs.YtokkabgkjhpecaaW.PrintMore
attribute [local go_sem] max2_int min2_int max_two min_two max_three min_three max_four min_four   -- for this text's walks alone
set_option linter.unusedVariables false
set_option linter.unusedSimpArgs false

/-! ### spec_ValueOf: function 28 -/
mutual
def spec_ValueOf.j0 : Nat → Int → Int → Int → Bool → Int → List Int → List Int → Option (Int × Int)
 | 0, _, _, _, _, _, _, _ => none
 | k + 1, x1, x2, x8, x24, x452000, x452001, x452002 => if x24 = true then (spec_ValueOf.j1 k x1 x2 2 x452000 x452001 x452002) else (spec_ValueOf.j1 k x1 x2 x8 x452000 x452001 x452002)
def spec_ValueOf.j1 : Nat → Int → Int → Int → Int → List Int → List Int → Option (Int × Int)
 | 0, _, _, _, _, _, _ => none
 | k + 1, x1, x2, x8, x452000, x452001, x452002 => if x8 = 0 then ((spec_l03Poly.f k x452000 x452001 x452002 x1).bind fun t454 => ((spec_l01At.f k x452000 t454 x2).bind fun t457 => (some (t457, 0)))) else (some (0, x8))
end
def spec_ValueOf.f (k : Nat) (a0_0 : Int) (l0_1 : List Int) (l0_2 : List Int) (a1 : Int) (a2 : Int) : Option (Int × Int) := (spec_l03Code.f k a0_0 l0_1 l0_2 a1 0 (l0_1.length : Int)).bind fun t452 => (if t452 = 0 then ((spec_l01In.f a2 0 (wrap64 (a0_0 - 1))).bind fun t453 => (spec_ValueOf.j0 k a1 a2 t452 (!t453) a0_0 l0_1 l0_2)) else (spec_ValueOf.j0 k a1 a2 t452 false a0_0 l0_1 l0_2))
theorem spec_ValueOf.mono_l : ∀ k, (∀ y0 y1 y2 y3 y4 y5 y6, LeO (spec_ValueOf.j0 k y0 y1 y2 y3 y4 y5 y6) (spec_ValueOf.j0 (k + 1) y0 y1 y2 y3 y4 y5 y6)) ∧ (∀ y0 y1 y2 y3 y4 y5, LeO (spec_ValueOf.j1 k y0 y1 y2 y3 y4 y5) (spec_ValueOf.j1 (k + 1) y0 y1 y2 y3 y4 y5))
 | 0 => ⟨fun _ _ _ _ _ _ _ r h => by simp [spec_ValueOf.j0] at h, fun _ _ _ _ _ _ r h => by simp [spec_ValueOf.j1] at h⟩
 | k + 1 => by
  obtain ⟨ih0, ih1⟩ := spec_ValueOf.mono_l k
  refine ⟨?_, ?_⟩
  ·intro y0 y1 y2 y3 y4 y5 y6
   unfold spec_ValueOf.j0
   repeat' first
   | (with_reducible exact ih0 _ _ _ _ _ _ _)
   | (with_reducible exact ih1 _ _ _ _ _ _)
   | (with_reducible exact spec_l01At.mono _ _ _ _)
   | (with_reducible exact spec_l03Code.mono _ _ _ _ _ _ _)
   | (with_reducible exact spec_l03Poly.mono _ _ _ _ _)
   | (with_reducible exact LeO.refl _)
   | (with_reducible exact LeO.none _)
   | (with_reducible refine LeO.ite ?_ ?_)
   | (with_reducible refine LeO.bind ?_ (fun _ => ?_))
   | exact ih0 _ _ _ _ _ _ _
   | exact ih1 _ _ _ _ _ _
   | exact spec_l01At.mono _ _ _ _
   | exact spec_l03Code.mono _ _ _ _ _ _ _
   | exact spec_l03Poly.mono _ _ _ _ _
   | exact LeO.none _
   | refine LeO.ite ?_ ?_
   | refine LeO.bind ?_ (fun _ => ?_)
  ·intro y0 y1 y2 y3 y4 y5
   unfold spec_ValueOf.j1
   repeat' first
   | (with_reducible exact ih0 _ _ _ _ _ _ _)
   | (with_reducible exact ih1 _ _ _ _ _ _)
   | (with_reducible exact spec_l01At.mono _ _ _ _)
   | (with_reducible exact spec_l03Code.mono _ _ _ _ _ _ _)
   | (with_reducible exact spec_l03Poly.mono _ _ _ _ _)
   | (with_reducible exact LeO.refl _)
   | (with_reducible exact LeO.none _)
   | (with_reducible refine LeO.ite ?_ ?_)
   | (with_reducible refine LeO.bind ?_ (fun _ => ?_))
   | exact ih0 _ _ _ _ _ _ _
   | exact ih1 _ _ _ _ _ _
   | exact spec_l01At.mono _ _ _ _
   | exact spec_l03Code.mono _ _ _ _ _ _ _
   | exact spec_l03Poly.mono _ _ _ _ _
   | exact LeO.none _
   | refine LeO.ite ?_ ?_
   | refine LeO.bind ?_ (fun _ => ?_)
theorem spec_ValueOf.mono : ∀ a0 a1 a2 a3 a4 k, LeO (spec_ValueOf.f k a0 a1 a2 a3 a4) (spec_ValueOf.f (k + 1) a0 a1 a2 a3 a4) := by
 intro a0 a1 a2 a3 a4 k
 obtain ⟨ih0, ih1⟩ := spec_ValueOf.mono_l k
 unfold spec_ValueOf.f
 repeat' first
   | (with_reducible exact ih0 _ _ _ _ _ _ _)
   | (with_reducible exact ih1 _ _ _ _ _ _)
   | (with_reducible exact spec_l01At.mono _ _ _ _)
   | (with_reducible exact spec_l03Code.mono _ _ _ _ _ _ _)
   | (with_reducible exact spec_l03Poly.mono _ _ _ _ _)
   | (with_reducible exact LeO.refl _)
   | (with_reducible exact LeO.none _)
   | (with_reducible refine LeO.ite ?_ ?_)
   | (with_reducible refine LeO.bind ?_ (fun _ => ?_))
   | exact ih0 _ _ _ _ _ _ _
   | exact ih1 _ _ _ _ _ _
   | exact spec_l01At.mono _ _ _ _
   | exact spec_l03Code.mono _ _ _ _ _ _ _
   | exact spec_l03Poly.mono _ _ _ _ _
   | exact LeO.none _
   | refine LeO.ite ?_ ?_
   | refine LeO.bind ?_ (fun _ => ?_)
def spec_ValueOf.T6 : Bool × List (List Nat × List Nat) := (true, [([], []), ([0], [0]), ([], []), ([], []), ([2, 3], [2, 3]), ([], []), ([1, 4, 5, 4], [1, 4, 5]), ([6, 6, 0, 1, 2, 3, 4, 5, 6], [6]), ([7, 0, 1, 2, 3, 4, 5, 6, 7], [])])
def spec_ValueOf.B6 : List Nat := [0, 1, 0, 0, 12, 0, 63, 127, 255]
theorem spec_ValueOf.tab6 : rtab .any (opsOf Try.f28 6) = spec_ValueOf.T6 := by kernel_rfl
theorem spec_ValueOf.bits6 : waitsOk spec_ValueOf.T6.2 spec_ValueOf.B6 = true := by kernel_rfl
set_option maxHeartbeats 8000000 in
set_option maxRecDepth 100000 in
theorem spec_ValueOf.calls (k : Nat) (a0_0 : Int) (A0_1 : Option Addr) (c0_1 : Nat) (l0_1 : List Int) (A0_2 : Option Addr) (c0_2 : Nat) (l0_2 : List Int) (a1 : Int) (a2 : Int) (r1 : Int) (r2 : Int) (w : World) (hr0_1 : Kd.C (Kd.int .i64) w A0_1 l0_1.length l0_1) (hc0_1 : l0_1.length ≤ c0_1) (hr0_2 : Kd.C (Kd.int .i64) w A0_2 l0_2.length l0_2) (hc0_2 : l0_2.length ≤ c0_2) (h : spec_ValueOf.f k a0_0 l0_1 l0_2 a1 a2 = some (r1, r2)) :
  Calls Try.prog 28 #[.agg #[.int .i64 a0_0, .slice A0_1 l0_1.length c0_1, .slice A0_2 l0_2.length c0_2], .int .i64 a1, .int .i64 a2] w fun e w' => e = .returned (.tuple #[.int .i64 r1, .int .i64 r2]) ∧ Below w.heap.size w w' := by
 have hu46 := Try.underlying46
 have HR0_1 := zA hr0_1
 have HC0_1 := zA hc0_1
 clear hr0_1 hc0_1
 have HR0_2 := zA hr0_2
 have HC0_2 := zA hc0_2
 clear hr0_2 hc0_2
 have HB := zA (Below.refl w.heap.size w)
 have H : ((spec_l03Code.f k a0_0 l0_1 l0_2 a1 0 (l0_1.length : Int)).bind fun t452 => (if t452 = 0 then ((spec_l01In.f a2 0 (wrap64 (a0_0 - 1))).bind fun t453 => (spec_ValueOf.j0 k a1 a2 t452 (!t453) a0_0 l0_1 l0_2)) else (spec_ValueOf.j0 k a1 a2 t452 false a0_0 l0_1 l0_2))) = some (r1, r2) := h
 clear h
 replace H := Option.bind_eq_some_iff.mp H
 obtain ⟨t452, A40, H⟩ := H
 replace H : (if t452 = 0 then ((spec_l01In.f a2 0 (wrap64 (a0_0 - 1))).bind fun t453 => (spec_ValueOf.j0 k a1 a2 t452 (!t453) a0_0 l0_1 l0_2)) else (spec_ValueOf.j0 k a1 a2 t452 false a0_0 l0_1 l0_2)) = some (r1, r2) := H
 have A4 := zA A40
 clear A40
 have HC5 := zA H
 clear H
 go_enter Try.func28, Try.ntmps28
 go_upto_region 2 with (first | ((with_reducible refine gate_dst (N := 3) rfl ?_); refine box_event ?hg (N := 3) ?hd (cs := #[.int .i64 a0_0, .slice A0_1 l0_1.length c0_1, .slice A0_2 l0_2.length c0_2]) (t := 46) ?hr ?_; (case hd => rfl); (case hg => rfl); (case hr => first | (go_simp; done) | (go_simp; rfl)); intro gb451 hg w6 hbox hb; have n0_ := xH HB hb; have n1_ := zA (hbox); have n2_ := zA ((by rw [hg]; exact (below_size (uH HB.out)) : w.heap.size ≤ gb451)); have n3_ := zA ((by rw [hg]; exact (below_size (uH HB.out)) : w.heap.size ≤ gb451)); clear HB; have HB := n0_; have BK451 := n1_; have GW451 := n2_; have GE451 := n3_; have := geI GE451; clear n0_ n1_ n2_ n3_ hb hbox hg; have hcz7_0 : w6.cell? ⟨gb451, 0, none⟩ = some (.int .i64 a0_0) := (blk_cell BK451.out 0).trans rfl; have hcz7_1 : w6.cell? ⟨gb451, 1, none⟩ = some (.slice A0_1 l0_1.length c0_1) := (blk_cell BK451.out 1).trans rfl; have hcz7_2 : w6.cell? ⟨gb451, 2, none⟩ = some (.slice A0_2 l0_2.length c0_2) := (blk_cell BK451.out 2).trans rfl; have hfz7_0 := blk_frozen BK451.out 0; have hfz7_1 := blk_frozen BK451.out 1; have hfz7_2 := blk_frozen BK451.out 2) | ((with_reducible refine gate_callee (f := 69) rfl ?_); refine goesL_ (some 14) rfl rfl Try.func69 (by kernel_rfl) rfl #[.agg #[.int .i64 a0_0, .slice A0_1 l0_1.length c0_1, .slice A0_2 l0_2.length c0_2], .int .i64 a1, .int .i64 0, .int .i64 (l0_1.length : Int)] rfl (by (try simp only [la, lb, lc]); first | done | rfl | (simp only [ld, le]; rfl)) ?_; (with_reducible refine (spec_l03Code.calls k a0_0 _ _ l0_1 _ _ l0_2 a1 0 (l0_1.length : Int) t452 _ ?side1 ?side2 ?side3 ?side4 A4.out).mono ?_); (case side1 => exact uC ((Kd.C_below HR0_1.out HB.out))); (case side2 => exact HC0_1.out); (case side3 => exact uC ((Kd.C_below HR0_2.out HB.out))); (case side4 => exact HC0_2.out); rintro e w8 ⟨rfl, hb⟩; refine ⟨_, rfl, ?_⟩; have n0_ := xB BK451 hb; have n1_ := xH HB hb; clear BK451 HB; have BK451 := n0_; have HB := n1_; clear n0_ n1_; (try clear hb); (try clear hb2); (try clear hk); (try clear hi)))
 (try simp only [Act.put, ls, lz, ln])
 go_cut [24] (fun v24 wc => ∃ (kq : Nat) (x24_4 : Bool), v24 = .bool x24_4 ∧ Aside0 (spec_ValueOf.j0 kq a1 a2 t452 x24_4 a0_0 l0_1 l0_2 = some (r1, r2)) ∧ Aside0 (kq ≤ k) ∧ Aside0 (wc.heap[gb451]? = some (.cells #[.int .i64 a0_0, (.slice A0_1 l0_1.length c0_1), (.slice A0_2 l0_2.length c0_2)] 46 (0, 0))) ∧ Aside0 (Below w.heap.size w wc))
 case first =>
  have H := HC5.out
  clear HC5
  by_cases c9 : t452 = 0
  ·rw [if_pos c9] at H
   have c9b0 : (t452 == 0) = true := beq_iff_eq.mpr c9
   have c9b1 : (t452 != 0) = false := bne_eq_false_iff_eq.mpr c9
   clear c9
   (first | rw [c9b0] | (simp only [i64_w, i32_w]; rw [c9b0]) | skip)
   replace H := Option.bind_eq_some_iff.mp H
   obtain ⟨t453, A100, H⟩ := H
   replace H : (spec_ValueOf.j0 k a1 a2 t452 (!t453) a0_0 l0_1 l0_2) = some (r1, r2) := H
   have A10 := zA A100
   clear A100
   have H' := zA H
   clear H
   have hcz11_0 : w8.cell? ⟨gb451, 0, none⟩ = some (.int .i64 a0_0) := (blk_cell BK451.out 0).trans rfl
   have hcz11_1 : w8.cell? ⟨gb451, 1, none⟩ = some (.slice A0_1 l0_1.length c0_1) := (blk_cell BK451.out 1).trans rfl
   have hcz11_2 : w8.cell? ⟨gb451, 2, none⟩ = some (.slice A0_2 l0_2.length c0_2) := (blk_cell BK451.out 2).trans rfl
   have hfz11_0 := blk_frozen BK451.out 0
   have hfz11_1 := blk_frozen BK451.out 1
   have hfz11_2 := blk_frozen BK451.out 2
   go_wp2_with (first | (go_at_call 70; (with_reducible refine (spec_l01In.calls a2 0 (wrap64 (a0_0 - 1)) t453 _ A10.out).mono ?_); rintro e w' ⟨rfl, ⟨nd, rfl⟩⟩))
   go_meet
   case rel => exact ⟨_, (!t453), (by first | rfl | (simp; done) | (simp [*]; done)), H', ⟨by first | omega | exact Nat.le_refl _⟩, ⟨uB BK451.out⟩, ⟨uH HB.out⟩⟩
  ·rw [if_neg c9] at H
   have c9b0 : (t452 == 0) = false := beq_eq_false_iff_ne.mpr c9
   have c9b1 : (t452 != 0) = true := bne_iff_ne.mpr c9
   (first | rw [c9b0] | (simp only [i64_w, i32_w]; rw [c9b0]) | skip)
   have H' := zA H
   clear H
   go_wp2
   go_meet
   case rel => exact ⟨_, (false), (by first | rfl | (simp; done) | (simp [*]; done)), H', ⟨by first | omega | exact Nat.le_refl _⟩, ⟨uB BK451.out⟩, ⟨uH HB.out⟩⟩
 case rest =>
  clear HC5
  try clear c2
  try clear p2
  try clear c6
  try clear p6
  try clear c9
  try clear c9b0
  try clear c9b1
  try clear hcz11_0
  try clear hcz11_1
  try clear hcz11_2
  try clear hcz7_0
  try clear hcz7_1
  try clear hcz7_2
  try clear hfz11_0
  try clear hfz11_1
  try clear hfz11_2
  try clear hfz7_0
  try clear hfz7_1
  try clear hfz7_2
  obtain ⟨kq, x24_4, rfl, HA, HJ4, BK451, HB⟩ := hcut
  cases kq with
  | zero => exact absurd HA.out (by simp [spec_ValueOf.j0])
  | succ kj4 =>
   have H := HA.out
   clear HA
   simp only [spec_ValueOf.j0] at H
   have HC12 := zA H
   clear H
   go_upto_if 24 with (fail)
   go_cut [8] (fun v8 wc => ∃ (kq : Nat) (x8_11 : Int), v8 = .int .i64 x8_11 ∧ Aside0 (spec_ValueOf.j1 kq a1 a2 x8_11 a0_0 l0_1 l0_2 = some (r1, r2)) ∧ Aside0 (kq ≤ kj4) ∧ Aside0 (wc.heap[gb451]? = some (.cells #[.int .i64 a0_0, (.slice A0_1 l0_1.length c0_1), (.slice A0_2 l0_2.length c0_2)] 46 (0, 0))) ∧ Aside0 (Below w.heap.size w wc))
   case first =>
    have H := HC12.out
    clear HC12
    by_cases c13 : x24_4 = true
    ·subst c13
     have H1 : (spec_ValueOf.j1 kj4 a1 a2 2 a0_0 l0_1 l0_2) = some (r1, r2) := by rw [if_pos rfl] at H; exact H
     clear H
     have H := H1
     clear H1
     have H' := zA H
     clear H
     go_wp2
     go_meet
     case rel => exact ⟨_, (2), (by first | rfl | (simp; done) | (simp [*]; done)), H', ⟨by have := HJ4.out; first | omega | exact Nat.le_refl _⟩, ⟨uB BK451.out⟩, ⟨uH HB.out⟩⟩
    ·replace c13 := Bool.eq_false_iff.mpr c13
     subst c13
     have H1 : (spec_ValueOf.j1 kj4 a1 a2 t452 a0_0 l0_1 l0_2) = some (r1, r2) := by rw [if_neg (show ¬ (false = true) by decide)] at H; exact H
     clear H
     have H := H1
     clear H1
     have H' := zA H
     clear H
     go_wp2
     go_meet
     case rel => exact ⟨_, (t452), (by first | rfl | (simp; done) | (simp [*]; done)), H', ⟨by have := HJ4.out; first | omega | exact Nat.le_refl _⟩, ⟨uB BK451.out⟩, ⟨uH HB.out⟩⟩
   case rest =>
    clear HC12
    try clear c1
    try clear c2
    try clear p2
    try clear c6
    try clear p6
    try clear c9
    try clear c9b0
    try clear c9b1
    try clear c13
    try clear hcz11_0
    try clear hcz11_1
    try clear hcz11_2
    try clear hcz7_0
    try clear hcz7_1
    try clear hcz7_2
    try clear hfz11_0
    try clear hfz11_1
    try clear hfz11_2
    try clear hfz7_0
    try clear hfz7_1
    try clear hfz7_2
    try clear p2
    try clear p6
    obtain ⟨kq, x8_11, rfl, HA, HJ11, BK451, HB⟩ := hcut
    cases kq with
    | zero => exact absurd HA.out (by simp [spec_ValueOf.j1])
    | succ kj11 =>
     have H := HA.out
     clear HA
     simp only [spec_ValueOf.j1] at H
     by_cases c14 : x8_11 = 0
     ·rw [if_pos c14] at H
      have c14b0 : (x8_11 == 0) = true := beq_iff_eq.mpr c14
      have c14b1 : (x8_11 != 0) = false := bne_eq_false_iff_eq.mpr c14
      clear c14
      replace H := Option.bind_eq_some_iff.mp H
      obtain ⟨t454, A150, H⟩ := H
      replace H : ((spec_l01At.f kj11 a0_0 t454 a2).bind fun t457 => (some (t457, 0))) = some (r1, r2) := H
      have A15 := zA A150
      clear A150
      replace H := Option.bind_eq_some_iff.mp H
      obtain ⟨t457, A160, H⟩ := H
      replace H : (some (t457, 0)) = some (r1, r2) := H
      have A16 := zA A160
      clear A160
      simp only [Option.some.injEq, Prod.mk.injEq] at H
      obtain ⟨rfl, rfl⟩ := H
      try go_wp2
      have n0_ := zA (blk_drew BK451.out)
      have n1_ := zA (below_drew1 HB.out)
      clear BK451 HB
      have BK451 := n0_; have HB := n1_
      clear n0_ n1_
      refine start_ (n := 9) (S := fun w' => w'.cell? ⟨gb451, 0, none⟩ = some (.int .i64 a0_0) ∧ w'.cell? ⟨gb451, 1, none⟩ = some (.slice A0_1 l0_1.length c0_1) ∧ w'.cell? ⟨gb451, 2, none⟩ = some (.slice A0_2 l0_2.length c0_2)) (ds := []) #[false, false, false, false, false, false, false, false, false] (by kernel_rfl) rfl rfl ⟨(blk_cell BK451.out 0).trans rfl, (blk_cell BK451.out 1).trans rfl, (blk_cell BK451.out 2).trans rfl⟩ (fun hHeld => ?_); refine with_tabW spec_ValueOf.tab6 spec_ValueOf.bits6 (fun HT_ HW_ => ?_)
      generalize wc.drew = w17 at BK451 HB hHeld ⊢
      refine pu_ 0 28 (bl 9 1) HT_ ?_
      refine pu_ 3 31 (bl 9 9) HT_ ?_
      refine pu_ 5 33 (bl 9 41) HT_ ?_
      refine ta_ 1 29 (bl 9 43) HT_ HW_ hHeld ?_
      refine ta_ 2 30 (bl 9 47) HT_ HW_ hHeld ?_
      refine on_ 4 (some 32) (bl 9 63) HT_ (fun K hK => ?_)
      refine goes_ Try.func72 (by kernel_rfl) rfl #[.agg #[.int .i64 a0_0, .slice A0_1 l0_1.length c0_1, .slice A0_2 l0_2.length c0_2], .int .i64 a1] (by rfl) rfl rfl (by (try simp only [la, lb, lc]); first | done | rfl | (simp only [ld, le]; rfl)) ?_
      with_reducible refine (spec_l03Poly.calls kj11 a0_0 _ _ l0_1 _ _ l0_2 a1 t454 _ ?side1 ?side2 ?side3 ?side4 A15.out).mono ?_
      (case side1 => exact uC ((Kd.C_below HR0_1.out HB.out)))
      (case side2 => exact HC0_1.out)
      (case side3 => exact uC ((Kd.C_below HR0_2.out HB.out)))
      (case side4 => exact HC0_2.out)
      rintro e w18 ⟨v455, rfl, ho0, hb⟩
      refine ⟨_, rfl, ?_⟩
      have n0_ := zA (Kd.R_lower ho0 (below_size (uH HB.out)))
      have n1_ := xB BK451 hb
      have n2_ := xH HB hb
      clear BK451 HB
      have HO456 := n0_; have BK451 := n1_; have HB := n2_
      clear n0_ n1_ n2_
      (try clear hb); (try clear hb2); (try clear hk); (try clear hi); (try clear ho0)
      obtain ⟨Ao19, co19, eo19⟩ := Kd.R_slice HO456.out
      (first | subst eo19 | (injection eo19 with f1_ f2_ f3_; have f4_ := f1_.symm; have f5_ := f3_.symm; clear f1_ f2_ f3_; subst f4_; subst f5_))
      refine hK.out _ _ ⟨(blk_cell BK451.out 0).trans rfl, (blk_cell BK451.out 1).trans rfl, (blk_cell BK451.out 2).trans rfl⟩ (fun hHeld => ?_)
      clear hK K
      refine no_ 32 ?_
      refine on_ 6 (some 34) (bl 9 127) HT_ (fun K hK => ?_)
      refine goes_ Try.func71 (by kernel_rfl) rfl #[.int .i64 a0_0, .slice Ao19 t454.length co19, .int .i64 a2] (by rfl) rfl rfl (by (try simp only [la, lb, lc]); first | done | rfl | (simp only [ld, le]; rfl)) ?_
      with_reducible refine (spec_l01At.calls kj11 a0_0 _ _ t454 a2 t457 _ ?side1 ?side2 A16.out).mono ?_
      (case side1 => exact uC ((Kd.R_reads' HO456.out).2.2))
      (case side2 => exact (Kd.R_reads' HO456.out).2.1)
      rintro e w' ⟨rfl, ⟨nd, rfl⟩⟩
      refine ⟨_, rfl, ?_⟩
      refine hK.out _ _ ⟨(blk_cell BK451.out 0).trans rfl, (blk_cell BK451.out 1).trans rfl, (blk_cell BK451.out 2).trans rfl⟩ (fun hHeld => ?_)
      clear hK K
      refine no_ 34 ?_
      refine pu_ 7 6 (bl 9 255) HT_ ?_
      refine pu_ 8 7 (bl 9 511) HT_ ?_
      refine done_ (done_of HT_.out (by kernel_rfl)) ?_
      try go_wp2
      go_ret2
      exact ⟨by first | rfl | (simp [errW_none, errW_some] <;> rfl) | (simp [*, errW_none, errW_some] <;> rfl), uH HB.out⟩
     ·rw [if_neg c14] at H
      have c14b0 : (x8_11 == 0) = false := beq_eq_false_iff_ne.mpr c14
      have c14b1 : (x8_11 != 0) = true := bne_iff_ne.mpr c14
      simp only [Option.some.injEq, Prod.mk.injEq] at H
      obtain ⟨rfl, rfl⟩ := H
      go_wp2
      go_ret2
      exact ⟨by first | rfl | (simp [errW_none, errW_some] <;> rfl) | (simp [*, errW_none, errW_some] <;> rfl), uH HB.out⟩

end Go.Proofs.Ytokkabgkjhpecaa.Pr
