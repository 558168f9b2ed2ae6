/- Printed by a program of this session out of the translation: what these functions of the program compute, under the conditions that each theorem names. -/
import Derived.Test.YtokkabgkjhpecaaKC01
import Derived.Test.YtokkabgkjhpecaaKC05
import Derived.Test.YtokkabgkjhpecaaKC02
import Derived.Test.YtokkabgkjhpecaaKC04
namespace Go.Proofs.Ytokkabgkjhpecaa.Pr
open Go.RowKit Go.Proofs.YtokkabgkjhpecaaW.PrintWords Go.Proofs.YtokkabgkjhpecaaW.PrintLast Go.Proofs.YtokkabgkjhpecaaW.PrintMore
attribute [local go_sem] max2_int min2_int max_two min_two max_three min_three max_four min_four   -- for this text's walks alone
set_option linter.unusedVariables false
set_option linter.unusedSimpArgs false

/-! ### impl_IsJacobi: function 137 -/
def impl_IsJacobi.f (k : Nat) (a0_0 : Int) (l0_1 : List Int) (l0_2 : List Int) : Option (Bool) := (impl_IsPrime.f k a0_0).bind fun t472 => (if t472 = true then ((impl_Jacobi_size.f a0_0 l0_1 l0_2).bind fun t473 => ((impl_within.f t473 1 12).bind fun t474 => (if t474 = true then (if (l0_2.length : Int) = (l0_1.length : Int) then ((impl_Jacobi_field.f a0_0 l0_1 l0_2).bind fun t475 => ((impl_areAll_int64.f l0_1 (fun z_ => impl_field_has.f t475 z_)).bind fun t476 => (if t476 = true then ((impl_Jacobi_field.f a0_0 l0_1 l0_2).bind fun t477 => ((impl_areAll_int64.f l0_2 (fun z_ => impl_field_isUnit.f t477 z_)).bind fun t478 => (some t478))) else (some false)))) else (some false)) else (some false)))) else (some false))
theorem impl_IsJacobi.mono : ∀ a0 a1 a2 k, LeO (impl_IsJacobi.f k a0 a1 a2) (impl_IsJacobi.f (k + 1) a0 a1 a2) := by
 intro a0 a1 a2 k
 unfold impl_IsJacobi.f
 repeat' first
   | (with_reducible exact impl_IsPrime.mono _ _)
   | (with_reducible exact LeO.refl _)
   | (with_reducible exact LeO.none _)
   | (with_reducible refine LeO.ite ?_ ?_)
   | (with_reducible refine LeO.bind ?_ (fun _ => ?_))
   | exact impl_IsPrime.mono _ _
   | exact LeO.none _
   | refine LeO.ite ?_ ?_
   | refine LeO.bind ?_ (fun _ => ?_)
def impl_IsJacobi.T1 : Bool × List (List Nat × List Nat) := (true, [([], []), ([0], [0]), ([1], [1]), ([2, 2], [2]), ([3], [3]), ([4, 3, 3], [3, 4]), ([5, 5, 3], [3, 5]), ([3, 6], [3, 6]), ([7, 6], [7]), ([8], [8]), ([9, 8], [8, 9]), ([10, 8], [8, 10]), ([8], [8]), ([12, 8], [8, 12]), ([13, 8], [8, 13]), ([11, 14, 8], [8, 11, 14]), ([8, 15], [8, 15]), ([16, 8], [16]), ([17], [17]), ([18, 17], [17, 18]), ([17], [17]), ([20, 17, 17], [17, 20]), ([21, 17], [17, 21]), ([19, 22, 21, 17], [17, 19, 22]), ([17, 23], [17, 23]), ([24, 23], [24]), ([25], [25]), ([26, 25], [25, 26]), ([25], [25]), ([28, 25, 25], [25, 28]), ([29, 25], [25, 29]), ([27, 30, 29, 25], [25, 27, 30]), ([25, 31], [25, 31]), ([32, 31, 0, 1, 2, 3, 4, 5, 6, 7, 8, 9, 10, 11, 12, 13, 14, 15, 16, 17, 18, 19, 20, 21, 22, 23, 24, 25, 26, 27, 28, 29, 30, 31, 32], [32])])
def impl_IsJacobi.B1 : List Nat := [0, 1, 3, 7, 15, 31, 63, 127, 255, 511, 1023, 2047, 511, 4607, 12799, 32767, 65535, 131071, 262143, 524287, 262143, 1310719, 3407871, 8388607, 16777215, 33554431, 67108863, 134217727, 67108863, 335544319, 872415231, 2147483647, 4294967295, 8589934591]
theorem impl_IsJacobi.tab1 : rtab .any (opsOf Try.f137 1) = impl_IsJacobi.T1 := by kernel_rfl
theorem impl_IsJacobi.bits1 : waitsOk impl_IsJacobi.T1.2 impl_IsJacobi.B1 = true := by kernel_rfl
set_option maxHeartbeats 8000000 in
set_option maxRecDepth 100000 in
theorem impl_IsJacobi.calls (k : Nat) (a0_0 : Int) (A0_1 : Option Addr) (c0_1 : Nat) (l0_1 : List Int) (A0_2 : Option Addr) (c0_2 : Nat) (l0_2 : List Int) (r : Bool) (w : World) (hr0_1 : Kd.C (Kd.int .i64) w A0_1 l0_1.length l0_1) (hc0_1 : l0_1.length ≤ c0_1) (hr0_2 : Kd.C (Kd.int .i64) w A0_2 l0_2.length l0_2) (hc0_2 : l0_2.length ≤ c0_2) (h : impl_IsJacobi.f k a0_0 l0_1 l0_2 = some r) :
  Calls Try.prog 137 #[.agg #[.int .i64 a0_0, .slice A0_1 l0_1.length c0_1, .slice A0_2 l0_2.length c0_2]] w fun e w' => e = .returned (.bool r) ∧ Below w.heap.size w w' := by
 have hu46 := Try.underlying46
 have hmf : ∀ (fn_ : Fn) (first_ cap_ : Array Value) (w_ : World), (Instr.makeFunc fn_ first_ cap_).run Try.prog w_ = .ok (.func fn_ first_ cap_) w_ := fun _ _ _ _ => rfl
 have HR0_1 := zA hr0_1
 have HC0_1 := zA hc0_1
 clear hr0_1 hc0_1
 have HR0_2 := zA hr0_2
 have HC0_2 := zA hc0_2
 clear hr0_2 hc0_2
 have HB := zA (Below.refl w.heap.size w)
 have H : ((impl_IsPrime.f k a0_0).bind fun t472 => (if t472 = true then ((impl_Jacobi_size.f a0_0 l0_1 l0_2).bind fun t473 => ((impl_within.f t473 1 12).bind fun t474 => (if t474 = true then (if (l0_2.length : Int) = (l0_1.length : Int) then ((impl_Jacobi_field.f a0_0 l0_1 l0_2).bind fun t475 => ((impl_areAll_int64.f l0_1 (fun z_ => impl_field_has.f t475 z_)).bind fun t476 => (if t476 = true then ((impl_Jacobi_field.f a0_0 l0_1 l0_2).bind fun t477 => ((impl_areAll_int64.f l0_2 (fun z_ => impl_field_isUnit.f t477 z_)).bind fun t478 => (some t478))) else (some false)))) else (some false)) else (some false)))) else (some false))) = some r := h
 clear h
 replace H := Option.bind_eq_some_iff.mp H
 obtain ⟨t472, A20, H⟩ := H
 replace H : (if t472 = true then ((impl_Jacobi_size.f a0_0 l0_1 l0_2).bind fun t473 => ((impl_within.f t473 1 12).bind fun t474 => (if t474 = true then (if (l0_2.length : Int) = (l0_1.length : Int) then ((impl_Jacobi_field.f a0_0 l0_1 l0_2).bind fun t475 => ((impl_areAll_int64.f l0_1 (fun z_ => impl_field_has.f t475 z_)).bind fun t476 => (if t476 = true then ((impl_Jacobi_field.f a0_0 l0_1 l0_2).bind fun t477 => ((impl_areAll_int64.f l0_2 (fun z_ => impl_field_isUnit.f t477 z_)).bind fun t478 => (some t478))) else (some false)))) else (some false)) else (some false)))) else (some false)) = some r := H
 have A2 := zA A20
 clear A20
 by_cases c3 : t472 = true
 ·subst c3
  have H1 : ((impl_Jacobi_size.f a0_0 l0_1 l0_2).bind fun t473 => ((impl_within.f t473 1 12).bind fun t474 => (if t474 = true then (if (l0_2.length : Int) = (l0_1.length : Int) then ((impl_Jacobi_field.f a0_0 l0_1 l0_2).bind fun t475 => ((impl_areAll_int64.f l0_1 (fun z_ => impl_field_has.f t475 z_)).bind fun t476 => (if t476 = true then ((impl_Jacobi_field.f a0_0 l0_1 l0_2).bind fun t477 => ((impl_areAll_int64.f l0_2 (fun z_ => impl_field_isUnit.f t477 z_)).bind fun t478 => (some t478))) else (some false)))) else (some false)) else (some false)))) = some r := by rw [if_pos rfl] at H; exact H
  clear H
  have H := H1
  clear H1
  replace H := Option.bind_eq_some_iff.mp H
  obtain ⟨t473, A40, H⟩ := H
  replace H : ((impl_within.f t473 1 12).bind fun t474 => (if t474 = true then (if (l0_2.length : Int) = (l0_1.length : Int) then ((impl_Jacobi_field.f a0_0 l0_1 l0_2).bind fun t475 => ((impl_areAll_int64.f l0_1 (fun z_ => impl_field_has.f t475 z_)).bind fun t476 => (if t476 = true then ((impl_Jacobi_field.f a0_0 l0_1 l0_2).bind fun t477 => ((impl_areAll_int64.f l0_2 (fun z_ => impl_field_isUnit.f t477 z_)).bind fun t478 => (some t478))) else (some false)))) else (some false)) else (some false))) = some r := H
  have A4 := zA A40
  clear A40
  replace H := Option.bind_eq_some_iff.mp H
  obtain ⟨t474, A50, H⟩ := H
  replace H : (if t474 = true then (if (l0_2.length : Int) = (l0_1.length : Int) then ((impl_Jacobi_field.f a0_0 l0_1 l0_2).bind fun t475 => ((impl_areAll_int64.f l0_1 (fun z_ => impl_field_has.f t475 z_)).bind fun t476 => (if t476 = true then ((impl_Jacobi_field.f a0_0 l0_1 l0_2).bind fun t477 => ((impl_areAll_int64.f l0_2 (fun z_ => impl_field_isUnit.f t477 z_)).bind fun t478 => (some t478))) else (some false)))) else (some false)) else (some false)) = some r := H
  have A5 := zA A50
  clear A50
  by_cases c6 : t474 = true
  ·subst c6
   have H1 : (if (l0_2.length : Int) = (l0_1.length : Int) then ((impl_Jacobi_field.f a0_0 l0_1 l0_2).bind fun t475 => ((impl_areAll_int64.f l0_1 (fun z_ => impl_field_has.f t475 z_)).bind fun t476 => (if t476 = true then ((impl_Jacobi_field.f a0_0 l0_1 l0_2).bind fun t477 => ((impl_areAll_int64.f l0_2 (fun z_ => impl_field_isUnit.f t477 z_)).bind fun t478 => (some t478))) else (some false)))) else (some false)) = some r := by rw [if_pos rfl] at H; exact H
   clear H
   have H := H1
   clear H1
   by_cases c7 : (l0_2.length : Int) = (l0_1.length : Int)
   ·rw [if_pos c7] at H
    have c7b0 : ((l0_2.length : Int) == (l0_1.length : Int)) = true := beq_iff_eq.mpr c7
    have c7b1 : ((l0_2.length : Int) != (l0_1.length : Int)) = false := bne_eq_false_iff_eq.mpr c7
    have c7b2 : (l0_2.length == l0_1.length) = true := by first | simpa using c7 | (simp at c7 ⊢; omega)
    clear c7
    replace H := Option.bind_eq_some_iff.mp H
    obtain ⟨t475, A80, H⟩ := H
    replace H : ((impl_areAll_int64.f l0_1 (fun z_ => impl_field_has.f t475 z_)).bind fun t476 => (if t476 = true then ((impl_Jacobi_field.f a0_0 l0_1 l0_2).bind fun t477 => ((impl_areAll_int64.f l0_2 (fun z_ => impl_field_isUnit.f t477 z_)).bind fun t478 => (some t478))) else (some false))) = some r := H
    have A8 := zA A80
    clear A80
    replace H := Option.bind_eq_some_iff.mp H
    obtain ⟨t476, A90, H⟩ := H
    replace H : (if t476 = true then ((impl_Jacobi_field.f a0_0 l0_1 l0_2).bind fun t477 => ((impl_areAll_int64.f l0_2 (fun z_ => impl_field_isUnit.f t477 z_)).bind fun t478 => (some t478))) else (some false)) = some r := H
    have A9 := zA A90
    clear A90
    by_cases c10 : t476 = true
    ·subst c10
     have H1 : ((impl_Jacobi_field.f a0_0 l0_1 l0_2).bind fun t477 => ((impl_areAll_int64.f l0_2 (fun z_ => impl_field_isUnit.f t477 z_)).bind fun t478 => (some t478))) = some r := by rw [if_pos rfl] at H; exact H
     clear H
     have H := H1
     clear H1
     replace H := Option.bind_eq_some_iff.mp H
     obtain ⟨t477, A110, H⟩ := H
     replace H : ((impl_areAll_int64.f l0_2 (fun z_ => impl_field_isUnit.f t477 z_)).bind fun t478 => (some t478)) = some r := H
     have A11 := zA A110
     clear A110
     replace H := Option.bind_eq_some_iff.mp H
     obtain ⟨t478, A120, H⟩ := H
     replace H : (some t478) = some r := H
     have A12 := zA A120
     clear A120
     obtain rfl := Option.some.inj H
     go_enter Try.func137, Try.ntmps137
     try go_wp2_with (first | ((with_reducible refine gate_dst (N := 1) rfl ?_); (try (refine gate_guard (by rfl) ?_; dsimp only)); refine box_event ?hg (N := 1) ?hd (cs := #[.int .i64 a0_0, .slice A0_1 l0_1.length c0_1, .slice A0_2 l0_2.length c0_2]) (t := 46) ?hr ?_; (case hd => rfl); (case hg => rfl); (case hr => first | (go_simp; done) | (go_simp; rfl)); intro gb471 hg w13 hbox hb; have n0_ := xH HB hb; have n1_ := zA (hbox); have n2_ := zA ((by rw [hg]; exact (below_size (uH HB.out)) : w.heap.size ≤ gb471)); have n3_ := zA ((by rw [hg]; exact (below_size (uH HB.out)) : w.heap.size ≤ gb471)); clear HB; have HB := n0_; have BK471 := n1_; have GW471 := n2_; have GE471 := n3_; have := geI GE471; clear n0_ n1_ n2_ n3_ hb hbox hg))
     have n0_ := zA (blk_drew BK471.out)
     have n1_ := zA (below_drew1 HB.out)
     clear BK471 HB
     have BK471 := n0_; have HB := n1_
     clear n0_ n1_
     refine start_ (n := 34) (S := fun w' => w'.cell? ⟨gb471, 0, none⟩ = some (.int .i64 a0_0) ∧ w'.cell? ⟨gb471, 1, none⟩ = some (.slice A0_1 l0_1.length c0_1) ∧ w'.cell? ⟨gb471, 2, none⟩ = some (.slice A0_2 l0_2.length c0_2)) (ds := []) #[false, false, false, false, false, false, false, false, false, false, false, false, false, false, false, false, false, false, false, false, false, false, false, false, false, false, false, false, false, false, false, false, false, false] (by kernel_rfl) rfl rfl ⟨(blk_cell BK471.out 0).trans rfl, (blk_cell BK471.out 1).trans rfl, (blk_cell BK471.out 2).trans rfl⟩ (fun hHeld => ?_); refine with_tabW impl_IsJacobi.tab1 impl_IsJacobi.bits1 (fun HT_ HW_ => ?_)
     generalize w13.drew = w14 at BK471 HB hHeld ⊢
     refine pu_ 0 3 (bl 34 1) HT_ ?_
     refine ta_ 1 4 (bl 34 3) HT_ HW_ hHeld ?_
     refine on_ 2 (some 5) (bl 34 7) HT_ (fun K hK => ?_)
     refine goes_ Try.func149 (by kernel_rfl) rfl #[.int .i64 a0_0] (by rfl) rfl rfl (by (try simp only [la, lb, lc]); first | done | rfl | (simp only [ld, le]; rfl)) ?_
     with_reducible refine (impl_IsPrime.calls k a0_0 true _ A2.out).mono ?_
     rintro e w' ⟨rfl, ⟨nd, rfl⟩⟩
     refine ⟨_, rfl, ?_⟩
     refine hK.out _ _ ⟨(blk_cell BK471.out 0).trans rfl, (blk_cell BK471.out 1).trans rfl, (blk_cell BK471.out 2).trans rfl⟩ (fun hHeld => ?_)
     clear hK K
     refine no_ 5 ?_
     refine pu_ 3 6 (bl 34 15) HT_ ?_
     refine ta_ 4 7 (bl 34 31) HT_ HW_ hHeld ?_
     refine on_ 5 (some 8) (bl 34 63) HT_ (fun K hK => ?_)
     refine goes_ Try.func75 (by kernel_rfl) rfl #[.agg #[.int .i64 a0_0, .slice A0_1 l0_1.length c0_1, .slice A0_2 l0_2.length c0_2]] (by rfl) rfl rfl (by (try simp only [la, lb, lc]); first | done | rfl | (simp only [ld, le]; rfl)) ?_
     with_reducible refine (impl_Jacobi_size.calls a0_0 _ _ l0_1 _ _ l0_2 t473 _ ?side1 ?side2 ?side3 ?side4 A4.out).mono ?_
     (case side1 => repeat (first | exact (Kd.C_below HR0_1.out (uH HB.out)) | (with_reducible refine Kd.C_alloc ?_ _) | (with_reducible refine Kd.C_drewN ?_ _) | (with_reducible refine Kd.C_drew ?_)))
     (case side2 => exact HC0_1.out)
     (case side3 => repeat (first | exact (Kd.C_below HR0_2.out (uH HB.out)) | (with_reducible refine Kd.C_alloc ?_ _) | (with_reducible refine Kd.C_drewN ?_ _) | (with_reducible refine Kd.C_drew ?_)))
     (case side4 => exact HC0_2.out)
     rintro e w15 ⟨rfl, hb⟩
     refine ⟨_, rfl, ?_⟩
     have n0_ := xB BK471 hb
     have n1_ := xH HB hb
     clear BK471 HB
     have BK471 := n0_; have HB := n1_
     clear n0_ n1_
     (try clear hb); (try clear hb2); (try clear hk); (try clear hi)
     refine hK.out _ _ ⟨(blk_cell BK471.out 0).trans rfl, (blk_cell BK471.out 1).trans rfl, (blk_cell BK471.out 2).trans rfl⟩ (fun hHeld => ?_)
     clear hK K
     refine no_ 8 ?_
     refine on_ 6 (some 9) (bl 34 127) HT_ (fun K hK => ?_)
     refine goes_ Try.func74 (by kernel_rfl) rfl #[.int .i64 t473, .int .i64 1, .int .i64 12] (by rfl) rfl rfl (by (try simp only [la, lb, lc]); first | done | rfl | (simp only [ld, le]; rfl)) ?_
     with_reducible refine (impl_within.calls t473 1 12 true _ A5.out).mono ?_
     rintro e w' ⟨rfl, ⟨nd, rfl⟩⟩
     refine ⟨_, rfl, ?_⟩
     refine hK.out _ _ ⟨(blk_cell BK471.out 0).trans rfl, (blk_cell BK471.out 1).trans rfl, (blk_cell BK471.out 2).trans rfl⟩ (fun hHeld => ?_)
     clear hK K
     refine no_ 9 ?_
     refine pu_ 7 10 (bl 34 255) HT_ ?_
     refine pu_ 8 11 (bl 34 511) HT_ ?_
     refine pu_ 9 12 (bl 34 1023) HT_ ?_
     refine pu_ 12 15 (bl 34 5119) HT_ ?_
     refine ta_ 10 13 (bl 34 6143) HT_ HW_ hHeld ?_
     refine pu_ 11 14 (bl 34 8191) HT_ ?_
     refine ta_ 13 16 (bl 34 16383) HT_ HW_ hHeld ?_
     refine pu_ 14 17 (bl 34 32767) HT_ ?_
     refine pu_ 15 18 (bl 34 65535) HT_ ?_
     refine pu_ 16 19 (bl 34 131071) HT_ ?_
     refine pu_ 17 20 (bl 34 262143) HT_ ?_
     refine pu_ 18 21 (bl 34 524287) HT_ ?_
     refine ta_ 19 22 (bl 34 1048575) HT_ HW_ hHeld ?_
     refine ta_ 20 23 (bl 34 2097151) HT_ HW_ hHeld ?_
     refine on_ 21 (some 24) (bl 34 4194303) HT_ (fun K hK => ?_)
     refine goes_ Try.func76 (by kernel_rfl) rfl #[.agg #[.int .i64 a0_0, .slice A0_1 l0_1.length c0_1, .slice A0_2 l0_2.length c0_2]] (by rfl) rfl rfl (by (try simp only [la, lb, lc]); first | done | rfl | (simp only [ld, le]; rfl)) ?_
     with_reducible refine (impl_Jacobi_field.calls a0_0 _ _ l0_1 _ _ l0_2 t475 _ ?side1 ?side2 ?side3 ?side4 A8.out).mono ?_
     (case side1 => repeat (first | exact (Kd.C_below HR0_1.out (uH HB.out)) | (with_reducible refine Kd.C_alloc ?_ _) | (with_reducible refine Kd.C_drewN ?_ _) | (with_reducible refine Kd.C_drew ?_)))
     (case side2 => exact HC0_1.out)
     (case side3 => repeat (first | exact (Kd.C_below HR0_2.out (uH HB.out)) | (with_reducible refine Kd.C_alloc ?_ _) | (with_reducible refine Kd.C_drewN ?_ _) | (with_reducible refine Kd.C_drew ?_)))
     (case side4 => exact HC0_2.out)
     rintro e w16 ⟨rfl, hb⟩
     refine ⟨_, rfl, ?_⟩
     have n0_ := xB BK471 hb
     have n1_ := xH HB hb
     clear BK471 HB
     have BK471 := n0_; have HB := n1_
     clear n0_ n1_
     (try clear hb); (try clear hb2); (try clear hk); (try clear hi)
     refine hK.out _ _ ⟨(blk_cell BK471.out 0).trans rfl, (blk_cell BK471.out 1).trans rfl, (blk_cell BK471.out 2).trans rfl⟩ (fun hHeld => ?_)
     clear hK K
     refine no_ 24 ?_
     refine pu_ 22 25 (bl 34 8388607) HT_ ?_
     refine on_ 23 (some 26) (bl 34 16777215) HT_ (fun K hK => ?_)
     refine goes_ Try.func146 (by kernel_rfl) rfl #[.slice A0_1 l0_1.length c0_1, (.func (.func 77) #[.int .i64 t475] #[])] (by rfl) rfl rfl (by (try simp only [la, lb, lc]); first | done | rfl | (simp only [ld, le]; rfl)) ?_
     with_reducible refine (impl_areAll_int64.calls _ _ l0_1 _ (fun z_ => impl_field_has.f t475 z_) true _ ?side1 ?side2 ?side3 A9.out).mono ?_
     (case side1 => exact uC ((Kd.C_below HR0_1.out HB.out)))
     (case side2 => exact HC0_1.out)
     (case side3 => exact FnI.of Try.func77 (by kernel_rfl) rfl (fun z_ r_ hr_ W_ hW_ => calls_of_args (args' := #[.int .i64 t475, .int .i64 z_]) (by simp) ((impl_field_has.calls t475 z_ r_ W_  hr_).mono fun e_ W2_ h_ => ⟨h_.1, h_.2.below⟩)))
     rintro e w17 ⟨rfl, hb⟩
     refine ⟨_, rfl, ?_⟩
     have n0_ := xB BK471 hb
     have n1_ := xH HB hb
     clear BK471 HB
     have BK471 := n0_; have HB := n1_
     clear n0_ n1_
     (try clear hb); (try clear hb2); (try clear hk); (try clear hi)
     refine hK.out _ _ ⟨(blk_cell BK471.out 0).trans rfl, (blk_cell BK471.out 1).trans rfl, (blk_cell BK471.out 2).trans rfl⟩ (fun hHeld => ?_)
     clear hK K
     refine no_ 26 ?_
     refine pu_ 24 27 (bl 34 33554431) HT_ ?_
     refine pu_ 25 28 (bl 34 67108863) HT_ ?_
     refine pu_ 26 29 (bl 34 134217727) HT_ ?_
     refine ta_ 27 30 (bl 34 268435455) HT_ HW_ hHeld ?_
     refine ta_ 28 31 (bl 34 536870911) HT_ HW_ hHeld ?_
     refine on_ 29 (some 32) (bl 34 1073741823) HT_ (fun K hK => ?_)
     refine goes_ Try.func76 (by kernel_rfl) rfl #[.agg #[.int .i64 a0_0, .slice A0_1 l0_1.length c0_1, .slice A0_2 l0_2.length c0_2]] (by rfl) rfl rfl (by (try simp only [la, lb, lc]); first | done | rfl | (simp only [ld, le]; rfl)) ?_
     with_reducible refine (impl_Jacobi_field.calls a0_0 _ _ l0_1 _ _ l0_2 t477 _ ?side1 ?side2 ?side3 ?side4 A11.out).mono ?_
     (case side1 => exact uC ((Kd.C_below HR0_1.out HB.out)))
     (case side2 => exact HC0_1.out)
     (case side3 => exact uC ((Kd.C_below HR0_2.out HB.out)))
     (case side4 => exact HC0_2.out)
     rintro e w18 ⟨rfl, hb⟩
     refine ⟨_, rfl, ?_⟩
     have n0_ := xB BK471 hb
     have n1_ := xH HB hb
     clear BK471 HB
     have BK471 := n0_; have HB := n1_
     clear n0_ n1_
     (try clear hb); (try clear hb2); (try clear hk); (try clear hi)
     refine hK.out _ _ ⟨(blk_cell BK471.out 0).trans rfl, (blk_cell BK471.out 1).trans rfl, (blk_cell BK471.out 2).trans rfl⟩ (fun hHeld => ?_)
     clear hK K
     refine no_ 32 ?_
     refine pu_ 30 33 (bl 34 2147483647) HT_ ?_
     refine on_ 31 (some 34) (bl 34 4294967295) HT_ (fun K hK => ?_)
     refine goes_ Try.func146 (by kernel_rfl) rfl #[.slice A0_2 l0_2.length c0_2, (.func (.func 156) #[.int .i64 t477] #[])] (by rfl) rfl rfl (by (try simp only [la, lb, lc]); first | done | rfl | (simp only [ld, le]; rfl)) ?_
     with_reducible refine (impl_areAll_int64.calls _ _ l0_2 _ (fun z_ => impl_field_isUnit.f t477 z_) t478 _ ?side1 ?side2 ?side3 A12.out).mono ?_
     (case side1 => exact uC ((Kd.C_below HR0_2.out HB.out)))
     (case side2 => exact HC0_2.out)
     (case side3 => exact FnI.of Try.func156 (by kernel_rfl) rfl (fun z_ r_ hr_ W_ hW_ => calls_of_args (args' := #[.int .i64 t477, .int .i64 z_]) (by simp) ((impl_field_isUnit.calls t477 z_ r_ W_  hr_).mono fun e_ W2_ h_ => ⟨h_.1, h_.2.below⟩)))
     rintro e w19 ⟨rfl, hb⟩
     refine ⟨_, rfl, ?_⟩
     have n0_ := xB BK471 hb
     have n1_ := xH HB hb
     clear BK471 HB
     have BK471 := n0_; have HB := n1_
     clear n0_ n1_
     (try clear hb); (try clear hb2); (try clear hk); (try clear hi)
     refine hK.out _ _ ⟨(blk_cell BK471.out 0).trans rfl, (blk_cell BK471.out 1).trans rfl, (blk_cell BK471.out 2).trans rfl⟩ (fun hHeld => ?_)
     clear hK K
     refine no_ 34 ?_
     refine pu_ 32 35 (bl 34 8589934591) HT_ ?_
     refine pu_ 33 2 (bl 34 17179869183) HT_ ?_
     refine done_ (done_of HT_.out (by kernel_rfl)) ?_
     try go_wp2
     go_ret
     exact ⟨by first | rfl | (simp [errW_none, errW_some] <;> rfl) | (simp [*, errW_none, errW_some] <;> rfl), uH HB.out⟩
    ·replace c10 := Bool.eq_false_iff.mpr c10
     subst c10
     have H1 : (some false) = some r := by rw [if_neg (show ¬ (false = true) by decide)] at H; exact H
     clear H
     have H := H1
     clear H1
     obtain rfl := Option.some.inj H
     go_enter Try.func137, Try.ntmps137
     try go_wp2_with (first | ((with_reducible refine gate_dst (N := 1) rfl ?_); (try (refine gate_guard (by rfl) ?_; dsimp only)); refine box_event ?hg (N := 1) ?hd (cs := #[.int .i64 a0_0, .slice A0_1 l0_1.length c0_1, .slice A0_2 l0_2.length c0_2]) (t := 46) ?hr ?_; (case hd => rfl); (case hg => rfl); (case hr => first | (go_simp; done) | (go_simp; rfl)); intro gb471 hg w20 hbox hb; have n0_ := xH HB hb; have n1_ := zA (hbox); have n2_ := zA ((by rw [hg]; exact (below_size (uH HB.out)) : w.heap.size ≤ gb471)); have n3_ := zA ((by rw [hg]; exact (below_size (uH HB.out)) : w.heap.size ≤ gb471)); clear HB; have HB := n0_; have BK471 := n1_; have GW471 := n2_; have GE471 := n3_; have := geI GE471; clear n0_ n1_ n2_ n3_ hb hbox hg))
     have n0_ := zA (blk_drew BK471.out)
     have n1_ := zA (below_drew1 HB.out)
     clear BK471 HB
     have BK471 := n0_; have HB := n1_
     clear n0_ n1_
     refine start_ (n := 34) (S := fun w' => w'.cell? ⟨gb471, 0, none⟩ = some (.int .i64 a0_0) ∧ w'.cell? ⟨gb471, 1, none⟩ = some (.slice A0_1 l0_1.length c0_1) ∧ w'.cell? ⟨gb471, 2, none⟩ = some (.slice A0_2 l0_2.length c0_2)) (ds := []) #[false, false, false, false, false, false, false, false, false, false, false, false, false, false, false, false, false, false, false, false, false, false, false, false, false, false, false, false, false, false, false, false, false, false] (by kernel_rfl) rfl rfl ⟨(blk_cell BK471.out 0).trans rfl, (blk_cell BK471.out 1).trans rfl, (blk_cell BK471.out 2).trans rfl⟩ (fun hHeld => ?_); refine with_tabW impl_IsJacobi.tab1 impl_IsJacobi.bits1 (fun HT_ HW_ => ?_)
     generalize w20.drew = w21 at BK471 HB hHeld ⊢
     refine pu_ 0 3 (bl 34 1) HT_ ?_
     refine ta_ 1 4 (bl 34 3) HT_ HW_ hHeld ?_
     refine on_ 2 (some 5) (bl 34 7) HT_ (fun K hK => ?_)
     refine goes_ Try.func149 (by kernel_rfl) rfl #[.int .i64 a0_0] (by rfl) rfl rfl (by (try simp only [la, lb, lc]); first | done | rfl | (simp only [ld, le]; rfl)) ?_
     with_reducible refine (impl_IsPrime.calls k a0_0 true _ A2.out).mono ?_
     rintro e w' ⟨rfl, ⟨nd, rfl⟩⟩
     refine ⟨_, rfl, ?_⟩
     refine hK.out _ _ ⟨(blk_cell BK471.out 0).trans rfl, (blk_cell BK471.out 1).trans rfl, (blk_cell BK471.out 2).trans rfl⟩ (fun hHeld => ?_)
     clear hK K
     refine no_ 5 ?_
     refine pu_ 3 6 (bl 34 15) HT_ ?_
     refine ta_ 4 7 (bl 34 31) HT_ HW_ hHeld ?_
     refine on_ 5 (some 8) (bl 34 63) HT_ (fun K hK => ?_)
     refine goes_ Try.func75 (by kernel_rfl) rfl #[.agg #[.int .i64 a0_0, .slice A0_1 l0_1.length c0_1, .slice A0_2 l0_2.length c0_2]] (by rfl) rfl rfl (by (try simp only [la, lb, lc]); first | done | rfl | (simp only [ld, le]; rfl)) ?_
     with_reducible refine (impl_Jacobi_size.calls a0_0 _ _ l0_1 _ _ l0_2 t473 _ ?side1 ?side2 ?side3 ?side4 A4.out).mono ?_
     (case side1 => repeat (first | exact (Kd.C_below HR0_1.out (uH HB.out)) | (with_reducible refine Kd.C_alloc ?_ _) | (with_reducible refine Kd.C_drewN ?_ _) | (with_reducible refine Kd.C_drew ?_)))
     (case side2 => exact HC0_1.out)
     (case side3 => repeat (first | exact (Kd.C_below HR0_2.out (uH HB.out)) | (with_reducible refine Kd.C_alloc ?_ _) | (with_reducible refine Kd.C_drewN ?_ _) | (with_reducible refine Kd.C_drew ?_)))
     (case side4 => exact HC0_2.out)
     rintro e w22 ⟨rfl, hb⟩
     refine ⟨_, rfl, ?_⟩
     have n0_ := xB BK471 hb
     have n1_ := xH HB hb
     clear BK471 HB
     have BK471 := n0_; have HB := n1_
     clear n0_ n1_
     (try clear hb); (try clear hb2); (try clear hk); (try clear hi)
     refine hK.out _ _ ⟨(blk_cell BK471.out 0).trans rfl, (blk_cell BK471.out 1).trans rfl, (blk_cell BK471.out 2).trans rfl⟩ (fun hHeld => ?_)
     clear hK K
     refine no_ 8 ?_
     refine on_ 6 (some 9) (bl 34 127) HT_ (fun K hK => ?_)
     refine goes_ Try.func74 (by kernel_rfl) rfl #[.int .i64 t473, .int .i64 1, .int .i64 12] (by rfl) rfl rfl (by (try simp only [la, lb, lc]); first | done | rfl | (simp only [ld, le]; rfl)) ?_
     with_reducible refine (impl_within.calls t473 1 12 true _ A5.out).mono ?_
     rintro e w' ⟨rfl, ⟨nd, rfl⟩⟩
     refine ⟨_, rfl, ?_⟩
     refine hK.out _ _ ⟨(blk_cell BK471.out 0).trans rfl, (blk_cell BK471.out 1).trans rfl, (blk_cell BK471.out 2).trans rfl⟩ (fun hHeld => ?_)
     clear hK K
     refine no_ 9 ?_
     refine pu_ 7 10 (bl 34 255) HT_ ?_
     refine pu_ 8 11 (bl 34 511) HT_ ?_
     refine pu_ 9 12 (bl 34 1023) HT_ ?_
     refine pu_ 12 15 (bl 34 5119) HT_ ?_
     refine ta_ 10 13 (bl 34 6143) HT_ HW_ hHeld ?_
     refine pu_ 11 14 (bl 34 8191) HT_ ?_
     refine ta_ 13 16 (bl 34 16383) HT_ HW_ hHeld ?_
     refine pu_ 14 17 (bl 34 32767) HT_ ?_
     refine pu_ 15 18 (bl 34 65535) HT_ ?_
     refine pu_ 16 19 (bl 34 131071) HT_ ?_
     refine pu_ 17 20 (bl 34 262143) HT_ ?_
     refine pu_ 18 21 (bl 34 524287) HT_ ?_
     refine ta_ 19 22 (bl 34 1048575) HT_ HW_ hHeld ?_
     refine ta_ 20 23 (bl 34 2097151) HT_ HW_ hHeld ?_
     refine on_ 21 (some 24) (bl 34 4194303) HT_ (fun K hK => ?_)
     refine goes_ Try.func76 (by kernel_rfl) rfl #[.agg #[.int .i64 a0_0, .slice A0_1 l0_1.length c0_1, .slice A0_2 l0_2.length c0_2]] (by rfl) rfl rfl (by (try simp only [la, lb, lc]); first | done | rfl | (simp only [ld, le]; rfl)) ?_
     with_reducible refine (impl_Jacobi_field.calls a0_0 _ _ l0_1 _ _ l0_2 t475 _ ?side1 ?side2 ?side3 ?side4 A8.out).mono ?_
     (case side1 => repeat (first | exact (Kd.C_below HR0_1.out (uH HB.out)) | (with_reducible refine Kd.C_alloc ?_ _) | (with_reducible refine Kd.C_drewN ?_ _) | (with_reducible refine Kd.C_drew ?_)))
     (case side2 => exact HC0_1.out)
     (case side3 => repeat (first | exact (Kd.C_below HR0_2.out (uH HB.out)) | (with_reducible refine Kd.C_alloc ?_ _) | (with_reducible refine Kd.C_drewN ?_ _) | (with_reducible refine Kd.C_drew ?_)))
     (case side4 => exact HC0_2.out)
     rintro e w23 ⟨rfl, hb⟩
     refine ⟨_, rfl, ?_⟩
     have n0_ := xB BK471 hb
     have n1_ := xH HB hb
     clear BK471 HB
     have BK471 := n0_; have HB := n1_
     clear n0_ n1_
     (try clear hb); (try clear hb2); (try clear hk); (try clear hi)
     refine hK.out _ _ ⟨(blk_cell BK471.out 0).trans rfl, (blk_cell BK471.out 1).trans rfl, (blk_cell BK471.out 2).trans rfl⟩ (fun hHeld => ?_)
     clear hK K
     refine no_ 24 ?_
     refine pu_ 22 25 (bl 34 8388607) HT_ ?_
     refine on_ 23 (some 26) (bl 34 16777215) HT_ (fun K hK => ?_)
     refine goes_ Try.func146 (by kernel_rfl) rfl #[.slice A0_1 l0_1.length c0_1, (.func (.func 77) #[.int .i64 t475] #[])] (by rfl) rfl rfl (by (try simp only [la, lb, lc]); first | done | rfl | (simp only [ld, le]; rfl)) ?_
     with_reducible refine (impl_areAll_int64.calls _ _ l0_1 _ (fun z_ => impl_field_has.f t475 z_) false _ ?side1 ?side2 ?side3 A9.out).mono ?_
     (case side1 => exact uC ((Kd.C_below HR0_1.out HB.out)))
     (case side2 => exact HC0_1.out)
     (case side3 => exact FnI.of Try.func77 (by kernel_rfl) rfl (fun z_ r_ hr_ W_ hW_ => calls_of_args (args' := #[.int .i64 t475, .int .i64 z_]) (by simp) ((impl_field_has.calls t475 z_ r_ W_  hr_).mono fun e_ W2_ h_ => ⟨h_.1, h_.2.below⟩)))
     rintro e w24 ⟨rfl, hb⟩
     refine ⟨_, rfl, ?_⟩
     have n0_ := xB BK471 hb
     have n1_ := xH HB hb
     clear BK471 HB
     have BK471 := n0_; have HB := n1_
     clear n0_ n1_
     (try clear hb); (try clear hb2); (try clear hk); (try clear hi)
     refine hK.out _ _ ⟨(blk_cell BK471.out 0).trans rfl, (blk_cell BK471.out 1).trans rfl, (blk_cell BK471.out 2).trans rfl⟩ (fun hHeld => ?_)
     clear hK K
     refine no_ 26 ?_
     refine pu_ 24 27 (bl 34 33554431) HT_ ?_
     refine pu_ 25 28 (bl 34 67108863) HT_ ?_
     refine un_ 26 29 (bl 34 134217727) HT_ ?_
     refine un_ 27 30 (bl 34 268435455) HT_ ?_
     refine un_ 28 31 (bl 34 536870911) HT_ ?_
     refine un_ 29 32 (bl 34 1073741823) HT_ ?_
     refine un_ 30 33 (bl 34 2147483647) HT_ ?_
     refine un_ 31 34 (bl 34 4294967295) HT_ ?_
     refine pu_ 32 35 (bl 34 8589934591) HT_ ?_
     refine pu_ 33 2 (bl 34 17179869183) HT_ ?_
     refine done_ (done_of HT_.out (by kernel_rfl)) ?_
     try go_wp2
     go_ret
     exact ⟨by first | rfl | (simp [errW_none, errW_some] <;> rfl) | (simp [*, errW_none, errW_some] <;> rfl), uH HB.out⟩
   ·rw [if_neg c7] at H
    have c7b0 : ((l0_2.length : Int) == (l0_1.length : Int)) = false := beq_eq_false_iff_ne.mpr c7
    have c7b1 : ((l0_2.length : Int) != (l0_1.length : Int)) = true := bne_iff_ne.mpr c7
    have c7b2 : (l0_2.length == l0_1.length) = false := by first | simpa using c7 | (simp at c7 ⊢; omega)
    obtain rfl := Option.some.inj H
    go_enter Try.func137, Try.ntmps137
    try go_wp2_with (first | ((with_reducible refine gate_dst (N := 1) rfl ?_); (try (refine gate_guard (by rfl) ?_; dsimp only)); refine box_event ?hg (N := 1) ?hd (cs := #[.int .i64 a0_0, .slice A0_1 l0_1.length c0_1, .slice A0_2 l0_2.length c0_2]) (t := 46) ?hr ?_; (case hd => rfl); (case hg => rfl); (case hr => first | (go_simp; done) | (go_simp; rfl)); intro gb471 hg w25 hbox hb; have n0_ := xH HB hb; have n1_ := zA (hbox); have n2_ := zA ((by rw [hg]; exact (below_size (uH HB.out)) : w.heap.size ≤ gb471)); have n3_ := zA ((by rw [hg]; exact (below_size (uH HB.out)) : w.heap.size ≤ gb471)); clear HB; have HB := n0_; have BK471 := n1_; have GW471 := n2_; have GE471 := n3_; have := geI GE471; clear n0_ n1_ n2_ n3_ hb hbox hg))
    have n0_ := zA (blk_drew BK471.out)
    have n1_ := zA (below_drew1 HB.out)
    clear BK471 HB
    have BK471 := n0_; have HB := n1_
    clear n0_ n1_
    refine start_ (n := 34) (S := fun w' => w'.cell? ⟨gb471, 0, none⟩ = some (.int .i64 a0_0) ∧ w'.cell? ⟨gb471, 1, none⟩ = some (.slice A0_1 l0_1.length c0_1) ∧ w'.cell? ⟨gb471, 2, none⟩ = some (.slice A0_2 l0_2.length c0_2)) (ds := []) #[false, false, false, false, false, false, false, false, false, false, false, false, false, false, false, false, false, false, false, false, false, false, false, false, false, false, false, false, false, false, false, false, false, false] (by kernel_rfl) rfl rfl ⟨(blk_cell BK471.out 0).trans rfl, (blk_cell BK471.out 1).trans rfl, (blk_cell BK471.out 2).trans rfl⟩ (fun hHeld => ?_); refine with_tabW impl_IsJacobi.tab1 impl_IsJacobi.bits1 (fun HT_ HW_ => ?_)
    generalize w25.drew = w26 at BK471 HB hHeld ⊢
    refine pu_ 0 3 (bl 34 1) HT_ ?_
    refine ta_ 1 4 (bl 34 3) HT_ HW_ hHeld ?_
    refine on_ 2 (some 5) (bl 34 7) HT_ (fun K hK => ?_)
    refine goes_ Try.func149 (by kernel_rfl) rfl #[.int .i64 a0_0] (by rfl) rfl rfl (by (try simp only [la, lb, lc]); first | done | rfl | (simp only [ld, le]; rfl)) ?_
    with_reducible refine (impl_IsPrime.calls k a0_0 true _ A2.out).mono ?_
    rintro e w' ⟨rfl, ⟨nd, rfl⟩⟩
    refine ⟨_, rfl, ?_⟩
    refine hK.out _ _ ⟨(blk_cell BK471.out 0).trans rfl, (blk_cell BK471.out 1).trans rfl, (blk_cell BK471.out 2).trans rfl⟩ (fun hHeld => ?_)
    clear hK K
    refine no_ 5 ?_
    refine pu_ 3 6 (bl 34 15) HT_ ?_
    refine ta_ 4 7 (bl 34 31) HT_ HW_ hHeld ?_
    refine on_ 5 (some 8) (bl 34 63) HT_ (fun K hK => ?_)
    refine goes_ Try.func75 (by kernel_rfl) rfl #[.agg #[.int .i64 a0_0, .slice A0_1 l0_1.length c0_1, .slice A0_2 l0_2.length c0_2]] (by rfl) rfl rfl (by (try simp only [la, lb, lc]); first | done | rfl | (simp only [ld, le]; rfl)) ?_
    with_reducible refine (impl_Jacobi_size.calls a0_0 _ _ l0_1 _ _ l0_2 t473 _ ?side1 ?side2 ?side3 ?side4 A4.out).mono ?_
    (case side1 => repeat (first | exact (Kd.C_below HR0_1.out (uH HB.out)) | (with_reducible refine Kd.C_alloc ?_ _) | (with_reducible refine Kd.C_drewN ?_ _) | (with_reducible refine Kd.C_drew ?_)))
    (case side2 => exact HC0_1.out)
    (case side3 => repeat (first | exact (Kd.C_below HR0_2.out (uH HB.out)) | (with_reducible refine Kd.C_alloc ?_ _) | (with_reducible refine Kd.C_drewN ?_ _) | (with_reducible refine Kd.C_drew ?_)))
    (case side4 => exact HC0_2.out)
    rintro e w27 ⟨rfl, hb⟩
    refine ⟨_, rfl, ?_⟩
    have n0_ := xB BK471 hb
    have n1_ := xH HB hb
    clear BK471 HB
    have BK471 := n0_; have HB := n1_
    clear n0_ n1_
    (try clear hb); (try clear hb2); (try clear hk); (try clear hi)
    refine hK.out _ _ ⟨(blk_cell BK471.out 0).trans rfl, (blk_cell BK471.out 1).trans rfl, (blk_cell BK471.out 2).trans rfl⟩ (fun hHeld => ?_)
    clear hK K
    refine no_ 8 ?_
    refine on_ 6 (some 9) (bl 34 127) HT_ (fun K hK => ?_)
    refine goes_ Try.func74 (by kernel_rfl) rfl #[.int .i64 t473, .int .i64 1, .int .i64 12] (by rfl) rfl rfl (by (try simp only [la, lb, lc]); first | done | rfl | (simp only [ld, le]; rfl)) ?_
    with_reducible refine (impl_within.calls t473 1 12 true _ A5.out).mono ?_
    rintro e w' ⟨rfl, ⟨nd, rfl⟩⟩
    refine ⟨_, rfl, ?_⟩
    refine hK.out _ _ ⟨(blk_cell BK471.out 0).trans rfl, (blk_cell BK471.out 1).trans rfl, (blk_cell BK471.out 2).trans rfl⟩ (fun hHeld => ?_)
    clear hK K
    refine no_ 9 ?_
    refine pu_ 7 10 (bl 34 255) HT_ ?_
    refine pu_ 8 11 (bl 34 511) HT_ ?_
    refine pu_ 9 12 (bl 34 1023) HT_ ?_
    refine pu_ 12 15 (bl 34 5119) HT_ ?_
    refine ta_ 10 13 (bl 34 6143) HT_ HW_ hHeld ?_
    refine pu_ 11 14 (bl 34 8191) HT_ ?_
    refine ta_ 13 16 (bl 34 16383) HT_ HW_ hHeld ?_
    refine pu_ 14 17 (bl 34 32767) HT_ ?_
    refine pu_ 15 18 (bl 34 65535) HT_ ?_
    refine pu_ 16 19 (bl 34 131071) HT_ ?_
    refine pu_ 17 20 (bl 34 262143) HT_ ?_
    refine un_ 18 21 (bl 34 524287) HT_ ?_
    refine un_ 19 22 (bl 34 1048575) HT_ ?_
    refine un_ 20 23 (bl 34 2097151) HT_ ?_
    refine un_ 21 24 (bl 34 4194303) HT_ ?_
    refine un_ 22 25 (bl 34 8388607) HT_ ?_
    refine un_ 23 26 (bl 34 16777215) HT_ ?_
    refine pu_ 24 27 (bl 34 33554431) HT_ ?_
    refine pu_ 25 28 (bl 34 67108863) HT_ ?_
    refine un_ 26 29 (bl 34 134217727) HT_ ?_
    refine un_ 27 30 (bl 34 268435455) HT_ ?_
    refine un_ 28 31 (bl 34 536870911) HT_ ?_
    refine un_ 29 32 (bl 34 1073741823) HT_ ?_
    refine un_ 30 33 (bl 34 2147483647) HT_ ?_
    refine un_ 31 34 (bl 34 4294967295) HT_ ?_
    refine pu_ 32 35 (bl 34 8589934591) HT_ ?_
    refine pu_ 33 2 (bl 34 17179869183) HT_ ?_
    refine done_ (done_of HT_.out (by kernel_rfl)) ?_
    try go_wp2
    go_ret
    exact ⟨by first | rfl | (simp [errW_none, errW_some] <;> rfl) | (simp [*, errW_none, errW_some] <;> rfl), uH HB.out⟩
  ·replace c6 := Bool.eq_false_iff.mpr c6
   subst c6
   have H1 : (some false) = some r := by rw [if_neg (show ¬ (false = true) by decide)] at H; exact H
   clear H
   have H := H1
   clear H1
   obtain rfl := Option.some.inj H
   go_enter Try.func137, Try.ntmps137
   try go_wp2_with (first | ((with_reducible refine gate_dst (N := 1) rfl ?_); (try (refine gate_guard (by rfl) ?_; dsimp only)); refine box_event ?hg (N := 1) ?hd (cs := #[.int .i64 a0_0, .slice A0_1 l0_1.length c0_1, .slice A0_2 l0_2.length c0_2]) (t := 46) ?hr ?_; (case hd => rfl); (case hg => rfl); (case hr => first | (go_simp; done) | (go_simp; rfl)); intro gb471 hg w28 hbox hb; have n0_ := xH HB hb; have n1_ := zA (hbox); have n2_ := zA ((by rw [hg]; exact (below_size (uH HB.out)) : w.heap.size ≤ gb471)); have n3_ := zA ((by rw [hg]; exact (below_size (uH HB.out)) : w.heap.size ≤ gb471)); clear HB; have HB := n0_; have BK471 := n1_; have GW471 := n2_; have GE471 := n3_; have := geI GE471; clear n0_ n1_ n2_ n3_ hb hbox hg))
   have n0_ := zA (blk_drew BK471.out)
   have n1_ := zA (below_drew1 HB.out)
   clear BK471 HB
   have BK471 := n0_; have HB := n1_
   clear n0_ n1_
   refine start_ (n := 34) (S := fun w' => w'.cell? ⟨gb471, 0, none⟩ = some (.int .i64 a0_0) ∧ w'.cell? ⟨gb471, 1, none⟩ = some (.slice A0_1 l0_1.length c0_1) ∧ w'.cell? ⟨gb471, 2, none⟩ = some (.slice A0_2 l0_2.length c0_2)) (ds := []) #[false, false, false, false, false, false, false, false, false, false, false, false, false, false, false, false, false, false, false, false, false, false, false, false, false, false, false, false, false, false, false, false, false, false] (by kernel_rfl) rfl rfl ⟨(blk_cell BK471.out 0).trans rfl, (blk_cell BK471.out 1).trans rfl, (blk_cell BK471.out 2).trans rfl⟩ (fun hHeld => ?_); refine with_tabW impl_IsJacobi.tab1 impl_IsJacobi.bits1 (fun HT_ HW_ => ?_)
   generalize w28.drew = w29 at BK471 HB hHeld ⊢
   refine pu_ 0 3 (bl 34 1) HT_ ?_
   refine ta_ 1 4 (bl 34 3) HT_ HW_ hHeld ?_
   refine on_ 2 (some 5) (bl 34 7) HT_ (fun K hK => ?_)
   refine goes_ Try.func149 (by kernel_rfl) rfl #[.int .i64 a0_0] (by rfl) rfl rfl (by (try simp only [la, lb, lc]); first | done | rfl | (simp only [ld, le]; rfl)) ?_
   with_reducible refine (impl_IsPrime.calls k a0_0 true _ A2.out).mono ?_
   rintro e w' ⟨rfl, ⟨nd, rfl⟩⟩
   refine ⟨_, rfl, ?_⟩
   refine hK.out _ _ ⟨(blk_cell BK471.out 0).trans rfl, (blk_cell BK471.out 1).trans rfl, (blk_cell BK471.out 2).trans rfl⟩ (fun hHeld => ?_)
   clear hK K
   refine no_ 5 ?_
   refine pu_ 3 6 (bl 34 15) HT_ ?_
   refine ta_ 4 7 (bl 34 31) HT_ HW_ hHeld ?_
   refine on_ 5 (some 8) (bl 34 63) HT_ (fun K hK => ?_)
   refine goes_ Try.func75 (by kernel_rfl) rfl #[.agg #[.int .i64 a0_0, .slice A0_1 l0_1.length c0_1, .slice A0_2 l0_2.length c0_2]] (by rfl) rfl rfl (by (try simp only [la, lb, lc]); first | done | rfl | (simp only [ld, le]; rfl)) ?_
   with_reducible refine (impl_Jacobi_size.calls a0_0 _ _ l0_1 _ _ l0_2 t473 _ ?side1 ?side2 ?side3 ?side4 A4.out).mono ?_
   (case side1 => repeat (first | exact (Kd.C_below HR0_1.out (uH HB.out)) | (with_reducible refine Kd.C_alloc ?_ _) | (with_reducible refine Kd.C_drewN ?_ _) | (with_reducible refine Kd.C_drew ?_)))
   (case side2 => exact HC0_1.out)
   (case side3 => repeat (first | exact (Kd.C_below HR0_2.out (uH HB.out)) | (with_reducible refine Kd.C_alloc ?_ _) | (with_reducible refine Kd.C_drewN ?_ _) | (with_reducible refine Kd.C_drew ?_)))
   (case side4 => exact HC0_2.out)
   rintro e w30 ⟨rfl, hb⟩
   refine ⟨_, rfl, ?_⟩
   have n0_ := xB BK471 hb
   have n1_ := xH HB hb
   clear BK471 HB
   have BK471 := n0_; have HB := n1_
   clear n0_ n1_
   (try clear hb); (try clear hb2); (try clear hk); (try clear hi)
   refine hK.out _ _ ⟨(blk_cell BK471.out 0).trans rfl, (blk_cell BK471.out 1).trans rfl, (blk_cell BK471.out 2).trans rfl⟩ (fun hHeld => ?_)
   clear hK K
   refine no_ 8 ?_
   refine on_ 6 (some 9) (bl 34 127) HT_ (fun K hK => ?_)
   refine goes_ Try.func74 (by kernel_rfl) rfl #[.int .i64 t473, .int .i64 1, .int .i64 12] (by rfl) rfl rfl (by (try simp only [la, lb, lc]); first | done | rfl | (simp only [ld, le]; rfl)) ?_
   with_reducible refine (impl_within.calls t473 1 12 false _ A5.out).mono ?_
   rintro e w' ⟨rfl, ⟨nd, rfl⟩⟩
   refine ⟨_, rfl, ?_⟩
   refine hK.out _ _ ⟨(blk_cell BK471.out 0).trans rfl, (blk_cell BK471.out 1).trans rfl, (blk_cell BK471.out 2).trans rfl⟩ (fun hHeld => ?_)
   clear hK K
   refine no_ 9 ?_
   refine pu_ 7 10 (bl 34 255) HT_ ?_
   refine pu_ 8 11 (bl 34 511) HT_ ?_
   refine un_ 9 12 (bl 34 1023) HT_ ?_
   refine un_ 10 13 (bl 34 2047) HT_ ?_
   refine un_ 11 14 (bl 34 4095) HT_ ?_
   refine un_ 12 15 (bl 34 8191) HT_ ?_
   refine un_ 13 16 (bl 34 16383) HT_ ?_
   refine un_ 14 17 (bl 34 32767) HT_ ?_
   refine un_ 15 18 (bl 34 65535) HT_ ?_
   refine pu_ 16 19 (bl 34 131071) HT_ ?_
   refine pu_ 17 20 (bl 34 262143) HT_ ?_
   refine un_ 18 21 (bl 34 524287) HT_ ?_
   refine un_ 19 22 (bl 34 1048575) HT_ ?_
   refine un_ 20 23 (bl 34 2097151) HT_ ?_
   refine un_ 21 24 (bl 34 4194303) HT_ ?_
   refine un_ 22 25 (bl 34 8388607) HT_ ?_
   refine un_ 23 26 (bl 34 16777215) HT_ ?_
   refine pu_ 24 27 (bl 34 33554431) HT_ ?_
   refine pu_ 25 28 (bl 34 67108863) HT_ ?_
   refine un_ 26 29 (bl 34 134217727) HT_ ?_
   refine un_ 27 30 (bl 34 268435455) HT_ ?_
   refine un_ 28 31 (bl 34 536870911) HT_ ?_
   refine un_ 29 32 (bl 34 1073741823) HT_ ?_
   refine un_ 30 33 (bl 34 2147483647) HT_ ?_
   refine un_ 31 34 (bl 34 4294967295) HT_ ?_
   refine pu_ 32 35 (bl 34 8589934591) HT_ ?_
   refine pu_ 33 2 (bl 34 17179869183) HT_ ?_
   refine done_ (done_of HT_.out (by kernel_rfl)) ?_
   try go_wp2
   go_ret
   exact ⟨by first | rfl | (simp [errW_none, errW_some] <;> rfl) | (simp [*, errW_none, errW_some] <;> rfl), uH HB.out⟩
 ·replace c3 := Bool.eq_false_iff.mpr c3
  subst c3
  have H1 : (some false) = some r := by rw [if_neg (show ¬ (false = true) by decide)] at H; exact H
  clear H
  have H := H1
  clear H1
  obtain rfl := Option.some.inj H
  go_enter Try.func137, Try.ntmps137
  try go_wp2_with (first | ((with_reducible refine gate_dst (N := 1) rfl ?_); (try (refine gate_guard (by rfl) ?_; dsimp only)); refine box_event ?hg (N := 1) ?hd (cs := #[.int .i64 a0_0, .slice A0_1 l0_1.length c0_1, .slice A0_2 l0_2.length c0_2]) (t := 46) ?hr ?_; (case hd => rfl); (case hg => rfl); (case hr => first | (go_simp; done) | (go_simp; rfl)); intro gb471 hg w31 hbox hb; have n0_ := xH HB hb; have n1_ := zA (hbox); have n2_ := zA ((by rw [hg]; exact (below_size (uH HB.out)) : w.heap.size ≤ gb471)); have n3_ := zA ((by rw [hg]; exact (below_size (uH HB.out)) : w.heap.size ≤ gb471)); clear HB; have HB := n0_; have BK471 := n1_; have GW471 := n2_; have GE471 := n3_; have := geI GE471; clear n0_ n1_ n2_ n3_ hb hbox hg))
  have n0_ := zA (blk_drew BK471.out)
  have n1_ := zA (below_drew1 HB.out)
  clear BK471 HB
  have BK471 := n0_; have HB := n1_
  clear n0_ n1_
  refine start_ (n := 34) (S := fun w' => w'.cell? ⟨gb471, 0, none⟩ = some (.int .i64 a0_0) ∧ w'.cell? ⟨gb471, 1, none⟩ = some (.slice A0_1 l0_1.length c0_1) ∧ w'.cell? ⟨gb471, 2, none⟩ = some (.slice A0_2 l0_2.length c0_2)) (ds := []) #[false, false, false, false, false, false, false, false, false, false, false, false, false, false, false, false, false, false, false, false, false, false, false, false, false, false, false, false, false, false, false, false, false, false] (by kernel_rfl) rfl rfl ⟨(blk_cell BK471.out 0).trans rfl, (blk_cell BK471.out 1).trans rfl, (blk_cell BK471.out 2).trans rfl⟩ (fun hHeld => ?_); refine with_tabW impl_IsJacobi.tab1 impl_IsJacobi.bits1 (fun HT_ HW_ => ?_)
  generalize w31.drew = w32 at BK471 HB hHeld ⊢
  refine pu_ 0 3 (bl 34 1) HT_ ?_
  refine ta_ 1 4 (bl 34 3) HT_ HW_ hHeld ?_
  refine on_ 2 (some 5) (bl 34 7) HT_ (fun K hK => ?_)
  refine goes_ Try.func149 (by kernel_rfl) rfl #[.int .i64 a0_0] (by rfl) rfl rfl (by (try simp only [la, lb, lc]); first | done | rfl | (simp only [ld, le]; rfl)) ?_
  with_reducible refine (impl_IsPrime.calls k a0_0 false _ A2.out).mono ?_
  rintro e w' ⟨rfl, ⟨nd, rfl⟩⟩
  refine ⟨_, rfl, ?_⟩
  refine hK.out _ _ ⟨(blk_cell BK471.out 0).trans rfl, (blk_cell BK471.out 1).trans rfl, (blk_cell BK471.out 2).trans rfl⟩ (fun hHeld => ?_)
  clear hK K
  refine no_ 5 ?_
  refine pu_ 3 6 (bl 34 15) HT_ ?_
  refine un_ 4 7 (bl 34 31) HT_ ?_
  refine un_ 5 8 (bl 34 63) HT_ ?_
  refine un_ 6 9 (bl 34 127) HT_ ?_
  refine pu_ 7 10 (bl 34 255) HT_ ?_
  refine pu_ 8 11 (bl 34 511) HT_ ?_
  refine un_ 9 12 (bl 34 1023) HT_ ?_
  refine un_ 10 13 (bl 34 2047) HT_ ?_
  refine un_ 11 14 (bl 34 4095) HT_ ?_
  refine un_ 12 15 (bl 34 8191) HT_ ?_
  refine un_ 13 16 (bl 34 16383) HT_ ?_
  refine un_ 14 17 (bl 34 32767) HT_ ?_
  refine un_ 15 18 (bl 34 65535) HT_ ?_
  refine pu_ 16 19 (bl 34 131071) HT_ ?_
  refine pu_ 17 20 (bl 34 262143) HT_ ?_
  refine un_ 18 21 (bl 34 524287) HT_ ?_
  refine un_ 19 22 (bl 34 1048575) HT_ ?_
  refine un_ 20 23 (bl 34 2097151) HT_ ?_
  refine un_ 21 24 (bl 34 4194303) HT_ ?_
  refine un_ 22 25 (bl 34 8388607) HT_ ?_
  refine un_ 23 26 (bl 34 16777215) HT_ ?_
  refine pu_ 24 27 (bl 34 33554431) HT_ ?_
  refine pu_ 25 28 (bl 34 67108863) HT_ ?_
  refine un_ 26 29 (bl 34 134217727) HT_ ?_
  refine un_ 27 30 (bl 34 268435455) HT_ ?_
  refine un_ 28 31 (bl 34 536870911) HT_ ?_
  refine un_ 29 32 (bl 34 1073741823) HT_ ?_
  refine un_ 30 33 (bl 34 2147483647) HT_ ?_
  refine un_ 31 34 (bl 34 4294967295) HT_ ?_
  refine pu_ 32 35 (bl 34 8589934591) HT_ ?_
  refine pu_ 33 2 (bl 34 17179869183) HT_ ?_
  refine done_ (done_of HT_.out (by kernel_rfl)) ?_
  try go_wp2
  go_ret
  exact ⟨by first | rfl | (simp [errW_none, errW_some] <;> rfl) | (simp [*, errW_none, errW_some] <;> rfl), uH HB.out⟩

end Go.Proofs.Ytokkabgkjhpecaa.Pr
