/- Texts of this session in one: what functions of the program compute, and plain facts of it, under the conditions that each theorem names. -/
import Derived.Deep.RegionHeld
import Derived.LoopIn
import Derived.LoopNIn
import Derived.OwnWalkIn
import Derived.RangeFuncBound
import Derived.RangeFuncBox
import Derived.RangeFuncCalls
import Derived.RangeFuncFrom
import Derived.RangeFuncLeaves
import Derived.Shelf.Abstract
import Derived.TacticsInMore
import Derived.WalkKit
import Derived.Test.YtokkabgkjhpecaaKC01
import Derived.Test.YtokkabgkjhpecaaKC04
import Derived.Test.YtokkabgkjhpecaaKC07
import Derived.Test.YtokkabgkjhpecaaKC08
namespace Go.Proofs.Ytokkabgkjhpecaa.Pr
open Go.RowKit Go.Proofs.YtokkabgkjhpecaaW.PrintWords Go.Proofs.YtokkabgkjhpecaaW.PrintLast Go.Proofs.YtokkabgkjhpecaaW.PrintMore
attribute [local go_sem] max2_int min2_int max_two min_two max_three min_three max_four min_four   -- for this text's walks alone
set_option linter.unusedVariables false
set_option linter.unusedSimpArgs false
/-! ### impl_Jacobi_part: function 87 -/
def impl_Jacobi_part.f (a0_0 : Int) (l0_1 : List Int) (l0_2 : List Int) (a1 : Int) (a2 : Int) : Option (Int × List Int × List Int) := if 0 ≤ a1 then (if a1 ≤ a2 then (if a2 ≤ (l0_1.length : Int) then ((slices_Clone_ints.f ((l0_1.take (a2 : Int).toNat).drop (a1 : Int).toNat)).bind fun t771 => (if a2 ≤ (l0_2.length : Int) then ((slices_Clone_ints.f ((l0_2.take (a2 : Int).toNat).drop (a1 : Int).toNat)).bind fun t775 => (some (a0_0, t771, t775))) else (none))) else (none)) else (none)) else (none)
def impl_Jacobi_part.T1 : Bool × List (List Nat × List Nat) := (true, [([], []), ([0], [0]), ([], []), ([2], [2]), ([], []), ([], []), ([3, 4, 5], [3, 4, 5]), ([6], [6]), ([], []), ([8], [8]), ([], []), ([], []), ([9, 10, 11], [9, 10, 11]), ([12, 7], [12]), ([1, 7, 13], [1, 7, 13]), ([14, 13, 0, 1, 2, 3, 4, 5, 6, 7, 8, 9, 10, 11, 12, 13, 14], [14])])
def impl_Jacobi_part.B1 : List Nat := [0, 1, 0, 4, 0, 0, 60, 124, 0, 256, 0, 0, 3840, 8188, 16383, 32767]
theorem impl_Jacobi_part.tab1 : rtab .any (opsOf Try.f87 1) = impl_Jacobi_part.T1 := by kernel_rfl
theorem impl_Jacobi_part.bits1 : waitsOk impl_Jacobi_part.T1.2 impl_Jacobi_part.B1 = true := by kernel_rfl
set_option maxHeartbeats 8000000 in
set_option maxRecDepth 100000 in
theorem impl_Jacobi_part.calls (a0_0 : Int) (A0_1 : Option Addr) (c0_1 : Nat) (l0_1 : List Int) (A0_2 : Option Addr) (c0_2 : Nat) (l0_2 : List Int) (a1 : Int) (a2 : Int) (r1 : Int) (r2 : List Int) (r3 : List Int) (w : World) (hr0_1 : Kd.C (Kd.int .i64) w A0_1 l0_1.length l0_1) (hc0_1 : l0_1.length ≤ c0_1) (hr0_2 : Kd.C (Kd.int .i64) w A0_2 l0_2.length l0_2) (hc0_2 : l0_2.length ≤ c0_2) (h : impl_Jacobi_part.f a0_0 l0_1 l0_2 a1 a2 = some (r1, r2, r3)) :
  Calls Try.prog 87 #[.agg #[.int .i64 a0_0, .slice A0_1 l0_1.length c0_1, .slice A0_2 l0_2.length c0_2], .int .i64 a1, .int .i64 a2] w fun e w' => ∃ v1_ v2_ : Value, e = .returned (.agg #[.int .i64 r1, v1_, v2_]) ∧ Kd.R (Kd.int .i64) 2 w' w.heap.size (fun k_ => some k_ ≠ (v2_ : Value).ownBlock) v1_ r2 ∧ Kd.R (Kd.int .i64) 2 w' w.heap.size (fun k_ => some k_ ≠ (v1_ : Value).ownBlock) v2_ r3 ∧ Below w.heap.size w w' := by
 have hu46 := Try.underlying46
 have HR0_1 := zA hr0_1
 have HC0_1 := zA hc0_1
 clear hr0_1 hc0_1
 have HR0_2 := zA hr0_2
 have HC0_2 := zA hc0_2
 clear hr0_2 hc0_2
 have HB := zA (Below.refl w.heap.size w)
 have H : (if 0 ≤ a1 then (if a1 ≤ a2 then (if a2 ≤ (l0_1.length : Int) then ((slices_Clone_ints.f ((l0_1.take (a2 : Int).toNat).drop (a1 : Int).toNat)).bind fun t771 => (if a2 ≤ (l0_2.length : Int) then ((slices_Clone_ints.f ((l0_2.take (a2 : Int).toNat).drop (a1 : Int).toNat)).bind fun t775 => (some (a0_0, t771, t775))) else (none))) else (none)) else (none)) else (none)) = some (r1, r2, r3) := h
 clear h
 by_cases c4 : 0 ≤ a1
 rotate_left
 ·rw [if_neg c4] at H
  exact absurd H (by simp)

 rw [if_pos c4] at H
 have c4b0 := eq_true c4
 have c4b1 : decide (0 ≤ a1) = true := decide_eq_true c4
 clear c4
 by_cases c5 : a1 ≤ a2
 rotate_left
 ·rw [if_neg c5] at H
  exact absurd H (by simp)
 rw [if_pos c5] at H
 have c5b0 := eq_true c5
 have c5b1 : decide (a1 ≤ a2) = true := decide_eq_true c5
 clear c5
 by_cases c6 : a2 ≤ (l0_1.length : Int)
 rotate_left
 ·rw [if_neg c6] at H
  exact absurd H (by simp)
 rw [if_pos c6] at H
 have c6b0 := eq_true c6
 have c6b1 : decide (a2 ≤ (l0_1.length : Int)) = true := decide_eq_true c6
 clear c6
 replace H := Option.bind_eq_some_iff.mp H
 obtain ⟨t771, A70, H⟩ := H
 replace H : (if a2 ≤ (l0_2.length : Int) then ((slices_Clone_ints.f ((l0_2.take (a2 : Int).toNat).drop (a1 : Int).toNat)).bind fun t775 => (some (a0_0, t771, t775))) else (none)) = some (r1, r2, r3) := H
 have A7 := zA A70
 clear A70
 have c8b0 := eq_true (of_decide_eq_true (by first | (with_reducible assumption) | assumption) : 0 ≤ a1)
 have c9b0 := eq_true (of_decide_eq_true (by first | (with_reducible assumption) | assumption) : a1 ≤ a2)
 by_cases c10 : a2 ≤ (l0_2.length : Int)
 rotate_left
 ·rw [if_neg c10] at H
  exact absurd H (by simp)
 rw [if_pos c10] at H
 have c10b0 := eq_true c10
 have c10b1 : decide (a2 ≤ (l0_2.length : Int)) = true := decide_eq_true c10
 clear c10
 replace H := Option.bind_eq_some_iff.mp H
 obtain ⟨t775, A110, H⟩ := H
 replace H : (some (a0_0, t771, t775)) = some (r1, r2, r3) := H
 have A11 := zA A110
 clear A110
 simp only [Option.some.injEq, Prod.mk.injEq] at H
 obtain ⟨rfl, rfl, rfl⟩ := H
 go_enter Try.func87, Try.ntmps87
 try go_wp2_with (first | ((with_reducible refine gate_dst (N := 3) rfl ?_); refine bx 3 #[.int .i64 a0_0, .slice A0_1 l0_1.length c0_1, .slice A0_2 l0_2.length c0_2] 46 ?_; intro gb768 hg w12 hbox hb; have BK768 := zA (hbox); have GW768 := gq HB hg; have GE768 := gq HB hg; replace HB := xH HB hb; have := geI GE768; clear hb hbox hg) | ((with_reducible refine gate_dst (N := 6) rfl ?_); refine bx 6 #[.int .i64 0, .slice none 0 0, .slice none 0 0] 46 ?_; intro gb769 hg w13 hbox hb; have BK769 := zA (hbox); have GW769 := gq HB hg; have GE769 := gq HB hg; replace HB := xH HB hb; have NB768_769 := zA ((by rw [hg]; exact neL BK768 : gb768 ≠ gb769)); have NB769_768 := zA ((by rw [hg]; exact neG BK768 : gb769 ≠ gb768)); replace BK768 := xB BK768 hb; have := geI GE769; clear hb hbox hg))
 replace BK768 := zA (blk_drew BK768.out)
 replace BK769 := zA (blk_drew BK769.out)
 replace HB := zA (below_drew1 HB.out)
 obtain ⟨i015, hi015, _, hsz15, _⟩ := info_parts info2
 obtain ⟨A15, hcut15, hA15, hC15⟩ := print_mid_of (P := Try.prog) (Value.int .i64) 0 22 2 .i64 .i64 Try.underlying22 hi015 hsz15 A0_1 c0_1 l0_1 a1 a2 (of_decide_eq_true (by first | (with_reducible assumption) | assumption)) (by first | omega | exact of_decide_eq_true (by first | (with_reducible assumption) | assumption)) (of_decide_eq_true (by first | (with_reducible assumption) | assumption)) HC0_1.out
 have HR770 := zA (Kd.C_of_reads (h1 := fun _ => rfl) (hA15 _ (Kd.reads_of_C HR0_1.out)))
 have HC770 := zA hC15
 clear hA15 hC15 hi015 hsz15
 obtain ⟨i016, hi016, _, hsz16, _⟩ := info_parts info2
 obtain ⟨A16, hcut16, hA16, hC16⟩ := print_mid_of (P := Try.prog) (Value.int .i64) 0 22 2 .i64 .i64 Try.underlying22 hi016 hsz16 A0_2 c0_2 l0_2 a1 a2 (of_decide_eq_true (by first | (with_reducible assumption) | assumption)) (by first | omega | exact of_decide_eq_true (by first | (with_reducible assumption) | assumption)) (of_decide_eq_true (by first | (with_reducible assumption) | assumption)) HC0_2.out
 have HR774 := zA (Kd.C_of_reads (h1 := fun _ => rfl) (hA16 _ (Kd.reads_of_C HR0_2.out)))
 have HC774 := zA hC16
 clear hA16 hC16 hi016 hsz16
 refine start_ (n := 16) (S := fun w' => w'.cell? ⟨gb768, 0, none⟩ = some (.int .i64 a0_0) ∧ w'.cell? ⟨gb768, 1, none⟩ = some (.slice A0_1 l0_1.length c0_1) ∧ w'.cell? ⟨gb768, 2, none⟩ = some (.slice A0_2 l0_2.length c0_2)) (ds := []) #[false, false, false, false, false, false, false, false, false, false, false, false, false, false, false, false] (by kernel_rfl) rfl rfl ⟨bcu BK768 0, bcu BK768 1, bcu BK768 2⟩ (fun hHeld => ?_); refine with_tabW impl_Jacobi_part.tab1 impl_Jacobi_part.bits1 (fun HT_ HW_ => ?_)
 generalize w13.drew = w14 at BK768 BK769 HB HR770 HR774 hHeld ⊢
 refine pu_ 0 7 (bl 16 1) HT_ ?_
 refine pu_ 2 9 (bl 16 5) HT_ ?_
 refine pu_ 4 11 (bl 16 21) HT_ ?_
 refine pu_ 5 12 (bl 16 53) HT_ ?_
 refine pu_ 8 15 (bl 16 309) HT_ ?_
 refine pu_ 10 17 (bl 16 1333) HT_ ?_
 refine pu_ 11 18 (bl 16 3381) HT_ ?_
 refine ta_ 1 8 (bl 16 3383) HT_ HW_ hHeld ?_
 refine ta_ 3 10 (bl 16 3391) HT_ HW_ hHeld ?_
 refine pu_ 6 13 (bl 16 3455) HT_ ?_
 refine ta_ 9 16 (bl 16 3967) HT_ HW_ hHeld ?_
 refine pu_ 12 19 (bl 16 8063) HT_ ?_
 refine on_ 7 (some 14) (bl 16 8191) HT_ (fun K hK => ?_)
 refine goes_ Try.func140 (by kernel_rfl) rfl #[.slice A15 ((l0_1.take (a2 : Int).toNat).drop (a1 : Int).toNat).length (c0_1 - a1.toNat)] (by rfl) rfl rfl (by (try simp only [la, lb, lc]); first | done | (rw [show ((l0_1.take (a2 : Int).toNat).drop (a1 : Int).toNat).length = (a2.toNat - a1.toNat) from (by rw [List.length_drop, List.length_take]; have h_ : (a2 : Int) ≤ (l0_1.length : Int) := of_decide_eq_true (by first | (with_reducible assumption) | assumption); omega)] <;> rfl) | rfl | (simp only [ld, le]; rfl)) ?_
 with_reducible refine (slices_Clone_ints.calls _ _ ((l0_1.take (a2 : Int).toNat).drop (a1 : Int).toNat) t771 _ ?side1 ?side2 A7.out).mono ?_
 (case side1 => exact uC ((Kd.C_below HR770.out HB.out)))
 (case side2 => exact HC770.out)
 rintro e w17 ⟨v772, rfl, ho0, hb⟩
 refine ⟨_, rfl, ?_⟩
 have HO773 := zA (Kd.R_lower ho0 (below_size (uH HB.out)))
 replace BK768 := xB BK768 hb
 replace BK769 := xB BK769 hb
 replace HB := xH HB hb
 (try clear hb); (try clear hb2); (try clear hk); (try clear hi); (try clear ho0)
 refine hK.out _ _ ⟨bcu BK768 0, bcu BK768 1, bcu BK768 2⟩ (fun hHeld => ?_)
 clear hK K
 refine no_ 14 ?_
 refine on_ 13 (some 20) (bl 16 16383) HT_ (fun K hK => ?_)
 refine goes_ Try.func140 (by kernel_rfl) rfl #[.slice A16 ((l0_2.take (a2 : Int).toNat).drop (a1 : Int).toNat).length (c0_2 - a1.toNat)] (by rfl) rfl rfl (by (try simp only [la, lb, lc]); first | done | (rw [show ((l0_2.take (a2 : Int).toNat).drop (a1 : Int).toNat).length = (a2.toNat - a1.toNat) from (by rw [List.length_drop, List.length_take]; have h_ : (a2 : Int) ≤ (l0_2.length : Int) := of_decide_eq_true (by first | (with_reducible assumption) | assumption); omega)] <;> rfl) | rfl | (simp only [ld, le]; rfl)) ?_
 with_reducible refine (slices_Clone_ints.calls _ _ ((l0_2.take (a2 : Int).toNat).drop (a1 : Int).toNat) t775 _ ?side1 ?side2 A11.out).mono ?_
 (case side1 => exact uC ((Kd.C_below HR774.out HB.out)))
 (case side2 => exact HC774.out)
 rintro e w18 ⟨v776, rfl, ho0, hb⟩
 refine ⟨_, rfl, ?_⟩
 have HO777 := zA (Kd.R_lower (Kd.R_new' ho0 (Kd.R_lt (uR HO773.out))) (below_size (uH HB.out)))
 replace HO773 := zA (Kd.R_elder' (uR HO773.out) (Kd.R_base ho0) hb)
 replace BK768 := xB BK768 hb
 replace BK769 := xB BK769 hb
 replace HB := xH HB hb
 (try clear hb); (try clear hb2); (try clear hk); (try clear hi); (try clear ho0)
 obtain ⟨Ao19, co19, eo19⟩ := Kd.R_slice HO777.out
 (first | subst eo19 | (injection eo19 with f1_ f2_ f3_; have f4_ := f1_.symm; have f5_ := f3_.symm; clear f1_ f2_ f3_; subst f4_; subst f5_))
 obtain ⟨Ao20, co20, eo20⟩ := Kd.R_slice HO773.out
 (first | subst eo20 | (injection eo20 with f1_ f2_ f3_; have f4_ := f1_.symm; have f5_ := f3_.symm; clear f1_ f2_ f3_; subst f4_; subst f5_))
 refine hK.out _ _ ⟨bcu BK768 0, bcu BK768 1, bcu BK768 2⟩ (fun hHeld => ?_)
 clear hK K
 refine no_ 20 ?_
 refine pu_ 14 21 (bl 16 32767) HT_ ?_
 refine on_ 15 (none) (bl 16 65535) HT_ (fun K hK => ?_)
 have hs21 : w18.cell? ⟨gb769, 0, none⟩ = some (.int .i64 0) := (blk_cell BK769.out 0).trans rfl
 have hfs21 := bf BK769 0
 have hns21_0 := NB768_769.out; have hms21_0 := NB769_768.out
 have hs22 : w18.cell? ⟨gb769, 1, none⟩ = some (.slice none 0 0) := (blk_cell BK769.out 1).trans rfl
 have hfs22 := bf BK769 1
 have hns22_0 := NB768_769.out; have hms22_0 := NB769_768.out
 have hs23 : w18.cell? ⟨gb769, 2, none⟩ = some (.slice none 0 0) := (blk_cell BK769.out 2).trans rfl
 have hfs23 := bf BK769 2
 have hns23_0 := NB768_769.out; have hms23_0 := NB769_768.out
 refine skip_ (w1 := ?_) (by rfl) rfl ?_ ?_
 rotate_left
 ·go_simp
  rfl
 refine hK.out _ _ ⟨((cell_far (p := ⟨gb769, _, none⟩) NB768_769.out _).trans (((cell_far (p := ⟨gb769, _, none⟩) NB768_769.out _).trans (((cell_far (p := ⟨gb769, _, none⟩) NB768_769.out _).trans (hHeld.1)))))), ((cell_far (p := ⟨gb769, _, none⟩) NB768_769.out _).trans (((cell_far (p := ⟨gb769, _, none⟩) NB768_769.out _).trans (((cell_far (p := ⟨gb769, _, none⟩) NB768_769.out _).trans (hHeld.2.1)))))), ((cell_far (p := ⟨gb769, _, none⟩) NB768_769.out _).trans (((cell_far (p := ⟨gb769, _, none⟩) NB768_769.out _).trans (((cell_far (p := ⟨gb769, _, none⟩) NB768_769.out _).trans (hHeld.2.2))))))⟩ (fun hHeld => ?_)
 clear hK K
 refine done_ (done_of HT_.out (by kernel_rfl)) ?_
 try go_wp2
 refine bodyPost_ret (results_cell_row rfl _ _ gb769 46 #[.int .i64 a0_0, .slice Ao20 t771.length co20, .slice Ao19 t775.length co19] (0, 0) _ rfl (by (repeat refine up1 ?_); refine blk_put (cs := #[.int .i64 a0_0, .slice Ao20 t771.length co20, .slice none 0 0]) ?_ 2 _ rfl; (repeat refine up1 ?_); refine blk_put (cs := #[.int .i64 a0_0, .slice none 0 0, .slice none 0 0]) ?_ 1 _ rfl; (repeat refine up1 ?_); refine blk_put (cs := #[.int .i64 0, .slice none 0 0, .slice none 0 0]) ?_ 0 _ rfl; (repeat refine up1 ?_); exact BK769.out) Try.underlying46 rfl (by kernel_rfl)) rfl ?_
 exact ⟨_, _, by first | rfl | (simp [errW_none, errW_some] <;> rfl) | (simp [*, errW_none, errW_some] <;> rfl), uR (Kd.R_mono (Kd.R_far (p := ⟨gb769, 2, none⟩) (Kd.R_far (p := ⟨gb769, 1, none⟩) (Kd.R_far (p := ⟨gb769, 0, none⟩) (Kd.R_types HO773.out BK769.out (by decide)) (fun _ hk => hk.2) (.int .i64 a0_0)) (fun _ hk => hk.2) (.slice Ao20 t771.length co20)) (fun _ hk => hk.2) (.slice Ao19 t775.length co19)) (fun _ hk => hk.1.2)), uR (Kd.R_mono (Kd.R_far (p := ⟨gb769, 2, none⟩) (Kd.R_far (p := ⟨gb769, 1, none⟩) (Kd.R_far (p := ⟨gb769, 0, none⟩) (Kd.R_types HO777.out BK769.out (by decide)) (fun _ hk => hk.2) (.int .i64 a0_0)) (fun _ hk => hk.2) (.slice Ao20 t771.length co20)) (fun _ hk => hk.2) (.slice Ao19 t775.length co19)) (fun _ hk => hk.1.2)), uH HB.out⟩
/-! ### impl_field_div: function 90 -/
def impl_field_div.f (k : Nat) (a0 : Int) (a1 : Int) (a2 : Int) : Option (Int) := (impl_field_inverse.f k a0 a2).bind fun t649 => ((impl_field_mul.f a0 a1 t649).bind fun t650 => (some t650))
theorem impl_field_div.mono : ∀ a0 a1 a2 k, LeO (impl_field_div.f k a0 a1 a2) (impl_field_div.f (k + 1) a0 a1 a2) := by
 intro a0 a1 a2 k
 unfold impl_field_div.f
 repeat' first
   | (with_reducible exact impl_field_inverse.mono _ _ _)
   | (with_reducible exact LeO.refl _)
   | (with_reducible exact LeO.none _)
   | (with_reducible refine LeO.ite ?_ ?_)
   | (with_reducible refine LeO.bind ?_ (fun _ => ?_))
   | exact impl_field_inverse.mono _ _ _
   | exact LeO.none _
   | refine LeO.ite ?_ ?_
   | refine LeO.bind ?_ (fun _ => ?_)
set_option maxHeartbeats 8000000 in
set_option maxRecDepth 100000 in
theorem impl_field_div.calls (k : Nat) (a0 : Int) (a1 : Int) (a2 : Int) (r : Int) (w : World) (h : impl_field_div.f k a0 a1 a2 = some r) :
  Calls Try.prog 90 #[.int .i64 a0, .int .i64 a1, .int .i64 a2] w fun e w' => e = .returned (.int .i64 r) ∧ Drawn0 w w' := by
 have H : ((impl_field_inverse.f k a0 a2).bind fun t649 => ((impl_field_mul.f a0 a1 t649).bind fun t650 => (some t650))) = some r := h
 clear h
 replace H := Option.bind_eq_some_iff.mp H
 obtain ⟨t649, A40, H⟩ := H
 replace H : ((impl_field_mul.f a0 a1 t649).bind fun t650 => (some t650)) = some r := H
 have A4 := zA A40
 clear A40
 replace H := Option.bind_eq_some_iff.mp H
 obtain ⟨t650, A50, H⟩ := H
 replace H : (some t650) = some r := H
 have A5 := zA A50
 clear A50
 obtain rfl := Option.some.inj H
 go_enter Try.func90, Try.ntmps90
 go_wp2_with (first | ((with_reducible refine gate_callee (f := 141) rfl ?_); refine gL (some 11) Try.func141 #[.int .i64 a0, .int .i64 a2] ?_; (with_reducible refine (impl_field_inverse.calls k a0 a2 t649 _ A4.out).mono ?_); rintro e w' ⟨rfl, ⟨nd, rfl⟩⟩; refine ⟨_, rfl, ?_⟩) | ((with_reducible refine gate_callee (f := 89) rfl ?_); refine gL (some 12) Try.func89 #[.int .i64 a0, .int .i64 a1, .int .i64 t649] ?_; (with_reducible refine (impl_field_mul.calls a0 a1 t649 t650 _ A5.out).mono ?_); rintro e w' ⟨rfl, ⟨nd, rfl⟩⟩; refine ⟨_, rfl, ?_⟩))
 go_ret
 exact ⟨by first | rfl | (simp; done) | (simp [*]; done), by repeat (first | exact Drawn0.refl _ | apply Drawn0.step)⟩
/-! ### spec_l01At: function 71 -/
def spec_l01At.l0 : Nat → Int → List Int → Int → Int → Int → Option (Int)
 | 0, _, _, _, _, _ => none
 | k + 1, x0, x1, x2, x7, x8 => if x8 ≥ 0 then (if 0 ≤ x8 then (if x8 < (x1.length : Int) then (if x0 = 0 then (none) else (spec_l01At.l0 k x0 x1 x2 (Int.tmod (wrap64 ((wrap64 (x7 * x2)) + (rd x1 x8))) x0) (wrap64 (x8 - 1)))) else (none)) else (none)) else (some x7)
def spec_l01At.f (k : Nat) (a0 : Int) (l1 : List Int) (a2 : Int) : Option (Int) := spec_l01At.l0 k a0 l1 a2 0 (wrap64 ((l1.length : Int) - 1))
theorem spec_l01At.mono_l : ∀ k, (∀ y0 y1 y2 y3 y4, LeO (spec_l01At.l0 k y0 y1 y2 y3 y4) (spec_l01At.l0 (k + 1) y0 y1 y2 y3 y4))
 | 0 => fun _ _ _ _ _ r h => by simp [spec_l01At.l0] at h
 | k + 1 => by
  have ih0 := spec_l01At.mono_l k
  ·intro y0 y1 y2 y3 y4
   unfold spec_l01At.l0
   repeat' first
   | (with_reducible exact ih0 _ _ _ _ _)
   | (with_reducible exact LeO.refl _)
   | (with_reducible exact LeO.none _)
   | (with_reducible refine LeO.ite ?_ ?_)
   | (with_reducible refine LeO.bind ?_ (fun _ => ?_))
   | exact ih0 _ _ _ _ _
   | exact LeO.none _
   | refine LeO.ite ?_ ?_
   | refine LeO.bind ?_ (fun _ => ?_)
theorem spec_l01At.mono : ∀ a0 a1 a2 k, LeO (spec_l01At.f k a0 a1 a2) (spec_l01At.f (k + 1) a0 a1 a2) := by
 intro a0 a1 a2 k
 have ih0 := spec_l01At.mono_l k
 unfold spec_l01At.f
 repeat' first
   | (with_reducible exact ih0 _ _ _ _ _)
   | (with_reducible exact LeO.refl _)
   | (with_reducible exact LeO.none _)
   | (with_reducible refine LeO.ite ?_ ?_)
   | (with_reducible refine LeO.bind ?_ (fun _ => ?_))
   | exact ih0 _ _ _ _ _
   | exact LeO.none _
   | refine LeO.ite ?_ ?_
   | refine LeO.bind ?_ (fun _ => ?_)
set_option maxHeartbeats 8000000 in
set_option maxRecDepth 100000 in
theorem spec_l01At.calls (k : Nat) (a0 : Int) (A1 : Option Addr) (c1 : Nat) (l1 : List Int) (a2 : Int) (r : Int) (w : World) (hr1 : Kd.C (Kd.int .i64) w A1 l1.length l1) (hc1 : l1.length ≤ c1) (h : spec_l01At.f k a0 l1 a2 = some r) :
  Calls Try.prog 71 #[.int .i64 a0, .slice A1 l1.length c1, .int .i64 a2] w fun e w' => e = .returned (.int .i64 r) ∧ Drawn0 w w' := by
 have HR1 := zA hr1
 have HC1 := zA hc1
 clear hr1 hc1
 have H : (spec_l01At.l0 k a0 l1 a2 0 (wrap64 ((l1.length : Int) - 1))) = some r := h
 clear h
 have H' := zA H
 clear H
 go_enter Try.func71, Try.ntmps71
 go_wp2
 go_loopg [7, 8] k (fun kq v7 v8 w' => ∃ (x7_1 : Int) (x8_1 : Int), v7 = .int .i64 x7_1 ∧ v8 = .int .i64 x8_1 ∧ Aside0 (spec_l01At.l0 kq a0 l1 a2 x7_1 x8_1 = some r) ∧ Aside0 (kq ≤ k) ∧ Drawn0 w w')
 case atStart => exact ⟨(0), (wrap64 ((l1.length : Int) - 1)), (by first | rfl | (simp; done) | (simp [*]; done)), (by first | rfl | (simp; done) | (simp [*]; done)), H', ⟨Nat.le_refl _⟩, by repeat (first | exact Drawn0.refl _ | apply Drawn0.step)⟩
 case round =>
  clear H'
  (try clear c1);(try clear p2)
  obtain ⟨x7_1, x8_1, rfl, rfl, HA, HK1, ⟨m1, rfl⟩⟩ := hrel
  cases gk with
  | zero => exact absurd HA.out (by simp [spec_l01At.l0])
  | succ k1 =>
   have H := HA.out
   clear HA
   simp only [spec_l01At.l0] at H
   by_cases c4 : x8_1 ≥ 0
   rotate_left
   ·rw [if_neg c4] at H
    have c4b0 : decide (0 ≤ x8_1) = false := decide_eq_false c4
    clear c4
    obtain rfl := Option.some.inj H
    go_wp2
    go_ret
    exact ⟨by first | rfl | (simp; done) | (simp [*]; done), by repeat (first | exact Drawn0.refl _ | apply Drawn0.step)⟩

   rw [if_pos c4] at H
   have c4b0 : decide (0 ≤ x8_1) = true := decide_eq_true c4
   clear c4
   by_cases c5 : 0 ≤ x8_1
   rotate_left
   ·rw [if_neg c5] at H
    exact absurd H (by simp)
   rw [if_pos c5] at H
   have c5b0 : decide (0 ≤ x8_1) = true := decide_eq_true c5
   clear c5
   by_cases c6 : x8_1 < (l1.length : Int)
   rotate_left
   ·rw [if_neg c6] at H
    exact absurd H (by simp)
   rw [if_pos c6] at H
   have c6b0 : decide (x8_1 < (l1.length : Int)) = true := decide_eq_true c6
   clear c6
   by_cases c7 : a0 = 0
   rotate_left
   ·rw [if_neg c7] at H
    have c7b0 : (a0 == 0) = false := beq_eq_false_iff_ne.mpr c7
    have c7b1 : (a0 != 0) = true := bne_iff_ne.mpr c7
    have H' := zA H
    clear H
    have p126 : 0 ≤ (x8_1 : Int) := of_decide_eq_true (by first | (with_reducible assumption) | assumption)
    have q126 : x8_1 < (l1.length : Int) := of_decide_eq_true (by first | (with_reducible assumption) | assumption)
    obtain ⟨ad126, e126, hx126_0⟩ := Kd.at_int HR1.out x8_1 p126 q126
    cases e126
    replace p126 := eq_true p126
    replace q126 := eq_true q126
    go_wp2
    go_roundg k1
    case measure => have := HK1.out; omega
    case rel => exact ⟨(Int.tmod (wrap64 ((wrap64 (x7_1 * a2)) + (rd l1 x8_1))) a0), (wrap64 (x8_1 - 1)), (by first | rfl | (simp; done) | (simp [*]; done)), (by first | rfl | (simp; done) | (simp [*]; done)), H', ⟨by have := HK1.out; omega⟩, by repeat (first | exact Drawn0.refl _ | apply Drawn0.step)⟩
   rw [if_pos c7] at H
   exact absurd H (by simp)
/-! ### spec_l03Cut: function 85 -/
def spec_l03Cut.f (a0_0 : Int) (l0_1 : List Int) (l0_2 : List Int) (a1 : Int) : Option (Int × List Int × List Int) := if 0 ≤ a1 then (if a1 ≤ (l0_1.length : Int) then ((spec_l01Own.f (l0_1.take (a1 : Int).toNat)).bind fun t736 => (if a1 ≤ (l0_2.length : Int) then ((spec_l01Own.f (l0_2.take (a1 : Int).toNat)).bind fun t740 => (some (a0_0, t736, t740))) else (none))) else (none)) else (none)
def spec_l03Cut.T1 : Bool × List (List Nat × List Nat) := (true, [([], []), ([0], [0]), ([], []), ([2], [2]), ([], []), ([3, 4], [3, 4]), ([5], [5]), ([], []), ([7], [7]), ([], []), ([8, 9], [8, 9]), ([10, 6], [10]), ([1, 6, 11], [1, 6, 11]), ([12, 11, 0, 1, 2, 3, 4, 5, 6, 7, 8, 9, 10, 11, 12], [12])])
def spec_l03Cut.B1 : List Nat := [0, 1, 0, 4, 0, 28, 60, 0, 128, 0, 896, 2044, 4095, 8191]
theorem spec_l03Cut.tab1 : rtab .any (opsOf Try.f85 1) = spec_l03Cut.T1 := by kernel_rfl
theorem spec_l03Cut.bits1 : waitsOk spec_l03Cut.T1.2 spec_l03Cut.B1 = true := by kernel_rfl
set_option maxHeartbeats 8000000 in
set_option maxRecDepth 100000 in
theorem spec_l03Cut.calls (a0_0 : Int) (A0_1 : Option Addr) (c0_1 : Nat) (l0_1 : List Int) (A0_2 : Option Addr) (c0_2 : Nat) (l0_2 : List Int) (a1 : Int) (r1 : Int) (r2 : List Int) (r3 : List Int) (w : World) (hr0_1 : Kd.C (Kd.int .i64) w A0_1 l0_1.length l0_1) (hc0_1 : l0_1.length ≤ c0_1) (hr0_2 : Kd.C (Kd.int .i64) w A0_2 l0_2.length l0_2) (hc0_2 : l0_2.length ≤ c0_2) (h : spec_l03Cut.f a0_0 l0_1 l0_2 a1 = some (r1, r2, r3)) :
  Calls Try.prog 85 #[.agg #[.int .i64 a0_0, .slice A0_1 l0_1.length c0_1, .slice A0_2 l0_2.length c0_2], .int .i64 a1] w fun e w' => ∃ v1_ v2_ : Value, e = .returned (.agg #[.int .i64 r1, v1_, v2_]) ∧ Kd.R (Kd.int .i64) 2 w' w.heap.size (fun k_ => some k_ ≠ (v2_ : Value).ownBlock) v1_ r2 ∧ Kd.R (Kd.int .i64) 2 w' w.heap.size (fun k_ => some k_ ≠ (v1_ : Value).ownBlock) v2_ r3 ∧ Below w.heap.size w w' := by
 have hu46 := Try.underlying46
 have HR0_1 := zA hr0_1
 have HC0_1 := zA hc0_1
 clear hr0_1 hc0_1
 have HR0_2 := zA hr0_2
 have HC0_2 := zA hc0_2
 clear hr0_2 hc0_2
 have HB := zA (Below.refl w.heap.size w)
 have H : (if 0 ≤ a1 then (if a1 ≤ (l0_1.length : Int) then ((spec_l01Own.f (l0_1.take (a1 : Int).toNat)).bind fun t736 => (if a1 ≤ (l0_2.length : Int) then ((spec_l01Own.f (l0_2.take (a1 : Int).toNat)).bind fun t740 => (some (a0_0, t736, t740))) else (none))) else (none)) else (none)) = some (r1, r2, r3) := h
 clear h
 by_cases c3 : 0 ≤ a1
 rotate_left
 ·rw [if_neg c3] at H
  exact absurd H (by simp)

 rw [if_pos c3] at H
 have c3b0 := eq_true c3
 have c3b1 : decide (0 ≤ a1) = true := decide_eq_true c3
 clear c3
 by_cases c4 : a1 ≤ (l0_1.length : Int)
 rotate_left
 ·rw [if_neg c4] at H
  exact absurd H (by simp)
 rw [if_pos c4] at H
 have c4b0 := eq_true c4
 have c4b1 : decide (a1 ≤ (l0_1.length : Int)) = true := decide_eq_true c4
 clear c4
 replace H := Option.bind_eq_some_iff.mp H
 obtain ⟨t736, A50, H⟩ := H
 replace H : (if a1 ≤ (l0_2.length : Int) then ((spec_l01Own.f (l0_2.take (a1 : Int).toNat)).bind fun t740 => (some (a0_0, t736, t740))) else (none)) = some (r1, r2, r3) := H
 have A5 := zA A50
 clear A50
 have c6b0 := eq_true (of_decide_eq_true (by first | (with_reducible assumption) | assumption) : 0 ≤ a1)
 by_cases c7 : a1 ≤ (l0_2.length : Int)
 rotate_left
 ·rw [if_neg c7] at H
  exact absurd H (by simp)
 rw [if_pos c7] at H
 have c7b0 := eq_true c7
 have c7b1 : decide (a1 ≤ (l0_2.length : Int)) = true := decide_eq_true c7
 clear c7
 replace H := Option.bind_eq_some_iff.mp H
 obtain ⟨t740, A80, H⟩ := H
 replace H : (some (a0_0, t736, t740)) = some (r1, r2, r3) := H
 have A8 := zA A80
 clear A80
 simp only [Option.some.injEq, Prod.mk.injEq] at H
 obtain ⟨rfl, rfl, rfl⟩ := H
 go_enter Try.func85, Try.ntmps85
 try go_wp2_with (first | ((with_reducible refine gate_dst (N := 2) rfl ?_); refine bx 2 #[.int .i64 a0_0, .slice A0_1 l0_1.length c0_1, .slice A0_2 l0_2.length c0_2] 46 ?_; intro gb733 hg w9 hbox hb; have BK733 := zA (hbox); have GW733 := gq HB hg; have GE733 := gq HB hg; replace HB := xH HB hb; have := geI GE733; clear hb hbox hg) | ((with_reducible refine gate_dst (N := 4) rfl ?_); refine bx 4 #[.int .i64 0, .slice none 0 0, .slice none 0 0] 46 ?_; intro gb734 hg w10 hbox hb; have BK734 := zA (hbox); have GW734 := gq HB hg; have GE734 := gq HB hg; replace HB := xH HB hb; have NB733_734 := zA ((by rw [hg]; exact neL BK733 : gb733 ≠ gb734)); have NB734_733 := zA ((by rw [hg]; exact neG BK733 : gb734 ≠ gb733)); replace BK733 := xB BK733 hb; have := geI GE734; clear hb hbox hg))
 replace BK733 := zA (blk_drew BK733.out)
 replace BK734 := zA (blk_drew BK734.out)
 replace HB := zA (below_drew1 HB.out)
 obtain ⟨i012, hi012, _, hsz12, _⟩ := info_parts info2
 obtain ⟨hcut12, hA12, hC12⟩ := print_take_of (P := Try.prog) (Value.int .i64) 0 22 2 .i64 Try.underlying22 hi012 hsz12 A0_1 c0_1 l0_1 a1 (of_decide_eq_true (by first | (with_reducible assumption) | assumption)) (of_decide_eq_true (by first | (with_reducible assumption) | assumption)) HC0_1.out
 have HR735 := zA (Kd.C_of_reads (h1 := fun _ => rfl) (hA12 _ (Kd.reads_of_C HR0_1.out)))
 have HC735 := zA hC12
 clear hA12 hC12 hi012 hsz12
 obtain ⟨i013, hi013, _, hsz13, _⟩ := info_parts info2
 obtain ⟨hcut13, hA13, hC13⟩ := print_take_of (P := Try.prog) (Value.int .i64) 0 22 2 .i64 Try.underlying22 hi013 hsz13 A0_2 c0_2 l0_2 a1 (of_decide_eq_true (by first | (with_reducible assumption) | assumption)) (of_decide_eq_true (by first | (with_reducible assumption) | assumption)) HC0_2.out
 have HR739 := zA (Kd.C_of_reads (h1 := fun _ => rfl) (hA13 _ (Kd.reads_of_C HR0_2.out)))
 have HC739 := zA hC13
 clear hA13 hC13 hi013 hsz13
 refine start_ (n := 14) (S := fun w' => w'.cell? ⟨gb733, 0, none⟩ = some (.int .i64 a0_0) ∧ w'.cell? ⟨gb733, 1, none⟩ = some (.slice A0_1 l0_1.length c0_1) ∧ w'.cell? ⟨gb733, 2, none⟩ = some (.slice A0_2 l0_2.length c0_2)) (ds := []) #[false, false, false, false, false, false, false, false, false, false, false, false, false, false] (by kernel_rfl) rfl rfl ⟨bcu BK733 0, bcu BK733 1, bcu BK733 2⟩ (fun hHeld => ?_); refine with_tabW spec_l03Cut.tab1 spec_l03Cut.bits1 (fun HT_ HW_ => ?_)
 generalize w10.drew = w11 at BK733 BK734 HB HR735 HR739 hHeld ⊢
 refine pu_ 0 5 (bl 14 1) HT_ ?_
 refine pu_ 2 7 (bl 14 5) HT_ ?_
 refine pu_ 4 9 (bl 14 21) HT_ ?_
 refine pu_ 7 12 (bl 14 149) HT_ ?_
 refine pu_ 9 14 (bl 14 661) HT_ ?_
 refine ta_ 1 6 (bl 14 663) HT_ HW_ hHeld ?_
 refine ta_ 3 8 (bl 14 671) HT_ HW_ hHeld ?_
 refine pu_ 5 10 (bl 14 703) HT_ ?_
 refine ta_ 8 13 (bl 14 959) HT_ HW_ hHeld ?_
 refine pu_ 10 15 (bl 14 1983) HT_ ?_
 refine on_ 6 (some 11) (bl 14 2047) HT_ (fun K hK => ?_)
 refine goes_ Try.func118 (by kernel_rfl) rfl #[.slice A0_1 (l0_1.take (a1 : Int).toNat).length c0_1] (by rfl) rfl rfl (by (try simp only [la, lb, lc]); first | done | (rw [show (l0_1.take (a1 : Int).toNat).length = a1.toNat from (by rw [List.length_take]; have h_ : (a1 : Int) ≤ (l0_1.length : Int) := of_decide_eq_true (by first | (with_reducible assumption) | assumption); omega)] <;> rfl) | rfl | (simp only [ld, le]; rfl)) ?_
 with_reducible refine (spec_l01Own.calls _ _ (l0_1.take (a1 : Int).toNat) t736 _ ?side1 ?side2 A5.out).mono ?_
 (case side1 => exact uC ((Kd.C_below HR735.out HB.out)))
 (case side2 => exact HC735.out)
 rintro e w14 ⟨v737, rfl, ho0, hb⟩
 refine ⟨_, rfl, ?_⟩
 have HO738 := zA (Kd.R_lower ho0 (below_size (uH HB.out)))
 replace BK733 := xB BK733 hb
 replace BK734 := xB BK734 hb
 replace HB := xH HB hb
 (try clear hb); (try clear hb2); (try clear hk); (try clear hi); (try clear ho0)
 refine hK.out _ _ ⟨bcu BK733 0, bcu BK733 1, bcu BK733 2⟩ (fun hHeld => ?_)
 clear hK K
 refine no_ 11 ?_
 refine on_ 11 (some 16) (bl 14 4095) HT_ (fun K hK => ?_)
 refine goes_ Try.func118 (by kernel_rfl) rfl #[.slice A0_2 (l0_2.take (a1 : Int).toNat).length c0_2] (by rfl) rfl rfl (by (try simp only [la, lb, lc]); first | done | (rw [show (l0_2.take (a1 : Int).toNat).length = a1.toNat from (by rw [List.length_take]; have h_ : (a1 : Int) ≤ (l0_2.length : Int) := of_decide_eq_true (by first | (with_reducible assumption) | assumption); omega)] <;> rfl) | rfl | (simp only [ld, le]; rfl)) ?_
 with_reducible refine (spec_l01Own.calls _ _ (l0_2.take (a1 : Int).toNat) t740 _ ?side1 ?side2 A8.out).mono ?_
 (case side1 => exact uC ((Kd.C_below HR739.out HB.out)))
 (case side2 => exact HC739.out)
 rintro e w15 ⟨v741, rfl, ho0, hb⟩
 refine ⟨_, rfl, ?_⟩
 have HO742 := zA (Kd.R_lower (Kd.R_new' ho0 (Kd.R_lt (uR HO738.out))) (below_size (uH HB.out)))
 replace HO738 := zA (Kd.R_elder' (uR HO738.out) (Kd.R_base ho0) hb)
 replace BK733 := xB BK733 hb
 replace BK734 := xB BK734 hb
 replace HB := xH HB hb
 (try clear hb); (try clear hb2); (try clear hk); (try clear hi); (try clear ho0)
 obtain ⟨Ao16, co16, eo16⟩ := Kd.R_slice HO742.out
 (first | subst eo16 | (injection eo16 with f1_ f2_ f3_; have f4_ := f1_.symm; have f5_ := f3_.symm; clear f1_ f2_ f3_; subst f4_; subst f5_))
 obtain ⟨Ao17, co17, eo17⟩ := Kd.R_slice HO738.out
 (first | subst eo17 | (injection eo17 with f1_ f2_ f3_; have f4_ := f1_.symm; have f5_ := f3_.symm; clear f1_ f2_ f3_; subst f4_; subst f5_))
 refine hK.out _ _ ⟨bcu BK733 0, bcu BK733 1, bcu BK733 2⟩ (fun hHeld => ?_)
 clear hK K
 refine no_ 16 ?_
 refine pu_ 12 17 (bl 14 8191) HT_ ?_
 refine on_ 13 (none) (bl 14 16383) HT_ (fun K hK => ?_)
 have hs18 : w15.cell? ⟨gb734, 0, none⟩ = some (.int .i64 0) := (blk_cell BK734.out 0).trans rfl
 have hfs18 := bf BK734 0
 have hns18_0 := NB733_734.out; have hms18_0 := NB734_733.out
 have hs19 : w15.cell? ⟨gb734, 1, none⟩ = some (.slice none 0 0) := (blk_cell BK734.out 1).trans rfl
 have hfs19 := bf BK734 1
 have hns19_0 := NB733_734.out; have hms19_0 := NB734_733.out
 have hs20 : w15.cell? ⟨gb734, 2, none⟩ = some (.slice none 0 0) := (blk_cell BK734.out 2).trans rfl
 have hfs20 := bf BK734 2
 have hns20_0 := NB733_734.out; have hms20_0 := NB734_733.out
 refine skip_ (w1 := ?_) (by rfl) rfl ?_ ?_
 rotate_left
 ·go_simp
  rfl
 refine hK.out _ _ ⟨((cell_far (p := ⟨gb734, _, none⟩) NB733_734.out _).trans (((cell_far (p := ⟨gb734, _, none⟩) NB733_734.out _).trans (((cell_far (p := ⟨gb734, _, none⟩) NB733_734.out _).trans (hHeld.1)))))), ((cell_far (p := ⟨gb734, _, none⟩) NB733_734.out _).trans (((cell_far (p := ⟨gb734, _, none⟩) NB733_734.out _).trans (((cell_far (p := ⟨gb734, _, none⟩) NB733_734.out _).trans (hHeld.2.1)))))), ((cell_far (p := ⟨gb734, _, none⟩) NB733_734.out _).trans (((cell_far (p := ⟨gb734, _, none⟩) NB733_734.out _).trans (((cell_far (p := ⟨gb734, _, none⟩) NB733_734.out _).trans (hHeld.2.2))))))⟩ (fun hHeld => ?_)
 clear hK K
 refine done_ (done_of HT_.out (by kernel_rfl)) ?_
 try go_wp2
 refine bodyPost_ret (results_cell_row rfl _ _ gb734 46 #[.int .i64 a0_0, .slice Ao17 t736.length co17, .slice Ao16 t740.length co16] (0, 0) _ rfl (by (repeat refine up1 ?_); refine blk_put (cs := #[.int .i64 a0_0, .slice Ao17 t736.length co17, .slice none 0 0]) ?_ 2 _ rfl; (repeat refine up1 ?_); refine blk_put (cs := #[.int .i64 a0_0, .slice none 0 0, .slice none 0 0]) ?_ 1 _ rfl; (repeat refine up1 ?_); refine blk_put (cs := #[.int .i64 0, .slice none 0 0, .slice none 0 0]) ?_ 0 _ rfl; (repeat refine up1 ?_); exact BK734.out) Try.underlying46 rfl (by kernel_rfl)) rfl ?_
 exact ⟨_, _, by first | rfl | (simp [errW_none, errW_some] <;> rfl) | (simp [*, errW_none, errW_some] <;> rfl), uR (Kd.R_mono (Kd.R_far (p := ⟨gb734, 2, none⟩) (Kd.R_far (p := ⟨gb734, 1, none⟩) (Kd.R_far (p := ⟨gb734, 0, none⟩) (Kd.R_types HO738.out BK734.out (by decide)) (fun _ hk => hk.2) (.int .i64 a0_0)) (fun _ hk => hk.2) (.slice Ao17 t736.length co17)) (fun _ hk => hk.2) (.slice Ao16 t740.length co16)) (fun _ hk => hk.1.2)), uR (Kd.R_mono (Kd.R_far (p := ⟨gb734, 2, none⟩) (Kd.R_far (p := ⟨gb734, 1, none⟩) (Kd.R_far (p := ⟨gb734, 0, none⟩) (Kd.R_types HO742.out BK734.out (by decide)) (fun _ hk => hk.2) (.int .i64 a0_0)) (fun _ hk => hk.2) (.slice Ao17 t736.length co17)) (fun _ hk => hk.2) (.slice Ao16 t740.length co16)) (fun _ hk => hk.1.2)), uH HB.out⟩
/- slices.Backward over whole numbers: a loop over it is told of all indices and numbers, from the last one on; the slice lies within the reach. (Turned from a worked text of the kit on slices.All.) -/
open Go.RowKit Go.Shelf
attribute [local go_sem] Oper.semAt_some
theorem add_block (ad : Addr) (j : Nat) : (ad.add j).block = ad.block := by
  unfold Addr.add
  first | rfl | (split <;> rfl)
/-- What has come when k rounds are over. -/
def upto {α : Type} (f : Nat → α) (k : Nat) : List α := (List.range k).map f
theorem upto_succ {α : Type} (f : Nat → α) (k : Nat) : upto f (k + 1) = upto f k ++ [f k] := by simp [upto, List.range_succ]
theorem upto_length {α : Type} (f : Nat → α) (k : Nat) : (upto f k).length = k := by simp [upto]
/-- The k-th one from behind: its index and the number. -/
def bk (zs : List Int) (len k : Nat) : Int × Int := ((len : Int) - 1 - (k : Int), zs[len - 1 - k]?.getD 0)

/-- What a round keeps: whatever lay below n₀, and the box Bs that holds the slice. -/
def KpB (n₀ Bs : Nat) (W W' : World) : Prop := Below n₀ W W' ∧ ∀ v, W.cell? ⟨Bs, 0, none⟩ = some v → W'.cell? ⟨Bs, 0, none⟩ = some v
theorem KpB.trans {n₀ Bs : Nat} {A B C : World} (h : KpB n₀ Bs A B) (k : KpB n₀ Bs B C) : KpB n₀ Bs A C := ⟨h.1.trans k.1, fun v e => k.2 v (h.2 v e)⟩

set_option maxRecDepth 100000 in
set_option maxHeartbeats 2000000 in
theorem back1_in (F : Fence) (n : Nat) (h8 : F.fn 157) (hro : F.round = none) (hn : 1 ≤ n) (l Bs n₀ len cap : Nat) (ad : Addr) (zs : List Int) (hreach : len * 8 ≤ 140737488351232) (hb : ad.block < n₀) (J Jx : List (Int × Int) → World → Prop)
    (hY : ∀ pre x W, J pre W → pre.length < len → YieldAt F (n - 1) Try.prog l #[.int .i64 x.1, .int .i64 x.2] W fun e W' =>
      (e = .returned (.bool true) ∧ J (pre ++ [x]) W' ∧ KpB n₀ Bs W W') ∨ (e = .returned (.bool false) ∧ Jx (pre ++ [x]) W'))
    (W : World) (hBs : W.cell? ⟨Bs, 0, none⟩ = some (.slice (some ad) len cap)) (hc : ∀ j, j < len → W.cell? (ad.add j) = some (.int .i64 (zs[j]?.getD 0))) (h0 : J [] W) :
    CallsIn F n Try.prog 157 #[.func (.yield l) #[] #[], .pointer (some ⟨Bs, 0, none⟩)] W fun e W' => (∃ v, e = .returned v) ∧
      ((∃ ys, ys = upto (bk zs len) len ∧ J ys W') ∨ (∃ pre, (∃ k, k ≤ len ∧ pre = upto (bk zs len) k) ∧ Jx pre W')) := by
  refine callsIn_of_wp Try.func157 rfl h8 ?_ hro
  simp only [Try.ntmps157, List.size_toArray, List.length_cons, List.length_nil, Nat.reduceAdd, Nat.reduceSub, Array.replicate_succ, Array.replicate_zero, List.push_toArray, List.append_toArray, List.nil_append, List.cons_append]
  have hw0 : wrap64 ((len : Int) - 1) = (len : Int) - 1 - ((0 : Nat) : Int) := by unfold wrap64; omega
  gi_wp2
  gi_loopw [3] (fun i wr => ∃ k : Nat, k ≤ len ∧ i = .int .i64 ((len : Int) - 1 - (k : Int)) ∧ J (upto (bk zs len) k) wr ∧ KpB n₀ Bs W wr)
    (fun i _ => (intOf i + 1).toNat)
  case atStart => exact ⟨0, Nat.zero_le _, by first | rfl | (simp; done), h0, Below.refl _ _, fun _ h => h⟩
  case round =>
    obtain ⟨k, hk, rfl, hJs, hnx⟩ := hrel
    have hcx : k < len → wr.cell? (ad.add (len - 1 - k)) = some (.int .i64 (zs[len - 1 - k]?.getD 0)) := fun h => (hnx.1.cell (p := ad.add (len - 1 - k)) (show (ad.add (len - 1 - k)).block < n₀ from by rw [add_block]; exact hb)).trans (hc _ (by omega))
    have hbx : wr.cell? ⟨Bs, 0, none⟩ = some (.slice (some ad) len cap) := hnx.2 _ hBs
    by_cases hlt : k < len
    · obtain ⟨fn, tmps, assign, body, hy, hR⟩ := hY _ (bk zs len k) wr hJs (by rw [upto_length]; exact hlt)
      dsimp only [bk] at hy
      have hcx' := hcx hlt
      have hi0 : (0 : Int) ≤ (len : Int) - 1 - (k : Int) := by omega
      have hi1 : (len : Int) - 1 - (k : Int) < (len : Int) := by omega
      have hin : ((len : Int) - 1 - (k : Int)).toNat = len - 1 - k := by omega
      have hw1 : wrap64 ((len : Int) - 1 - (k : Int) - 1) = (len : Int) - 1 - ((k + 1 : Nat) : Int) := by unfold wrap64; omega
      gi_wp2
      refine hR.mono ?_
      rintro e W3 (⟨rfl, hJ3, hk3⟩ | ⟨rfl, hJx3⟩)
      · gi_wp2
        go_roundw
        case rel => exact ⟨k + 1, by omega, by first | rfl | (simp; done) | (simp; omega), by rw [upto_succ]; exact hJ3, hnx.trans hk3⟩
        case measure => simp [intOf]; omega
      · gi_wp2
        refine bodyPost_ret (results_none rfl _ _ _) rfl ?_
        exact ⟨⟨_, rfl⟩, .inr ⟨_, ⟨k + 1, by omega, (upto_succ _ _).symm⟩, hJx3⟩⟩
    · obtain rfl : k = len := by omega
      have hng : ¬ ((0 : Int) ≤ (k : Int) - 1 - (k : Int)) := by omega
      gi_wp2
      go_end0
      first | exact ⟨⟨_, rfl⟩, .inl ⟨_, rfl, hJs⟩⟩ | exact ⟨⟨_, rfl⟩, .inl hJs⟩

set_option maxRecDepth 100000 in
set_option maxHeartbeats 1000000 in
theorem back1_nil_in (F : Fence) (n : Nat) (h8 : F.fn 157) (hro : F.round = none) (l Bs cap : Nat) (A : Option Addr) (J : List (Int × Int) → World → Prop) (W : World) (hBs : W.cell? ⟨Bs, 0, none⟩ = some (.slice A 0 cap)) (h0 : J [] W) :
    CallsIn F n Try.prog 157 #[.func (.yield l) #[] #[], .pointer (some ⟨Bs, 0, none⟩)] W fun e W' => (∃ v, e = .returned v) ∧ J [] W' := by
  refine callsIn_of_wp Try.func157 rfl h8 ?_ hro
  simp only [Try.ntmps157, List.size_toArray, List.length_cons, List.length_nil, Nat.reduceAdd, Nat.reduceSub, Array.replicate_succ, Array.replicate_zero, List.push_toArray, List.append_toArray, List.nil_append, List.cons_append]
  gi_wp2
  gi_loopw [3] (fun i wr => i = .int .i64 (-1) ∧ J [] wr) (fun _ _ => 0)
  case atStart => exact ⟨rfl, h0⟩
  case round =>
    obtain ⟨rfl, hJs⟩ := hrel
    gi_wp2
    go_end0
    exact ⟨⟨_, rfl⟩, hJs⟩

set_option maxHeartbeats 1000000 in
/-- slices.Backward(s): the slice value is boxed; the function value captures the box. -/
theorem back_in (F : Fence) (n : Nat) (h5 : F.fn 138) (hro : F.round = none) (a : Option Addr) (len cap : Nat) (w : World) :
    CallsIn F n Try.prog 138 #[.slice a len cap] w fun e w' => e = .returned (.func (.func 157) #[] #[.pointer (some ⟨w.heap.size, 0, none⟩)]) ∧ w' = w.alloc (.cells #[.slice a len cap] 22) := by
  refine callsIn_of_wp Try.func138 rfl h5 ?_ hro
  simp only [Try.ntmps138, List.size_toArray, List.length_cons, List.length_nil, Nat.reduceAdd, Nat.reduceSub, Array.replicate_succ, Array.replicate_zero, List.push_toArray, List.append_toArray, List.nil_append, List.cons_append]
  gi_wp2
  go_ret
  exact ⟨rfl, rfl⟩
/-- The slice value holds the numbers, in a block below n₀; or there are none. -/
def IntsB (n₀ : Nat) (W : World) (sv : Value) (zs : List Int) : Prop :=
  (zs = [] ∧ ∃ A cap, sv = .slice A 0 cap) ∨ ∃ ad cap, sv = .slice (some ad) zs.length cap ∧ ad.block < n₀ ∧ ∀ j, j < zs.length → W.cell? (ad.add j) = some (.int .i64 (zs[j]?.getD 0))
theorem IntsB.below {n₀ : Nat} {A B : World} (h : Below n₀ A B) {sv : Value} {zs : List Int} : IntsB n₀ A sv zs → IntsB n₀ B sv zs
  | .inl e => .inl e
  | .inr ⟨ad, cap, e, hb, hc⟩ => .inr ⟨ad, cap, e, hb, fun j hj => (h.cell (p := ad.add j) (show (ad.add j).block < n₀ from by rw [add_block]; exact hb)).trans (hc j hj)⟩
/-- A loop over slices.Backward(s) is told of all indices and numbers, from the last one on. -/
theorem back_stops (F : Fence) (n : Nat) (h8 : F.fn 157) (hro : F.round = none) (hn : 1 ≤ n) (Bs n₀ : Nat) (sv : Value) (zs : List Int) (hreach : zs.length * 8 ≤ 140737488351232) (w : World) (hB0 : Bs < w.heap.size) (hn₀ : n₀ ≤ w.heap.size)
    (hc : w.cell? ⟨Bs, 0, none⟩ = some sv) (hI : IntsB n₀ w sv zs) :
    SeqStopsK F n Try.prog 157 #[.pointer (some ⟨Bs, 0, none⟩)] (fun x : Int × Int => #[Value.int .i64 x.1, Value.int .i64 x.2]) (KpB n₀ Bs) (fun ys => ys = upto (bk zs zs.length) zs.length) (fun pre => ∃ k, k ≤ zs.length ∧ pre = upto (bk zs zs.length) k) zs.length w := fun l J Jx W hW _ _ hY h0 => by
  have hc' := (hW.cell (p := ⟨Bs, 0, none⟩) hB0).trans hc
  rcases hI.below (hW.mono hn₀) with ⟨rfl, A, cap, rfl⟩ | ⟨ad, cap, rfl, hb, hcs⟩
  · exact (back1_nil_in F n h8 hro l Bs cap A J W hc' h0).mono fun e W' ⟨he, hj⟩ => ⟨he, .inl ⟨_, rfl, hj⟩⟩
  · exact back1_in F n h8 hro hn l Bs n₀ zs.length cap ad zs hreach hb J Jx hY W hc' hcs h0
/- Quotients modulo p in the program; no condition. -/
theorem implDiv_ev {p : Int} (hp : Pm p) {x y : Int} (hx : 0 ≤ x ∧ x < p) (hy : 0 ≤ y ∧ y < p) : Ev (fun n => impl_field_div.f n p x y) (x * invF p y % p) := by
  unfold impl_field_div.f
  exact Ev.bind (implInv_ev hp hy) (Ev.bindE (fmul_eq hp hx (invF_in hp y)) (Ev.now _))
/- field.value: the value of a polynomial, read from the last number on: what the call answers, for every list within the reach and every p other than 0. -/
open Go.RowKit Go.Shelf Go.Proofs.YtokkabgkjhpecaaW.PrintWords Go.Proofs.YtokkabgkjhpecaaW.PrintLast Go.Proofs.YtokkabgkjhpecaaW.PrintMore
/-- One round. -/
def valStep (p x o c : Int) : Int := Int.tmod (wrap64 (Int.tmod (wrap64 (wrap64 (o * x) + c)) p + p)) p
def valOf (p x : Int) (ys : List (Int × Int)) : Int := ys.foldl (fun o y => valStep p x o y.2) 0
theorem valOf_snoc (p x : Int) (ys : List (Int × Int)) (y : Int × Int) : valOf p x (ys ++ [y]) = valStep p x (valOf p x ys) y.2 := by simp [valOf]
def impl_field_value.f (p : Int) (l : List Int) (x : Int) : Option Int := if p = 0 then none else if l.length ≤ 17592186040320 then some (valOf p x (upto (bk l l.length) l.length)) else none

theorem cell_of_box_v {W : World} {B : Nat} {v : Value} {t : TypeId} (h : W.heap[B]? = some (.cells #[v] t (0, 0))) : W.cell? ⟨B, 0, none⟩ = some v ∧ W.frozen? ⟨B, 0, none⟩ = false := by
  constructor <;> simp [World.cell?, World.frozen?, h]
theorem cell_new_v (W : World) (v : Value) (t : TypeId) : (W.alloc (.cells #[v] t)).cell? ⟨W.heap.size, 0, none⟩ = some v ∧ (W.alloc (.cells #[v] t)).frozen? ⟨W.heap.size, 0, none⟩ = false :=
  cell_of_box_v (World.alloc_heap_new W _)
theorem cell_alloc_v {W : World} {a : Addr} {v : Value} (o : Obj) (h : W.cell? a = some v) : (W.alloc o).cell? a = some v := cell_kept h (World.grownBy_alloc W o none) (fun r e => by cases e)
theorem frozen_alloc_v {W : World} {a : Addr} {v : Value} (o : Obj) (h : W.cell? a = some v) (hf : W.frozen? a = false) : (W.alloc o).frozen? a = false := (frozen_kept h (World.grownBy_alloc W o none) (fun r e => by cases e)).trans hf

set_option maxRecDepth 100000 in
set_option maxHeartbeats 2000000 in
theorem impl_field_value.calls_in (F : Fence) (n : Nat) (h1 : F.fn 78) (h2 : F.fn 138) (h3 : F.fn 157) (h4 : F.fn 88) (hro : F.round = none) (hn : 4 ≤ n)
    (hmod : ∀ (k m : Nat) (x y r : Int) (W : World), impl_field_mod.f x y = some r → CallsIn (F.inRound k) m Try.prog 88 #[.int .i64 x, .int .i64 y] W fun e W' => e = .returned (.int .i64 r) ∧ Drawn0 W W')
    (a0 : Int) (A1 : Option Addr) (c1 : Nat) (l1 : List Int) (a2 : Int) (hp : a0 ≠ 0) (hl : l1.length ≤ 17592186040320) (w : World) (hI : IntsB w.heap.size w (.slice A1 l1.length c1) l1) :
    CallsIn F n Try.prog 78 #[.int .i64 a0, .slice A1 l1.length c1, .int .i64 a2] w fun e W' => e = .returned (.int .i64 (valOf a0 a2 (upto (bk l1 l1.length) l1.length))) ∧ Below w.heap.size w W' := by
  have hn1 : 1 ≤ n := by omega
  refine callsIn_of_wp_marks Try.func78 rfl h1 ?_ hro
  simp only [Try.ntmps78, List.size_toArray, List.length_cons, List.length_nil, Nat.reduceAdd, Nat.reduceSub, Array.replicate_succ, Array.replicate_zero, List.push_toArray, List.append_toArray, List.nil_append, List.cons_append]
  gi_wp2_with (gi_at_call 138; refine (back_in F (n - 1) h2 hro _ _ _ _).mono ?_; rintro e w' ⟨rfl, rfl⟩)
  have c0 := cell_new_v w (.int .i64 a0) 85
  have c1' := cell_new_v (w.alloc (.cells #[.int .i64 a0] 85)) (.int .i64 a2) 2
  have c2 := cell_new_v ((w.alloc (.cells #[.int .i64 a0] 85)).alloc (.cells #[.int .i64 a2] 2)) (.int .i64 0) 2
  have c3 := cell_new_v (((w.alloc (.cells #[.int .i64 a0] 85)).alloc (.cells #[.int .i64 a2] 2)).alloc (.cells #[.int .i64 0] 2)) (.slice A1 l1.length c1) 22
  simp only [World.size_alloc] at c1' c2 c3
  have hB0 : Below w.heap.size w ((((w.alloc (.cells #[.int .i64 a0] 85)).alloc (.cells #[.int .i64 a2] 2)).alloc (.cells #[.int .i64 0] 2)).alloc (.cells #[.slice A1 l1.length c1] 22)) := ((((Below.refl _ w).alloc (Nat.le_refl _) _).alloc (by simp) _).alloc (by simp; omega) _).alloc (by simp; omega) _
  refine wpIn_rangeFunc_ownF hro hn1 (gf := 157) (lb := #[.pointer (some ⟨w.heap.size + 1 + 1 + 1, 0, none⟩)]) rfl h3 (enters_of Try.func157 (by kernel_rfl) rfl)
    (back_stops F (n - 1) h3 hro (by omega) (w.heap.size + 1 + 1 + 1) w.heap.size (.slice A1 l1.length c1) l1 (by omega) _ (by simp) (by simp; omega) c3.1 (hI.below hB0)) (fun h k => h.trans k)
    (fun W l o o' hl ho hc hw => ⟨belowK_b (by simp; omega) W l o o' hl ho hc hw, fun v hv => cell_kept hv (grownBy_putObj' _ l o') (fun r e => by cases e; exact ⟨_, ho, hc⟩)⟩) (Below.refl _ _) (fun _ => rfl)
    (fun pre W => ((W.cell? ⟨w.heap.size, 0, none⟩ = some (.int .i64 a0) ∧ W.cell? ⟨w.heap.size + 1, 0, none⟩ = some (.int .i64 a2)) ∧ (W.cell? ⟨w.heap.size + 1 + 1, 0, none⟩ = some (.int .i64 (valOf a0 a2 pre)) ∧ W.frozen? ⟨w.heap.size + 1 + 1, 0, none⟩ = false)) ∧ Below w.heap.size w W)
    (fun _ _ _ => False)
    (OwnFrom.and (Own.from (fun s A B row hs hg hr => ⟨⟨cell_kept hs.1.1 hg hr, cell_kept hs.1.2 hg hr⟩, cell_kept hs.2.1 hg hr, (frozen_kept hs.2.1 hg hr).trans hs.2.2⟩) _) (ownFrom_below (Nat.le_refl _) (by simp; omega)))
    (fun _ _ _ _ _ hs _ _ => hs)
    ⟨⟨⟨cell_alloc_v _ (cell_alloc_v _ (cell_alloc_v _ c0.1)), cell_alloc_v _ (cell_alloc_v _ c1'.1)⟩, cell_alloc_v _ c2.1, frozen_alloc_v _ c2.1 c2.2⟩, hB0⟩
    (fun x => { tmps := #[.int .i64 a0, .slice A1 l1.length c1, .int .i64 a2, .pointer (some ⟨w.heap.size, 0, none⟩), undef, .pointer (some ⟨w.heap.size + 1, 0, none⟩), .int .i64 0, .pointer (some ⟨w.heap.size + 1 + 1, 0, none⟩), undef, .int .i64 x.2, .slice A1 l1.length c1, .func (.func 157) #[] #[.pointer (some ⟨w.heap.size + 1 + 1 + 1, 0, none⟩)], .int .i64 x.1, .int .i64 x.2, undef, undef, undef, undef, undef, undef, undef, undef], defers := [] }) ?assign ?body ?done ?stop
  case assign =>
    intro l x W K hK
    gi_wp2
    exact hK
  case body =>
    rintro l pre x W ⟨⟨⟨hc0, hc1⟩, hc2, hf2⟩, hB⟩ _
    have hm : impl_field_mod.f a0 (wrap64 (wrap64 (valOf a0 a2 pre * a2) + x.2)) = some (valStep a0 a2 (valOf a0 a2 pre) x.2) := by
      unfold impl_field_mod.f valStep
      rw [if_neg hp]
    gi_wp2
    refine ⟨fun _ => by omega, (hmod _ _ _ _ _ _ hm).mono ?_⟩
    rintro e w' ⟨rfl, ⟨nd, rfl⟩⟩
    have d0 : (W.drewN nd).cell? ⟨w.heap.size + 1 + 1, 0, none⟩ = some (.int .i64 (valOf a0 a2 pre)) := hc2
    have d1 : (W.drewN nd).frozen? ⟨w.heap.size + 1 + 1, 0, none⟩ = false := hf2
    have d2 : (W.drewN nd).cell? ⟨w.heap.size, 0, none⟩ = some (.int .i64 a0) := hc0
    have d3 : (W.drewN nd).cell? ⟨w.heap.size + 1, 0, none⟩ = some (.int .i64 a2) := hc1
    have kO : KeepsOthers W (W.drewN nd) := ⟨Nat.le_refl _, fun _ _ h _ => h⟩
    have kB : Below w.heap.size W (W.drewN nd) := pw_below_drewN (Below.refl _ _) nd
    have oth : ∀ (g : Nat) (v v' : Value), g ≠ w.heap.size + 1 + 1 → (W.drewN nd).cell? ⟨g, 0, none⟩ = some v → ((W.drewN nd).setCell ⟨w.heap.size + 1 + 1, 0, none⟩ v').cell? ⟨g, 0, none⟩ = some v := by
      intro g v v' hg hv
      exact (World.cell?_setCell_far _ _ _ _ (fun e => hg e.symm)).trans hv
    gi_wp2
    exact ⟨kO.trans (KeepsOthers.setCell _ _ _), ⟨kB.setCell (p := ⟨w.heap.size + 1 + 1, 0, none⟩) (show w.heap.size ≤ w.heap.size + 1 + 1 from by omega) _, fun v hv => oth _ _ _ (by omega) hv⟩, ⟨⟨oth _ _ _ (by omega) d2, oth _ _ _ (by omega) d3⟩, by rw [valOf_snoc]; exact World.cell?_setCell_same' _ _ _ (by rw [d0]; rfl), by rw [World.frozen?_setCell]; exact d1⟩, (hB.trans kB).setCell (p := ⟨w.heap.size + 1 + 1, 0, none⟩) (show w.heap.size ≤ w.heap.size + 1 + 1 from by omega) _⟩
  case done =>
    rintro D ys W hD rfl ⟨⟨_, hc, _⟩, hB⟩ hK
    gi_wp2
    refine ⟨by simp, .inl ⟨_, _, rfl, run_takeDeferred hK, ?_⟩⟩
    exact ⟨_, results_tmp rfl _ _ _, rfl, hB.trans (belowK_b (w := w) (Nat.le_refl _) W D _ _ (by simp at hD; omega) hK rfl rfl)⟩
  case stop =>
    rintro D c pre W _ _ h _
    exact h.elim
/-- What a slice that came in holds, as the loop wants it. -/
theorem intsB_of_C {w : World} {A1 : Option Addr} {c1 : Nat} {l1 : List Int} (hr1 : Kd.C (Kd.int .i64) w A1 l1.length l1) (hc1 : l1.length ≤ c1) : IntsB w.heap.size w (.slice A1 l1.length c1) l1 := by
  have h := Kd.reads_of_C (enc := Value.int .i64) (d := (0 : Int)) (h1 := fun _ => rfl) hr1
  by_cases h0 : l1.length = 0
  · rw [List.length_eq_zero_iff] at h0
    subst h0
    exact .inl ⟨rfl, A1, c1, rfl⟩
  · obtain ⟨ad, rfl, hc⟩ := h.2.2 (by omega)
    refine .inr ⟨ad, c1, rfl, ?_, fun j hj => ?_⟩
    · have := World.block_lt_of_cell? w _ (hc 0 (by omega))
      rwa [add_block] at this
    · have := hc j hj
      rw [List.getD_eq_getElem?_getD] at this
      exact this
theorem impl_field_value.calls (a0 : Int) (A1 : Option Addr) (c1 : Nat) (l1 : List Int) (a2 : Int) (r : Int) (w : World) (hr1 : Kd.C (Kd.int .i64) w A1 l1.length l1) (hc1 : l1.length ≤ c1) (h : impl_field_value.f a0 l1 a2 = some r) :
    Calls Try.prog 78 #[.int .i64 a0, .slice A1 l1.length c1, .int .i64 a2] w fun e w' => e = .returned (.int .i64 r) ∧ Below w.heap.size w w' := by
  unfold impl_field_value.f at h
  split at h
  · cases h
  · rename_i hp
    split at h
    · rename_i hl
      cases h
      exact callsIn_wide.1 (impl_field_value.calls_in Fence.wide 4 trivial trivial trivial trivial rfl (by omega) (fun k m x y r W hm => (CallsIn.inRound k (callsIn_wide.2 (impl_field_mod.calls x y r W hm)))) a0 A1 c1 l1 a2 hp hl w (intsB_of_C hr1 hc1))
    · cases h
/- Values of polynomials: the program's and the reference's come to one number; no condition. -/
/-- The first k numbers from behind taken in. -/
def valG (p x : Int) (l : List Int) : Nat → Int
  | 0 => 0
  | k + 1 => (valG p x l k * x + l.getD (l.length - 1 - k) 0) % p
theorem valG_in {p : Int} (hp : Pm p) (x : Int) (l : List Int) (k : Nat) : 0 ≤ valG p x l k ∧ valG p x l k < p := by
  cases k with
  | zero => exact ⟨Int.le_refl _, hp.pos⟩
  | succ k => exact emodB hp.pos _
def valF (p x : Int) (l : List Int) : Int := valG p x l l.length
theorem valF_in {p : Int} (hp : Pm p) (x : Int) (l : List Int) : 0 ≤ valF p x l ∧ valF p x l < p := valG_in hp x l _
theorem valStep_eq {p x o c : Int} (hp : Pm p) (hx : 0 ≤ x ∧ x < p) (ho : 0 ≤ o ∧ o < p) (hc : 0 ≤ c ∧ c < p) : valStep p x o c = (o * x + c) % p := by
  have h := mulP hp ho.1 ho.2 hx.1 hx.2
  have ht := hp.top
  unfold valStep
  rw [wrap_id (x := o * x) (by omega) (by omega), wrap_id (x := o * x + c) (by omega) (by omega), go_mod hp]
theorem valOf_upto {p x : Int} (hp : Pm p) (hx : 0 ≤ x ∧ x < p) (l : List Int) (hl : Nm p l) (k : Nat) (hk : k ≤ l.length) : valOf p x (upto (bk l l.length) k) = valG p x l k := by
  induction k with
  | zero => rfl
  | succ k ih =>
    have hg := hl.get (i := l.length - 1 - k) (by omega)
    have hv := valG_in hp x l k
    rw [upto_succ, valOf_snoc, ih (by omega), valG]
    have e : (bk l l.length k).2 = l.getD (l.length - 1 - k) 0 := by simp [bk, List.getD_eq_getElem?_getD]
    rw [e, valStep_eq hp hx hv hg]
theorem implValue_eq {p x : Int} (hp : Pm p) (hx : 0 ≤ x ∧ x < p) (l : List Int) (hl : Nm p l) (hs : Sm l.length) : impl_field_value.f p l x = some (valF p x l) := by
  unfold impl_field_value.f
  unfold Sm at hs
  rw [if_neg hp.ne, if_pos (by omega), valOf_upto hp hx l hl l.length (Nat.le_refl _)]; rfl
theorem specAt_l0 {p x : Int} (hp : Pm p) (hx : 0 ≤ x ∧ x < p) (l : List Int) (hl : Nm p l) (hs : Sm l.length) (d : Nat) : ∀ k, k + d = l.length →
    Ev (fun n => spec_l01At.l0 n p l x (valG p x l k) ((l.length : Int) - 1 - (k : Int))) (valF p x l) := by
  induction d with
  | zero =>
    intro k hk
    refine Ev.step (fun n => by rw [spec_l01At.l0]) ?_
    refine Ev.neg (by omega) (Ev.some' ?_)
    rw [show k = l.length from by omega]; rfl
  | succ d ih =>
    intro k hk
    have hv := valG_in hp x l k
    have hg := hl.get (i := l.length - 1 - k) (by omega)
    have h := mulP hp hv.1 hv.2 hx.1 hx.2
    have ht := hp.top
    unfold Sm at hs
    have er : rd l ((l.length : Int) - 1 - (k : Int)) = l.getD (l.length - 1 - k) 0 := by
      rw [show (l.length : Int) - 1 - (k : Int) = ((l.length - 1 - k : Nat) : Int) from by omega, rd_nat]
    have ew : wrap64 ((l.length : Int) - 1 - (k : Int) - 1) = (l.length : Int) - 1 - ((k + 1 : Nat) : Int) := by rw [wrap_id (by omega) (by omega)]; omega
    refine Ev.step (fun n => by rw [spec_l01At.l0]) ?_
    rw [er, ew]
    clear er ew
    refine Ev.pos (by omega) (Ev.pos (by omega) (Ev.pos (by omega) (Ev.neg hp.ne ?_)))
    rw [wrap_id (x := valG p x l k * x) (by omega) (by omega), wrap_id (by omega) (by omega), tmod_pos (by omega)]
    exact ih (k + 1) (by omega)
theorem specAt_ev {p x : Int} (hp : Pm p) (hx : 0 ≤ x ∧ x < p) (l : List Int) (hl : Nm p l) (hs : Sm l.length) : Ev (fun n => spec_l01At.f n p l x) (valF p x l) := by
  unfold spec_l01At.f
  have h := specAt_l0 hp hx l hl hs l.length 0 (by omega)
  have hs' := hs
  unfold Sm at hs'
  rw [wrap_id (x := (l.length : Int) - 1) (by omega) (by omega)]
  rw [show (l.length : Int) - 1 - ((0 : Nat) : Int) = (l.length : Int) - 1 from by omega] at h
  exact h
end Go.Proofs.Ytokkabgkjhpecaa.Pr
