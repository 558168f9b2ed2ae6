/- Printed by a program of this session out of the translation: what these functions of the program compute, under the conditions that each theorem names. -/
import Derived.Test.YtfbnkebgdmfcfaaKC01
import Derived.Test.YtfbnkebgdmfcfaaKC04
import Derived.Test.YtfbnkebgdmfcfaaKC08
import Derived.Test.YtfbnkebgdmfcfaaKC05
import Derived.Test.YtfbnkebgdmfcfaaKFspecl04Polys
namespace Go.Proofs.Ytfbnkebgdmfcfaa.Pr
open Go.RowKit Go.Proofs.YtfbnkebgdmfcfaaW.PrintWords Go.Proofs.YtfbnkebgdmfcfaaW.PrintLast Go.Proofs.YtfbnkebgdmfcfaaW.PrintMore
attribute [local go_sem] max2_int min2_int max_two min_two max_three min_three max_four min_four   -- for this text's walks alone
set_option linter.unusedVariables false
set_option linter.unusedSimpArgs false

/-! ### spec_JacobiOfMoments: function 49 -/
def spec_JacobiOfMoments.l0 : Nat → Int → List (List Int) → Int → Int → Int → Int → List Int → Int → List Int → List Int → Option (Int × List Int × List Int × Int)
 | 0, _, _, _, _, _, _, _, _, _, _ => none
 | k + 1, x1, x7, x8, x9, x11, x897000, x897001, x909000, x909001, x909002 => if x11 < x1 then (if 0 ≤ x11 then (if x11 < (x7.length : Int) then ((spec_l04Norm.f k x897000 x897001 (rd_L1 x7 x11) 0).bind fun t910 => ((spec_l04Norm.f k x897000 x897001 (rd_L1 x7 x11) 1).bind fun t912 => ((spec_l01Inverse.f k x8 t910).bind fun t913 => (if x8 = 0 then (none) else (if x909001.length < 17592186044416 then ((spec_l01Inverse.f k x8 x9).bind fun t917 => (if x909002.length < 17592186044416 then (spec_JacobiOfMoments.l0 k x1 x7 x8 t910 (wrap64 (x11 + 1)) x897000 x897001 x909000 (x909001 ++ [Int.tmod (wrap64 (t912 * t913)) x8]) (x909002 ++ [Int.tmod (wrap64 (t910 * t917)) x8])) else (none))) else (none)))))) else (none)) else (none)) else (some (x909000, x909001, x909002, 0))
def spec_JacobiOfMoments.f (k : Nat) (a0_0 : Int) (l0_1 : List Int) (a1 : Int) : Option (Int × List Int × List Int × Int) := (spec_l04Code.f k a0_0 l0_1 a1 1).bind fun t898 => (if t898 = 0 then ((spec_l04Polys.f k a0_0 l0_1 a1).bind fun t899 => (spec_JacobiOfMoments.l0 k a1 t899 a0_0 1 0 a0_0 l0_1 a0_0 (([] : List Int)) (([] : List Int)))) else (some (0, ([] : List Int), ([] : List Int), t898)))
def spec_JacobiOfMoments.T4 : Bool × List (List Nat × List Nat) := (true, [([], []), ([], []), ([0, 1], [0, 1]), ([], []), ([3], [3]), ([2, 2, 0, 1, 2], [2]), ([4, 5, 0, 1, 2, 3, 4, 5], [4]), ([6, 0, 1, 2, 3, 4, 5, 6], [])])
def spec_JacobiOfMoments.B4 : List Nat := [0, 0, 3, 0, 8, 7, 63, 127]
theorem spec_JacobiOfMoments.tab4 : rtab .any (opsOf Try.f49 4) = spec_JacobiOfMoments.T4 := by kernel_rfl
theorem spec_JacobiOfMoments.bits4 : waitsOk spec_JacobiOfMoments.T4.2 spec_JacobiOfMoments.B4 = true := by kernel_rfl
def spec_JacobiOfMoments.T10 : Bool × List (List Nat × List Nat) := (true, [([], []), ([0], [0]), ([], []), ([], []), ([], []), ([3, 4], [3, 4]), ([5], [5]), ([2, 6], [2, 6]), ([], []), ([], []), ([8, 9, 7], [8, 9]), ([7, 10], [7, 10]), ([], []), ([11, 12], [11, 12]), ([13], [13]), ([1, 14, 10], [1, 14]), ([0, 1, 2, 3, 4, 5, 6, 7, 8, 9, 10, 11, 12, 13, 14, 15], []), ([16, 15, 15, 0, 1, 2, 3, 4, 5, 6, 7, 8, 9, 10, 11, 12, 13, 14, 15], [15, 16])])
def spec_JacobiOfMoments.B10 : List Nat := [0, 1, 0, 0, 0, 24, 56, 124, 0, 0, 1020, 2044, 0, 8188, 16380, 32767, 65535, 131071]
theorem spec_JacobiOfMoments.tab10 : rtab .any (opsOf Try.f49 10) = spec_JacobiOfMoments.T10 := by kernel_rfl
theorem spec_JacobiOfMoments.bits10 : waitsOk spec_JacobiOfMoments.T10.2 spec_JacobiOfMoments.B10 = true := by kernel_rfl
def spec_JacobiOfMoments.T11 : Bool × List (List Nat × List Nat) := (true, [([], []), ([0], [0]), ([], []), ([], []), ([], []), ([3, 4], [3, 4]), ([2, 5], [2, 5]), ([], []), ([6, 7], [6, 7]), ([8], [8]), ([1, 9, 5], [1, 9]), ([0, 1, 2, 3, 4, 5, 6, 7, 8, 9, 10], []), ([11, 10, 10, 0, 1, 2, 3, 4, 5, 6, 7, 8, 9, 10], [10, 11])])
def spec_JacobiOfMoments.B11 : List Nat := [0, 1, 0, 0, 0, 24, 60, 0, 252, 508, 1023, 2047, 4095]
theorem spec_JacobiOfMoments.tab11 : rtab .any (opsOf Try.f49 11) = spec_JacobiOfMoments.T11 := by kernel_rfl
theorem spec_JacobiOfMoments.bits11 : waitsOk spec_JacobiOfMoments.T11.2 spec_JacobiOfMoments.B11 = true := by kernel_rfl
set_option maxHeartbeats 8000000 in
set_option maxRecDepth 100000 in
theorem spec_JacobiOfMoments.calls (k : Nat) (a0_0 : Int) (A0_1 : Option Addr) (c0_1 : Nat) (l0_1 : List Int) (a1 : Int) (r1 : Int) (r2 : List Int) (r3 : List Int) (r4 : Int) (w : World) (hr0_1 : Kd.C (Kd.int .i64) w A0_1 l0_1.length l0_1) (hc0_1 : l0_1.length ≤ c0_1) (h : spec_JacobiOfMoments.f k a0_0 l0_1 a1 = some (r1, r2, r3, r4)) :
  Calls Try.prog 49 #[.agg #[.int .i64 a0_0, .slice A0_1 l0_1.length c0_1], .int .i64 a1] w fun e w' => ∃ v1_ v2_ : Value, e = .returned (.tuple #[.agg #[.int .i64 r1, v1_, v2_], .int .i64 r4]) ∧ Kd.R (Kd.int .i64) 2 w' w.heap.size (fun k_ => some k_ ≠ (v2_ : Value).ownBlock) v1_ r2 ∧ Kd.R (Kd.int .i64) 2 w' w.heap.size (fun k_ => some k_ ≠ (v1_ : Value).ownBlock) v2_ r3 ∧ Below w.heap.size w w' := by
 have hu40 := Try.underlying40
 have hu26 := Try.underlying26
 have HR0_1 := zA hr0_1
 have HC0_1 := zA hc0_1
 clear hr0_1 hc0_1
 have HB := zA (Below.refl w.heap.size w)
 have H : ((spec_l04Code.f k a0_0 l0_1 a1 1).bind fun t898 => (if t898 = 0 then ((spec_l04Polys.f k a0_0 l0_1 a1).bind fun t899 => (spec_JacobiOfMoments.l0 k a1 t899 a0_0 1 0 a0_0 l0_1 a0_0 (([] : List Int)) (([] : List Int)))) else (some (0, ([] : List Int), ([] : List Int), t898)))) = some (r1, r2, r3, r4) := h
 clear h
 replace H := Option.bind_eq_some_iff.mp H
 obtain ⟨t898, A30, H⟩ := H
 replace H : (if t898 = 0 then ((spec_l04Polys.f k a0_0 l0_1 a1).bind fun t899 => (spec_JacobiOfMoments.l0 k a1 t899 a0_0 1 0 a0_0 l0_1 a0_0 (([] : List Int)) (([] : List Int)))) else (some (0, ([] : List Int), ([] : List Int), t898))) = some (r1, r2, r3, r4) := H
 have A3 := zA A30
 clear A30
 by_cases c4 : t898 = 0
 rotate_left
 ·rw [if_neg c4] at H
  have c4b0 : (t898 == 0) = false := beq_eq_false_iff_ne.mpr c4
  have c4b1 : (t898 != 0) = true := bne_iff_ne.mpr c4
  simp only [Option.some.injEq, Prod.mk.injEq] at H
  obtain ⟨rfl, rfl, rfl, rfl⟩ := H
  go_enter Try.func49, Try.ntmps49
  go_wp2_with (first | ((with_reducible refine gate_dst (N := 2) rfl ?_); refine bx 2 #[.int .i64 a0_0, .slice A0_1 l0_1.length c0_1] 40 ?_; intro gb896 hg w53 hbox hb; have BK896 := zA (hbox); have GW896 := gq HB hg; have GE896 := gq HB hg; replace HB := xH HB hb; have := geI GE896; clear hb hbox hg) | ((with_reducible refine gate_dst (N := 4) rfl ?_); refine bx 4 #[.int .i64 0, .slice none 0 0, .slice none 0 0] 26 ?_; intro gb897 hg w54 hbox hb; have BK897 := zA (hbox); have GW897 := gq HB hg; have GE897 := gq HB hg; replace HB := xH HB hb; have NB896_897 := zA ((by rw [hg]; exact neL BK896 : gb896 ≠ gb897)); have NB897_896 := zA ((by rw [hg]; exact neG BK896 : gb897 ≠ gb896)); replace BK896 := xB BK896 hb; have := geI GE897; clear hb hbox hg; have hnb55 := NB896_897.out; have hnc55 := NB897_896.out; have hcz56_0 := bc BK896 0; have hcz56_1 := bc BK896 1; have hfz56_0 := bf BK896 0; have hfz56_1 := bf BK896 1) | ((with_reducible refine gate_callee (f := 83) rfl ?_); refine gL (some 15) Try.func83 #[.agg #[.int .i64 a0_0, .slice A0_1 l0_1.length c0_1], .int .i64 a1, .int .i64 1] ?_; (with_reducible refine (spec_l04Code.calls k a0_0 _ _ l0_1 a1 1 t898 _ ?side1 ?side2 A3.out).mono ?_); (case side1 => exact uC ((Kd.C_below HR0_1.out HB.out))); (case side2 => exact HC0_1.out); rintro e w57 ⟨rfl, hb⟩; refine ⟨_, rfl, ?_⟩; replace BK896 := xB BK896 hb; replace BK897 := xB BK897 hb; replace HB := xH HB hb; (try clear hb); (try clear hb2); (try clear hk); (try clear hi); have hcz58_0 := bc BK897 0; have hcz58_1 := bc BK897 1; have hcz58_2 := bc BK897 2; have hfz58_0 := bf BK897 0; have hfz58_1 := bf BK897 1; have hfz58_2 := bf BK897 2))
  refine bodyPost_ret (results_ct rfl _ _ gb897 26 #[.int .i64 0, .slice none 0 0, .slice none 0 0] (0, 0) _ rfl (by (repeat refine up1 ?_); refine blk_put (cs := #[.int .i64 0, .slice none 0 0, .slice none 0 0]) ?_ 2 _ rfl; (repeat refine up1 ?_); refine blk_put (cs := #[.int .i64 0, .slice none 0 0, .slice none 0 0]) ?_ 1 _ rfl; (repeat refine up1 ?_); refine blk_put (cs := #[.int .i64 0, .slice none 0 0, .slice none 0 0]) ?_ 0 _ rfl; (repeat refine up1 ?_); exact BK897.out) Try.underlying26 rfl (by kernel_rfl)) rfl ?_
  exact ⟨_, _, by first | rfl | (simp [errW_none, errW_some] <;> rfl) | (simp [*, errW_none, errW_some] <;> rfl), by first | exact Kd.R_nil _ _ _ _ _ | exact Kd.N_nil _ _ _ _ _ | exact Kd.V_nil _ _ _ _ _ | exact Kd.Q_nil _ _ _ _ _ | exact Kd.S_nil _ _ _ _ _, by first | exact Kd.R_nil _ _ _ _ _ | exact Kd.N_nil _ _ _ _ _ | exact Kd.V_nil _ _ _ _ _ | exact Kd.Q_nil _ _ _ _ _ | exact Kd.S_nil _ _ _ _ _, uH HB.out⟩

 rw [if_pos c4] at H
 have c4b0 : (t898 == 0) = true := beq_iff_eq.mpr c4
 have c4b1 : (t898 != 0) = false := bne_eq_false_iff_eq.mpr c4
 clear c4
 replace H := Option.bind_eq_some_iff.mp H
 obtain ⟨t899, A50, H⟩ := H
 replace H : (spec_JacobiOfMoments.l0 k a1 t899 a0_0 1 0 a0_0 l0_1 a0_0 (([] : List Int)) (([] : List Int))) = some (r1, r2, r3, r4) := H
 have A5 := zA A50
 clear A50
 obtain ⟨y902, hy902⟩ : ∃ y_ : List Int, y_ = (([] : List Int)) := ⟨_, rfl⟩
 replace H : (spec_JacobiOfMoments.l0 k a1 t899 a0_0 1 0 a0_0 l0_1 a0_0 y902 (([] : List Int))) = some (r1, r2, r3, r4) := by first | (rw [hy902]; exact H) | exact H
 have Ny902 := zA hy902
 clear hy902
 obtain ⟨y905, hy905⟩ : ∃ y_ : List Int, y_ = (([] : List Int)) := ⟨_, rfl⟩
 replace H : (spec_JacobiOfMoments.l0 k a1 t899 a0_0 1 0 a0_0 l0_1 a0_0 y902 y905) = some (r1, r2, r3, r4) := by first | (rw [hy905]; exact H) | exact H
 have Ny905 := zA hy905
 clear hy905
 have H' := zA H
 clear H
 go_enter Try.func49, Try.ntmps49
 try go_wp2_with (first | ((with_reducible refine gate_dst (N := 2) rfl ?_); refine bx 2 #[.int .i64 a0_0, .slice A0_1 l0_1.length c0_1] 40 ?_; intro gb896 hg w6 hbox hb; have BK896 := zA (hbox); have GW896 := gq HB hg; have GE896 := gq HB hg; replace HB := xH HB hb; have := geI GE896; clear hb hbox hg) | ((with_reducible refine gate_dst (N := 4) rfl ?_); refine bx 4 #[.int .i64 0, .slice none 0 0, .slice none 0 0] 26 ?_; intro gb897 hg w7 hbox hb; have BK897 := zA (hbox); have GW897 := gq HB hg; have GE897 := gq HB hg; replace HB := xH HB hb; have NB896_897 := zA ((by rw [hg]; exact neL BK896 : gb896 ≠ gb897)); have NB897_896 := zA ((by rw [hg]; exact neG BK896 : gb897 ≠ gb896)); replace BK896 := xB BK896 hb; have := geI GE897; clear hb hbox hg; have hnb8 := NB896_897.out; have hnc8 := NB897_896.out; have hcz9_0 := bc BK896 0; have hcz9_1 := bc BK896 1; have hfz9_0 := bf BK896 0; have hfz9_1 := bf BK896 1) | ((with_reducible refine gate_callee (f := 83) rfl ?_); refine gL (some 15) Try.func83 #[.agg #[.int .i64 a0_0, .slice A0_1 l0_1.length c0_1], .int .i64 a1, .int .i64 1] ?_; (with_reducible refine (spec_l04Code.calls k a0_0 _ _ l0_1 a1 1 t898 _ ?side1 ?side2 A3.out).mono ?_); (case side1 => exact uC ((Kd.C_below HR0_1.out HB.out))); (case side2 => exact HC0_1.out); rintro e w10 ⟨rfl, hb⟩; refine ⟨_, rfl, ?_⟩; replace BK896 := xB BK896 hb; replace BK897 := xB BK897 hb; replace HB := xH HB hb; (try clear hb); (try clear hb2); (try clear hk); (try clear hi)))
 replace BK896 := zA (blk_drew BK896.out)
 replace BK897 := zA (blk_drew BK897.out)
 replace HB := zA (below_drew1 HB.out)
 refine start_ (n := 8) (S := fun w' => w'.cell? ⟨gb896, 0, none⟩ = some (.int .i64 a0_0) ∧ w'.cell? ⟨gb896, 1, none⟩ = some (.slice A0_1 l0_1.length c0_1)) (ds := []) #[false, false, false, false, false, false, false, false] (by kernel_rfl) rfl rfl ⟨bcu BK896 0, bcu BK896 1⟩ (fun hHeld => ?_); refine with_tabW spec_JacobiOfMoments.tab4 spec_JacobiOfMoments.bits4 (fun HT_ HW_ => ?_)
 generalize w10.drew = w11 at BK896 BK897 HB hHeld ⊢
 refine pu_ 1 21 (bl 8 2) HT_ ?_
 refine pu_ 3 23 (bl 8 10) HT_ ?_
 refine ta_ 0 20 (bl 8 11) HT_ HW_ hHeld ?_
 refine ta_ 4 24 (bl 8 27) HT_ HW_ hHeld ?_
 refine on_ 2 (some 22) (bl 8 31) HT_ (fun K hK => ?_)
 refine gS Try.func85 #[.agg #[.int .i64 a0_0, .slice A0_1 l0_1.length c0_1], .int .i64 a1] ?_
 with_reducible refine (spec_l04Polys.calls k a0_0 _ _ l0_1 a1 t899 _ ?side1 ?side2 A5.out).mono ?_
 (case side1 => exact uC ((Kd.C_below HR0_1.out HB.out)))
 (case side2 => exact HC0_1.out)
 rintro e w12 ⟨v900, rfl, ho0, hb⟩
 refine ⟨_, rfl, ?_⟩
 have HO901 := zA (Kd.N_lower (Kd.N_mono (ok' := fun k_ => k_ ≠ gb896 ∧ k_ ≠ gb897) ho0 (fun k_ hk_ => ⟨(Kd.freshB (g := gb896) (o := .cells #[.int .i64 a0_0, .slice A0_1 l0_1.length c0_1] 40 (0, 0)) (uB BK896.out) k_ hk_), (Kd.freshB (g := gb897) (o := .cells #[.int .i64 0, .slice none 0 0, .slice none 0 0] 26 (0, 0)) (uB BK897.out) k_ hk_)⟩)) (below_size (uH HB.out)))
 replace BK896 := xB BK896 hb
 replace BK897 := xB BK897 hb
 replace HB := xH HB hb
 (try clear hb); (try clear hb2); (try clear hk); (try clear hi); (try clear ho0)
 refine hK.out _ _ ⟨bcu BK896 0, bcu BK896 1⟩ (fun hHeld => ?_)
 clear hK K
 refine no_ 22 ?_
 refine pu_ 5 7 (bl 8 63) HT_ ?_
 refine pu_ 6 8 (bl 8 127) HT_ ?_
 refine pu_ 7 9 (bl 8 255) HT_ ?_
 refine done_ (done_of HT_.out (by kernel_rfl)) ?_
 try go_wp2_with (first | ((with_reducible refine gate_dst (N := 26) rfl ?_); refine Kd.R_lit (Kd.int .i64) _ 2 ?hg (N := 26) ?hd (xs := ([] : List Int)) (inner := []) (ok := fun _ => True) (okp := fun _ => True) ?hr ?hp (fun _ hk => hk) trivial (Below.refl _ _) (Nat.le_refl _) (by simp) ?_; (case hd => rfl); (case hg => rfl); (case hr => first | (go_simp; done) | (go_simp; rfl)); (case hp => exact (Reps.none _ _)); intro v903 w13 ho14 hb hg_ hnew_; clear hg_ hnew_; (first | rw [← Ny902.out] at ho14 | (simp only [Int.reduceToNat] at ho14; rw [← Ny902.out] at ho14)); replace HO901 := zA (Kd.N_elder' (by (with_reducible repeat (first | apply Kd.N_alloc | apply Kd.N_drewN | apply Kd.N_drew)); exact HO901.out) (Kd.R_base ho14) hb); have HO904 := zA (Kd.R_lower ho14 (below_size (uH HB.out))); replace BK896 := xB BK896 hb; replace BK897 := xB BK897 hb; replace HB := xH HB hb; clear hb ho14) | ((with_reducible refine gate_dst (N := 27) rfl ?_); refine Kd.R_lit (Kd.int .i64) _ 2 ?hg (N := 27) ?hd (xs := ([] : List Int)) (inner := []) (ok := fun _ => True) (okp := fun _ => True) ?hr ?hp (fun _ hk => hk) trivial (Below.refl _ _) (Nat.le_refl _) (by simp) ?_; (case hd => rfl); (case hg => rfl); (case hr => first | (go_simp; done) | (go_simp; rfl)); (case hp => exact (Reps.none _ _)); intro v906 w15 ho16 hb hg_ hnew_; clear hg_ hnew_; (first | rw [← Ny905.out] at ho16 | (simp only [Int.reduceToNat] at ho16; rw [← Ny905.out] at ho16)); replace HO901 := zA (Kd.N_elder' (by (with_reducible repeat (first | apply Kd.N_alloc | apply Kd.N_drewN | apply Kd.N_drew)); exact HO901.out) (Kd.R_base ho16) hb); have HO907 := zA (Kd.R_lower (Kd.R_new' ho16 (Kd.R_lt (uR HO904.out))) (below_size (uH HB.out))); replace HO904 := zA (Kd.R_elder' (uR HO904.out) (Kd.R_base ho16) hb); replace BK896 := xB BK896 hb; replace BK897 := xB BK897 hb; replace HB := xH HB hb; clear hb ho16; obtain ⟨Ao17, co17, eo17⟩ := Kd.R_slice HO907.out; subst eo17; obtain ⟨Ao18, co18, eo18⟩ := Kd.R_slice HO904.out; subst eo18) | ((with_reducible refine gate_dst (N := 10) rfl ?_); refine bx 10 #[.int .i64 0, .slice none 0 0, .slice none 0 0] 26 ?_; intro gb908 hg w19 hbox hb; replace HO901 := zA (Kd.N_below (Kd.N_elderB (by (with_reducible repeat (first | apply Kd.N_alloc | apply Kd.N_drewN | apply Kd.N_drew)); exact HO901.out) gb908 (Nat.le_of_eq hg.symm)) hb); replace HO904 := xR HO904 hb; replace HO907 := xR HO907 hb; have BK908 := zA (hbox); have GW908 := gq HB hg; have GE908 := gq HB hg; replace HB := xH HB hb; have NB896_908 := zA ((by rw [hg]; exact neL BK896 : gb896 ≠ gb908)); have NB908_896 := zA ((by rw [hg]; exact neG BK896 : gb908 ≠ gb896)); replace BK896 := xB BK896 hb; have NB897_908 := zA ((by rw [hg]; exact neL BK897 : gb897 ≠ gb908)); have NB908_897 := zA ((by rw [hg]; exact neG BK897 : gb908 ≠ gb897)); replace BK897 := xB BK897 hb; have := geI GE908; clear hb hbox hg; have hnb20 := NB908_896.out; have hnc20 := NB896_908.out; have hnb21 := NB908_897.out; have hnc21 := NB897_908.out; have hcz22_0 := bc BK908 0; have hcz22_1 := bc BK908 1; have hcz22_2 := bc BK908 2; have hfz22_0 := bf BK908 0; have hfz22_1 := bf BK908 1; have hfz22_2 := bf BK908 2))
 go_loopg [9, 11] k (fun kq v9 v11 w' => ∃ (x9_1 : Int) (x11_1 : Int) (x909001_1 : List Int) (x909002_1 : List Int) (u909001 : Value) (u909002 : Value), v9 = .int .i64 x9_1 ∧ v11 = .int .i64 x11_1 ∧ Aside0 (spec_JacobiOfMoments.l0 kq a1 t899 a0_0 x9_1 x11_1 a0_0 l0_1 a0_0 x909001_1 x909002_1 = some (r1, r2, r3, r4)) ∧ Aside0 (kq ≤ k) ∧ Aside0 (Kd.N (Kd.slice 2 (Kd.int .i64)) 22 w' w.heap.size (fun k_ => some k_ ≠ (u909001 : Value).ownBlock ∧ some k_ ≠ (u909002 : Value).ownBlock ∧ k_ ≠ gb896 ∧ k_ ≠ gb897 ∧ k_ ≠ gb908) v900 t899) ∧ Aside0 (Kd.R (Kd.int .i64) 2 w' w.heap.size (fun k_ => some k_ ≠ (u909002 : Value).ownBlock) u909001 x909001_1) ∧ Aside0 (Kd.R (Kd.int .i64) 2 w' w.heap.size (fun k_ => some k_ ≠ (u909001 : Value).ownBlock) u909002 x909002_1) ∧ Aside0 (w'.heap[gb896]? = some (.cells #[.int .i64 a0_0, (.slice A0_1 l0_1.length c0_1)] 40 (0, 0))) ∧ Aside0 (w'.heap[gb897]? = some (.cells #[.int .i64 0, (.slice none 0 0), (.slice none 0 0)] 26 (0, 0))) ∧ Aside0 (w'.heap[gb908]? = some (.cells #[.int .i64 a0_0, u909001, u909002] 26 (0, 0))) ∧ Aside0 (Below w.heap.size w w'))
 case atStart => exact ⟨(1), (0), (y902), (y905), (.slice Ao18 y902.length co18), (.slice Ao17 y905.length co17), (by first | rfl | (simp; done) | (simp [*]; done)), (by first | rfl | (simp; done) | (simp [*]; done)), H', ⟨Nat.le_refl _⟩, ⟨by (with_reducible repeat (first | apply Kd.N_alloc | apply Kd.N_drewN | apply Kd.N_drew)); exact Kd.N_mono (Kd.N_far (p := ⟨gb908, 2, none⟩) (Kd.N_far (p := ⟨gb908, 1, none⟩) (Kd.N_far (p := ⟨gb908, 0, none⟩) (Kd.N_mono HO901.out (fun k_ hk => (⟨hk, hk.2⟩ : _ ∧ k_ ≠ gb908))) (fun _ hk => hk.2) (.int .i64 a0_0)) (fun _ hk => hk.2) (.slice Ao18 y902.length co18)) (fun _ hk => hk.2) (.slice Ao17 y905.length co17)) (fun _ hk => ⟨hk.1.1.1.2, ⟨hk.1.1.2, ⟨hk.1.1.1.1.1, ⟨hk.1.1.1.1.2, hk.1.2⟩⟩⟩⟩)⟩, ⟨uR (Kd.R_mono (Kd.R_far (p := ⟨gb908, 2, none⟩) (Kd.R_far (p := ⟨gb908, 1, none⟩) (Kd.R_far (p := ⟨gb908, 0, none⟩) (Kd.R_types HO904.out BK908.out (by decide)) (fun _ hk => hk.2) (.int .i64 a0_0)) (fun _ hk => hk.2) (.slice Ao18 y902.length co18)) (fun _ hk => hk.2) (.slice Ao17 y905.length co17)) (fun _ hk => hk.1.2))⟩, ⟨uR (Kd.R_mono (Kd.R_far (p := ⟨gb908, 2, none⟩) (Kd.R_far (p := ⟨gb908, 1, none⟩) (Kd.R_far (p := ⟨gb908, 0, none⟩) (Kd.R_types HO907.out BK908.out (by decide)) (fun _ hk => hk.2) (.int .i64 a0_0)) (fun _ hk => hk.2) (.slice Ao18 y902.length co18)) (fun _ hk => hk.2) (.slice Ao17 y905.length co17)) (fun _ hk => hk.1.2))⟩, ⟨by (repeat refine up1 ?_); refine blk_far ?_ NB896_908.out _; (repeat refine up1 ?_); refine blk_far ?_ NB896_908.out _; (repeat refine up1 ?_); refine blk_far ?_ NB896_908.out _; (repeat refine up1 ?_); exact BK896.out⟩, ⟨by (repeat refine up1 ?_); refine blk_far ?_ NB897_908.out _; (repeat refine up1 ?_); refine blk_far ?_ NB897_908.out _; (repeat refine up1 ?_); refine blk_far ?_ NB897_908.out _; (repeat refine up1 ?_); exact BK897.out⟩, ⟨by (repeat refine up1 ?_); refine blk_put (cs := #[.int .i64 a0_0, .slice Ao18 y902.length co18, .slice none 0 0]) ?_ 2 _ rfl; (repeat refine up1 ?_); refine blk_put (cs := #[.int .i64 a0_0, .slice none 0 0, .slice none 0 0]) ?_ 1 _ rfl; (repeat refine up1 ?_); refine blk_put (cs := #[.int .i64 0, .slice none 0 0, .slice none 0 0]) ?_ 0 _ rfl; (repeat refine up1 ?_); exact BK908.out⟩, ⟨uH HB.out⟩⟩
 case round =>
  clear H'
  (try clear c2);(try clear p2);(try clear c4);(try clear c4b0);(try clear c4b1);(try clear c8);(try clear c20);(try clear c21);(try clear hcz22_0);(try clear hcz22_1);(try clear hcz22_2);(try clear hcz9_0);(try clear hcz9_1);(try clear hfz22_0);(try clear hfz22_1);(try clear hfz22_2);(try clear hfz9_0);(try clear hfz9_1)
  obtain ⟨x9_1, x11_1, x909001_1, x909002_1, u909001, u909002, rfl, rfl, HA, HK1, HO_7, HO_909001, HO_909002, BK896, BK897, BK908, HB⟩ := hrel
  cases gk with
  | zero => exact absurd HA.out (by simp [spec_JacobiOfMoments.l0])
  | succ k1 =>
   have H := HA.out
   clear HA
   simp only [spec_JacobiOfMoments.l0] at H
   by_cases c23 : x11_1 < a1
   rotate_left
   ·rw [if_neg c23] at H
    have c23b0 : decide (x11_1 < a1) = false := decide_eq_false c23
    clear c23
    simp only [Option.some.injEq, Prod.mk.injEq] at H
    obtain ⟨rfl, rfl, rfl, rfl⟩ := H
    have hnb46 := NB908_896.out; have hnc46 := NB896_908.out; have hnb47 := NB908_897.out; have hnc47 := NB897_908.out
    have hcz48_0 := bc BK908 0
    have hcz48_1 := bc BK908 1
    have hcz48_2 := bc BK908 2
    have hfz48_0 := bf BK908 0
    have hfz48_1 := bf BK908 1
    have hfz48_2 := bf BK908 2
    have hnb49 := NB897_896.out; have hnc49 := NB896_897.out
    have hcz50_0 := bc BK897 0
    have hcz50_1 := bc BK897 1
    have hcz50_2 := bc BK897 2
    have hfz50_0 := bf BK897 0
    have hfz50_1 := bf BK897 1
    have hfz50_2 := bf BK897 2
    obtain ⟨Ao51, co51, eo51⟩ := Kd.R_slice HO_909001.out
    subst eo51
    obtain ⟨Ao52, co52, eo52⟩ := Kd.R_slice HO_909002.out
    subst eo52
    go_wp2
    refine bodyPost_ret (results_ct rfl _ _ gb897 26 #[.int .i64 a0_0, .slice Ao51 x909001_1.length co51, .slice Ao52 x909002_1.length co52] (0, 0) _ rfl (by (repeat refine up1 ?_); refine blk_put (cs := #[.int .i64 a0_0, .slice Ao51 x909001_1.length co51, .slice none 0 0]) ?_ 2 _ rfl; (repeat refine up1 ?_); refine blk_put (cs := #[.int .i64 a0_0, .slice none 0 0, .slice none 0 0]) ?_ 1 _ rfl; (repeat refine up1 ?_); refine blk_put (cs := #[.int .i64 0, .slice none 0 0, .slice none 0 0]) ?_ 0 _ rfl; (repeat refine up1 ?_); exact BK897.out) Try.underlying26 rfl (by kernel_rfl)) rfl ?_
    exact ⟨_, _, by first | rfl | (simp [errW_none, errW_some] <;> rfl) | (simp [*, errW_none, errW_some] <;> rfl), uR (rf3 HO_909001 BK897 (by decide) (.int .i64 a0_0) (.slice Ao51 x909001_1.length co51) (.slice Ao52 x909002_1.length co52)), uR (rf3 HO_909002 BK897 (by decide) (.int .i64 a0_0) (.slice Ao51 x909001_1.length co51) (.slice Ao52 x909002_1.length co52)), uH HB.out⟩
   rw [if_pos c23] at H
   have c23b0 : decide (x11_1 < a1) = true := decide_eq_true c23
   clear c23
   by_cases c24 : 0 ≤ x11_1
   rotate_left
   ·rw [if_neg c24] at H
    exact absurd H (by simp)
   rw [if_pos c24] at H
   have c24b0 : decide (0 ≤ x11_1) = true := decide_eq_true c24
   clear c24
   by_cases c25 : x11_1 < (t899.length : Int)
   rotate_left
   ·rw [if_neg c25] at H
    exact absurd H (by simp)
   rw [if_pos c25] at H
   have c25b0 : decide (x11_1 < (t899.length : Int)) = true := decide_eq_true c25
   clear c25
   replace H := Option.bind_eq_some_iff.mp H
   obtain ⟨t910, A260, H⟩ := H
   replace H : ((spec_l04Norm.f k1 a0_0 l0_1 (rd_L1 t899 x11_1) 1).bind fun t912 => ((spec_l01Inverse.f k1 a0_0 t910).bind fun t913 => (if a0_0 = 0 then (none) else (if x909001_1.length < 17592186044416 then ((spec_l01Inverse.f k1 a0_0 x9_1).bind fun t917 => (if x909002_1.length < 17592186044416 then (spec_JacobiOfMoments.l0 k1 a1 t899 a0_0 t910 (wrap64 (x11_1 + 1)) a0_0 l0_1 a0_0 (x909001_1 ++ [Int.tmod (wrap64 (t912 * t913)) a0_0]) (x909002_1 ++ [Int.tmod (wrap64 (t910 * t917)) a0_0])) else (none))) else (none))))) = some (r1, r2, r3, r4) := H
   have A26 := zA A260
   clear A260
   replace H := Option.bind_eq_some_iff.mp H
   obtain ⟨t912, A270, H⟩ := H
   replace H : ((spec_l01Inverse.f k1 a0_0 t910).bind fun t913 => (if a0_0 = 0 then (none) else (if x909001_1.length < 17592186044416 then ((spec_l01Inverse.f k1 a0_0 x9_1).bind fun t917 => (if x909002_1.length < 17592186044416 then (spec_JacobiOfMoments.l0 k1 a1 t899 a0_0 t910 (wrap64 (x11_1 + 1)) a0_0 l0_1 a0_0 (x909001_1 ++ [Int.tmod (wrap64 (t912 * t913)) a0_0]) (x909002_1 ++ [Int.tmod (wrap64 (t910 * t917)) a0_0])) else (none))) else (none)))) = some (r1, r2, r3, r4) := H
   have A27 := zA A270
   clear A270
   replace H := Option.bind_eq_some_iff.mp H
   obtain ⟨t913, A280, H⟩ := H
   replace H : (if a0_0 = 0 then (none) else (if x909001_1.length < 17592186044416 then ((spec_l01Inverse.f k1 a0_0 x9_1).bind fun t917 => (if x909002_1.length < 17592186044416 then (spec_JacobiOfMoments.l0 k1 a1 t899 a0_0 t910 (wrap64 (x11_1 + 1)) a0_0 l0_1 a0_0 (x909001_1 ++ [Int.tmod (wrap64 (t912 * t913)) a0_0]) (x909002_1 ++ [Int.tmod (wrap64 (t910 * t917)) a0_0])) else (none))) else (none))) = some (r1, r2, r3, r4) := H
   have A28 := zA A280
   clear A280
   by_cases c29 : a0_0 = 0
   rotate_left
   ·rw [if_neg c29] at H
    have c29b0 : (a0_0 == 0) = false := beq_eq_false_iff_ne.mpr c29
    have c29b1 : (a0_0 != 0) = true := bne_iff_ne.mpr c29
    by_cases c30 : x909001_1.length < 17592186044416
    rotate_left
    ·rw [if_neg c30] at H
     exact absurd H (by simp)
    rw [if_pos c30] at H
    have LMc30 := zA c30
    clear c30
    obtain ⟨y914, hy914⟩ : ∃ y_ : List Int, y_ = (x909001_1 ++ [Int.tmod (wrap64 (t912 * t913)) a0_0]) := ⟨_, rfl⟩
    replace H : ((spec_l01Inverse.f k1 a0_0 x9_1).bind fun t917 => (if x909002_1.length < 17592186044416 then (spec_JacobiOfMoments.l0 k1 a1 t899 a0_0 t910 (wrap64 (x11_1 + 1)) a0_0 l0_1 a0_0 y914 (x909002_1 ++ [Int.tmod (wrap64 (t910 * t917)) a0_0])) else (none))) = some (r1, r2, r3, r4) := by first | (rw [hy914]; exact H) | exact H
    have Ny914 := zA hy914
    clear hy914
    replace H := Option.bind_eq_some_iff.mp H
    obtain ⟨t917, A310, H⟩ := H
    replace H : (if x909002_1.length < 17592186044416 then (spec_JacobiOfMoments.l0 k1 a1 t899 a0_0 t910 (wrap64 (x11_1 + 1)) a0_0 l0_1 a0_0 y914 (x909002_1 ++ [Int.tmod (wrap64 (t910 * t917)) a0_0])) else (none)) = some (r1, r2, r3, r4) := H
    have A31 := zA A310
    clear A310
    by_cases c32 : x909002_1.length < 17592186044416
    rotate_left
    ·rw [if_neg c32] at H
     exact absurd H (by simp)
    rw [if_pos c32] at H
    have LMc32 := zA c32
    clear c32
    obtain ⟨y918, hy918⟩ : ∃ y_ : List Int, y_ = (x909002_1 ++ [Int.tmod (wrap64 (t910 * t917)) a0_0]) := ⟨_, rfl⟩
    replace H : (spec_JacobiOfMoments.l0 k1 a1 t899 a0_0 t910 (wrap64 (x11_1 + 1)) a0_0 l0_1 a0_0 y914 y918) = some (r1, r2, r3, r4) := by first | (rw [hy918]; exact H) | exact H
    have Ny918 := zA hy918
    clear hy918
    have H' := zA H
    clear H
    try go_wp2
    replace HO_7 := zA (Kd.N_drew HO_7.out)
    replace HO_909001 := zA (Kd.R_drew HO_909001.out)
    replace HO_909002 := zA (Kd.R_drew HO_909002.out)
    replace BK896 := zA (blk_drew BK896.out)
    replace BK897 := zA (blk_drew BK897.out)
    replace BK908 := zA (blk_drew BK908.out)
    replace HB := zA (below_drew1 HB.out)
    obtain ⟨Ao34, co34, eo34⟩ := Kd.N_slice HO_7.out
    (first | subst eo34 | (injection eo34 with f1_ f2_ f3_; have f4_ := f1_.symm; have f5_ := f3_.symm; clear f1_ f2_ f3_; subst f4_; subst f5_))
    have p909 : 0 ≤ (x11_1 : Int) := of_decide_eq_true (by first | (with_reducible assumption) | assumption)
    have q909 : x11_1 < (t899.length : Int) := of_decide_eq_true (by first | (with_reducible assumption) | assumption)
    obtain ⟨ad909, A909_0, c909_0, e909, hx909_0, hl909_0, hi909_0⟩ := at_L1 (Kd.N_reads' HO_7.out).2.2 x11_1 p909 q909
    cases e909
    obtain ⟨ce909, hce909, hMe909, hcc909⟩ := Kd.N_get HO_7.out [] x11_1 p909 (by first | exact q909 | exact of_decide_eq_true (by first | (with_reducible assumption) | assumption) | (have e_ := (Kd.N_reads' HO_7.out).1; omega))
    obtain ⟨ua909_0, uc909_0, rfl, ul909_0, ge909_0⟩ := Kd.FK_slice_open hMe909
    have hv909_0 := hcc909 0 _ rfl
    rw [Nat.add_zero, show ((Kd.slice 2 (Kd.int .i64))).sz = 1 from rfl, Nat.mul_one] at hv909_0
    replace hv909_0 := Option.some.inj (hv909_0.symm.trans hx909_0)
    injection hv909_0 with hva_ hvn_ hvc_
    rw [hva_] at ge909_0
    rw [hvc_] at ul909_0
    have HL909_0 := zA (show Kd.V (Kd.int .i64) 2 _ w.heap.size _ _ (rd_L1 t899 x11_1) from Kd.V_mk ul909_0 ge909_0)
    clear hva_ hvn_ hvc_ ge909_0 ul909_0
    clear hcc909 hce909
    have HR909_0 := zA hi909_0
    have HC909_0 := zA hl909_0
    clear hi909_0 hl909_0
    replace p909 := eq_true p909
    replace q909 := eq_true q909
    refine start_ (n := 7) (S := fun w' => w'.cell? ⟨gb896, 0, none⟩ = some (.int .i64 a0_0) ∧ w'.cell? ⟨gb896, 1, none⟩ = some (.slice A0_1 l0_1.length c0_1) ∧ w'.cell? (ad909.add (x11_1).toNat) = some (.slice A909_0 (rd_L1 t899 x11_1).length c909_0)) (ds := []) #[false, false, false, false, false, false, false] (by kernel_rfl) rfl rfl ⟨bcu BK896 0, bcu BK896 1, hx909_0⟩ (fun hHeld => ?_)
    generalize wr.drew = w33 at HO_7 HO_909001 HO_909002 BK896 BK897 BK908 HB HL909_0 HR909_0 hx909_0 hHeld ⊢
    refine pure_ (i := 1) (N := some 35) (v := ?_) (a' := ?_) (bl 7 2) rfl rfl (by kernel_rfl) (fun _ _ _ h => h) (Or.inl ⟨by rfl, ?_⟩) ?_ ?_
    rotate_left
    ·intro w'
     go_simp
     with_reducible rfl
    rotate_left
    ·simp only [Act.put, ls, lz, ln, i64_w, i32_w]
     rfl
    refine pure_ (i := 2) (N := some 36) (v := ?_) (a' := ?_) (bl 7 6) rfl rfl (by kernel_rfl) (fun _ _ _ h => h) (Or.inl ⟨by rfl, ?_⟩) ?_ ?_
    rotate_left
    ·intro w'
     go_simp
     with_reducible rfl
    rotate_left
    ·simp only [Act.put, ls, lz, ln, i64_w, i32_w]
     rfl
    refine pure_ (i := 3) (N := some 37) (v := ?_) (a' := ?_) (bl 7 14) rfl rfl (by kernel_rfl) (fun _ _ _ h => h) (Or.inl ⟨by rfl, ?_⟩) ?_ ?_
    rotate_left
    ·intro w'
     go_simp
     with_reducible rfl
    rotate_left
    ·simp only [Act.put, ls, lz, ln, i64_w, i32_w]
     rfl
    refine take_ (i := 0) (N := some 34) (v := ?_) (a' := ?_) (bl 7 15) rfl rfl (by kernel_rfl) (fun _ _ _ h => h) (Or.inl ⟨by rfl, ?_⟩) hHeld ?_ ?_
    rotate_left
    ·rintro w' ⟨s0, s1, s2⟩
     go_simp
     with_reducible rfl
    rotate_left
    ·simp only [Act.put, ls, lz, ln, i64_w, i32_w]
     rfl
    refine take_ (i := 4) (N := some 38) (v := ?_) (a' := ?_) (bl 7 31) rfl rfl (by kernel_rfl) (fun _ _ _ h => h) (Or.inl ⟨by rfl, ?_⟩) hHeld ?_ ?_
    rotate_left
    ·rintro w' ⟨s0, s1, s2⟩
     go_simp
     with_reducible rfl
    rotate_left
    ·simp only [Act.put, ls, lz, ln, i64_w, i32_w]
     rfl
    refine one_ (i := 5) (N := some 39) (bl 7 63) rfl rfl (by kernel_rfl) (by decide) (fun K hK => ?_)
    refine gS Try.func84 #[.agg #[.int .i64 a0_0, .slice A0_1 l0_1.length c0_1], .slice A909_0 (rd_L1 t899 x11_1).length c909_0, .int .i64 0] ?_
    with_reducible refine (spec_l04Norm.calls k1 a0_0 _ _ l0_1 _ _ (rd_L1 t899 x11_1) 0 t910 _ ?side1 ?side2 ?side3 ?side4 A26.out).mono ?_
    (case side1 => exact uC ((Kd.C_below HR0_1.out HB.out)))
    (case side2 => exact HC0_1.out)
    (case side3 => repeat (first | exact (by repeat (first | (with_reducible exact HR909_0.out) | (with_reducible refine Kd.C_alloc ?_ _) | (with_reducible refine Kd.C_drewN ?_ _) | (with_reducible refine Kd.C_drew ?_) | exact HR909_0.out)) | (with_reducible refine Kd.C_alloc ?_ _) | (with_reducible refine Kd.C_drewN ?_ _) | (with_reducible refine Kd.C_drew ?_)))
    (case side4 => exact HC909_0.out)
    rintro e w35 ⟨rfl, hb⟩
    have HS2_ := (hb.cell (World.block_lt_of_cell? _ _ (hHeld.2.2))).trans (hHeld.2.2)
    refine ⟨_, rfl, ?_⟩
    replace HO_7 := zA (Kd.N_below (by (with_reducible repeat (first | apply Kd.N_alloc | apply Kd.N_drewN | apply Kd.N_drew)); exact HO_7.out) hb)
    replace HO_909001 := xR HO_909001 hb
    replace HO_909002 := xR HO_909002 hb
    replace HL909_0 := zA (Kd.V_below (by (with_reducible repeat (first | apply Kd.V_alloc | apply Kd.V_drewN | apply Kd.V_drew)); exact HL909_0.out) hb)
    replace BK896 := xB BK896 hb
    replace BK897 := xB BK897 hb
    replace BK908 := xB BK908 hb
    replace HR909_0 := zA (Kd.C_below (by repeat (first | (with_reducible exact HR909_0.out) | (with_reducible refine Kd.C_alloc ?_ _) | (with_reducible refine Kd.C_drewN ?_ _) | (with_reducible refine Kd.C_drew ?_) | exact HR909_0.out)) hb)
    replace HB := xH HB hb
    (try clear hb); (try clear hb2); (try clear hk); (try clear hi)
    refine hK.out _ _ ⟨bcu BK896 0, bcu BK896 1, HS2_⟩ (fun hHeld => ?_)
    clear hK K
    refine no_ 39 ?_
    refine pure_ (i := 6) (N := some 12) (v := ?_) (a' := ?_) (bl 7 127) rfl rfl (by kernel_rfl) (fun _ _ _ h => h) (Or.inl ⟨by rfl, ?_⟩) ?_ ?_
    rotate_left
    ·intro w'
     go_simp
     with_reducible rfl
    rotate_left
    ·simp only [Act.put, ls, lz, ln, i64_w, i32_w]
     rfl
    refine done_ (by kernel_rfl) ?_
    try go_wp2
    replace HO_7 := zA (Kd.N_drew HO_7.out)
    replace HO_909001 := zA (Kd.R_drew HO_909001.out)
    replace HO_909002 := zA (Kd.R_drew HO_909002.out)
    replace HL909_0 := zA (Kd.V_drew HL909_0.out)
    replace BK896 := zA (blk_drew BK896.out)
    replace BK897 := zA (blk_drew BK897.out)
    replace BK908 := zA (blk_drew BK908.out)
    replace HR909_0 := zA (Kd.C_drew HR909_0.out)
    replace HB := zA (below_drew1 HB.out)
    have p911 : 0 ≤ (x11_1 : Int) := of_decide_eq_true (by first | (with_reducible assumption) | assumption)
    have q911 : x11_1 < (t899.length : Int) := of_decide_eq_true (by first | (with_reducible assumption) | assumption)
    obtain ⟨ad911, A911_0, c911_0, e911, hx911_0, hl911_0, hi911_0⟩ := at_L1 (Kd.N_reads' HO_7.out).2.2 x11_1 p911 q911
    obtain rfl : ad909 = ad911 := (by injection e911)
    obtain ⟨ce911, hce911, hMe911, hcc911⟩ := Kd.N_get HO_7.out [] x11_1 p911 (by first | exact q911 | exact of_decide_eq_true (by first | (with_reducible assumption) | assumption) | (have e_ := (Kd.N_reads' HO_7.out).1; omega))
    obtain ⟨ua911_0, uc911_0, rfl, ul911_0, ge911_0⟩ := Kd.FK_slice_open hMe911
    have hv911_0 := hcc911 0 _ rfl
    rw [Nat.add_zero, show ((Kd.slice 2 (Kd.int .i64))).sz = 1 from rfl, Nat.mul_one] at hv911_0
    replace hv911_0 := Option.some.inj (hv911_0.symm.trans hx911_0)
    injection hv911_0 with hva_ hvn_ hvc_
    rw [hva_] at ge911_0
    rw [hvc_] at ul911_0
    have HL911_0 := zA (show Kd.V (Kd.int .i64) 2 _ w.heap.size _ _ (rd_L1 t899 x11_1) from Kd.V_mk ul911_0 ge911_0)
    clear hva_ hvn_ hvc_ ge911_0 ul911_0
    clear hcc911 hce911
    have HR911_0 := zA hi911_0
    have HC911_0 := zA hl911_0
    clear hi911_0 hl911_0
    replace p911 := eq_true p911
    replace q911 := eq_true q911
    refine start_ (n := 18) (S := fun w' => w'.cell? ⟨gb908, 0, none⟩ = some (.int .i64 a0_0) ∧ w'.cell? ⟨gb908, 1, none⟩ = some (u909001) ∧ w'.cell? ⟨gb908, 2, none⟩ = some (u909002) ∧ w'.cell? ⟨gb896, 0, none⟩ = some (.int .i64 a0_0) ∧ w'.cell? ⟨gb896, 1, none⟩ = some (.slice A0_1 l0_1.length c0_1) ∧ w'.cell? (ad909.add (x11_1).toNat) = some (.slice A911_0 (rd_L1 t899 x11_1).length c911_0)) (ds := [15, 17]) #[false, false, false, false, false, false, false, false, false, false, false, false, false, false, false, false, false, false] (by kernel_rfl) rfl rfl ⟨bcu BK908 0, bcu BK908 1, bcu BK908 2, bcu BK896 0, bcu BK896 1, hx911_0⟩ (fun hHeld => ?_); refine with_tabW spec_JacobiOfMoments.tab10 spec_JacobiOfMoments.bits10 (fun HT_ HW_ => ?_)
    generalize w35.drew = w36 at HO_7 HO_909001 HO_909002 HL909_0 BK896 BK897 BK908 HR909_0 HB HL911_0 HR911_0 hx911_0 hHeld ⊢
    refine pu_ 0 40 (bl 18 1) HT_ ?_
    refine pu_ 3 43 (bl 18 9) HT_ ?_
    refine pu_ 4 44 (bl 18 25) HT_ ?_
    refine pu_ 5 45 (bl 18 57) HT_ ?_
    refine pu_ 8 48 (bl 18 313) HT_ ?_
    refine pu_ 9 49 (bl 18 825) HT_ ?_
    refine pu_ 12 52 (bl 18 4921) HT_ ?_
    refine ta_ 1 41 (bl 18 4923) HT_ HW_ hHeld ?_
    refine ta_ 2 42 (bl 18 4927) HT_ HW_ hHeld ?_
    refine ta_ 6 46 (bl 18 4991) HT_ HW_ hHeld ?_
    refine on_ 7 (some 47) (bl 18 5119) HT_ (fun K hK => ?_)
    refine gS Try.func84 #[.agg #[.int .i64 a0_0, .slice A0_1 l0_1.length c0_1], .slice A911_0 (rd_L1 t899 x11_1).length c911_0, .int .i64 1] ?_
    with_reducible refine (spec_l04Norm.calls k1 a0_0 _ _ l0_1 _ _ (rd_L1 t899 x11_1) 1 t912 _ ?side1 ?side2 ?side3 ?side4 A27.out).mono ?_
    (case side1 => exact uC ((Kd.C_below HR0_1.out HB.out)))
    (case side2 => exact HC0_1.out)
    (case side3 => repeat (first | exact (by repeat (first | (with_reducible exact HR911_0.out) | (with_reducible refine Kd.C_alloc ?_ _) | (with_reducible refine Kd.C_drewN ?_ _) | (with_reducible refine Kd.C_drew ?_) | exact HR911_0.out)) | (with_reducible refine Kd.C_alloc ?_ _) | (with_reducible refine Kd.C_drewN ?_ _) | (with_reducible refine Kd.C_drew ?_)))
    (case side4 => exact HC911_0.out)
    rintro e w37 ⟨rfl, hb⟩
    have HS5_ := (hb.cell (World.block_lt_of_cell? _ _ (hHeld.2.2.2.2.2))).trans (hHeld.2.2.2.2.2)
    refine ⟨_, rfl, ?_⟩
    replace HO_7 := zA (Kd.N_below (by (with_reducible repeat (first | apply Kd.N_alloc | apply Kd.N_drewN | apply Kd.N_drew)); exact HO_7.out) hb)
    replace HO_909001 := xR HO_909001 hb
    replace HO_909002 := xR HO_909002 hb
    replace HL909_0 := zA (Kd.V_below (by (with_reducible repeat (first | apply Kd.V_alloc | apply Kd.V_drewN | apply Kd.V_drew)); exact HL909_0.out) hb)
    replace HL911_0 := zA (Kd.V_below (by (with_reducible repeat (first | apply Kd.V_alloc | apply Kd.V_drewN | apply Kd.V_drew)); exact HL911_0.out) hb)
    replace BK896 := xB BK896 hb
    replace BK897 := xB BK897 hb
    replace BK908 := xB BK908 hb
    replace HR909_0 := zA (Kd.C_below (by repeat (first | (with_reducible exact HR909_0.out) | (with_reducible refine Kd.C_alloc ?_ _) | (with_reducible refine Kd.C_drewN ?_ _) | (with_reducible refine Kd.C_drew ?_) | exact HR909_0.out)) hb)
    replace HR911_0 := zA (Kd.C_below (by repeat (first | (with_reducible exact HR911_0.out) | (with_reducible refine Kd.C_alloc ?_ _) | (with_reducible refine Kd.C_drewN ?_ _) | (with_reducible refine Kd.C_drew ?_) | exact HR911_0.out)) hb)
    replace HB := xH HB hb
    (try clear hb); (try clear hb2); (try clear hk); (try clear hi)
    refine hK.out _ _ ⟨bcu BK908 0, bcu BK908 1, bcu BK908 2, bcu BK896 0, bcu BK896 1, HS5_⟩ (fun hHeld => ?_)
    clear hK K
    refine no_ 47 ?_
    refine on_ 10 (some 50) (bl 18 6143) HT_ (fun K hK => ?_)
    refine gS Try.func66 #[.int .i64 a0_0, .int .i64 t910] ?_
    with_reducible refine (spec_l01Inverse.calls k1 a0_0 t910 t913 _ A28.out).mono ?_
    rintro e w' ⟨rfl, ⟨nd, rfl⟩⟩
    refine ⟨_, rfl, ?_⟩
    refine hK.out _ _ ⟨bcu BK908 0, bcu BK908 1, bcu BK908 2, bcu BK896 0, bcu BK896 1, hHeld.2.2.2.2.2⟩ (fun hHeld => ?_)
    clear hK K
    refine no_ 50 ?_
    refine pu_ 11 51 (bl 18 8191) HT_ ?_
    refine pu_ 13 53 (bl 18 16383) HT_ ?_
    refine on_ 14 (some 54) (bl 18 32767) HT_ (fun K hK => ?_)
    refine value_ (w1 := ?_) (v := ?_) (by rfl) rfl ?_ ?_
    rotate_left 2
    ·go_simp
     constructor
     ·rfl
     ·rfl
    refine hK.out _ _ ⟨(blk_cell (blk_alloc BK908.out _) 0).trans rfl, (blk_cell (blk_alloc BK908.out _) 1).trans rfl, (blk_cell (blk_alloc BK908.out _) 2).trans rfl, (blk_cell (blk_alloc BK896.out _) 0).trans rfl, (blk_cell (blk_alloc BK896.out _) 1).trans rfl, (World.cell?_alloc_lt _ _ _ (World.block_lt_of_cell? _ _ (hHeld.2.2.2.2.2))).trans (hHeld.2.2.2.2.2)⟩ (fun hHeld => ?_)
    clear hK K
    refine no_ 54 ?_
    refine last_ (i := 15) (N := some 55) (bl 18 65535) rfl rfl (one_of HT_.out (by kernel_rfl)) (by decide) (fun K hK => ?_)
    refine Kd.R_append_step (Kd.int .i64) (w0 := w) w.heap.size (by rfl) (.tmp 41) (.tmp 54) 22 2 (.int .i64 0) 8 rfl Try.underlying22 info2 rfl (by decide) (by omega) u909001 x909001_1 (Int.tmod (wrap64 (t912 * t913)) a0_0) [.int .i64 (Int.tmod (wrap64 (t912 * t913)) a0_0)] (fun k_ => some k_ ≠ (u909002 : Value).ownBlock) (fun _ => False) rfl rfl ?aP (fun _ hk => hk.elim) ?aF ?aO ?aB ?aS ?aL ?_
    (case aP => exact rfl)
    (case aB => exact (uH HB.out))
    (case aF => exact (fun k_ hk => Kd.fresh' (Kd.R_lt (uR HO_909002.out)) k_ hk))
    (case aO => exact (uR HO_909001.out))
    (case aS => exact (below_size (uH HB.out)))
    (case aL => have := LMc30.out; omega)
    intro v915 w38 ho hb hg hat
    rw [← Ny914.out] at ho
    replace HO_7 := zA (Kd.N_afterv (ok := (fun k_ => some k_ ≠ (u909002 : Value).ownBlock ∧ k_ ≠ gb896 ∧ k_ ≠ gb897 ∧ k_ ≠ gb908)) (by (with_reducible repeat (first | apply Kd.N_alloc | apply Kd.N_drewN | apply Kd.N_drew)); exact Kd.N_mono HO_7.out (fun _ hk => ⟨⟨hk.2.1, ⟨hk.2.2.1, ⟨hk.2.2.2.1, hk.2.2.2.2⟩⟩⟩, hk.1⟩)) hg hat)
    replace HO_909002 := zA (Kd.R_after (ok := (fun _ => True)) (uR (Kd.R_mono HO_909002.out (fun _ hk => ⟨trivial, hk⟩))) hg hat)
    replace BK896 := zA (blk_grown (g := gb896) (o := .cells #[.int .i64 a0_0, .slice A0_1 l0_1.length c0_1] 40 (0, 0)) (uB BK896.out) hg (Kd.R_ne HO_909001.out BK896.out (by decide)))
    replace BK897 := zA (blk_grown (g := gb897) (o := .cells #[.int .i64 0, .slice none 0 0, .slice none 0 0] 26 (0, 0)) (uB BK897.out) hg (Kd.R_ne HO_909001.out BK897.out (by decide)))
    replace BK908 := zA (blk_grown (g := gb908) (o := .cells #[.int .i64 a0_0, u909001, u909002] 26 (0, 0)) (uB BK908.out) hg (Kd.R_ne HO_909001.out BK908.out (by decide)))
    replace HL909_0 := zA (Kd.V_afterv (ok := (fun k_ => ax k_ (.slice (some ad909) t899.length co34) ∧ some k_ ≠ (u909002 : Value).ownBlock ∧ k_ ≠ gb896 ∧ k_ ≠ gb897 ∧ k_ ≠ gb908)) (by (with_reducible repeat (first | apply Kd.V_alloc | apply Kd.V_drewN | apply Kd.V_drew)); exact Kd.V_mono HL909_0.out (fun _ hk => ⟨⟨hk.2, ⟨hk.1.2.1, ⟨hk.1.2.2.1, ⟨hk.1.2.2.2.1, hk.1.2.2.2.2⟩⟩⟩⟩, hk.1.1⟩)) hg hat)
    replace HL911_0 := zA (Kd.V_afterv (ok := (fun k_ => ax k_ (.slice (some ad909) t899.length co34) ∧ some k_ ≠ (u909002 : Value).ownBlock ∧ k_ ≠ gb896 ∧ k_ ≠ gb897 ∧ k_ ≠ gb908)) (by (with_reducible repeat (first | apply Kd.V_alloc | apply Kd.V_drewN | apply Kd.V_drew)); exact Kd.V_mono HL911_0.out (fun _ hk => ⟨⟨hk.2, ⟨hk.1.2.1, ⟨hk.1.2.2.1, ⟨hk.1.2.2.2.1, hk.1.2.2.2.2⟩⟩⟩⟩, hk.1.1⟩)) hg hat)
    replace HB := zA (hb)
    have HO916 := zA (ho)
    clear HO_909001
    clear ho hb hg hat
    obtain ⟨Ao39, co39, eo39⟩ := Kd.R_slice HO916.out
    (first | subst eo39 | (injection eo39 with f1_ f2_ f3_; have f4_ := f1_.symm; have f5_ := f3_.symm; clear f1_ f2_ f3_; subst f4_; subst f5_))
    refine hK.out _ _ ?_
    clear hK K
    refine no_ 55 ?_
    refine pu_ 16 56 (bl 18 131071) HT_ ?_
    refine last_ (i := 17) (N := none) (bl 18 262143) rfl rfl (one_of HT_.out (by kernel_rfl)) (by decide) (fun K hK => ?_)
    have hs40 : w38.cell? ⟨gb908, 1, none⟩ = some (u909001) := (blk_cell BK908.out 1).trans rfl
    have hfs40 := bf BK908 1
    have hns40_0 := NB896_908.out; have hns40_1 := NB897_908.out; have hms40_0 := NB908_896.out; have hms40_1 := NB908_897.out
    refine skip_ (w1 := ?_) (by rfl) rfl ?_ ?_
    rotate_left
    ·go_simp
     rfl
    refine hK.out _ _ ?_
    clear hK K
    refine done_ (done_of HT_.out (by kernel_rfl)) ?_
    try go_wp2
    have n0_ : Aside0 (Kd.N (Kd.slice 2 (Kd.int .i64)) 22 (w38.setCell ⟨gb908, 1, none⟩ (.slice Ao39 y914.length co39)) w.heap.size (fun k_ => some k_ ≠ (u909002 : Value).ownBlock ∧ ax k_ (.slice Ao39 y914.length co39) ∧ k_ ≠ gb896 ∧ k_ ≠ gb897 ∧ k_ ≠ gb908) (.slice (some ad909) t899.length co34) t899) := ⟨by (with_reducible repeat (first | apply Kd.N_alloc | apply Kd.N_drewN | apply Kd.N_drew)); exact Kd.N_mono (Kd.N_far (p := ⟨gb908, 1, none⟩) (Kd.N_mono HO_7.out (fun k_ hk => (⟨hk, hk.1.2.2.2⟩ : _ ∧ k_ ≠ gb908))) (fun _ hk => hk.2) (.slice Ao39 y914.length co39)) (fun _ hk => ⟨hk.1.1.1, ⟨hk.1.2, ⟨hk.1.1.2.1, ⟨hk.1.1.2.2.1, hk.1.1.2.2.2⟩⟩⟩⟩)⟩
    have n1_ : Aside0 (Kd.R (Kd.int .i64) 2 (w38.setCell ⟨gb908, 1, none⟩ (.slice Ao39 y914.length co39)) w.heap.size (fun k_ => ax k_ (.slice Ao39 y914.length co39)) u909002 x909002_1) := ⟨uR (Kd.R_mono (Kd.R_far (p := ⟨gb908, 1, none⟩) (Kd.R_types HO_909002.out BK908.out (by decide)) (fun _ hk => hk.2) (.slice Ao39 y914.length co39)) (fun _ hk => hk.1.2))⟩
    have n2_ : Aside0 (Kd.V (Kd.int .i64) 2 (w38.setCell ⟨gb908, 1, none⟩ (.slice Ao39 y914.length co39)) w.heap.size (fun k_ => ax k_ (.slice (some ad909) t899.length co34) ∧ some k_ ≠ (u909002 : Value).ownBlock ∧ ax k_ (.slice Ao39 y914.length co39) ∧ k_ ≠ gb896 ∧ k_ ≠ gb897 ∧ k_ ≠ gb908) (.slice A909_0 (rd_L1 t899 x11_1).length c909_0) (rd_L1 t899 x11_1)) := ⟨by (with_reducible repeat (first | apply Kd.V_alloc | apply Kd.V_drewN | apply Kd.V_drew)); exact Kd.V_mono (Kd.V_far (p := ⟨gb908, 1, none⟩) (Kd.V_mono HL909_0.out (fun k_ hk => (⟨hk, hk.1.2.2.2.2⟩ : _ ∧ k_ ≠ gb908))) (fun _ hk => hk.2) (.slice Ao39 y914.length co39)) (fun _ hk => ⟨hk.1.1.1, ⟨hk.1.1.2.1, ⟨hk.1.2, ⟨hk.1.1.2.2.1, ⟨hk.1.1.2.2.2.1, hk.1.1.2.2.2.2⟩⟩⟩⟩⟩)⟩
    have n3_ : Aside0 (Kd.V (Kd.int .i64) 2 (w38.setCell ⟨gb908, 1, none⟩ (.slice Ao39 y914.length co39)) w.heap.size (fun k_ => ax k_ (.slice (some ad909) t899.length co34) ∧ some k_ ≠ (u909002 : Value).ownBlock ∧ ax k_ (.slice Ao39 y914.length co39) ∧ k_ ≠ gb896 ∧ k_ ≠ gb897 ∧ k_ ≠ gb908) (.slice A911_0 (rd_L1 t899 x11_1).length c911_0) (rd_L1 t899 x11_1)) := ⟨by (with_reducible repeat (first | apply Kd.V_alloc | apply Kd.V_drewN | apply Kd.V_drew)); exact Kd.V_mono (Kd.V_far (p := ⟨gb908, 1, none⟩) (Kd.V_mono HL911_0.out (fun k_ hk => (⟨hk, hk.1.2.2.2.2⟩ : _ ∧ k_ ≠ gb908))) (fun _ hk => hk.2) (.slice Ao39 y914.length co39)) (fun _ hk => ⟨hk.1.1.1, ⟨hk.1.1.2.1, ⟨hk.1.2, ⟨hk.1.1.2.2.1, ⟨hk.1.1.2.2.2.1, hk.1.1.2.2.2.2⟩⟩⟩⟩⟩)⟩
    have n4_ : Aside0 (Kd.R (Kd.int .i64) 2 (w38.setCell ⟨gb908, 1, none⟩ (.slice Ao39 y914.length co39)) w.heap.size (fun k_ => some k_ ≠ (u909002 : Value).ownBlock) (.slice Ao39 y914.length co39) y914) := ⟨uR (Kd.R_mono (Kd.R_far (p := ⟨gb908, 1, none⟩) (Kd.R_types HO916.out BK908.out (by decide)) (fun _ hk => hk.2) (.slice Ao39 y914.length co39)) (fun _ hk => hk.1))⟩
    have n5_ : Aside0 ((w38.setCell ⟨gb908, 1, none⟩ (.slice Ao39 y914.length co39)).heap[gb896]? = some (.cells #[.int .i64 a0_0, .slice A0_1 l0_1.length c0_1] 40 (0, 0))) := ⟨by (repeat refine up1 ?_); refine blk_far ?_ NB896_908.out _; (repeat refine up1 ?_); exact BK896.out⟩
    have n6_ : Aside0 ((w38.setCell ⟨gb908, 1, none⟩ (.slice Ao39 y914.length co39)).heap[gb897]? = some (.cells #[.int .i64 0, .slice none 0 0, .slice none 0 0] 26 (0, 0))) := ⟨by (repeat refine up1 ?_); refine blk_far ?_ NB897_908.out _; (repeat refine up1 ?_); exact BK897.out⟩
    have n7_ : Aside0 ((w38.setCell ⟨gb908, 1, none⟩ (.slice Ao39 y914.length co39)).heap[gb908]? = some (.cells #[.int .i64 a0_0, .slice Ao39 y914.length co39, u909002] 26 (0, 0))) := ⟨by (repeat refine up1 ?_); refine blk_put (cs := #[.int .i64 a0_0, u909001, u909002]) ?_ 1 _ rfl; (repeat refine up1 ?_); exact BK908.out⟩
    have n8_ : Aside0 (Below w.heap.size w (w38.setCell ⟨gb908, 1, none⟩ (.slice Ao39 y914.length co39))) := ⟨uH HB.out⟩
    (try clear HO_7); (try clear HO_909002); (try clear HL909_0); (try clear HL911_0); (try clear HO916); (try clear BK896); (try clear BK897); (try clear BK908); (try clear HB)
    (try rw [setCell_drewN])
    generalize (w38.setCell ⟨gb908, 1, none⟩ (.slice Ao39 y914.length co39)) = w41 at n0_ n1_ n2_ n3_ n4_ n5_ n6_ n7_ n8_ ⊢
    have HO_7 := n0_
    have HO_909002 := n1_
    have HL909_0 := n2_
    have HL911_0 := n3_
    have HO916 := n4_
    have BK896 := n5_
    have BK897 := n6_
    have BK908 := n7_
    have HB := n8_
    clear n0_ n1_ n2_ n3_ n4_ n5_ n6_ n7_ n8_
    replace HO_7 := zA (Kd.N_drew HO_7.out)
    replace HO_909002 := zA (Kd.R_drew HO_909002.out)
    replace HL909_0 := zA (Kd.V_drew HL909_0.out)
    replace HL911_0 := zA (Kd.V_drew HL911_0.out)
    replace HO916 := zA (Kd.R_drew HO916.out)
    replace BK896 := zA (blk_drew BK896.out)
    replace BK897 := zA (blk_drew BK897.out)
    replace BK908 := zA (blk_drew BK908.out)
    replace HB := zA (below_drew1 HB.out)
    refine start_ (n := 13) (S := fun w' => w'.cell? ⟨gb908, 0, none⟩ = some (.int .i64 a0_0) ∧ w'.cell? ⟨gb908, 1, none⟩ = some (.slice Ao39 y914.length co39) ∧ w'.cell? ⟨gb908, 2, none⟩ = some (u909002)) (ds := [12]) #[false, false, false, false, false, false, false, false, false, false, false, false, false] (by kernel_rfl) rfl rfl ⟨bcu BK908 0, bcu BK908 1, bcu BK908 2⟩ (fun hHeld => ?_); refine with_tabW spec_JacobiOfMoments.tab11 spec_JacobiOfMoments.bits11 (fun HT_ HW_ => ?_)
    generalize w41.drew = w42 at HO_7 HO_909002 HL909_0 HL911_0 HO916 BK896 BK897 BK908 HB hHeld ⊢
    refine pu_ 0 57 (bl 13 1) HT_ ?_
    refine pu_ 2 59 (bl 13 5) HT_ ?_
    refine pu_ 3 60 (bl 13 13) HT_ ?_
    refine pu_ 4 61 (bl 13 29) HT_ ?_
    refine pu_ 7 64 (bl 13 157) HT_ ?_
    refine ta_ 1 58 (bl 13 159) HT_ HW_ hHeld ?_
    refine on_ 5 (some 62) (bl 13 191) HT_ (fun K hK => ?_)
    refine gS Try.func66 #[.int .i64 a0_0, .int .i64 x9_1] ?_
    with_reducible refine (spec_l01Inverse.calls k1 a0_0 x9_1 t917 _ A31.out).mono ?_
    rintro e w' ⟨rfl, ⟨nd, rfl⟩⟩
    refine ⟨_, rfl, ?_⟩
    refine hK.out _ _ ⟨bcu BK908 0, bcu BK908 1, bcu BK908 2⟩ (fun hHeld => ?_)
    clear hK K
    refine no_ 62 ?_
    refine pu_ 6 63 (bl 13 255) HT_ ?_
    refine pu_ 8 65 (bl 13 511) HT_ ?_
    refine on_ 9 (some 66) (bl 13 1023) HT_ (fun K hK => ?_)
    refine value_ (w1 := ?_) (v := ?_) (by rfl) rfl ?_ ?_
    rotate_left 2
    ·go_simp
     constructor
     ·rfl
     ·rfl
    refine hK.out _ _ ⟨(blk_cell (blk_alloc BK908.out _) 0).trans rfl, (blk_cell (blk_alloc BK908.out _) 1).trans rfl, (blk_cell (blk_alloc BK908.out _) 2).trans rfl⟩ (fun hHeld => ?_)
    clear hK K
    refine no_ 66 ?_
    refine on_ 10 (some 67) (bl 13 2047) HT_ (fun K hK => ?_)
    refine Kd.R_append_step (Kd.int .i64) (w0 := w) w.heap.size (by rfl) (.tmp 58) (.tmp 66) 22 2 (.int .i64 0) 8 rfl Try.underlying22 info2 rfl (by decide) (by omega) u909002 x909002_1 (Int.tmod (wrap64 (t910 * t917)) a0_0) [.int .i64 (Int.tmod (wrap64 (t910 * t917)) a0_0)] (fun k_ => ax k_ (.slice Ao39 y914.length co39)) (fun _ => False) rfl rfl ?aP (fun _ hk => hk.elim) ?aF ?aO ?aB ?aS ?aL ?_
    (case aP => exact rfl)
    (case aB => exact (uH HB.out))
    (case aF => exact (fun k_ hk => Kd.fresh' (Kd.R_lt (uR HO916.out)) k_ hk))
    (case aO => exact (uR HO_909002.out))
    (case aS => exact (below_size (uH HB.out)))
    (case aL => have := LMc32.out; omega)
    intro v919 w43 ho hb hg hat
    rw [← Ny918.out] at ho
    replace HO_7 := zA (Kd.N_afterv (ok := (fun k_ => ax k_ (.slice Ao39 y914.length co39) ∧ k_ ≠ gb896 ∧ k_ ≠ gb897 ∧ k_ ≠ gb908)) (by (with_reducible repeat (first | apply Kd.N_alloc | apply Kd.N_drewN | apply Kd.N_drew)); exact Kd.N_mono HO_7.out (fun _ hk => ⟨⟨hk.2.1, ⟨hk.2.2.1, ⟨hk.2.2.2.1, hk.2.2.2.2⟩⟩⟩, hk.1⟩)) hg hat)
    replace BK896 := zA (blk_grown (g := gb896) (o := .cells #[.int .i64 a0_0, .slice A0_1 l0_1.length c0_1] 40 (0, 0)) (uB BK896.out) hg (Kd.R_ne HO_909002.out BK896.out (by decide)))
    replace BK897 := zA (blk_grown (g := gb897) (o := .cells #[.int .i64 0, .slice none 0 0, .slice none 0 0] 26 (0, 0)) (uB BK897.out) hg (Kd.R_ne HO_909002.out BK897.out (by decide)))
    replace BK908 := zA (blk_grown (g := gb908) (o := .cells #[.int .i64 a0_0, .slice Ao39 y914.length co39, u909002] 26 (0, 0)) (uB BK908.out) hg (Kd.R_ne HO_909002.out BK908.out (by decide)))
    replace HL909_0 := zA (Kd.V_afterv (ok := (fun k_ => ax k_ (.slice (some ad909) t899.length co34) ∧ ax k_ (.slice Ao39 y914.length co39) ∧ k_ ≠ gb896 ∧ k_ ≠ gb897 ∧ k_ ≠ gb908)) (by (with_reducible repeat (first | apply Kd.V_alloc | apply Kd.V_drewN | apply Kd.V_drew)); exact Kd.V_mono HL909_0.out (fun _ hk => ⟨⟨hk.1, ⟨hk.2.2.1, ⟨hk.2.2.2.1, ⟨hk.2.2.2.2.1, hk.2.2.2.2.2⟩⟩⟩⟩, hk.2.1⟩)) hg hat)
    replace HL911_0 := zA (Kd.V_afterv (ok := (fun k_ => ax k_ (.slice (some ad909) t899.length co34) ∧ ax k_ (.slice Ao39 y914.length co39) ∧ k_ ≠ gb896 ∧ k_ ≠ gb897 ∧ k_ ≠ gb908)) (by (with_reducible repeat (first | apply Kd.V_alloc | apply Kd.V_drewN | apply Kd.V_drew)); exact Kd.V_mono HL911_0.out (fun _ hk => ⟨⟨hk.1, ⟨hk.2.2.1, ⟨hk.2.2.2.1, ⟨hk.2.2.2.2.1, hk.2.2.2.2.2⟩⟩⟩⟩, hk.2.1⟩)) hg hat)
    replace HO916 := zA (Kd.R_after (ok := (fun _ => True)) (uR (Kd.R_mono HO916.out (fun _ hk => ⟨trivial, hk⟩))) hg hat)
    replace HB := zA (hb)
    have HO920 := zA (ho)
    clear HO_909002
    clear ho hb hg hat
    obtain ⟨Ao44, co44, eo44⟩ := Kd.R_slice HO920.out
    (first | subst eo44 | (injection eo44 with f1_ f2_ f3_; have f4_ := f1_.symm; have f5_ := f3_.symm; clear f1_ f2_ f3_; subst f4_; subst f5_))
    refine hK.out _ _ ⟨bcu BK908 0, bcu BK908 1, bcu BK908 2⟩ (fun hHeld => ?_)
    clear hK K
    refine no_ 67 ?_
    refine pu_ 11 68 (bl 13 4095) HT_ ?_
    refine last_ (i := 12) (N := none) (bl 13 8191) rfl rfl (one_of HT_.out (by kernel_rfl)) (by decide) (fun K hK => ?_)
    have hs45 : w43.cell? ⟨gb908, 2, none⟩ = some (u909002) := (blk_cell BK908.out 2).trans rfl
    have hfs45 := bf BK908 2
    have hns45_0 := NB896_908.out; have hns45_1 := NB897_908.out; have hms45_0 := NB908_896.out; have hms45_1 := NB908_897.out
    refine skip_ (w1 := ?_) (by rfl) rfl ?_ ?_
    rotate_left
    ·go_simp
     rfl
    refine hK.out _ _ ?_
    clear hK K
    refine done_ (done_of HT_.out (by kernel_rfl)) ?_
    try go_wp2
    go_roundg k1
    case measure => have := HK1.out; omega
    case rel => exact ⟨(t910), (wrap64 (x11_1 + 1)), (y914), (y918), (.slice Ao39 y914.length co39), (.slice Ao44 y918.length co44), (by first | rfl | (simp; done) | (simp [*]; done)), (by first | rfl | (simp; done) | (simp [*]; done)), H', ⟨by have := HK1.out; omega⟩, ⟨by (with_reducible repeat (first | apply Kd.N_alloc | apply Kd.N_drewN | apply Kd.N_drew)); exact Kd.N_mono (Kd.N_far (p := ⟨gb908, 2, none⟩) (Kd.N_mono HO_7.out (fun k_ hk => (⟨hk, hk.1.2.2.2⟩ : _ ∧ k_ ≠ gb908))) (fun _ hk => hk.2) (.slice Ao44 y918.length co44)) (fun _ hk => ⟨hk.1.1.1, ⟨hk.1.2, ⟨hk.1.1.2.1, ⟨hk.1.1.2.2.1, hk.1.1.2.2.2⟩⟩⟩⟩)⟩, ⟨uR (Kd.R_mono (Kd.R_far (p := ⟨gb908, 2, none⟩) (Kd.R_types HO916.out BK908.out (by decide)) (fun _ hk => hk.2) (.slice Ao44 y918.length co44)) (fun _ hk => hk.1.2))⟩, ⟨uR (Kd.R_mono (Kd.R_far (p := ⟨gb908, 2, none⟩) (Kd.R_types HO920.out BK908.out (by decide)) (fun _ hk => hk.2) (.slice Ao44 y918.length co44)) (fun _ hk => hk.1))⟩, ⟨by (repeat refine up1 ?_); refine blk_far ?_ NB896_908.out _; (repeat refine up1 ?_); exact BK896.out⟩, ⟨by (repeat refine up1 ?_); refine blk_far ?_ NB897_908.out _; (repeat refine up1 ?_); exact BK897.out⟩, ⟨by (repeat refine up1 ?_); refine blk_put (cs := #[.int .i64 a0_0, .slice Ao39 y914.length co39, u909002]) ?_ 2 _ rfl; (repeat refine up1 ?_); exact BK908.out⟩, ⟨uH HB.out⟩⟩
   rw [if_pos c29] at H
   exact absurd H (by simp)
end Go.Proofs.Ytfbnkebgdmfcfaa.Pr
