/- Printed by a program of this session out of the translation: what these functions of the program compute, under the conditions that each theorem names. -/
import Derived.Test.YtfbnkebgdmfcfaaKWeightsFor1
import Derived.Test.YtfbnkebgdmfcfaaKWeightsFor6
import Derived.Test.YtfbnkebgdmfcfaaKWeightsFor9
namespace Go.Proofs.Ytfbnkebgdmfcfaa.Pr
open Go.RowKit Go.Proofs.YtfbnkebgdmfcfaaW.PrintWords Go.Proofs.YtfbnkebgdmfcfaaW.PrintLast Go.Proofs.YtfbnkebgdmfcfaaW.PrintMore
attribute [local go_sem] max2_int min2_int max_two min_two max_three min_three max_four min_four   -- for this text's walks alone
set_option linter.unusedVariables false
set_option linter.unusedSimpArgs false

/-! ### impl_WeightsFor: function 26 -/
def impl_WeightsFor.l0 : Nat → Int → Int → Int → List Int → List Int → Int → List Int → List Int → Option (Int × List Int × List Int × Int)
 | 0, _, _, _, _, _, _, _, _ => none
 | k + 1, x22, x23, x1336000, x1336001, x1337000, x1344000, x1344001, x1344002 => if x23 < x22 then ((impl_Moments_field.f x1336000 x1336001).bind fun t1344 => ((impl_field_basis.f k t1344 x1337000 x23).bind fun t1345 => ((impl_Moments_apply.f k x1336000 x1336001 t1345).bind fun t1348 => (if x1344002.length < 17592186044416 then (impl_WeightsFor.l0 k x22 (wrap64 (x23 + 1)) x1336000 x1336001 x1337000 x1344000 x1344001 (x1344002 ++ [t1348])) else (none))))) else (some (x1344000, x1344001, x1344002, 0))
def impl_WeightsFor.f (k : Nat) (a0_0 : Int) (l0_1 : List Int) (l1 : List Int) : Option (Int × List Int × List Int × Int) := (impl_WeightsFor_1.f k a0_0 l0_1 l1).bind fun t1338 => ((impl_momentsCode.f k a0_0 l0_1 t1338 ([] : List (List Int))).bind fun t1339 => (if t1339 = 0 then ((slices_Clone_ints.f l1).bind fun t1340 => (impl_WeightsFor.l0 k (l1.length : Int) 0 a0_0 l0_1 l1 a0_0 t1340 ([] : List Int))) else (some (0, ([] : List Int), ([] : List Int), t1339))))
def impl_WeightsFor.T8 : Bool × List (List Nat × List Nat) := (true, [([], []), ([0], [0]), ([], []), ([], []), ([3], [3]), ([], []), ([], []), ([4, 5, 6, 4], [4, 5, 6]), ([2, 7, 7], [2, 7]), ([8], [8]), ([1, 9, 8], [1, 9]), ([0, 1, 2, 3, 4, 5, 6, 7, 8, 9, 10], []), ([11, 10, 10, 0, 1, 2, 3, 4, 5, 6, 7, 8, 9, 10], [10, 11])])
def impl_WeightsFor.B8 : List Nat := [0, 1, 0, 0, 8, 0, 0, 120, 252, 508, 1023, 2047, 4095]
theorem impl_WeightsFor.tab8 : rtab .any (opsOf Try.f26 8) = impl_WeightsFor.T8 := by kernel_rfl
theorem impl_WeightsFor.bits8 : waitsOk impl_WeightsFor.T8.2 impl_WeightsFor.B8 = true := by kernel_rfl
set_option maxHeartbeats 8000000 in
set_option maxRecDepth 100000 in
theorem impl_WeightsFor.calls (k : Nat) (a0_0 : Int) (A0_1 : Option Addr) (c0_1 : Nat) (l0_1 : List Int) (A1 : Option Addr) (c1 : Nat) (l1 : List Int) (r1 : Int) (r2 : List Int) (r3 : List Int) (r4 : Int) (w : World) (hr0_1 : Kd.C (Kd.int .i64) w A0_1 l0_1.length l0_1) (hc0_1 : l0_1.length ≤ c0_1) (hr1 : Kd.C (Kd.int .i64) w A1 l1.length l1) (hc1 : l1.length ≤ c1) (h : impl_WeightsFor.f k a0_0 l0_1 l1 = some (r1, r2, r3, r4)) :
  Calls Try.prog 26 #[.agg #[.int .i64 a0_0, .slice A0_1 l0_1.length c0_1], .slice A1 l1.length c1] w fun e w' => ∃ v1_ v2_ : Value, e = .returned (.tuple #[.agg #[.int .i64 r1, v1_, v2_], .int .i64 r4]) ∧ Kd.R (Kd.int .i64) 2 w' w.heap.size (fun k_ => some k_ ≠ (v2_ : Value).ownBlock) v1_ r2 ∧ Kd.R (Kd.int .i64) 2 w' w.heap.size (fun k_ => some k_ ≠ (v1_ : Value).ownBlock) v2_ r3 ∧ Below w.heap.size w w' := by
 have hu40 := Try.underlying40
 have hu37 := Try.underlying37
 have hmf : ∀ (fn_ : Fn) (first_ cap_ : Array Value) (w_ : World), (Instr.makeFunc fn_ first_ cap_).run Try.prog w_ = .ok (.func fn_ first_ cap_) w_ := fun _ _ _ _ => rfl
 have HR0_1 := zA hr0_1
 have HC0_1 := zA hc0_1
 clear hr0_1 hc0_1
 have HR1 := zA hr1
 have HC1 := zA hc1
 clear hr1 hc1
 have HB := zA (Below.refl w.heap.size w)
 have H : ((impl_WeightsFor_1.f k a0_0 l0_1 l1).bind fun t1338 => ((impl_momentsCode.f k a0_0 l0_1 t1338 ([] : List (List Int))).bind fun t1339 => (if t1339 = 0 then ((slices_Clone_ints.f l1).bind fun t1340 => (impl_WeightsFor.l0 k (l1.length : Int) 0 a0_0 l0_1 l1 a0_0 t1340 ([] : List Int))) else (some (0, ([] : List Int), ([] : List Int), t1339))))) = some (r1, r2, r3, r4) := h
 clear h
 replace H := Option.bind_eq_some_iff.mp H
 obtain ⟨t1338, A30, H⟩ := H
 replace H : ((impl_momentsCode.f k a0_0 l0_1 t1338 ([] : List (List Int))).bind fun t1339 => (if t1339 = 0 then ((slices_Clone_ints.f l1).bind fun t1340 => (impl_WeightsFor.l0 k (l1.length : Int) 0 a0_0 l0_1 l1 a0_0 t1340 ([] : List Int))) else (some (0, ([] : List Int), ([] : List Int), t1339)))) = some (r1, r2, r3, r4) := H
 have A3 := zA A30
 clear A30
 replace H := Option.bind_eq_some_iff.mp H
 obtain ⟨t1339, A40, H⟩ := H
 replace H : (if t1339 = 0 then ((slices_Clone_ints.f l1).bind fun t1340 => (impl_WeightsFor.l0 k (l1.length : Int) 0 a0_0 l0_1 l1 a0_0 t1340 ([] : List Int))) else (some (0, ([] : List Int), ([] : List Int), t1339))) = some (r1, r2, r3, r4) := H
 have A4 := zA A40
 clear A40
 by_cases c5 : t1339 = 0
 rotate_left
 ·rw [if_neg c5] at H
  have c5b0 : (t1339 == 0) = false := beq_eq_false_iff_ne.mpr c5
  have c5b1 : (t1339 != 0) = true := bne_iff_ne.mpr c5
  simp only [Option.some.injEq, Prod.mk.injEq] at H
  obtain ⟨rfl, rfl, rfl, rfl⟩ := H
  go_enter Try.func26, Try.ntmps26
  go_wp2_with (first | ((with_reducible refine gate_dst (N := 2) rfl ?_); refine bx 2 #[.int .i64 a0_0, .slice A0_1 l0_1.length c0_1] 40 ?_; intro gb1335 hg w47 hbox hb; have BK1335 := zA (hbox); have GW1335 := gq HB hg; have GE1335 := gq HB hg; replace HB := xH HB hb; have := geI GE1335; clear hb hbox hg) | ((with_reducible refine gate_dst (N := 3) rfl ?_); refine bx 3 #[.slice A1 l1.length c1] 22 ?_; intro gb1336 hg w48 hbox hb; have BK1336 := zA (hbox); have GW1336 := gq HB hg; have GE1336 := gq HB hg; replace HB := xH HB hb; have NB1335_1336 := zA ((by rw [hg]; exact neL BK1335 : gb1335 ≠ gb1336)); have NB1336_1335 := zA ((by rw [hg]; exact neG BK1335 : gb1336 ≠ gb1335)); replace BK1335 := xB BK1335 hb; have := geI GE1336; clear hb hbox hg) | ((with_reducible refine gate_dst (N := 4) rfl ?_); refine bx 4 #[.int .i64 0, .slice none 0 0, .slice none 0 0] 37 ?_; intro gb1337 hg w49 hbox hb; have BK1337 := zA (hbox); have GW1337 := gq HB hg; have GE1337 := gq HB hg; replace HB := xH HB hb; have NB1335_1337 := zA ((by rw [hg]; exact neL BK1335 : gb1335 ≠ gb1337)); have NB1337_1335 := zA ((by rw [hg]; exact neG BK1335 : gb1337 ≠ gb1335)); replace BK1335 := xB BK1335 hb; have NB1336_1337 := zA ((by rw [hg]; exact neL BK1336 : gb1336 ≠ gb1337)); have NB1337_1336 := zA ((by rw [hg]; exact neG BK1336 : gb1337 ≠ gb1336)); replace BK1336 := xB BK1336 hb; have := geI GE1337; clear hb hbox hg; have hnb50 := NB1335_1336.out; have hnc50 := NB1336_1335.out; have hnb51 := NB1335_1337.out; have hnc51 := NB1337_1335.out; have hcz52_0 := bc BK1335 0; have hcz52_1 := bc BK1335 1; have hfz52_0 := bf BK1335 0; have hfz52_1 := bf BK1335 1) | ((with_reducible refine gate_callee (f := 68) rfl ?_); refine gL (some 11) Try.func68 #[.agg #[.int .i64 a0_0, .slice A0_1 l0_1.length c0_1], (.func (.func 69) #[] #[.pointer (some ⟨gb1335, 0, none⟩), .pointer (some ⟨gb1336, 0, none⟩)]), .slice none 0 0] ?_; (refine (impl_momentsCode.calls k a0_0 _ _ l0_1 _ t1338 _ _ ([] : List (List Int)) t1339 _ ?side1 ?side2 ?side3 ?side4 ?side5 A4.out).mono ?_); (case side1 => exact uC ((Kd.C_below HR0_1.out HB.out))); (case side2 => exact HC0_1.out); (case side3 => exact FnB.of Try.func69 (by kernel_rfl) rfl (fun W_ hW_ => calls_of_args (args' := #[.pointer (some ⟨gb1335, 0, none⟩), .pointer (some ⟨gb1336, 0, none⟩)]) (by simp) ((impl_WeightsFor_1.calls k _ a0_0 _ _ l0_1 _ _ _ l1 _ W_ (blk_below (g := gb1335) (o := .cells #[.int .i64 a0_0, .slice A0_1 l0_1.length c0_1] 40 (0, 0)) (uB BK1335.out) hW_) (Kd.C_below (by exact uC ((Kd.C_below HR0_1.out HB.out))) hW_) (by exact HC0_1.out) (blk_below (g := gb1336) (o := .cells #[.slice A1 l1.length c1] 22 (0, 0)) (uB BK1336.out) hW_) (Kd.C_below (by exact uC ((Kd.C_below HR1.out HB.out))) hW_) (by exact HC1.out) A3.out).mono fun e_ W2_ h_ => ⟨h_.1, h_.2⟩))); (case side4 => exact Kd.C_nil _ _); (case side5 => exact Nat.le_refl _); rintro e w53 ⟨rfl, hb⟩; refine ⟨_, rfl, ?_⟩; replace BK1335 := xB BK1335 hb; replace BK1336 := xB BK1336 hb; replace BK1337 := xB BK1337 hb; replace HB := xH HB hb; (try clear hb); (try clear hb2); (try clear hk); (try clear hi); have hnb54 := NB1337_1336.out; have hnc54 := NB1336_1337.out; have hcz55_0 := bc BK1337 0; have hcz55_1 := bc BK1337 1; have hcz55_2 := bc BK1337 2; have hfz55_0 := bf BK1337 0; have hfz55_1 := bf BK1337 1; have hfz55_2 := bf BK1337 2))
  refine bodyPost_ret (results_ct rfl _ _ gb1337 37 #[.int .i64 0, .slice none 0 0, .slice none 0 0] (0, 0) _ rfl (by (repeat refine up1 ?_); refine blk_put (cs := #[.int .i64 0, .slice none 0 0, .slice none 0 0]) ?_ 2 _ rfl; (repeat refine up1 ?_); refine blk_put (cs := #[.int .i64 0, .slice none 0 0, .slice none 0 0]) ?_ 1 _ rfl; (repeat refine up1 ?_); refine blk_put (cs := #[.int .i64 0, .slice none 0 0, .slice none 0 0]) ?_ 0 _ rfl; (repeat refine up1 ?_); exact BK1337.out) Try.underlying37 rfl (by kernel_rfl)) rfl ?_
  exact ⟨_, _, by first | rfl | (simp [errW_none, errW_some] <;> rfl) | (simp [*, errW_none, errW_some] <;> rfl), by first | exact Kd.R_nil _ _ _ _ _ | exact Kd.N_nil _ _ _ _ _ | exact Kd.V_nil _ _ _ _ _ | exact Kd.Q_nil _ _ _ _ _ | exact Kd.S_nil _ _ _ _ _, by first | exact Kd.R_nil _ _ _ _ _ | exact Kd.N_nil _ _ _ _ _ | exact Kd.V_nil _ _ _ _ _ | exact Kd.Q_nil _ _ _ _ _ | exact Kd.S_nil _ _ _ _ _, uH HB.out⟩

 rw [if_pos c5] at H
 have c5b0 : (t1339 == 0) = true := beq_iff_eq.mpr c5
 have c5b1 : (t1339 != 0) = false := bne_eq_false_iff_eq.mpr c5
 clear c5
 replace H := Option.bind_eq_some_iff.mp H
 obtain ⟨t1340, A60, H⟩ := H
 replace H : (impl_WeightsFor.l0 k (l1.length : Int) 0 a0_0 l0_1 l1 a0_0 t1340 ([] : List Int)) = some (r1, r2, r3, r4) := H
 have A6 := zA A60
 clear A60
 have H' := zA H
 clear H
 go_enter Try.func26, Try.ntmps26
 try go_wp2_with (first | ((with_reducible refine gate_dst (N := 2) rfl ?_); refine bx 2 #[.int .i64 a0_0, .slice A0_1 l0_1.length c0_1] 40 ?_; intro gb1335 hg w7 hbox hb; have BK1335 := zA (hbox); have GW1335 := gq HB hg; have GE1335 := gq HB hg; replace HB := xH HB hb; have := geI GE1335; clear hb hbox hg) | ((with_reducible refine gate_dst (N := 3) rfl ?_); refine bx 3 #[.slice A1 l1.length c1] 22 ?_; intro gb1336 hg w8 hbox hb; have BK1336 := zA (hbox); have GW1336 := gq HB hg; have GE1336 := gq HB hg; replace HB := xH HB hb; have NB1335_1336 := zA ((by rw [hg]; exact neL BK1335 : gb1335 ≠ gb1336)); have NB1336_1335 := zA ((by rw [hg]; exact neG BK1335 : gb1336 ≠ gb1335)); replace BK1335 := xB BK1335 hb; have := geI GE1336; clear hb hbox hg) | ((with_reducible refine gate_dst (N := 4) rfl ?_); refine bx 4 #[.int .i64 0, .slice none 0 0, .slice none 0 0] 37 ?_; intro gb1337 hg w9 hbox hb; have BK1337 := zA (hbox); have GW1337 := gq HB hg; have GE1337 := gq HB hg; replace HB := xH HB hb; have NB1335_1337 := zA ((by rw [hg]; exact neL BK1335 : gb1335 ≠ gb1337)); have NB1337_1335 := zA ((by rw [hg]; exact neG BK1335 : gb1337 ≠ gb1335)); replace BK1335 := xB BK1335 hb; have NB1336_1337 := zA ((by rw [hg]; exact neL BK1336 : gb1336 ≠ gb1337)); have NB1337_1336 := zA ((by rw [hg]; exact neG BK1336 : gb1337 ≠ gb1336)); replace BK1336 := xB BK1336 hb; have := geI GE1337; clear hb hbox hg; have hnb10 := NB1335_1336.out; have hnc10 := NB1336_1335.out; have hnb11 := NB1335_1337.out; have hnc11 := NB1337_1335.out; have hcz12_0 := bc BK1335 0; have hcz12_1 := bc BK1335 1; have hfz12_0 := bf BK1335 0; have hfz12_1 := bf BK1335 1) | ((with_reducible refine gate_callee (f := 68) rfl ?_); refine gL (some 11) Try.func68 #[.agg #[.int .i64 a0_0, .slice A0_1 l0_1.length c0_1], (.func (.func 69) #[] #[.pointer (some ⟨gb1335, 0, none⟩), .pointer (some ⟨gb1336, 0, none⟩)]), .slice none 0 0] ?_; (refine (impl_momentsCode.calls k a0_0 _ _ l0_1 _ t1338 _ _ ([] : List (List Int)) t1339 _ ?side1 ?side2 ?side3 ?side4 ?side5 A4.out).mono ?_); (case side1 => exact uC ((Kd.C_below HR0_1.out HB.out))); (case side2 => exact HC0_1.out); (case side3 => exact FnB.of Try.func69 (by kernel_rfl) rfl (fun W_ hW_ => calls_of_args (args' := #[.pointer (some ⟨gb1335, 0, none⟩), .pointer (some ⟨gb1336, 0, none⟩)]) (by simp) ((impl_WeightsFor_1.calls k _ a0_0 _ _ l0_1 _ _ _ l1 _ W_ (blk_below (g := gb1335) (o := .cells #[.int .i64 a0_0, .slice A0_1 l0_1.length c0_1] 40 (0, 0)) (uB BK1335.out) hW_) (Kd.C_below (by exact uC ((Kd.C_below HR0_1.out HB.out))) hW_) (by exact HC0_1.out) (blk_below (g := gb1336) (o := .cells #[.slice A1 l1.length c1] 22 (0, 0)) (uB BK1336.out) hW_) (Kd.C_below (by exact uC ((Kd.C_below HR1.out HB.out))) hW_) (by exact HC1.out) A3.out).mono fun e_ W2_ h_ => ⟨h_.1, h_.2⟩))); (case side4 => exact Kd.C_nil _ _); (case side5 => exact Nat.le_refl _); rintro e w13 ⟨rfl, hb⟩; refine ⟨_, rfl, ?_⟩; replace BK1335 := xB BK1335 hb; replace BK1336 := xB BK1336 hb; replace BK1337 := xB BK1337 hb; replace HB := xH HB hb; (try clear hb); (try clear hb2); (try clear hk); (try clear hi)))
 replace BK1335 := zA (blk_drew BK1335.out)
 replace BK1336 := zA (blk_drew BK1336.out)
 replace BK1337 := zA (blk_drew BK1337.out)
 replace HB := zA (below_drew1 HB.out)
 refine start_ (n := 7) (S := fun w' => w'.cell? ⟨gb1335, 0, none⟩ = some (.int .i64 a0_0) ∧ w'.cell? ⟨gb1335, 1, none⟩ = some (.slice A0_1 l0_1.length c0_1) ∧ w'.cell? ⟨gb1336, 0, none⟩ = some (.slice A1 l1.length c1)) (ds := []) #[false, false, false, false, false, false, false] (by kernel_rfl) rfl rfl ⟨bcu BK1335 0, bcu BK1335 1, bcu BK1336 0⟩ (fun hHeld => ?_)
 generalize w13.drew = w14 at BK1335 BK1336 BK1337 HB hHeld ⊢
 refine pure_ (i := 0) (N := some 16) (v := ?_) (a' := ?_) (bl 7 1) rfl rfl (by kernel_rfl) (fun _ _ _ h => h) (Or.inl ⟨by rfl, ?_⟩) ?_ ?_
 rotate_left
 ·intro w'
  go_simp
  with_reducible rfl
 rotate_left
 ·simp only [Act.put, ls, lz, ln, i64_w, i32_w]
  rfl
 refine take_ (i := 1) (N := some 17) (v := ?_) (a' := ?_) (bl 7 3) rfl rfl (by kernel_rfl) (fun _ _ _ h => h) (Or.inl ⟨by rfl, ?_⟩) hHeld ?_ ?_
 rotate_left
 ·rintro w' ⟨s0, s1, s2⟩
  go_simp
  with_reducible rfl
 rotate_left
 ·simp only [Act.put, ls, lz, ln, i64_w, i32_w]
  rfl
 refine take_ (i := 2) (N := some 18) (v := ?_) (a' := ?_) (bl 7 7) rfl rfl (by kernel_rfl) (fun _ _ _ h => h) (Or.inl ⟨by rfl, ?_⟩) hHeld ?_ ?_
 rotate_left
 ·rintro w' ⟨s0, s1, s2⟩
  go_simp
  with_reducible rfl
 rotate_left
 ·simp only [Act.put, ls, lz, ln, i64_w, i32_w]
  rfl
 refine join_ (σ := Value × Nat) 1 (bl 7 63) (fun s_ => [(19, s_.1), (7, .pointer (some ⟨s_.2, 0, none⟩)), (20, .agg #[.int .i64 a0_0, s_.1, .slice none 0 0])]) (fun s_ w' => (w'.cell? ⟨gb1335, 0, none⟩ = some (.int .i64 a0_0) ∧ w'.cell? ⟨gb1335, 1, none⟩ = some (.slice A0_1 l0_1.length c0_1) ∧ w'.cell? ⟨gb1336, 0, none⟩ = some (.slice A1 l1.length c1)) ∧ (Kd.R (Kd.int .i64) 2 w' w.heap.size (fun _ => True) s_.1 t1340) ∧ (w'.heap[gb1335]? = some (.cells #[.int .i64 a0_0, .slice A0_1 l0_1.length c0_1] 40 (0, 0))) ∧ (w'.heap[gb1336]? = some (.cells #[.slice A1 l1.length c1] 22 (0, 0))) ∧ (w'.heap[gb1337]? = some (.cells #[.int .i64 0, .slice none 0 0, .slice none 0 0] 37 (0, 0))) ∧ (w'.heap[s_.2]? = some (.cells #[.int .i64 0, .slice none 0 0, .slice none 0 0] 37 (0, 0))) ∧ (w.heap.size ≤ s_.2) ∧ (w.heap.size ≤ s_.2) ∧ (gb1335 ≠ s_.2) ∧ (s_.2 ≠ gb1335) ∧ (gb1336 ≠ s_.2) ∧ (s_.2 ≠ gb1336) ∧ (gb1337 ≠ s_.2) ∧ (s_.2 ≠ gb1337) ∧ (Below w.heap.size w w')) ?_ ?_
 rotate_left
 ·intro hCont
  refine two_ (i := 3) (j := 5) (Ni := some 19) (Nj := some 7) (bl 7 15) (bl 7 39) rfl rfl rfl rfl (by kernel_rfl) (by decide) (by decide) (fun K hK => ?_) (fun K hK => ?_)
  ·skip
   refine gS Try.func73 #[.slice A1 l1.length c1] ?_
   with_reducible refine (slices_Clone_ints.calls _ _ l1 t1340 _ ?side1 ?side2 A6.out).mono ?_
   (case side1 => exact uC ((Kd.C_below HR1.out HB.out)))
   (case side2 => exact HC1.out)
   rintro e w15 ⟨v1341, rfl, ho0, hb⟩
   refine ⟨_, rfl, ?_⟩
   have HO1342 := zA (Kd.R_lower ho0 (below_size (uH HB.out)))
   replace BK1335 := xB BK1335 hb
   replace BK1336 := xB BK1336 hb
   replace BK1337 := xB BK1337 hb
   replace HB := xH HB hb
   (try clear hb); (try clear hb2); (try clear hk); (try clear hi); (try clear ho0)
   obtain ⟨Ao16, co16, eo16⟩ := Kd.R_slice HO1342.out
   (first | subst eo16 | (injection eo16 with f1_ f2_ f3_; have f4_ := f1_.symm; have f5_ := f3_.symm; clear f1_ f2_ f3_; subst f4_; subst f5_))
   refine hK.out _ _ ⟨bcu BK1335 0, bcu BK1335 1, bcu BK1336 0⟩ (fun hHeld => ?_)
   clear hK K
   refine no_ 19 ?_
   refine pure_ (i := 4) (N := some 20) (v := ?_) (a' := ?_) (bl 7 31) rfl rfl (by kernel_rfl) (fun _ _ _ h => h) (Or.inl ⟨by rfl, ?_⟩) ?_ ?_
   rotate_left
   ·intro w'
    go_simp
    with_reducible rfl
   rotate_left
   ·simp only [Act.put, ls, lz, ln, i64_w, i32_w]
    rfl
   refine one_ (i := 5) (N := some 7) (bl 7 63) rfl rfl (by kernel_rfl) (by decide) (fun K hK => ?_)
   refine box_step ?hg (N := 7) ?hd (cs := #[.int .i64 0, .slice none 0 0, .slice none 0 0]) (t := 37) ?hr ?_; (case hd => rfl); (case hg => rfl); (case hr => first | (go_simp; done) | (go_simp; rfl))
   intro gb1343 hg w17 hbox hb
   replace HO1342 := xR HO1342 hb
   have BK1343 := zA (hbox)
   have GW1343 := gq HB hg
   have GE1343 := gq HB hg
   replace HB := xH HB hb
   have NB1335_1343 := zA ((by rw [hg]; exact neL BK1335 : gb1335 ≠ gb1343))
   have NB1343_1335 := zA ((by rw [hg]; exact neG BK1335 : gb1343 ≠ gb1335))
   replace BK1335 := xB BK1335 hb
   have NB1336_1343 := zA ((by rw [hg]; exact neL BK1336 : gb1336 ≠ gb1343))
   have NB1343_1336 := zA ((by rw [hg]; exact neG BK1336 : gb1343 ≠ gb1336))
   replace BK1336 := xB BK1336 hb
   have NB1337_1343 := zA ((by rw [hg]; exact neL BK1337 : gb1337 ≠ gb1343))
   have NB1343_1337 := zA ((by rw [hg]; exact neG BK1337 : gb1343 ≠ gb1337))
   replace BK1337 := xB BK1337 hb
   have := geI GE1343
   clear hb hbox hg
   refine hK.out _ _ ⟨bcu BK1335 0, bcu BK1335 1, bcu BK1336 0⟩ (fun hHeld => ?_)
   clear hK K
   refine no_ 7 ?_
   exact norm_ (by simp only [putAll, Act.put, ls, lz, ln]) (hCont (.slice Ao16 t1340.length co16, gb1343) _ ⟨hHeld, (uR HO1342.out), (uB BK1335.out), (uB BK1336.out), (uB BK1337.out), (uB BK1343.out), GW1343.out, GE1343.out, NB1335_1343.out, NB1343_1335.out, NB1336_1343.out, NB1343_1336.out, NB1337_1343.out, NB1343_1337.out, (uH HB.out)⟩)
  ·skip
   refine box_step ?hg (N := 7) ?hd (cs := #[.int .i64 0, .slice none 0 0, .slice none 0 0]) (t := 37) ?hr ?_; (case hd => rfl); (case hg => rfl); (case hr => first | (go_simp; done) | (go_simp; rfl))
   intro gb1343 hg w15 hbox hb
   have BK1343 := zA (hbox)
   have GW1343 := gq HB hg
   have GE1343 := gq HB hg
   replace HB := xH HB hb
   have NB1335_1343 := zA ((by rw [hg]; exact neL BK1335 : gb1335 ≠ gb1343))
   have NB1343_1335 := zA ((by rw [hg]; exact neG BK1335 : gb1343 ≠ gb1335))
   replace BK1335 := xB BK1335 hb
   have NB1336_1343 := zA ((by rw [hg]; exact neL BK1336 : gb1336 ≠ gb1343))
   have NB1343_1336 := zA ((by rw [hg]; exact neG BK1336 : gb1343 ≠ gb1336))
   replace BK1336 := xB BK1336 hb
   have NB1337_1343 := zA ((by rw [hg]; exact neL BK1337 : gb1337 ≠ gb1343))
   have NB1343_1337 := zA ((by rw [hg]; exact neG BK1337 : gb1343 ≠ gb1337))
   replace BK1337 := xB BK1337 hb
   have := geI GE1343
   clear hb hbox hg
   refine hK.out _ _ ⟨bcu BK1335 0, bcu BK1335 1, bcu BK1336 0⟩ (fun hHeld => ?_)
   clear hK K
   refine no_ 7 ?_
   refine one_ (i := 3) (N := some 19) (bl 7 47) rfl rfl (by kernel_rfl) (by decide) (fun K hK => ?_)
   refine gS Try.func73 #[.slice A1 l1.length c1] ?_
   with_reducible refine (slices_Clone_ints.calls _ _ l1 t1340 _ ?side1 ?side2 A6.out).mono ?_
   (case side1 => exact uC ((Kd.C_below HR1.out HB.out)))
   (case side2 => exact HC1.out)
   rintro e w16 ⟨v1341, rfl, ho0, hb⟩
   refine ⟨_, rfl, ?_⟩
   have HO1342 := zA (Kd.R_lower ho0 (below_size (uH HB.out)))
   replace BK1335 := xB BK1335 hb
   replace BK1336 := xB BK1336 hb
   replace BK1337 := xB BK1337 hb
   replace BK1343 := xB BK1343 hb
   replace HB := xH HB hb
   (try clear hb); (try clear hb2); (try clear hk); (try clear hi); (try clear ho0)
   obtain ⟨Ao17, co17, eo17⟩ := Kd.R_slice HO1342.out
   (first | subst eo17 | (injection eo17 with f1_ f2_ f3_; have f4_ := f1_.symm; have f5_ := f3_.symm; clear f1_ f2_ f3_; subst f4_; subst f5_))
   refine hK.out _ _ ⟨bcu BK1335 0, bcu BK1335 1, bcu BK1336 0⟩ (fun hHeld => ?_)
   clear hK K
   refine no_ 19 ?_
   refine pure_ (i := 4) (N := some 20) (v := ?_) (a' := ?_) (bl 7 63) rfl rfl (by kernel_rfl) (fun _ _ _ h => h) (Or.inl ⟨by rfl, ?_⟩) ?_ ?_
   rotate_left
   ·intro w'
    go_simp
    with_reducible rfl
   rotate_left
   ·simp only [Act.put, ls, lz, ln, i64_w, i32_w]
    rfl
   exact norm_ (by simp only [putAll, Act.put, ls, lz, ln]) (hCont (.slice Ao17 t1340.length co17, gb1343) _ ⟨hHeld, (uR HO1342.out), (uB BK1335.out), (uB BK1336.out), (uB BK1337.out), (uB BK1343.out), GW1343.out, GE1343.out, NB1335_1343.out, NB1343_1335.out, NB1336_1343.out, NB1343_1336.out, NB1337_1343.out, NB1343_1337.out, (uH HB.out)⟩)
 rintro ⟨v1341, gb1343⟩ w18 ⟨hS_, h0_, h1_, h2_, h3_, h4_, h5_, h6_, h7_, h8_, h9_, h10_, h11_, h12_, h13_⟩
 have n0_ : Aside0 (Kd.R (Kd.int .i64) 2 w18 w.heap.size (fun _ => True) v1341 t1340) := ⟨h0_⟩
 have n1_ : Aside0 (w18.heap[gb1335]? = some (.cells #[.int .i64 a0_0, .slice A0_1 l0_1.length c0_1] 40 (0, 0))) := ⟨h1_⟩
 have n2_ : Aside0 (w18.heap[gb1336]? = some (.cells #[.slice A1 l1.length c1] 22 (0, 0))) := ⟨h2_⟩
 have n3_ : Aside0 (w18.heap[gb1337]? = some (.cells #[.int .i64 0, .slice none 0 0, .slice none 0 0] 37 (0, 0))) := ⟨h3_⟩
 have n4_ : Aside0 (w18.heap[gb1343]? = some (.cells #[.int .i64 0, .slice none 0 0, .slice none 0 0] 37 (0, 0))) := ⟨h4_⟩
 have n5_ : Aside0 (w.heap.size ≤ gb1343) := ⟨h5_⟩
 have n6_ : Aside0 (w.heap.size ≤ gb1343) := ⟨h6_⟩
 have n7_ : Aside0 (gb1335 ≠ gb1343) := ⟨h7_⟩
 have n8_ : Aside0 (gb1343 ≠ gb1335) := ⟨h8_⟩
 have n9_ : Aside0 (gb1336 ≠ gb1343) := ⟨h9_⟩
 have n10_ : Aside0 (gb1343 ≠ gb1336) := ⟨h10_⟩
 have n11_ : Aside0 (gb1337 ≠ gb1343) := ⟨h11_⟩
 have n12_ : Aside0 (gb1343 ≠ gb1337) := ⟨h12_⟩
 have n13_ : Aside0 (Below w.heap.size w w18) := ⟨h13_⟩
 clear BK1335 BK1336 BK1337 HB
 clear h0_ h1_ h2_ h3_ h4_ h5_ h6_ h7_ h8_ h9_ h10_ h11_ h12_ h13_
 have HO1342 := n0_
 have BK1335 := n1_
 have BK1336 := n2_
 have BK1337 := n3_
 have BK1343 := n4_
 have GW1343 := n5_
 have GE1343 := n6_
 have := geI GE1343
 have NB1335_1343 := n7_
 have NB1343_1335 := n8_
 have NB1336_1343 := n9_
 have NB1343_1336 := n10_
 have NB1337_1343 := n11_
 have NB1343_1337 := n12_
 have HB := n13_
 clear n0_ n1_ n2_ n3_ n4_ n5_ n6_ n7_ n8_ n9_ n10_ n11_ n12_ n13_
 have hHeld : w18.cell? ⟨gb1335, 0, none⟩ = some (.int .i64 a0_0) ∧ w18.cell? ⟨gb1335, 1, none⟩ = some (.slice A0_1 l0_1.length c0_1) ∧ w18.cell? ⟨gb1336, 0, none⟩ = some (.slice A1 l1.length c1) := hS_
 obtain ⟨Ao19, co19, eo19⟩ := Kd.R_slice HO1342.out
 (first | subst eo19 | (injection eo19 with f1_ f2_ f3_; have f4_ := f1_.symm; have f5_ := f3_.symm; clear f1_ f2_ f3_; subst f4_; subst f5_))
 refine norm_ (a' := ?_) ?_ ?_
 rotate_left
 ·simp only [putAll, Act.put, ls, lz, ln]
  rfl
 refine one_ (i := 6) (N := none) (bl 7 127) rfl rfl (by kernel_rfl) (by decide) (fun K hK => ?_)
 have hs20 : w18.cell? ⟨gb1343, 0, none⟩ = some (.int .i64 0) := (blk_cell BK1343.out 0).trans rfl
 have hfs20 := bf BK1343 0
 have hns20_0 := NB1335_1343.out; have hns20_1 := NB1336_1343.out; have hns20_2 := NB1337_1343.out; have hms20_0 := NB1343_1335.out; have hms20_1 := NB1343_1336.out; have hms20_2 := NB1343_1337.out
 have hs21 : w18.cell? ⟨gb1343, 1, none⟩ = some (.slice none 0 0) := (blk_cell BK1343.out 1).trans rfl
 have hfs21 := bf BK1343 1
 have hns21_0 := NB1335_1343.out; have hns21_1 := NB1336_1343.out; have hns21_2 := NB1337_1343.out; have hms21_0 := NB1343_1335.out; have hms21_1 := NB1343_1336.out; have hms21_2 := NB1343_1337.out
 have hs22 : w18.cell? ⟨gb1343, 2, none⟩ = some (.slice none 0 0) := (blk_cell BK1343.out 2).trans rfl
 have hfs22 := bf BK1343 2
 have hns22_0 := NB1335_1343.out; have hns22_1 := NB1336_1343.out; have hns22_2 := NB1337_1343.out; have hms22_0 := NB1343_1335.out; have hms22_1 := NB1343_1336.out; have hms22_2 := NB1343_1337.out
 refine skip_ (w1 := ?_) (by rfl) rfl ?_ ?_
 rotate_left
 ·go_simp
  rfl
 refine hK.out _ _ ⟨((cell_far (p := ⟨gb1343, _, none⟩) NB1335_1343.out _).trans (((cell_far (p := ⟨gb1343, _, none⟩) NB1335_1343.out _).trans (((cell_far (p := ⟨gb1343, _, none⟩) NB1335_1343.out _).trans (hHeld.1)))))), ((cell_far (p := ⟨gb1343, _, none⟩) NB1335_1343.out _).trans (((cell_far (p := ⟨gb1343, _, none⟩) NB1335_1343.out _).trans (((cell_far (p := ⟨gb1343, _, none⟩) NB1335_1343.out _).trans (hHeld.2.1)))))), ((cell_far (p := ⟨gb1343, _, none⟩) NB1336_1343.out _).trans (((cell_far (p := ⟨gb1343, _, none⟩) NB1336_1343.out _).trans (((cell_far (p := ⟨gb1343, _, none⟩) NB1336_1343.out _).trans (hHeld.2.2))))))⟩ (fun hHeld => ?_)
 clear hK K
 refine done_ (by kernel_rfl) ?_
 have hnb23 := NB1336_1337.out; have hnc23 := NB1337_1336.out; have hnb24 := NB1336_1343.out; have hnc24 := NB1343_1336.out
 have hcz25_0 := bc BK1336 0
 have hfz25_0 := bf BK1336 0
 try go_wp2
 go_loopg [23] k (fun kq v23 w' => ∃ (x23_1 : Int) (x1344002_1 : List Int) (u1344002 : Value), v23 = .int .i64 x23_1 ∧ Aside0 (impl_WeightsFor.l0 kq (l1.length : Int) x23_1 a0_0 l0_1 l1 a0_0 t1340 x1344002_1 = some (r1, r2, r3, r4)) ∧ Aside0 (kq ≤ k) ∧ Aside0 (Kd.R (Kd.int .i64) 2 w' w.heap.size (fun k_ => some k_ ≠ (u1344002 : Value).ownBlock) (.slice Ao19 t1340.length co19) t1340) ∧ Aside0 (Kd.R (Kd.int .i64) 2 w' w.heap.size (fun k_ => ax k_ (.slice Ao19 t1340.length co19)) u1344002 x1344002_1) ∧ Aside0 (w'.heap[gb1335]? = some (.cells #[.int .i64 a0_0, (.slice A0_1 l0_1.length c0_1)] 40 (0, 0))) ∧ Aside0 (w'.heap[gb1336]? = some (.cells #[(.slice A1 l1.length c1)] 22 (0, 0))) ∧ Aside0 (w'.heap[gb1337]? = some (.cells #[.int .i64 0, (.slice none 0 0), (.slice none 0 0)] 37 (0, 0))) ∧ Aside0 (w'.heap[gb1343]? = some (.cells #[.int .i64 a0_0, (.slice Ao19 t1340.length co19), u1344002] 37 (0, 0))) ∧ Aside0 (Below w.heap.size w w'))
 case atStart => exact ⟨(0), (([] : List Int)), (.slice none 0 0), (by first | rfl | (simp; done) | (simp [*]; done)), H', ⟨Nat.le_refl _⟩, ⟨uR (Kd.R_mono (Kd.R_far (p := ⟨gb1343, 2, none⟩) (Kd.R_far (p := ⟨gb1343, 1, none⟩) (Kd.R_far (p := ⟨gb1343, 0, none⟩) (Kd.R_types HO1342.out BK1343.out (by decide)) (fun _ hk => hk.2) (.int .i64 a0_0)) (fun _ hk => hk.2) (.slice Ao19 t1340.length co19)) (fun _ hk => hk.2) (.slice none 0 0)) (fun _ hk => (by simp [Value.ownBlock])))⟩, ⟨by first | exact Kd.R_nil _ _ _ _ _ | exact Kd.N_nil _ _ _ _ _ | exact Kd.V_nil _ _ _ _ _ | exact Kd.Q_nil _ _ _ _ _ | exact Kd.S_nil _ _ _ _ _⟩, ⟨by (repeat refine up1 ?_); refine blk_far ?_ NB1335_1343.out _; (repeat refine up1 ?_); refine blk_far ?_ NB1335_1343.out _; (repeat refine up1 ?_); refine blk_far ?_ NB1335_1343.out _; (repeat refine up1 ?_); exact BK1335.out⟩, ⟨by (repeat refine up1 ?_); refine blk_far ?_ NB1336_1343.out _; (repeat refine up1 ?_); refine blk_far ?_ NB1336_1343.out _; (repeat refine up1 ?_); refine blk_far ?_ NB1336_1343.out _; (repeat refine up1 ?_); exact BK1336.out⟩, ⟨by (repeat refine up1 ?_); refine blk_far ?_ NB1337_1343.out _; (repeat refine up1 ?_); refine blk_far ?_ NB1337_1343.out _; (repeat refine up1 ?_); refine blk_far ?_ NB1337_1343.out _; (repeat refine up1 ?_); exact BK1337.out⟩, ⟨by (repeat refine up1 ?_); refine blk_put (cs := #[.int .i64 a0_0, .slice Ao19 t1340.length co19, .slice none 0 0]) ?_ 2 _ rfl; (repeat refine up1 ?_); refine blk_put (cs := #[.int .i64 a0_0, .slice none 0 0, .slice none 0 0]) ?_ 1 _ rfl; (repeat refine up1 ?_); refine blk_put (cs := #[.int .i64 0, .slice none 0 0, .slice none 0 0]) ?_ 0 _ rfl; (repeat refine up1 ?_); exact BK1343.out⟩, ⟨uH HB.out⟩⟩
 case round =>
  clear H'
  (try clear c1);(try clear c2);(try clear p2);(try clear c5);(try clear c5b0);(try clear c5b1);(try clear c6);(try clear c7);(try clear c10);(try clear c11);(try clear c23);(try clear c24);(try clear hcz12_0);(try clear hcz12_1);(try clear hcz25_0);(try clear hfz12_0);(try clear hfz12_1);(try clear hfz25_0)
  obtain ⟨x23_1, x1344002_1, u1344002, rfl, HA, HK1, HO_1344001, HO_1344002, BK1335, BK1336, BK1337, BK1343, HB⟩ := hrel
  cases gk with
  | zero => exact absurd HA.out (by simp [impl_WeightsFor.l0])
  | succ k1 =>
   have H := HA.out
   clear HA
   simp only [impl_WeightsFor.l0] at H
   by_cases c26 : x23_1 < (l1.length : Int)
   rotate_left
   ·rw [if_neg c26] at H
    have c26b0 : decide (x23_1 < (l1.length : Int)) = false := decide_eq_false c26
    clear c26
    simp only [Option.some.injEq, Prod.mk.injEq] at H
    obtain ⟨rfl, rfl, rfl, rfl⟩ := H
    have hnb39 := NB1343_1335.out; have hnc39 := NB1335_1343.out; have hnb40 := NB1343_1336.out; have hnc40 := NB1336_1343.out; have hnb41 := NB1343_1337.out; have hnc41 := NB1337_1343.out
    have hcz42_0 := bc BK1343 0
    have hcz42_1 := bc BK1343 1
    have hcz42_2 := bc BK1343 2
    have hfz42_0 := bf BK1343 0
    have hfz42_1 := bf BK1343 1
    have hfz42_2 := bf BK1343 2
    have hnb43 := NB1337_1335.out; have hnc43 := NB1335_1337.out; have hnb44 := NB1337_1336.out; have hnc44 := NB1336_1337.out
    have hcz45_0 := bc BK1337 0
    have hcz45_1 := bc BK1337 1
    have hcz45_2 := bc BK1337 2
    have hfz45_0 := bf BK1337 0
    have hfz45_1 := bf BK1337 1
    have hfz45_2 := bf BK1337 2
    obtain ⟨Ao46, co46, eo46⟩ := Kd.R_slice HO_1344002.out
    subst eo46
    go_wp2
    refine bodyPost_ret (results_ct rfl _ _ gb1337 37 #[.int .i64 a0_0, .slice Ao19 t1340.length co19, .slice Ao46 x1344002_1.length co46] (0, 0) _ rfl (by (repeat refine up1 ?_); refine blk_put (cs := #[.int .i64 a0_0, .slice Ao19 t1340.length co19, .slice none 0 0]) ?_ 2 _ rfl; (repeat refine up1 ?_); refine blk_put (cs := #[.int .i64 a0_0, .slice none 0 0, .slice none 0 0]) ?_ 1 _ rfl; (repeat refine up1 ?_); refine blk_put (cs := #[.int .i64 0, .slice none 0 0, .slice none 0 0]) ?_ 0 _ rfl; (repeat refine up1 ?_); exact BK1337.out) Try.underlying37 rfl (by kernel_rfl)) rfl ?_
    exact ⟨_, _, by first | rfl | (simp [errW_none, errW_some] <;> rfl) | (simp [*, errW_none, errW_some] <;> rfl), uR (rf3 HO_1344001 BK1337 (by decide) (.int .i64 a0_0) (.slice Ao19 t1340.length co19) (.slice Ao46 x1344002_1.length co46)), uR (rf3 HO_1344002 BK1337 (by decide) (.int .i64 a0_0) (.slice Ao19 t1340.length co19) (.slice Ao46 x1344002_1.length co46)), uH HB.out⟩
   rw [if_pos c26] at H
   have c26b0 : decide (x23_1 < (l1.length : Int)) = true := decide_eq_true c26
   clear c26
   replace H := Option.bind_eq_some_iff.mp H
   obtain ⟨t1344, A270, H⟩ := H
   replace H : ((impl_field_basis.f k1 t1344 l1 x23_1).bind fun t1345 => ((impl_Moments_apply.f k1 a0_0 l0_1 t1345).bind fun t1348 => (if x1344002_1.length < 17592186044416 then (impl_WeightsFor.l0 k1 (l1.length : Int) (wrap64 (x23_1 + 1)) a0_0 l0_1 l1 a0_0 t1340 (x1344002_1 ++ [t1348])) else (none)))) = some (r1, r2, r3, r4) := H
   have A27 := zA A270
   clear A270
   replace H := Option.bind_eq_some_iff.mp H
   obtain ⟨t1345, A280, H⟩ := H
   replace H : ((impl_Moments_apply.f k1 a0_0 l0_1 t1345).bind fun t1348 => (if x1344002_1.length < 17592186044416 then (impl_WeightsFor.l0 k1 (l1.length : Int) (wrap64 (x23_1 + 1)) a0_0 l0_1 l1 a0_0 t1340 (x1344002_1 ++ [t1348])) else (none))) = some (r1, r2, r3, r4) := H
   have A28 := zA A280
   clear A280
   replace H := Option.bind_eq_some_iff.mp H
   obtain ⟨t1348, A290, H⟩ := H
   replace H : (if x1344002_1.length < 17592186044416 then (impl_WeightsFor.l0 k1 (l1.length : Int) (wrap64 (x23_1 + 1)) a0_0 l0_1 l1 a0_0 t1340 (x1344002_1 ++ [t1348])) else (none)) = some (r1, r2, r3, r4) := H
   have A29 := zA A290
   clear A290
   by_cases c30 : x1344002_1.length < 17592186044416
   rotate_left
   ·rw [if_neg c30] at H
    exact absurd H (by simp)
   rw [if_pos c30] at H
   have LMc30 := zA c30
   clear c30
   obtain ⟨y1349, hy1349⟩ : ∃ y_ : List Int, y_ = (x1344002_1 ++ [t1348]) := ⟨_, rfl⟩
   replace H : (impl_WeightsFor.l0 k1 (l1.length : Int) (wrap64 (x23_1 + 1)) a0_0 l0_1 l1 a0_0 t1340 y1349) = some (r1, r2, r3, r4) := by first | (rw [hy1349]; exact H) | exact H
   have Ny1349 := zA hy1349
   clear hy1349
   have H' := zA H
   clear H
   try go_wp2
   replace HO_1344001 := zA (Kd.R_drew HO_1344001.out)
   replace HO_1344002 := zA (Kd.R_drew HO_1344002.out)
   replace BK1335 := zA (blk_drew BK1335.out)
   replace BK1336 := zA (blk_drew BK1336.out)
   replace BK1337 := zA (blk_drew BK1337.out)
   replace BK1343 := zA (blk_drew BK1343.out)
   replace HB := zA (below_drew1 HB.out)
   refine start_ (n := 13) (S := fun w' => w'.cell? ⟨gb1343, 0, none⟩ = some (.int .i64 a0_0) ∧ w'.cell? ⟨gb1343, 1, none⟩ = some (.slice Ao19 t1340.length co19) ∧ w'.cell? ⟨gb1343, 2, none⟩ = some (u1344002) ∧ w'.cell? ⟨gb1335, 0, none⟩ = some (.int .i64 a0_0) ∧ w'.cell? ⟨gb1335, 1, none⟩ = some (.slice A0_1 l0_1.length c0_1) ∧ w'.cell? ⟨gb1336, 0, none⟩ = some (.slice A1 l1.length c1)) (ds := [12]) #[false, false, false, false, false, false, false, false, false, false, false, false, false] (by kernel_rfl) rfl rfl ⟨bcu BK1343 0, bcu BK1343 1, bcu BK1343 2, bcu BK1335 0, bcu BK1335 1, bcu BK1336 0⟩ (fun hHeld => ?_); refine with_tabW impl_WeightsFor.tab8 impl_WeightsFor.bits8 (fun HT_ HW_ => ?_)
   generalize wr.drew = w31 at HO_1344001 HO_1344002 BK1335 BK1336 BK1337 BK1343 HB hHeld ⊢
   refine pu_ 0 26 (bl 13 1) HT_ ?_
   refine pu_ 6 32 (bl 13 65) HT_ ?_
   refine ta_ 1 27 (bl 13 67) HT_ HW_ hHeld ?_
   refine ta_ 2 28 (bl 13 71) HT_ HW_ hHeld ?_
   refine ta_ 3 29 (bl 13 79) HT_ HW_ hHeld ?_
   refine ta_ 5 31 (bl 13 111) HT_ HW_ hHeld ?_
   refine on_ 4 (some 30) (bl 13 127) HT_ (fun K hK => ?_)
   refine gS Try.func75 #[.agg #[.int .i64 a0_0, .slice A0_1 l0_1.length c0_1]] ?_
   with_reducible refine (impl_Moments_field.calls a0_0 _ _ l0_1 t1344 _ ?side1 ?side2 A27.out).mono ?_
   (case side1 => exact uC ((Kd.C_below HR0_1.out HB.out)))
   (case side2 => exact HC0_1.out)
   rintro e w32 ⟨rfl, hb⟩
   refine ⟨_, rfl, ?_⟩
   replace HO_1344001 := xR HO_1344001 hb
   replace HO_1344002 := xR HO_1344002 hb
   replace BK1335 := xB BK1335 hb
   replace BK1336 := xB BK1336 hb
   replace BK1337 := xB BK1337 hb
   replace BK1343 := xB BK1343 hb
   replace HB := xH HB hb
   (try clear hb); (try clear hb2); (try clear hk); (try clear hi)
   refine hK.out _ _ ⟨bcu BK1343 0, bcu BK1343 1, bcu BK1343 2, bcu BK1335 0, bcu BK1335 1, bcu BK1336 0⟩ (fun hHeld => ?_)
   clear hK K
   refine no_ 30 ?_
   refine on_ 7 (some 33) (bl 13 255) HT_ (fun K hK => ?_)
   refine gS Try.func76 #[.int .i64 t1344, .slice A1 l1.length c1, .int .i64 x23_1] ?_
   with_reducible refine (impl_field_basis.calls k1 t1344 _ _ l1 x23_1 t1345 _ ?side1 ?side2 A28.out).mono ?_
   (case side1 => exact uC ((Kd.C_below HR1.out HB.out)))
   (case side2 => exact HC1.out)
   rintro e w33 ⟨v1346, rfl, ho0, hb⟩
   refine ⟨_, rfl, ?_⟩
   have HO1347 := zA (Kd.R_lower (Kd.R_new' (Kd.R_new' ho0 (Kd.R_lt (uR HO_1344001.out))) (Kd.R_lt (uR HO_1344002.out))) (below_size (uH HB.out)))
   replace HO_1344001 := zA (Kd.R_elder' (uR HO_1344001.out) (Kd.R_base ho0) hb)
   replace HO_1344002 := zA (Kd.R_elder' (uR HO_1344002.out) (Kd.R_base ho0) hb)
   replace BK1335 := xB BK1335 hb
   replace BK1336 := xB BK1336 hb
   replace BK1337 := xB BK1337 hb
   replace BK1343 := xB BK1343 hb
   replace HB := xH HB hb
   (try clear hb); (try clear hb2); (try clear hk); (try clear hi); (try clear ho0)
   obtain ⟨Ao34, co34, eo34⟩ := Kd.R_slice HO1347.out
   (first | subst eo34 | (injection eo34 with f1_ f2_ f3_; have f4_ := f1_.symm; have f5_ := f3_.symm; clear f1_ f2_ f3_; subst f4_; subst f5_))
   refine hK.out _ _ ⟨bcu BK1343 0, bcu BK1343 1, bcu BK1343 2, bcu BK1335 0, bcu BK1335 1, bcu BK1336 0⟩ (fun hHeld => ?_)
   clear hK K
   refine no_ 33 ?_
   refine on_ 8 (some 34) (bl 13 511) HT_ (fun K hK => ?_)
   refine gS Try.func74 #[.agg #[.int .i64 a0_0, .slice A0_1 l0_1.length c0_1], .slice Ao34 t1345.length co34] ?_
   with_reducible refine (impl_Moments_apply.calls k1 a0_0 _ _ l0_1 _ _ t1345 t1348 _ ?side1 ?side2 ?side3 ?side4 A29.out).mono ?_
   (case side1 => exact uC ((Kd.C_below HR0_1.out HB.out)))
   (case side2 => exact HC0_1.out)
   (case side3 => exact uC ((Kd.R_reads' HO1347.out).2.2))
   (case side4 => exact (Kd.R_reads' HO1347.out).2.1)
   rintro e w35 ⟨rfl, hb⟩
   refine ⟨_, rfl, ?_⟩
   replace HO_1344001 := xR HO_1344001 hb
   replace HO_1344002 := xR HO_1344002 hb
   replace HO1347 := xR HO1347 hb
   replace BK1335 := xB BK1335 hb
   replace BK1336 := xB BK1336 hb
   replace BK1337 := xB BK1337 hb
   replace BK1343 := xB BK1343 hb
   replace HB := xH HB hb
   (try clear hb); (try clear hb2); (try clear hk); (try clear hi)
   refine hK.out _ _ ⟨bcu BK1343 0, bcu BK1343 1, bcu BK1343 2, bcu BK1335 0, bcu BK1335 1, bcu BK1336 0⟩ (fun hHeld => ?_)
   clear hK K
   refine no_ 34 ?_
   refine on_ 9 (some 35) (bl 13 1023) HT_ (fun K hK => ?_)
   refine value_ (w1 := ?_) (v := ?_) (by rfl) rfl ?_ ?_
   rotate_left 2
   ·go_simp
    constructor
    ·rfl
    ·rfl
   refine hK.out _ _ ⟨(blk_cell (blk_alloc BK1343.out _) 0).trans rfl, (blk_cell (blk_alloc BK1343.out _) 1).trans rfl, (blk_cell (blk_alloc BK1343.out _) 2).trans rfl, (blk_cell (blk_alloc BK1335.out _) 0).trans rfl, (blk_cell (blk_alloc BK1335.out _) 1).trans rfl, (blk_cell (blk_alloc BK1336.out _) 0).trans rfl⟩ (fun hHeld => ?_)
   clear hK K
   refine no_ 35 ?_
   refine on_ 10 (some 36) (bl 13 2047) HT_ (fun K hK => ?_)
   refine Kd.R_append_step (Kd.int .i64) (w0 := w) w.heap.size (by rfl) (.tmp 27) (.tmp 35) 22 2 (.int .i64 0) 8 rfl Try.underlying22 info2 rfl (by decide) (by omega) u1344002 x1344002_1 t1348 [.int .i64 t1348] (fun k_ => ax k_ (.slice Ao19 t1340.length co19) ∧ ax k_ (.slice Ao34 t1345.length co34)) (fun _ => False) rfl rfl ?aP (fun _ hk => hk.elim) ?aF ?aO ?aB ?aS ?aL ?_
   (case aP => exact rfl)
   (case aB => exact (uH HB.out))
   (case aF => exact (fun k_ hk => ⟨Kd.fresh' (Kd.R_lt (uR HO_1344001.out)) k_ hk, Kd.fresh' (Kd.R_lt (uR HO1347.out)) k_ hk⟩))
   (case aO => exact (uR HO_1344002.out))
   (case aS => exact (below_size (uH HB.out)))
   (case aL => have := LMc30.out; omega)
   intro v1350 w36 ho hb hg hat
   rw [← Ny1349.out] at ho
   replace HO_1344001 := zA (Kd.R_after (ok := (fun k_ => ax k_ (.slice Ao34 t1345.length co34))) (uR (Kd.R_mono HO_1344001.out (fun _ hk => ⟨hk.2, hk.1⟩))) hg hat)
   replace BK1335 := zA (blk_grown (g := gb1335) (o := .cells #[.int .i64 a0_0, .slice A0_1 l0_1.length c0_1] 40 (0, 0)) (uB BK1335.out) hg (Kd.R_ne HO_1344002.out BK1335.out (by decide)))
   replace BK1336 := zA (blk_grown (g := gb1336) (o := .cells #[.slice A1 l1.length c1] 22 (0, 0)) (uB BK1336.out) hg (Kd.R_ne HO_1344002.out BK1336.out (by decide)))
   replace BK1337 := zA (blk_grown (g := gb1337) (o := .cells #[.int .i64 0, .slice none 0 0, .slice none 0 0] 37 (0, 0)) (uB BK1337.out) hg (Kd.R_ne HO_1344002.out BK1337.out (by decide)))
   replace BK1343 := zA (blk_grown (g := gb1343) (o := .cells #[.int .i64 a0_0, .slice Ao19 t1340.length co19, u1344002] 37 (0, 0)) (uB BK1343.out) hg (Kd.R_ne HO_1344002.out BK1343.out (by decide)))
   replace HO1347 := zA (Kd.R_after (ok := (fun k_ => ax k_ (.slice Ao19 t1340.length co19))) (uR (Kd.R_mono HO1347.out (fun _ hk => ⟨hk.1.2, hk.2⟩))) hg hat)
   replace HB := zA (hb)
   have HO1351 := zA (ho)
   clear HO_1344002
   clear ho hb hg hat
   obtain ⟨Ao37, co37, eo37⟩ := Kd.R_slice HO1351.out
   (first | subst eo37 | (injection eo37 with f1_ f2_ f3_; have f4_ := f1_.symm; have f5_ := f3_.symm; clear f1_ f2_ f3_; subst f4_; subst f5_))
   refine hK.out _ _ ⟨bcu BK1343 0, bcu BK1343 1, bcu BK1343 2, bcu BK1335 0, bcu BK1335 1, bcu BK1336 0⟩ (fun hHeld => ?_)
   clear hK K
   refine no_ 36 ?_
   refine pu_ 11 37 (bl 13 4095) HT_ ?_
   refine last_ (i := 12) (N := none) (bl 13 8191) rfl rfl (one_of HT_.out (by kernel_rfl)) (by decide) (fun K hK => ?_)
   have hs38 : w36.cell? ⟨gb1343, 2, none⟩ = some (u1344002) := (blk_cell BK1343.out 2).trans rfl
   have hfs38 := bf BK1343 2
   have hns38_0 := NB1335_1343.out; have hns38_1 := NB1336_1343.out; have hns38_2 := NB1337_1343.out; have hms38_0 := NB1343_1335.out; have hms38_1 := NB1343_1336.out; have hms38_2 := NB1343_1337.out
   refine skip_ (w1 := ?_) (by rfl) rfl ?_ ?_
   rotate_left
   ·go_simp
    rfl
   refine hK.out _ _ ?_
   clear hK K
   refine done_ (done_of HT_.out (by kernel_rfl)) ?_
   try go_wp2
   go_roundg k1
   case measure => have := HK1.out; omega
   case rel => exact ⟨(wrap64 (x23_1 + 1)), (y1349), (.slice Ao37 y1349.length co37), (by first | rfl | (simp; done) | (simp [*]; done)), H', ⟨by have := HK1.out; omega⟩, ⟨uR (Kd.R_mono (Kd.R_far (p := ⟨gb1343, 2, none⟩) (Kd.R_types HO_1344001.out BK1343.out (by decide)) (fun _ hk => hk.2) (.slice Ao37 y1349.length co37)) (fun _ hk => hk.1.2))⟩, ⟨uR (Kd.R_mono (Kd.R_far (p := ⟨gb1343, 2, none⟩) (Kd.R_types HO1351.out BK1343.out (by decide)) (fun _ hk => hk.2) (.slice Ao37 y1349.length co37)) (fun _ hk => hk.1.1))⟩, ⟨by (repeat refine up1 ?_); refine blk_far ?_ NB1335_1343.out _; (repeat refine up1 ?_); exact BK1335.out⟩, ⟨by (repeat refine up1 ?_); refine blk_far ?_ NB1336_1343.out _; (repeat refine up1 ?_); exact BK1336.out⟩, ⟨by (repeat refine up1 ?_); refine blk_far ?_ NB1337_1343.out _; (repeat refine up1 ?_); exact BK1337.out⟩, ⟨by (repeat refine up1 ?_); refine blk_put (cs := #[.int .i64 a0_0, .slice Ao19 t1340.length co19, u1344002]) ?_ 2 _ rfl; (repeat refine up1 ?_); exact BK1343.out⟩, ⟨uH HB.out⟩⟩
end Go.Proofs.Ytfbnkebgdmfcfaa.Pr
