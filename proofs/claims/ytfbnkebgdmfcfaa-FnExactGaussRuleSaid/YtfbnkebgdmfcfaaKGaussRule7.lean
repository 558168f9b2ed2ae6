/- Texts of this session in one: what functions of the program compute, and plain facts of it, under the conditions that each theorem names. -/
import Derived.Test.YtfbnkebgdmfcfaaKGaussRule1
import Derived.Test.YtfbnkebgdmfcfaaKGaussRule3
import Derived.Test.YtfbnkebgdmfcfaaKGaussRule4
import Derived.Test.YtfbnkebgdmfcfaaKGaussRule5
import Derived.Test.YtfbnkebgdmfcfaaKGaussRule6
namespace Go.Proofs.Ytfbnkebgdmfcfaa.Pr
open Go.RowKit Go.Proofs.YtfbnkebgdmfcfaaW.PrintWords Go.Proofs.YtfbnkebgdmfcfaaW.PrintLast Go.Proofs.YtfbnkebgdmfcfaaW.PrintMore
attribute [local go_sem] max2_int min2_int max_two min_two max_three min_three max_four min_four   -- for this text's walks alone
set_option linter.unusedVariables false
set_option linter.unusedSimpArgs false
/-! ### spec_l07Christoffel: function 78 -/
def spec_l07Christoffel.f (k : Nat) (a0_0 : Int) (l0_1 : List Int) (l0_2 : List Int) (a1 : Int) : Option (Int) := (spec_l03Poly.f k a0_0 l0_1 l0_2 (l0_1.length : Int)).bind fun t1338 => ((spec_l01Derive.f k a0_0 t1338).bind fun t1341 => ((spec_l01At.f k a0_0 t1341 a1).bind fun t1344 => (if 0 < (l0_2.length : Int) then ((spec_l03Second.f k a0_0 l0_1 l0_2 (l0_1.length : Int)).bind fun t1346 => ((spec_l01At.f k a0_0 t1346 a1).bind fun t1349 => (if a0_0 = 0 then (none) else ((spec_l01Inverse.f k a0_0 t1344).bind fun t1350 => (some (Int.tmod (wrap64 ((Int.tmod (wrap64 ((rd l0_2 0) * t1349)) a0_0) * t1350)) a0_0)))))) else (none))))
def spec_l07Christoffel.T3 : Bool × List (List Nat × List Nat) := (true, [([], []), ([0], [0]), ([1], [1]), ([2], [2]), ([], []), ([], []), ([], []), ([5, 6], [5, 6]), ([], []), ([4, 7, 8, 7], [4, 7, 8]), ([3, 9], [3, 9]), ([], []), ([10, 11], [10, 11]), ([], []), ([], []), ([13, 14, 9], [13, 14]), ([12, 15], [12, 15]), ([], []), ([16, 17], [16, 17]), ([18, 15, 0, 1, 2, 3, 4, 5, 6, 7, 8, 9, 10, 11, 12, 13, 14, 15, 16, 17, 18], [18])])
def spec_l07Christoffel.B3 : List Nat := [0, 1, 3, 7, 0, 0, 0, 96, 0, 496, 1023, 0, 4095, 0, 0, 25584, 65535, 0, 262143, 524287]
theorem spec_l07Christoffel.tab3 : rtab .any (opsOf Try.f78 3) = spec_l07Christoffel.T3 := by kernel_rfl
theorem spec_l07Christoffel.bits3 : waitsOk spec_l07Christoffel.T3.2 spec_l07Christoffel.B3 = true := by kernel_rfl
set_option maxHeartbeats 8000000 in
set_option maxRecDepth 100000 in
theorem spec_l07Christoffel.calls (k : Nat) (a0_0 : Int) (A0_1 : Option Addr) (c0_1 : Nat) (l0_1 : List Int) (A0_2 : Option Addr) (c0_2 : Nat) (l0_2 : List Int) (a1 : Int) (r : Int) (w : World) (hr0_1 : Kd.C (Kd.int .i64) w A0_1 l0_1.length l0_1) (hc0_1 : l0_1.length ≤ c0_1) (hr0_2 : Kd.C (Kd.int .i64) w A0_2 l0_2.length l0_2) (hc0_2 : l0_2.length ≤ c0_2) (h : spec_l07Christoffel.f k a0_0 l0_1 l0_2 a1 = some r) :
  Calls Try.prog 78 #[.agg #[.int .i64 a0_0, .slice A0_1 l0_1.length c0_1, .slice A0_2 l0_2.length c0_2], .int .i64 a1] w fun e w' => e = .returned (.int .i64 r) ∧ Below w.heap.size w w' := by
 have hu26 := Try.underlying26
 have HR0_1 := zA hr0_1
 have HC0_1 := zA hc0_1
 clear hr0_1 hc0_1
 have HR0_2 := zA hr0_2
 have HC0_2 := zA hc0_2
 clear hr0_2 hc0_2
 have HB := zA (Below.refl w.heap.size w)
 have H : ((spec_l03Poly.f k a0_0 l0_1 l0_2 (l0_1.length : Int)).bind fun t1338 => ((spec_l01Derive.f k a0_0 t1338).bind fun t1341 => ((spec_l01At.f k a0_0 t1341 a1).bind fun t1344 => (if 0 < (l0_2.length : Int) then ((spec_l03Second.f k a0_0 l0_1 l0_2 (l0_1.length : Int)).bind fun t1346 => ((spec_l01At.f k a0_0 t1346 a1).bind fun t1349 => (if a0_0 = 0 then (none) else ((spec_l01Inverse.f k a0_0 t1344).bind fun t1350 => (some (Int.tmod (wrap64 ((Int.tmod (wrap64 ((rd l0_2 0) * t1349)) a0_0) * t1350)) a0_0)))))) else (none))))) = some r := h
 clear h
 replace H := Option.bind_eq_some_iff.mp H
 obtain ⟨t1338, A30, H⟩ := H
 replace H : ((spec_l01Derive.f k a0_0 t1338).bind fun t1341 => ((spec_l01At.f k a0_0 t1341 a1).bind fun t1344 => (if 0 < (l0_2.length : Int) then ((spec_l03Second.f k a0_0 l0_1 l0_2 (l0_1.length : Int)).bind fun t1346 => ((spec_l01At.f k a0_0 t1346 a1).bind fun t1349 => (if a0_0 = 0 then (none) else ((spec_l01Inverse.f k a0_0 t1344).bind fun t1350 => (some (Int.tmod (wrap64 ((Int.tmod (wrap64 ((rd l0_2 0) * t1349)) a0_0) * t1350)) a0_0)))))) else (none)))) = some r := H
 have A3 := zA A30
 clear A30
 replace H := Option.bind_eq_some_iff.mp H
 obtain ⟨t1341, A40, H⟩ := H
 replace H : ((spec_l01At.f k a0_0 t1341 a1).bind fun t1344 => (if 0 < (l0_2.length : Int) then ((spec_l03Second.f k a0_0 l0_1 l0_2 (l0_1.length : Int)).bind fun t1346 => ((spec_l01At.f k a0_0 t1346 a1).bind fun t1349 => (if a0_0 = 0 then (none) else ((spec_l01Inverse.f k a0_0 t1344).bind fun t1350 => (some (Int.tmod (wrap64 ((Int.tmod (wrap64 ((rd l0_2 0) * t1349)) a0_0) * t1350)) a0_0)))))) else (none))) = some r := H
 have A4 := zA A40
 clear A40
 replace H := Option.bind_eq_some_iff.mp H
 obtain ⟨t1344, A50, H⟩ := H
 replace H : (if 0 < (l0_2.length : Int) then ((spec_l03Second.f k a0_0 l0_1 l0_2 (l0_1.length : Int)).bind fun t1346 => ((spec_l01At.f k a0_0 t1346 a1).bind fun t1349 => (if a0_0 = 0 then (none) else ((spec_l01Inverse.f k a0_0 t1344).bind fun t1350 => (some (Int.tmod (wrap64 ((Int.tmod (wrap64 ((rd l0_2 0) * t1349)) a0_0) * t1350)) a0_0)))))) else (none)) = some r := H
 have A5 := zA A50
 clear A50
 by_cases c6 : 0 < (l0_2.length : Int)
 rotate_left
 ·rw [if_neg c6] at H
  exact absurd H (by simp)

 rw [if_pos c6] at H
 have c6b0 : decide (0 < (l0_2.length : Int)) = true := decide_eq_true c6
 have c6b1 : decide (0 < l0_2.length) = true := decide_eq_true (by omega)
 clear c6
 replace H := Option.bind_eq_some_iff.mp H
 obtain ⟨t1346, A70, H⟩ := H
 replace H : ((spec_l01At.f k a0_0 t1346 a1).bind fun t1349 => (if a0_0 = 0 then (none) else ((spec_l01Inverse.f k a0_0 t1344).bind fun t1350 => (some (Int.tmod (wrap64 ((Int.tmod (wrap64 ((rd l0_2 0) * t1349)) a0_0) * t1350)) a0_0))))) = some r := H
 have A7 := zA A70
 clear A70
 replace H := Option.bind_eq_some_iff.mp H
 obtain ⟨t1349, A80, H⟩ := H
 replace H : (if a0_0 = 0 then (none) else ((spec_l01Inverse.f k a0_0 t1344).bind fun t1350 => (some (Int.tmod (wrap64 ((Int.tmod (wrap64 ((rd l0_2 0) * t1349)) a0_0) * t1350)) a0_0)))) = some r := H
 have A8 := zA A80
 clear A80
 by_cases c9 : a0_0 = 0
 rotate_left
 ·rw [if_neg c9] at H
  have c9b0 : (a0_0 == 0) = false := beq_eq_false_iff_ne.mpr c9
  have c9b1 : (a0_0 != 0) = true := bne_iff_ne.mpr c9
  replace H := Option.bind_eq_some_iff.mp H
  obtain ⟨t1350, A100, H⟩ := H
  replace H : (some (Int.tmod (wrap64 ((Int.tmod (wrap64 ((rd l0_2 0) * t1349)) a0_0) * t1350)) a0_0)) = some r := H
  have A10 := zA A100
  clear A100
  obtain rfl := Option.some.inj H
  go_enter Try.func78, Try.ntmps78
  try go_wp2_with (first | ((with_reducible refine gate_dst (N := 2) rfl ?_); refine bx 2 #[.int .i64 a0_0, .slice A0_1 l0_1.length c0_1, .slice A0_2 l0_2.length c0_2] 26 ?_; intro gb1337 hg w11 hbox hb; have BK1337 := zA (hbox); have GW1337 := gq HB hg; have GE1337 := gq HB hg; replace HB := xH HB hb; have := geI GE1337; clear hb hbox hg))
  replace BK1337 := zA (blk_drew BK1337.out)
  replace HB := zA (below_drew1 HB.out)
  refine start_ (n := 7) (S := fun w' => w'.cell? ⟨gb1337, 0, none⟩ = some (.int .i64 a0_0) ∧ w'.cell? ⟨gb1337, 1, none⟩ = some (.slice A0_1 l0_1.length c0_1) ∧ w'.cell? ⟨gb1337, 2, none⟩ = some (.slice A0_2 l0_2.length c0_2)) (ds := []) #[false, false, false, false, false, false, false] (by kernel_rfl) rfl rfl ⟨bcu BK1337 0, bcu BK1337 1, bcu BK1337 2⟩ (fun hHeld => ?_)
  generalize w11.drew = w12 at BK1337 HB hHeld ⊢
  refine pure_ (i := 0) (N := some 8) (v := ?_) (a' := ?_) (bl 7 1) rfl rfl (by kernel_rfl) (fun _ _ _ h => h) (Or.inl ⟨by rfl, ?_⟩) ?_ ?_
  rotate_left
  ·intro w'
   go_simp
   with_reducible rfl
  rotate_left
  ·simp only [Act.put, ls, lz, ln, i64_w, i32_w]
   rfl
  refine pure_ (i := 2) (N := some 10) (v := ?_) (a' := ?_) (bl 7 5) rfl rfl (by kernel_rfl) (fun _ _ _ h => h) (Or.inl ⟨by rfl, ?_⟩) ?_ ?_
  rotate_left
  ·intro w'
   go_simp
   with_reducible rfl
  rotate_left
  ·simp only [Act.put, ls, lz, ln, i64_w, i32_w]
   rfl
  refine take_ (i := 1) (N := some 9) (v := ?_) (a' := ?_) (bl 7 7) rfl rfl (by kernel_rfl) (fun _ _ _ h => h) (Or.inl ⟨by rfl, ?_⟩) hHeld ?_ ?_
  rotate_left
  ·rintro w' ⟨s0, s1, s2⟩
   go_simp
   with_reducible rfl
  rotate_left
  ·simp only [Act.put, ls, lz, ln, i64_w, i32_w]
   rfl
  refine pure_ (i := 5) (N := some 5) (v := ?_) (a' := ?_) (bl 7 39) rfl rfl (by kernel_rfl) (fun _ _ _ h => h) (Or.inl ⟨by rfl, ?_⟩) ?_ ?_
  rotate_left
  ·intro w'
   go_simp
   with_reducible rfl
  rotate_left
  ·simp only [Act.put, ls, lz, ln, i64_w, i32_w]
   rfl
  refine take_ (i := 3) (N := some 11) (v := ?_) (a' := ?_) (bl 7 47) rfl rfl (by kernel_rfl) (fun _ _ _ h => h) (Or.inl ⟨by rfl, ?_⟩) hHeld ?_ ?_
  rotate_left
  ·rintro w' ⟨s0, s1, s2⟩
   go_simp
   with_reducible rfl
  rotate_left
  ·simp only [Act.put, ls, lz, ln, i64_w, i32_w]
   rfl
  refine pure_ (i := 4) (N := some 12) (v := ?_) (a' := ?_) (bl 7 63) rfl rfl (by kernel_rfl) (fun _ _ _ h => h) (Or.inl ⟨by rfl, ?_⟩) ?_ ?_
  rotate_left
  ·intro w'
   go_simp
   with_reducible rfl
  rotate_left
  ·simp only [Act.put, ls, lz, ln, i64_w, i32_w]
   rfl
  refine pure_ (i := 6) (N := some 6) (v := ?_) (a' := ?_) (bl 7 127) rfl rfl (by kernel_rfl) (fun _ _ _ h => h) (Or.inl ⟨by rfl, ?_⟩) ?_ ?_
  rotate_left
  ·intro w'
   go_simp
   with_reducible rfl
  rotate_left
  ·simp only [Act.put, ls, lz, ln, i64_w, i32_w]
   rfl
  refine done_ (by kernel_rfl) ?_
  have hcz13_0 := bc BK1337 0
  have hcz13_1 := bc BK1337 1
  have hcz13_2 := bc BK1337 2
  have hfz13_0 := bf BK1337 0
  have hfz13_1 := bf BK1337 1
  have hfz13_2 := bf BK1337 2
  try go_wp2_with (first | ((with_reducible refine gate_callee (f := 77) rfl ?_); refine gL (some 17) Try.func77 #[.agg #[.int .i64 a0_0, .slice A0_1 l0_1.length c0_1, .slice A0_2 l0_2.length c0_2], .int .i64 (l0_1.length : Int)] ?_; (with_reducible refine (spec_l03Poly.calls k a0_0 _ _ l0_1 _ _ l0_2 (l0_1.length : Int) t1338 _ ?side1 ?side2 ?side3 ?side4 A3.out).mono ?_); (case side1 => exact uC ((Kd.C_below HR0_1.out HB.out))); (case side2 => exact HC0_1.out); (case side3 => exact uC ((Kd.C_below HR0_2.out HB.out))); (case side4 => exact HC0_2.out); rintro e w14 ⟨v1339, rfl, ho0, hb⟩; refine ⟨_, rfl, ?_⟩; have HO1340 := zA (Kd.R_lower ho0 (below_size (uH HB.out))); replace BK1337 := xB BK1337 hb; replace HB := xH HB hb; (try clear hb); (try clear hb2); (try clear hk); (try clear hi); (try clear ho0); obtain ⟨Ao15, co15, eo15⟩ := Kd.R_slice HO1340.out; subst eo15) | ((with_reducible refine gate_callee (f := 128) rfl ?_); refine gL (some 18) Try.func128 #[.int .i64 a0_0, .slice Ao15 t1338.length co15] ?_; (with_reducible refine (spec_l01Derive.calls k a0_0 _ _ t1338 t1341 _ ?side1 ?side2 A4.out).mono ?_); (case side1 => exact uC ((Kd.R_reads' HO1340.out).2.2)); (case side2 => exact (Kd.R_reads' HO1340.out).2.1); rintro e w16 ⟨v1342, rfl, ho0, hb⟩; refine ⟨_, rfl, ?_⟩; have HO1343 := zA (Kd.R_lower (Kd.R_new' ho0 (Kd.R_lt (uR HO1340.out))) (below_size (uH HB.out))); replace HO1340 := zA (Kd.R_elder' (uR HO1340.out) (Kd.R_base ho0) hb); replace BK1337 := xB BK1337 hb; replace HB := xH HB hb; (try clear hb); (try clear hb2); (try clear hk); (try clear hi); (try clear ho0); obtain ⟨Ao17, co17, eo17⟩ := Kd.R_slice HO1343.out; subst eo17) | ((with_reducible refine gate_callee (f := 67) rfl ?_); refine gL (some 20) Try.func67 #[.int .i64 a0_0, .slice Ao17 t1341.length co17, .int .i64 a1] ?_; (with_reducible refine (spec_l01At.calls k a0_0 _ _ t1341 a1 t1344 _ ?side1 ?side2 A5.out).mono ?_); (case side1 => exact uC ((Kd.R_reads' HO1343.out).2.2)); (case side2 => exact (Kd.R_reads' HO1343.out).2.1); rintro e w' ⟨rfl, ⟨nd, rfl⟩⟩; refine ⟨_, rfl, ?_⟩))
  (try (rw [drewN_self w16]; generalize hq_ : World.drewN w16 _ = w16; have n0_ : Aside0 (Kd.R (Kd.int .i64) 2 w16 w.heap.size (fun k_ => ax k_ (.slice Ao17 t1341.length co17)) (.slice Ao15 t1338.length co15) t1338) := ⟨by rw [← hq_]; exact (uR (Kd.R_mono HO1340.out (fun _ hk => hk.2)))⟩; have n1_ : Aside0 (Kd.R (Kd.int .i64) 2 w16 w.heap.size (fun k_ => ax k_ (.slice Ao15 t1338.length co15)) (.slice Ao17 t1341.length co17) t1341) := ⟨by rw [← hq_]; exact (uR (Kd.R_mono HO1343.out (fun _ hk => hk.2)))⟩; have n2_ : Aside0 (w16.heap[gb1337]? = some (.cells #[.int .i64 a0_0, .slice A0_1 l0_1.length c0_1, .slice A0_2 l0_2.length c0_2] 26 (0, 0))) := ⟨by rw [← hq_]; exact (uB BK1337.out)⟩; have n3_ : Aside0 (Below w.heap.size w w16) := ⟨by rw [← hq_]; exact (uH HB.out)⟩; clear HO1340 HO1343 BK1337 HB hq_; have HO1340 := n0_; have HO1343 := n1_; have BK1337 := n2_; have HB := n3_; clear n0_ n1_ n2_ n3_))
  replace HO1340 := zA (Kd.R_drew HO1340.out)
  replace HO1343 := zA (Kd.R_drew HO1343.out)
  replace BK1337 := zA (blk_drew BK1337.out)
  replace HB := zA (below_drew1 HB.out)
  have p1345 : 0 ≤ (0 : Int) := (by omega)
  have q1345 : 0 < (l0_2.length : Int) := of_decide_eq_true (by first | (with_reducible assumption) | assumption)
  obtain ⟨ad1345, e1345, hx1345_0⟩ := Kd.at_int HR0_2.out 0 p1345 q1345
  have hw1345_0 := hx1345_0
  (try rw [show ((0 : Int)).toNat = 0 from rfl] at hw1345_0)
  (try rw [show 0 * 1 = 0 from rfl] at hw1345_0)
  (try rw [Addr.add_zero'] at hw1345_0)
  cases e1345
  have qi1345 : (0 < l0_2.length) = True := eq_true (by omega)
  (try rw [show ((0 : Int)).toNat = 0 from rfl] at hx1345_0)
  (try rw [Addr.add_zero'] at hx1345_0)
  replace hx1345_0 := hc HB hx1345_0
  replace p1345 := eq_true p1345
  replace q1345 := eq_true q1345
  refine start_ (n := 20) (S := fun w' => w'.cell? ⟨gb1337, 0, none⟩ = some (.int .i64 a0_0) ∧ w'.cell? ⟨gb1337, 1, none⟩ = some (.slice A0_1 l0_1.length c0_1) ∧ w'.cell? ⟨gb1337, 2, none⟩ = some (.slice (some ad1345) l0_2.length c0_2) ∧ w'.cell? ad1345 = some (.int .i64 (rd l0_2 0))) (ds := []) #[false, false, false, false, false, false, false, false, false, false, false, false, false, false, false, false, false, false, false, false] (by kernel_rfl) rfl rfl ⟨bcu BK1337 0, bcu BK1337 1, bcu BK1337 2, (hcu HB hw1345_0)⟩ (fun hHeld => ?_); refine with_tabW spec_l07Christoffel.tab3 spec_l07Christoffel.bits3 (fun HT_ HW_ => ?_)
  generalize w16.drew = w18 at HO1340 HO1343 BK1337 HB hx1345_0 hHeld ⊢
  refine pu_ 0 21 (bl 20 1) HT_ ?_
  refine pu_ 4 25 (bl 20 17) HT_ ?_
  refine pu_ 6 27 (bl 20 81) HT_ ?_
  refine pu_ 8 29 (bl 20 337) HT_ ?_
  refine pu_ 11 32 (bl 20 2385) HT_ ?_
  refine pu_ 13 34 (bl 20 10577) HT_ ?_
  refine pu_ 14 35 (bl 20 26961) HT_ ?_
  refine pu_ 17 38 (bl 20 158033) HT_ ?_
  refine ta_ 1 22 (bl 20 158035) HT_ HW_ hHeld ?_
  refine pu_ 2 23 (bl 20 158039) HT_ ?_
  refine ta_ 3 24 (bl 20 158047) HT_ HW_ hHeld ?_
  refine ta_ 5 26 (bl 20 158079) HT_ HW_ hHeld ?_
  refine on_ 7 (some 28) (bl 20 158207) HT_ (fun K hK => ?_)
  refine gS Try.func129 #[.agg #[.int .i64 a0_0, .slice A0_1 l0_1.length c0_1, .slice (some ad1345) l0_2.length c0_2], .int .i64 (l0_1.length : Int)] ?_
  with_reducible refine (spec_l03Second.calls k a0_0 _ _ l0_1 _ _ l0_2 (l0_1.length : Int) t1346 _ ?side1 ?side2 ?side3 ?side4 A7.out).mono ?_
  (case side1 => exact uC ((Kd.C_below HR0_1.out HB.out)))
  (case side2 => exact HC0_1.out)
  (case side3 => exact uC ((Kd.C_below HR0_2.out HB.out)))
  (case side4 => exact HC0_2.out)
  rintro e w19 ⟨v1347, rfl, ho0, hb⟩
  refine ⟨_, rfl, ?_⟩
  have HO1348 := zA (Kd.R_lower (Kd.R_new' (Kd.R_new' ho0 (Kd.R_lt (uR HO1340.out))) (Kd.R_lt (uR HO1343.out))) (below_size (uH HB.out)))
  replace HO1340 := zA (Kd.R_elder' (uR HO1340.out) (Kd.R_base ho0) hb)
  replace HO1343 := zA (Kd.R_elder' (uR HO1343.out) (Kd.R_base ho0) hb)
  replace BK1337 := xB BK1337 hb
  replace HB := xH HB hb
  (try clear hb); (try clear hb2); (try clear hk); (try clear hi); (try clear ho0)
  obtain ⟨Ao20, co20, eo20⟩ := Kd.R_slice HO1348.out
  (first | subst eo20 | (injection eo20 with f1_ f2_ f3_; have f4_ := f1_.symm; have f5_ := f3_.symm; clear f1_ f2_ f3_; subst f4_; subst f5_))
  refine hK.out _ _ ⟨bcu BK1337 0, bcu BK1337 1, bcu BK1337 2, (hcu HB hw1345_0)⟩ (fun hHeld => ?_)
  clear hK K
  refine no_ 28 ?_
  refine on_ 9 (some 30) (bl 20 158719) HT_ (fun K hK => ?_)
  refine gS Try.func67 #[.int .i64 a0_0, .slice Ao20 t1346.length co20, .int .i64 a1] ?_
  with_reducible refine (spec_l01At.calls k a0_0 _ _ t1346 a1 t1349 _ ?side1 ?side2 A8.out).mono ?_
  (case side1 => exact uC ((Kd.R_reads' HO1348.out).2.2))
  (case side2 => exact (Kd.R_reads' HO1348.out).2.1)
  rintro e w' ⟨rfl, ⟨nd, rfl⟩⟩
  refine ⟨_, rfl, ?_⟩
  refine hK.out _ _ ⟨bcu BK1337 0, bcu BK1337 1, bcu BK1337 2, (hcu HB hw1345_0)⟩ (fun hHeld => ?_)
  clear hK K
  refine no_ 30 ?_
  refine pu_ 10 31 (bl 20 159743) HT_ ?_
  refine pu_ 12 33 (bl 20 163839) HT_ ?_
  refine on_ 15 (some 36) (bl 20 196607) HT_ (fun K hK => ?_)
  refine gS Try.func66 #[.int .i64 a0_0, .int .i64 t1344] ?_
  with_reducible refine (spec_l01Inverse.calls k a0_0 t1344 t1350 _ A10.out).mono ?_
  rintro e w' ⟨rfl, ⟨nd, rfl⟩⟩
  refine ⟨_, rfl, ?_⟩
  refine hK.out _ _ ⟨bcu BK1337 0, bcu BK1337 1, bcu BK1337 2, (hcu HB hw1345_0)⟩ (fun hHeld => ?_)
  clear hK K
  refine no_ 36 ?_
  refine pu_ 16 37 (bl 20 262143) HT_ ?_
  refine pu_ 18 39 (bl 20 524287) HT_ ?_
  refine pu_ 19 4 (bl 20 1048575) HT_ ?_
  refine done_ (done_of HT_.out (by kernel_rfl)) ?_
  try go_wp2
  go_ret
  exact ⟨by first | rfl | (simp [errW_none, errW_some] <;> rfl) | (simp [*, errW_none, errW_some] <;> rfl), uH HB.out⟩
 rw [if_pos c9] at H
 exact absurd H (by simp)
/- Lists all of whose elements answer yes: the plain function that areAll computes, and its printed loop. -/
/-- Do all elements answer yes? (Asked from the first one on, up to the first no.) -/
def allO {α : Type} (p : α → Option Bool) : List α → Option Bool
  | [] => some true
  | x :: l => (p x).bind fun b => if b = true then allO p l else some false

def impl_areAll_int64.f (l : List Int) (p : Int → Option Bool) : Option Bool := if l.length < 4611686018427387904 then allO p l else none

theorem wrap_succ {i : Int} {n : Nat} (h0 : 0 ≤ i) (h1 : i < (n : Int)) (h2 : n < 4611686018427387904) : wrap64 (i + 1) = i + 1 := by
  unfold wrap64; omega

theorem drop_cons {α : Type} (l : List α) (d : α) (i : Nat) (h : i < l.length) : l.drop i = l.getD i d :: l.drop (i + 1) := by
  rw [List.drop_eq_getElem_cons h]; simp [List.getD, h]

theorem indexFunc_ints (p : Int → Option Bool) (l : List Int) (hl : l.length < 4611686018427387904) (d : Nat) : ∀ (k i : Nat) (r : Bool), i + d = l.length → d < k → allO p (l.drop i) = some r →
    ∃ j, slices_IndexFunc_ints.l0 k l (fun z_ => impl_areAll_int64_1.f z_ p) (l.length : Int) (i : Int) = some j ∧ decide (j ≥ 0) = !r := by
  induction d with
  | zero =>
    intro k i r hi hk h
    obtain ⟨k, rfl⟩ : ∃ m, k = m + 1 := ⟨k - 1, by omega⟩
    simp only [slices_IndexFunc_ints.l0]
    rw [if_neg (by omega)]
    rw [List.drop_eq_nil_of_le (by omega)] at h
    simp only [allO, Option.some.injEq] at h
    subst h
    exact ⟨-1, rfl, rfl⟩
  | succ d ih =>
    intro k i r hi hk h
    obtain ⟨k, rfl⟩ : ∃ m, k = m + 1 := ⟨k - 1, by omega⟩
    simp only [slices_IndexFunc_ints.l0]
    rw [if_pos (by omega), if_pos (by omega), if_pos (by omega)]
    rw [drop_cons l 0 i (by omega)] at h
    simp only [allO] at h
    have e : rd l (i : Int) = l.getD i 0 := by simp [rd]
    rw [e]
    obtain ⟨b, hb, h⟩ := Option.bind_eq_some_iff.mp h
    simp only [impl_areAll_int64_1.f, hb, Option.bind_some]
    cases b with
    | true =>
      rw [if_pos rfl] at h
      simp only [Bool.not_true, Bool.false_eq_true, if_false]
      rw [wrap_succ (n := l.length) (by omega) (by omega) hl]
      exact ih k (i + 1) r (by omega) (by omega) h
    | false =>
      simp only [Bool.false_eq_true, if_false, Option.some.injEq] at h
      subst h
      simp only [Bool.not_false, if_true]
      exact ⟨i, rfl, by simp⟩

theorem areAllK_int64 {l : List Int} {p : Int → Option Bool} {r : Bool} (h : impl_areAll_int64.f l p = some r) : impl_areAll_int64K.f (l.length + 1) l p = some r := by
  unfold impl_areAll_int64.f at h
  split at h
  · rename_i hl
    obtain ⟨j, h1, h2⟩ := indexFunc_ints p l hl l.length (l.length + 1) 0 r (by omega) (by omega) (by simpa using h)
    unfold impl_areAll_int64K.f slices_ContainsFunc_ints.f slices_IndexFunc_ints.f
    have h1' : slices_IndexFunc_ints.l0 (l.length + 1) l (fun z_ => impl_areAll_int64_1.f z_ p) (l.length : Int) 0 = some j := h1
    rw [h1']
    simp only [Option.bind_some, h2, Bool.not_not]
  · cases h
theorem impl_areAll_int64.calls (A0 : Option Addr) (c0 : Nat) (l0 : List Int) (F1 : Value) (a1 : (Int → Option Bool)) (r : Bool) (w : World) (hr0 : Kd.C (Kd.int .i64) w A0 l0.length l0) (hc0 : l0.length ≤ c0) (hF1 : FnI Try.prog w F1 a1) (h : impl_areAll_int64.f l0 a1 = some r) :
    Calls Try.prog 98 #[.slice A0 l0.length c0, F1] w fun e w' => e = .returned (.bool r) ∧ Below w.heap.size w w' :=
  impl_areAll_int64K.calls _ A0 c0 l0 F1 a1 r w hr0 hc0 hF1 (areAllK_int64 h)
/-! ### impl_IsJacobi: function 116 -/
def impl_IsJacobi.f (k : Nat) (a0_0 : Int) (l0_1 : List Int) (l0_2 : List Int) : Option (Bool) := (impl_IsPrime.f k a0_0).bind fun t1100 => (if t1100 = true then ((impl_Jacobi_size.f a0_0 l0_1 l0_2).bind fun t1101 => ((impl_within.f t1101 1 12).bind fun t1102 => (if t1102 = true then (if (l0_2.length : Int) = (l0_1.length : Int) then ((impl_Jacobi_field.f a0_0 l0_1 l0_2).bind fun t1103 => ((impl_areAll_int64.f l0_1 (fun z_ => impl_field_has.f t1103 z_)).bind fun t1104 => (if t1104 = true then ((impl_Jacobi_field.f a0_0 l0_1 l0_2).bind fun t1105 => ((impl_areAll_int64.f l0_2 (fun z_ => impl_field_isUnit.f t1105 z_)).bind fun t1106 => (some t1106))) else (some false)))) else (some false)) else (some false)))) else (some false))
def impl_IsJacobi.T1 : Bool × List (List Nat × List Nat) := (true, [([], []), ([0], [0]), ([1], [1]), ([2, 2], [2]), ([3], [3]), ([4, 3, 3], [3, 4]), ([5, 5, 3], [3, 5]), ([3, 6], [3, 6]), ([7, 6], [7]), ([8], [8]), ([9, 8], [8, 9]), ([10, 8], [8, 10]), ([8], [8]), ([12, 8], [8, 12]), ([13, 8], [8, 13]), ([11, 14, 8], [8, 11, 14]), ([8, 15], [8, 15]), ([16, 8], [16]), ([17], [17]), ([18, 17], [17, 18]), ([17], [17]), ([20, 17, 17], [17, 20]), ([21, 17], [17, 21]), ([19, 22, 21, 17], [17, 19, 22]), ([17, 23], [17, 23]), ([24, 23], [24]), ([25], [25]), ([26, 25], [25, 26]), ([25], [25]), ([28, 25, 25], [25, 28]), ([29, 25], [25, 29]), ([27, 30, 29, 25], [25, 27, 30]), ([25, 31], [25, 31]), ([32, 31, 0, 1, 2, 3, 4, 5, 6, 7, 8, 9, 10, 11, 12, 13, 14, 15, 16, 17, 18, 19, 20, 21, 22, 23, 24, 25, 26, 27, 28, 29, 30, 31, 32], [32])])
def impl_IsJacobi.B1 : List Nat := [0, 1, 3, 7, 15, 31, 63, 127, 255, 511, 1023, 2047, 511, 4607, 12799, 32767, 65535, 131071, 262143, 524287, 262143, 1310719, 3407871, 8388607, 16777215, 33554431, 67108863, 134217727, 67108863, 335544319, 872415231, 2147483647, 4294967295, 8589934591]
theorem impl_IsJacobi.tab1 : rtab .any (opsOf Try.f116 1) = impl_IsJacobi.T1 := by kernel_rfl
theorem impl_IsJacobi.bits1 : waitsOk impl_IsJacobi.T1.2 impl_IsJacobi.B1 = true := by kernel_rfl
set_option maxHeartbeats 8000000 in
set_option maxRecDepth 100000 in
theorem impl_IsJacobi.calls (k : Nat) (a0_0 : Int) (A0_1 : Option Addr) (c0_1 : Nat) (l0_1 : List Int) (A0_2 : Option Addr) (c0_2 : Nat) (l0_2 : List Int) (r : Bool) (w : World) (hr0_1 : Kd.C (Kd.int .i64) w A0_1 l0_1.length l0_1) (hc0_1 : l0_1.length ≤ c0_1) (hr0_2 : Kd.C (Kd.int .i64) w A0_2 l0_2.length l0_2) (hc0_2 : l0_2.length ≤ c0_2) (h : impl_IsJacobi.f k a0_0 l0_1 l0_2 = some r) :
  Calls Try.prog 116 #[.agg #[.int .i64 a0_0, .slice A0_1 l0_1.length c0_1, .slice A0_2 l0_2.length c0_2]] w fun e w' => e = .returned (.bool r) ∧ Below w.heap.size w w' := by
 have hu26 := Try.underlying26
 have hmf : ∀ (fn_ : Fn) (first_ cap_ : Array Value) (w_ : World), (Instr.makeFunc fn_ first_ cap_).run Try.prog w_ = .ok (.func fn_ first_ cap_) w_ := fun _ _ _ _ => rfl
 have HR0_1 := zA hr0_1
 have HC0_1 := zA hc0_1
 clear hr0_1 hc0_1
 have HR0_2 := zA hr0_2
 have HC0_2 := zA hc0_2
 clear hr0_2 hc0_2
 have HB := zA (Below.refl w.heap.size w)
 have H : ((impl_IsPrime.f k a0_0).bind fun t1100 => (if t1100 = true then ((impl_Jacobi_size.f a0_0 l0_1 l0_2).bind fun t1101 => ((impl_within.f t1101 1 12).bind fun t1102 => (if t1102 = true then (if (l0_2.length : Int) = (l0_1.length : Int) then ((impl_Jacobi_field.f a0_0 l0_1 l0_2).bind fun t1103 => ((impl_areAll_int64.f l0_1 (fun z_ => impl_field_has.f t1103 z_)).bind fun t1104 => (if t1104 = true then ((impl_Jacobi_field.f a0_0 l0_1 l0_2).bind fun t1105 => ((impl_areAll_int64.f l0_2 (fun z_ => impl_field_isUnit.f t1105 z_)).bind fun t1106 => (some t1106))) else (some false)))) else (some false)) else (some false)))) else (some false))) = some r := h
 clear h
 replace H := Option.bind_eq_some_iff.mp H
 obtain ⟨t1100, A20, H⟩ := H
 replace H : (if t1100 = true then ((impl_Jacobi_size.f a0_0 l0_1 l0_2).bind fun t1101 => ((impl_within.f t1101 1 12).bind fun t1102 => (if t1102 = true then (if (l0_2.length : Int) = (l0_1.length : Int) then ((impl_Jacobi_field.f a0_0 l0_1 l0_2).bind fun t1103 => ((impl_areAll_int64.f l0_1 (fun z_ => impl_field_has.f t1103 z_)).bind fun t1104 => (if t1104 = true then ((impl_Jacobi_field.f a0_0 l0_1 l0_2).bind fun t1105 => ((impl_areAll_int64.f l0_2 (fun z_ => impl_field_isUnit.f t1105 z_)).bind fun t1106 => (some t1106))) else (some false)))) else (some false)) else (some false)))) else (some false)) = some r := H
 have A2 := zA A20
 clear A20
 by_cases c3 : t1100 = true
 ·subst c3
  have H1 : ((impl_Jacobi_size.f a0_0 l0_1 l0_2).bind fun t1101 => ((impl_within.f t1101 1 12).bind fun t1102 => (if t1102 = true then (if (l0_2.length : Int) = (l0_1.length : Int) then ((impl_Jacobi_field.f a0_0 l0_1 l0_2).bind fun t1103 => ((impl_areAll_int64.f l0_1 (fun z_ => impl_field_has.f t1103 z_)).bind fun t1104 => (if t1104 = true then ((impl_Jacobi_field.f a0_0 l0_1 l0_2).bind fun t1105 => ((impl_areAll_int64.f l0_2 (fun z_ => impl_field_isUnit.f t1105 z_)).bind fun t1106 => (some t1106))) else (some false)))) else (some false)) else (some false)))) = some r := by rw [if_pos rfl] at H; exact H
  clear H
  have H := H1
  clear H1
  replace H := Option.bind_eq_some_iff.mp H
  obtain ⟨t1101, A40, H⟩ := H
  replace H : ((impl_within.f t1101 1 12).bind fun t1102 => (if t1102 = true then (if (l0_2.length : Int) = (l0_1.length : Int) then ((impl_Jacobi_field.f a0_0 l0_1 l0_2).bind fun t1103 => ((impl_areAll_int64.f l0_1 (fun z_ => impl_field_has.f t1103 z_)).bind fun t1104 => (if t1104 = true then ((impl_Jacobi_field.f a0_0 l0_1 l0_2).bind fun t1105 => ((impl_areAll_int64.f l0_2 (fun z_ => impl_field_isUnit.f t1105 z_)).bind fun t1106 => (some t1106))) else (some false)))) else (some false)) else (some false))) = some r := H
  have A4 := zA A40
  clear A40
  replace H := Option.bind_eq_some_iff.mp H
  obtain ⟨t1102, A50, H⟩ := H
  replace H : (if t1102 = true then (if (l0_2.length : Int) = (l0_1.length : Int) then ((impl_Jacobi_field.f a0_0 l0_1 l0_2).bind fun t1103 => ((impl_areAll_int64.f l0_1 (fun z_ => impl_field_has.f t1103 z_)).bind fun t1104 => (if t1104 = true then ((impl_Jacobi_field.f a0_0 l0_1 l0_2).bind fun t1105 => ((impl_areAll_int64.f l0_2 (fun z_ => impl_field_isUnit.f t1105 z_)).bind fun t1106 => (some t1106))) else (some false)))) else (some false)) else (some false)) = some r := H
  have A5 := zA A50
  clear A50
  by_cases c6 : t1102 = true
  ·subst c6
   have H1 : (if (l0_2.length : Int) = (l0_1.length : Int) then ((impl_Jacobi_field.f a0_0 l0_1 l0_2).bind fun t1103 => ((impl_areAll_int64.f l0_1 (fun z_ => impl_field_has.f t1103 z_)).bind fun t1104 => (if t1104 = true then ((impl_Jacobi_field.f a0_0 l0_1 l0_2).bind fun t1105 => ((impl_areAll_int64.f l0_2 (fun z_ => impl_field_isUnit.f t1105 z_)).bind fun t1106 => (some t1106))) else (some false)))) else (some false)) = some r := by rw [if_pos rfl] at H; exact H
   clear H
   have H := H1
   clear H1
   by_cases c7 : (l0_2.length : Int) = (l0_1.length : Int)
   rotate_left
   ·rw [if_neg c7] at H
    have c7b0 : ((l0_2.length : Int) == (l0_1.length : Int)) = false := beq_eq_false_iff_ne.mpr c7
    have c7b1 : ((l0_2.length : Int) != (l0_1.length : Int)) = true := bne_iff_ne.mpr c7
    have c7b2 : (l0_2.length == l0_1.length) = false := by first | simpa using c7 | (simp at c7 ⊢; omega)
    obtain rfl := Option.some.inj H
    go_enter Try.func116, Try.ntmps116
    try go_wp2_with (first | ((with_reducible refine gate_dst (N := 1) rfl ?_); (try (refine gate_guard (by rfl) ?_; dsimp only)); refine bx 1 #[.int .i64 a0_0, .slice A0_1 l0_1.length c0_1, .slice A0_2 l0_2.length c0_2] 26 ?_; intro gb1099 hg w25 hbox hb; have BK1099 := zA (hbox); have GW1099 := gq HB hg; have GE1099 := gq HB hg; replace HB := xH HB hb; have := geI GE1099; clear hb hbox hg))
    replace BK1099 := zA (blk_drew BK1099.out)
    replace HB := zA (below_drew1 HB.out)
    refine start_ (n := 34) (S := fun w' => w'.cell? ⟨gb1099, 0, none⟩ = some (.int .i64 a0_0) ∧ w'.cell? ⟨gb1099, 1, none⟩ = some (.slice A0_1 l0_1.length c0_1) ∧ w'.cell? ⟨gb1099, 2, none⟩ = some (.slice A0_2 l0_2.length c0_2)) (ds := []) #[false, false, false, false, false, false, false, false, false, false, false, false, false, false, false, false, false, false, false, false, false, false, false, false, false, false, false, false, false, false, false, false, false, false] (by kernel_rfl) rfl rfl ⟨bcu BK1099 0, bcu BK1099 1, bcu BK1099 2⟩ (fun hHeld => ?_); refine with_tabW impl_IsJacobi.tab1 impl_IsJacobi.bits1 (fun HT_ HW_ => ?_)
    generalize w25.drew = w26 at BK1099 HB hHeld ⊢
    refine pu_ 0 3 (bl 34 1) HT_ ?_
    refine ta_ 1 4 (bl 34 3) HT_ HW_ hHeld ?_
    refine on_ 2 (some 5) (bl 34 7) HT_ (fun K hK => ?_)
    refine gS Try.func120 #[.int .i64 a0_0] ?_
    with_reducible refine (impl_IsPrime.calls k a0_0 true _ A2.out).mono ?_
    rintro e w' ⟨rfl, ⟨nd, rfl⟩⟩
    refine ⟨_, rfl, ?_⟩
    refine hK.out _ _ ⟨bcu BK1099 0, bcu BK1099 1, bcu BK1099 2⟩ (fun hHeld => ?_)
    clear hK K
    refine no_ 5 ?_
    refine pu_ 3 6 (bl 34 15) HT_ ?_
    refine ta_ 4 7 (bl 34 31) HT_ HW_ hHeld ?_
    refine on_ 5 (some 8) (bl 34 63) HT_ (fun K hK => ?_)
    refine gS Try.func59 #[.agg #[.int .i64 a0_0, .slice A0_1 l0_1.length c0_1, .slice A0_2 l0_2.length c0_2]] ?_
    with_reducible refine (impl_Jacobi_size.calls a0_0 _ _ l0_1 _ _ l0_2 t1101 _ ?side1 ?side2 ?side3 ?side4 A4.out).mono ?_
    (case side1 => repeat (first | exact (Kd.C_below HR0_1.out (uH HB.out)) | (with_reducible refine Kd.C_alloc ?_ _) | (with_reducible refine Kd.C_drewN ?_ _) | (with_reducible refine Kd.C_drew ?_)))
    (case side2 => exact HC0_1.out)
    (case side3 => repeat (first | exact (Kd.C_below HR0_2.out (uH HB.out)) | (with_reducible refine Kd.C_alloc ?_ _) | (with_reducible refine Kd.C_drewN ?_ _) | (with_reducible refine Kd.C_drew ?_)))
    (case side4 => exact HC0_2.out)
    rintro e w27 ⟨rfl, hb⟩
    refine ⟨_, rfl, ?_⟩
    replace BK1099 := xB BK1099 hb
    replace HB := xH HB hb
    (try clear hb); (try clear hb2); (try clear hk); (try clear hi)
    refine hK.out _ _ ⟨bcu BK1099 0, bcu BK1099 1, bcu BK1099 2⟩ (fun hHeld => ?_)
    clear hK K
    refine no_ 8 ?_
    refine on_ 6 (some 9) (bl 34 127) HT_ (fun K hK => ?_)
    refine gS Try.func121 #[.int .i64 t1101, .int .i64 1, .int .i64 12] ?_
    with_reducible refine (impl_within.calls t1101 1 12 true _ A5.out).mono ?_
    rintro e w' ⟨rfl, ⟨nd, rfl⟩⟩
    refine ⟨_, rfl, ?_⟩
    refine hK.out _ _ ⟨bcu BK1099 0, bcu BK1099 1, bcu BK1099 2⟩ (fun hHeld => ?_)
    clear hK K
    refine no_ 9 ?_
    refine pu_ 7 10 (bl 34 255) HT_ ?_
    refine pu_ 8 11 (bl 34 511) HT_ ?_
    refine pu_ 9 12 (bl 34 1023) HT_ ?_
    refine pu_ 12 15 (bl 34 5119) HT_ ?_
    refine ta_ 10 13 (bl 34 6143) HT_ HW_ hHeld ?_
    refine pu_ 11 14 (bl 34 8191) HT_ ?_
    refine ta_ 13 16 (bl 34 16383) HT_ HW_ hHeld ?_
    refine pu_ 14 17 (bl 34 32767) HT_ ?_
    refine pu_ 15 18 (bl 34 65535) HT_ ?_
    refine pu_ 16 19 (bl 34 131071) HT_ ?_
    refine pu_ 17 20 (bl 34 262143) HT_ ?_
    refine un_ 18 21 (bl 34 524287) HT_ ?_
    refine un_ 19 22 (bl 34 1048575) HT_ ?_
    refine un_ 20 23 (bl 34 2097151) HT_ ?_
    refine un_ 21 24 (bl 34 4194303) HT_ ?_
    refine un_ 22 25 (bl 34 8388607) HT_ ?_
    refine un_ 23 26 (bl 34 16777215) HT_ ?_
    refine pu_ 24 27 (bl 34 33554431) HT_ ?_
    refine pu_ 25 28 (bl 34 67108863) HT_ ?_
    refine un_ 26 29 (bl 34 134217727) HT_ ?_
    refine un_ 27 30 (bl 34 268435455) HT_ ?_
    refine un_ 28 31 (bl 34 536870911) HT_ ?_
    refine un_ 29 32 (bl 34 1073741823) HT_ ?_
    refine un_ 30 33 (bl 34 2147483647) HT_ ?_
    refine un_ 31 34 (bl 34 4294967295) HT_ ?_
    refine pu_ 32 35 (bl 34 8589934591) HT_ ?_
    refine pu_ 33 2 (bl 34 17179869183) HT_ ?_
    refine done_ (done_of HT_.out (by kernel_rfl)) ?_
    try go_wp2
    go_ret
    exact ⟨by first | rfl | (simp [errW_none, errW_some] <;> rfl) | (simp [*, errW_none, errW_some] <;> rfl), uH HB.out⟩
   rw [if_pos c7] at H
   have c7b0 : ((l0_2.length : Int) == (l0_1.length : Int)) = true := beq_iff_eq.mpr c7
   have c7b1 : ((l0_2.length : Int) != (l0_1.length : Int)) = false := bne_eq_false_iff_eq.mpr c7
   have c7b2 : (l0_2.length == l0_1.length) = true := by first | simpa using c7 | (simp at c7 ⊢; omega)
   clear c7
   replace H := Option.bind_eq_some_iff.mp H
   obtain ⟨t1103, A80, H⟩ := H
   replace H : ((impl_areAll_int64.f l0_1 (fun z_ => impl_field_has.f t1103 z_)).bind fun t1104 => (if t1104 = true then ((impl_Jacobi_field.f a0_0 l0_1 l0_2).bind fun t1105 => ((impl_areAll_int64.f l0_2 (fun z_ => impl_field_isUnit.f t1105 z_)).bind fun t1106 => (some t1106))) else (some false))) = some r := H
   have A8 := zA A80
   clear A80
   replace H := Option.bind_eq_some_iff.mp H
   obtain ⟨t1104, A90, H⟩ := H
   replace H : (if t1104 = true then ((impl_Jacobi_field.f a0_0 l0_1 l0_2).bind fun t1105 => ((impl_areAll_int64.f l0_2 (fun z_ => impl_field_isUnit.f t1105 z_)).bind fun t1106 => (some t1106))) else (some false)) = some r := H
   have A9 := zA A90
   clear A90
   by_cases c10 : t1104 = true
   ·subst c10
    have H1 : ((impl_Jacobi_field.f a0_0 l0_1 l0_2).bind fun t1105 => ((impl_areAll_int64.f l0_2 (fun z_ => impl_field_isUnit.f t1105 z_)).bind fun t1106 => (some t1106))) = some r := by rw [if_pos rfl] at H; exact H
    clear H
    have H := H1
    clear H1
    replace H := Option.bind_eq_some_iff.mp H
    obtain ⟨t1105, A110, H⟩ := H
    replace H : ((impl_areAll_int64.f l0_2 (fun z_ => impl_field_isUnit.f t1105 z_)).bind fun t1106 => (some t1106)) = some r := H
    have A11 := zA A110
    clear A110
    replace H := Option.bind_eq_some_iff.mp H
    obtain ⟨t1106, A120, H⟩ := H
    replace H : (some t1106) = some r := H
    have A12 := zA A120
    clear A120
    obtain rfl := Option.some.inj H
    go_enter Try.func116, Try.ntmps116
    try go_wp2_with (first | ((with_reducible refine gate_dst (N := 1) rfl ?_); (try (refine gate_guard (by rfl) ?_; dsimp only)); refine bx 1 #[.int .i64 a0_0, .slice A0_1 l0_1.length c0_1, .slice A0_2 l0_2.length c0_2] 26 ?_; intro gb1099 hg w13 hbox hb; have BK1099 := zA (hbox); have GW1099 := gq HB hg; have GE1099 := gq HB hg; replace HB := xH HB hb; have := geI GE1099; clear hb hbox hg))
    replace BK1099 := zA (blk_drew BK1099.out)
    replace HB := zA (below_drew1 HB.out)
    refine start_ (n := 34) (S := fun w' => w'.cell? ⟨gb1099, 0, none⟩ = some (.int .i64 a0_0) ∧ w'.cell? ⟨gb1099, 1, none⟩ = some (.slice A0_1 l0_1.length c0_1) ∧ w'.cell? ⟨gb1099, 2, none⟩ = some (.slice A0_2 l0_2.length c0_2)) (ds := []) #[false, false, false, false, false, false, false, false, false, false, false, false, false, false, false, false, false, false, false, false, false, false, false, false, false, false, false, false, false, false, false, false, false, false] (by kernel_rfl) rfl rfl ⟨bcu BK1099 0, bcu BK1099 1, bcu BK1099 2⟩ (fun hHeld => ?_); refine with_tabW impl_IsJacobi.tab1 impl_IsJacobi.bits1 (fun HT_ HW_ => ?_)
    generalize w13.drew = w14 at BK1099 HB hHeld ⊢
    refine pu_ 0 3 (bl 34 1) HT_ ?_
    refine ta_ 1 4 (bl 34 3) HT_ HW_ hHeld ?_
    refine on_ 2 (some 5) (bl 34 7) HT_ (fun K hK => ?_)
    refine gS Try.func120 #[.int .i64 a0_0] ?_
    with_reducible refine (impl_IsPrime.calls k a0_0 true _ A2.out).mono ?_
    rintro e w' ⟨rfl, ⟨nd, rfl⟩⟩
    refine ⟨_, rfl, ?_⟩
    refine hK.out _ _ ⟨bcu BK1099 0, bcu BK1099 1, bcu BK1099 2⟩ (fun hHeld => ?_)
    clear hK K
    refine no_ 5 ?_
    refine pu_ 3 6 (bl 34 15) HT_ ?_
    refine ta_ 4 7 (bl 34 31) HT_ HW_ hHeld ?_
    refine on_ 5 (some 8) (bl 34 63) HT_ (fun K hK => ?_)
    refine gS Try.func59 #[.agg #[.int .i64 a0_0, .slice A0_1 l0_1.length c0_1, .slice A0_2 l0_2.length c0_2]] ?_
    with_reducible refine (impl_Jacobi_size.calls a0_0 _ _ l0_1 _ _ l0_2 t1101 _ ?side1 ?side2 ?side3 ?side4 A4.out).mono ?_
    (case side1 => repeat (first | exact (Kd.C_below HR0_1.out (uH HB.out)) | (with_reducible refine Kd.C_alloc ?_ _) | (with_reducible refine Kd.C_drewN ?_ _) | (with_reducible refine Kd.C_drew ?_)))
    (case side2 => exact HC0_1.out)
    (case side3 => repeat (first | exact (Kd.C_below HR0_2.out (uH HB.out)) | (with_reducible refine Kd.C_alloc ?_ _) | (with_reducible refine Kd.C_drewN ?_ _) | (with_reducible refine Kd.C_drew ?_)))
    (case side4 => exact HC0_2.out)
    rintro e w15 ⟨rfl, hb⟩
    refine ⟨_, rfl, ?_⟩
    replace BK1099 := xB BK1099 hb
    replace HB := xH HB hb
    (try clear hb); (try clear hb2); (try clear hk); (try clear hi)
    refine hK.out _ _ ⟨bcu BK1099 0, bcu BK1099 1, bcu BK1099 2⟩ (fun hHeld => ?_)
    clear hK K
    refine no_ 8 ?_
    refine on_ 6 (some 9) (bl 34 127) HT_ (fun K hK => ?_)
    refine gS Try.func121 #[.int .i64 t1101, .int .i64 1, .int .i64 12] ?_
    with_reducible refine (impl_within.calls t1101 1 12 true _ A5.out).mono ?_
    rintro e w' ⟨rfl, ⟨nd, rfl⟩⟩
    refine ⟨_, rfl, ?_⟩
    refine hK.out _ _ ⟨bcu BK1099 0, bcu BK1099 1, bcu BK1099 2⟩ (fun hHeld => ?_)
    clear hK K
    refine no_ 9 ?_
    refine pu_ 7 10 (bl 34 255) HT_ ?_
    refine pu_ 8 11 (bl 34 511) HT_ ?_
    refine pu_ 9 12 (bl 34 1023) HT_ ?_
    refine pu_ 12 15 (bl 34 5119) HT_ ?_
    refine ta_ 10 13 (bl 34 6143) HT_ HW_ hHeld ?_
    refine pu_ 11 14 (bl 34 8191) HT_ ?_
    refine ta_ 13 16 (bl 34 16383) HT_ HW_ hHeld ?_
    refine pu_ 14 17 (bl 34 32767) HT_ ?_
    refine pu_ 15 18 (bl 34 65535) HT_ ?_
    refine pu_ 16 19 (bl 34 131071) HT_ ?_
    refine pu_ 17 20 (bl 34 262143) HT_ ?_
    refine pu_ 18 21 (bl 34 524287) HT_ ?_
    refine ta_ 19 22 (bl 34 1048575) HT_ HW_ hHeld ?_
    refine ta_ 20 23 (bl 34 2097151) HT_ HW_ hHeld ?_
    refine on_ 21 (some 24) (bl 34 4194303) HT_ (fun K hK => ?_)
    refine gS Try.func79 #[.agg #[.int .i64 a0_0, .slice A0_1 l0_1.length c0_1, .slice A0_2 l0_2.length c0_2]] ?_
    with_reducible refine (impl_Jacobi_field.calls a0_0 _ _ l0_1 _ _ l0_2 t1103 _ ?side1 ?side2 ?side3 ?side4 A8.out).mono ?_
    (case side1 => repeat (first | exact (Kd.C_below HR0_1.out (uH HB.out)) | (with_reducible refine Kd.C_alloc ?_ _) | (with_reducible refine Kd.C_drewN ?_ _) | (with_reducible refine Kd.C_drew ?_)))
    (case side2 => exact HC0_1.out)
    (case side3 => repeat (first | exact (Kd.C_below HR0_2.out (uH HB.out)) | (with_reducible refine Kd.C_alloc ?_ _) | (with_reducible refine Kd.C_drewN ?_ _) | (with_reducible refine Kd.C_drew ?_)))
    (case side4 => exact HC0_2.out)
    rintro e w16 ⟨rfl, hb⟩
    refine ⟨_, rfl, ?_⟩
    replace BK1099 := xB BK1099 hb
    replace HB := xH HB hb
    (try clear hb); (try clear hb2); (try clear hk); (try clear hi)
    refine hK.out _ _ ⟨bcu BK1099 0, bcu BK1099 1, bcu BK1099 2⟩ (fun hHeld => ?_)
    clear hK K
    refine no_ 24 ?_
    refine pu_ 22 25 (bl 34 8388607) HT_ ?_
    refine on_ 23 (some 26) (bl 34 16777215) HT_ (fun K hK => ?_)
    refine gS Try.func98 #[.slice A0_1 l0_1.length c0_1, (.func (.func 99) #[.int .i64 t1103] #[])] ?_
    with_reducible refine (impl_areAll_int64.calls _ _ l0_1 _ (fun z_ => impl_field_has.f t1103 z_) true _ ?side1 ?side2 ?side3 A9.out).mono ?_
    (case side1 => exact uC ((Kd.C_below HR0_1.out HB.out)))
    (case side2 => exact HC0_1.out)
    (case side3 => exact FnI.of Try.func99 (by kernel_rfl) rfl (fun z_ r_ hr_ W_ hW_ => calls_of_args (args' := #[.int .i64 t1103, .int .i64 z_]) (by simp) ((impl_field_has.calls t1103 z_ r_ W_  hr_).mono fun e_ W2_ h_ => ⟨h_.1, h_.2.below⟩)))
    rintro e w17 ⟨rfl, hb⟩
    refine ⟨_, rfl, ?_⟩
    replace BK1099 := xB BK1099 hb
    replace HB := xH HB hb
    (try clear hb); (try clear hb2); (try clear hk); (try clear hi)
    refine hK.out _ _ ⟨bcu BK1099 0, bcu BK1099 1, bcu BK1099 2⟩ (fun hHeld => ?_)
    clear hK K
    refine no_ 26 ?_
    refine pu_ 24 27 (bl 34 33554431) HT_ ?_
    refine pu_ 25 28 (bl 34 67108863) HT_ ?_
    refine pu_ 26 29 (bl 34 134217727) HT_ ?_
    refine ta_ 27 30 (bl 34 268435455) HT_ HW_ hHeld ?_
    refine ta_ 28 31 (bl 34 536870911) HT_ HW_ hHeld ?_
    refine on_ 29 (some 32) (bl 34 1073741823) HT_ (fun K hK => ?_)
    refine gS Try.func79 #[.agg #[.int .i64 a0_0, .slice A0_1 l0_1.length c0_1, .slice A0_2 l0_2.length c0_2]] ?_
    with_reducible refine (impl_Jacobi_field.calls a0_0 _ _ l0_1 _ _ l0_2 t1105 _ ?side1 ?side2 ?side3 ?side4 A11.out).mono ?_
    (case side1 => exact uC ((Kd.C_below HR0_1.out HB.out)))
    (case side2 => exact HC0_1.out)
    (case side3 => exact uC ((Kd.C_below HR0_2.out HB.out)))
    (case side4 => exact HC0_2.out)
    rintro e w18 ⟨rfl, hb⟩
    refine ⟨_, rfl, ?_⟩
    replace BK1099 := xB BK1099 hb
    replace HB := xH HB hb
    (try clear hb); (try clear hb2); (try clear hk); (try clear hi)
    refine hK.out _ _ ⟨bcu BK1099 0, bcu BK1099 1, bcu BK1099 2⟩ (fun hHeld => ?_)
    clear hK K
    refine no_ 32 ?_
    refine pu_ 30 33 (bl 34 2147483647) HT_ ?_
    refine on_ 31 (some 34) (bl 34 4294967295) HT_ (fun K hK => ?_)
    refine gS Try.func98 #[.slice A0_2 l0_2.length c0_2, (.func (.func 146) #[.int .i64 t1105] #[])] ?_
    with_reducible refine (impl_areAll_int64.calls _ _ l0_2 _ (fun z_ => impl_field_isUnit.f t1105 z_) t1106 _ ?side1 ?side2 ?side3 A12.out).mono ?_
    (case side1 => exact uC ((Kd.C_below HR0_2.out HB.out)))
    (case side2 => exact HC0_2.out)
    (case side3 => exact FnI.of Try.func146 (by kernel_rfl) rfl (fun z_ r_ hr_ W_ hW_ => calls_of_args (args' := #[.int .i64 t1105, .int .i64 z_]) (by simp) ((impl_field_isUnit.calls t1105 z_ r_ W_  hr_).mono fun e_ W2_ h_ => ⟨h_.1, h_.2.below⟩)))
    rintro e w19 ⟨rfl, hb⟩
    refine ⟨_, rfl, ?_⟩
    replace BK1099 := xB BK1099 hb
    replace HB := xH HB hb
    (try clear hb); (try clear hb2); (try clear hk); (try clear hi)
    refine hK.out _ _ ⟨bcu BK1099 0, bcu BK1099 1, bcu BK1099 2⟩ (fun hHeld => ?_)
    clear hK K
    refine no_ 34 ?_
    refine pu_ 32 35 (bl 34 8589934591) HT_ ?_
    refine pu_ 33 2 (bl 34 17179869183) HT_ ?_
    refine done_ (done_of HT_.out (by kernel_rfl)) ?_
    try go_wp2
    go_ret
    exact ⟨by first | rfl | (simp [errW_none, errW_some] <;> rfl) | (simp [*, errW_none, errW_some] <;> rfl), uH HB.out⟩
   ·replace c10 := Bool.eq_false_iff.mpr c10
    subst c10
    have H1 : (some false) = some r := by rw [if_neg (show ¬ (false = true) by decide)] at H; exact H
    clear H
    have H := H1
    clear H1
    obtain rfl := Option.some.inj H
    go_enter Try.func116, Try.ntmps116
    try go_wp2_with (first | ((with_reducible refine gate_dst (N := 1) rfl ?_); (try (refine gate_guard (by rfl) ?_; dsimp only)); refine bx 1 #[.int .i64 a0_0, .slice A0_1 l0_1.length c0_1, .slice A0_2 l0_2.length c0_2] 26 ?_; intro gb1099 hg w20 hbox hb; have BK1099 := zA (hbox); have GW1099 := gq HB hg; have GE1099 := gq HB hg; replace HB := xH HB hb; have := geI GE1099; clear hb hbox hg))
    replace BK1099 := zA (blk_drew BK1099.out)
    replace HB := zA (below_drew1 HB.out)
    refine start_ (n := 34) (S := fun w' => w'.cell? ⟨gb1099, 0, none⟩ = some (.int .i64 a0_0) ∧ w'.cell? ⟨gb1099, 1, none⟩ = some (.slice A0_1 l0_1.length c0_1) ∧ w'.cell? ⟨gb1099, 2, none⟩ = some (.slice A0_2 l0_2.length c0_2)) (ds := []) #[false, false, false, false, false, false, false, false, false, false, false, false, false, false, false, false, false, false, false, false, false, false, false, false, false, false, false, false, false, false, false, false, false, false] (by kernel_rfl) rfl rfl ⟨bcu BK1099 0, bcu BK1099 1, bcu BK1099 2⟩ (fun hHeld => ?_); refine with_tabW impl_IsJacobi.tab1 impl_IsJacobi.bits1 (fun HT_ HW_ => ?_)
    generalize w20.drew = w21 at BK1099 HB hHeld ⊢
    refine pu_ 0 3 (bl 34 1) HT_ ?_
    refine ta_ 1 4 (bl 34 3) HT_ HW_ hHeld ?_
    refine on_ 2 (some 5) (bl 34 7) HT_ (fun K hK => ?_)
    refine gS Try.func120 #[.int .i64 a0_0] ?_
    with_reducible refine (impl_IsPrime.calls k a0_0 true _ A2.out).mono ?_
    rintro e w' ⟨rfl, ⟨nd, rfl⟩⟩
    refine ⟨_, rfl, ?_⟩
    refine hK.out _ _ ⟨bcu BK1099 0, bcu BK1099 1, bcu BK1099 2⟩ (fun hHeld => ?_)
    clear hK K
    refine no_ 5 ?_
    refine pu_ 3 6 (bl 34 15) HT_ ?_
    refine ta_ 4 7 (bl 34 31) HT_ HW_ hHeld ?_
    refine on_ 5 (some 8) (bl 34 63) HT_ (fun K hK => ?_)
    refine gS Try.func59 #[.agg #[.int .i64 a0_0, .slice A0_1 l0_1.length c0_1, .slice A0_2 l0_2.length c0_2]] ?_
    with_reducible refine (impl_Jacobi_size.calls a0_0 _ _ l0_1 _ _ l0_2 t1101 _ ?side1 ?side2 ?side3 ?side4 A4.out).mono ?_
    (case side1 => repeat (first | exact (Kd.C_below HR0_1.out (uH HB.out)) | (with_reducible refine Kd.C_alloc ?_ _) | (with_reducible refine Kd.C_drewN ?_ _) | (with_reducible refine Kd.C_drew ?_)))
    (case side2 => exact HC0_1.out)
    (case side3 => repeat (first | exact (Kd.C_below HR0_2.out (uH HB.out)) | (with_reducible refine Kd.C_alloc ?_ _) | (with_reducible refine Kd.C_drewN ?_ _) | (with_reducible refine Kd.C_drew ?_)))
    (case side4 => exact HC0_2.out)
    rintro e w22 ⟨rfl, hb⟩
    refine ⟨_, rfl, ?_⟩
    replace BK1099 := xB BK1099 hb
    replace HB := xH HB hb
    (try clear hb); (try clear hb2); (try clear hk); (try clear hi)
    refine hK.out _ _ ⟨bcu BK1099 0, bcu BK1099 1, bcu BK1099 2⟩ (fun hHeld => ?_)
    clear hK K
    refine no_ 8 ?_
    refine on_ 6 (some 9) (bl 34 127) HT_ (fun K hK => ?_)
    refine gS Try.func121 #[.int .i64 t1101, .int .i64 1, .int .i64 12] ?_
    with_reducible refine (impl_within.calls t1101 1 12 true _ A5.out).mono ?_
    rintro e w' ⟨rfl, ⟨nd, rfl⟩⟩
    refine ⟨_, rfl, ?_⟩
    refine hK.out _ _ ⟨bcu BK1099 0, bcu BK1099 1, bcu BK1099 2⟩ (fun hHeld => ?_)
    clear hK K
    refine no_ 9 ?_
    refine pu_ 7 10 (bl 34 255) HT_ ?_
    refine pu_ 8 11 (bl 34 511) HT_ ?_
    refine pu_ 9 12 (bl 34 1023) HT_ ?_
    refine pu_ 12 15 (bl 34 5119) HT_ ?_
    refine ta_ 10 13 (bl 34 6143) HT_ HW_ hHeld ?_
    refine pu_ 11 14 (bl 34 8191) HT_ ?_
    refine ta_ 13 16 (bl 34 16383) HT_ HW_ hHeld ?_
    refine pu_ 14 17 (bl 34 32767) HT_ ?_
    refine pu_ 15 18 (bl 34 65535) HT_ ?_
    refine pu_ 16 19 (bl 34 131071) HT_ ?_
    refine pu_ 17 20 (bl 34 262143) HT_ ?_
    refine pu_ 18 21 (bl 34 524287) HT_ ?_
    refine ta_ 19 22 (bl 34 1048575) HT_ HW_ hHeld ?_
    refine ta_ 20 23 (bl 34 2097151) HT_ HW_ hHeld ?_
    refine on_ 21 (some 24) (bl 34 4194303) HT_ (fun K hK => ?_)
    refine gS Try.func79 #[.agg #[.int .i64 a0_0, .slice A0_1 l0_1.length c0_1, .slice A0_2 l0_2.length c0_2]] ?_
    with_reducible refine (impl_Jacobi_field.calls a0_0 _ _ l0_1 _ _ l0_2 t1103 _ ?side1 ?side2 ?side3 ?side4 A8.out).mono ?_
    (case side1 => repeat (first | exact (Kd.C_below HR0_1.out (uH HB.out)) | (with_reducible refine Kd.C_alloc ?_ _) | (with_reducible refine Kd.C_drewN ?_ _) | (with_reducible refine Kd.C_drew ?_)))
    (case side2 => exact HC0_1.out)
    (case side3 => repeat (first | exact (Kd.C_below HR0_2.out (uH HB.out)) | (with_reducible refine Kd.C_alloc ?_ _) | (with_reducible refine Kd.C_drewN ?_ _) | (with_reducible refine Kd.C_drew ?_)))
    (case side4 => exact HC0_2.out)
    rintro e w23 ⟨rfl, hb⟩
    refine ⟨_, rfl, ?_⟩
    replace BK1099 := xB BK1099 hb
    replace HB := xH HB hb
    (try clear hb); (try clear hb2); (try clear hk); (try clear hi)
    refine hK.out _ _ ⟨bcu BK1099 0, bcu BK1099 1, bcu BK1099 2⟩ (fun hHeld => ?_)
    clear hK K
    refine no_ 24 ?_
    refine pu_ 22 25 (bl 34 8388607) HT_ ?_
    refine on_ 23 (some 26) (bl 34 16777215) HT_ (fun K hK => ?_)
    refine gS Try.func98 #[.slice A0_1 l0_1.length c0_1, (.func (.func 99) #[.int .i64 t1103] #[])] ?_
    with_reducible refine (impl_areAll_int64.calls _ _ l0_1 _ (fun z_ => impl_field_has.f t1103 z_) false _ ?side1 ?side2 ?side3 A9.out).mono ?_
    (case side1 => exact uC ((Kd.C_below HR0_1.out HB.out)))
    (case side2 => exact HC0_1.out)
    (case side3 => exact FnI.of Try.func99 (by kernel_rfl) rfl (fun z_ r_ hr_ W_ hW_ => calls_of_args (args' := #[.int .i64 t1103, .int .i64 z_]) (by simp) ((impl_field_has.calls t1103 z_ r_ W_  hr_).mono fun e_ W2_ h_ => ⟨h_.1, h_.2.below⟩)))
    rintro e w24 ⟨rfl, hb⟩
    refine ⟨_, rfl, ?_⟩
    replace BK1099 := xB BK1099 hb
    replace HB := xH HB hb
    (try clear hb); (try clear hb2); (try clear hk); (try clear hi)
    refine hK.out _ _ ⟨bcu BK1099 0, bcu BK1099 1, bcu BK1099 2⟩ (fun hHeld => ?_)
    clear hK K
    refine no_ 26 ?_
    refine pu_ 24 27 (bl 34 33554431) HT_ ?_
    refine pu_ 25 28 (bl 34 67108863) HT_ ?_
    refine un_ 26 29 (bl 34 134217727) HT_ ?_
    refine un_ 27 30 (bl 34 268435455) HT_ ?_
    refine un_ 28 31 (bl 34 536870911) HT_ ?_
    refine un_ 29 32 (bl 34 1073741823) HT_ ?_
    refine un_ 30 33 (bl 34 2147483647) HT_ ?_
    refine un_ 31 34 (bl 34 4294967295) HT_ ?_
    refine pu_ 32 35 (bl 34 8589934591) HT_ ?_
    refine pu_ 33 2 (bl 34 17179869183) HT_ ?_
    refine done_ (done_of HT_.out (by kernel_rfl)) ?_
    try go_wp2
    go_ret
    exact ⟨by first | rfl | (simp [errW_none, errW_some] <;> rfl) | (simp [*, errW_none, errW_some] <;> rfl), uH HB.out⟩
  ·replace c6 := Bool.eq_false_iff.mpr c6
   subst c6
   have H1 : (some false) = some r := by rw [if_neg (show ¬ (false = true) by decide)] at H; exact H
   clear H
   have H := H1
   clear H1
   obtain rfl := Option.some.inj H
   go_enter Try.func116, Try.ntmps116
   try go_wp2_with (first | ((with_reducible refine gate_dst (N := 1) rfl ?_); (try (refine gate_guard (by rfl) ?_; dsimp only)); refine bx 1 #[.int .i64 a0_0, .slice A0_1 l0_1.length c0_1, .slice A0_2 l0_2.length c0_2] 26 ?_; intro gb1099 hg w28 hbox hb; have BK1099 := zA (hbox); have GW1099 := gq HB hg; have GE1099 := gq HB hg; replace HB := xH HB hb; have := geI GE1099; clear hb hbox hg))
   replace BK1099 := zA (blk_drew BK1099.out)
   replace HB := zA (below_drew1 HB.out)
   refine start_ (n := 34) (S := fun w' => w'.cell? ⟨gb1099, 0, none⟩ = some (.int .i64 a0_0) ∧ w'.cell? ⟨gb1099, 1, none⟩ = some (.slice A0_1 l0_1.length c0_1) ∧ w'.cell? ⟨gb1099, 2, none⟩ = some (.slice A0_2 l0_2.length c0_2)) (ds := []) #[false, false, false, false, false, false, false, false, false, false, false, false, false, false, false, false, false, false, false, false, false, false, false, false, false, false, false, false, false, false, false, false, false, false] (by kernel_rfl) rfl rfl ⟨bcu BK1099 0, bcu BK1099 1, bcu BK1099 2⟩ (fun hHeld => ?_); refine with_tabW impl_IsJacobi.tab1 impl_IsJacobi.bits1 (fun HT_ HW_ => ?_)
   generalize w28.drew = w29 at BK1099 HB hHeld ⊢
   refine pu_ 0 3 (bl 34 1) HT_ ?_
   refine ta_ 1 4 (bl 34 3) HT_ HW_ hHeld ?_
   refine on_ 2 (some 5) (bl 34 7) HT_ (fun K hK => ?_)
   refine gS Try.func120 #[.int .i64 a0_0] ?_
   with_reducible refine (impl_IsPrime.calls k a0_0 true _ A2.out).mono ?_
   rintro e w' ⟨rfl, ⟨nd, rfl⟩⟩
   refine ⟨_, rfl, ?_⟩
   refine hK.out _ _ ⟨bcu BK1099 0, bcu BK1099 1, bcu BK1099 2⟩ (fun hHeld => ?_)
   clear hK K
   refine no_ 5 ?_
   refine pu_ 3 6 (bl 34 15) HT_ ?_
   refine ta_ 4 7 (bl 34 31) HT_ HW_ hHeld ?_
   refine on_ 5 (some 8) (bl 34 63) HT_ (fun K hK => ?_)
   refine gS Try.func59 #[.agg #[.int .i64 a0_0, .slice A0_1 l0_1.length c0_1, .slice A0_2 l0_2.length c0_2]] ?_
   with_reducible refine (impl_Jacobi_size.calls a0_0 _ _ l0_1 _ _ l0_2 t1101 _ ?side1 ?side2 ?side3 ?side4 A4.out).mono ?_
   (case side1 => repeat (first | exact (Kd.C_below HR0_1.out (uH HB.out)) | (with_reducible refine Kd.C_alloc ?_ _) | (with_reducible refine Kd.C_drewN ?_ _) | (with_reducible refine Kd.C_drew ?_)))
   (case side2 => exact HC0_1.out)
   (case side3 => repeat (first | exact (Kd.C_below HR0_2.out (uH HB.out)) | (with_reducible refine Kd.C_alloc ?_ _) | (with_reducible refine Kd.C_drewN ?_ _) | (with_reducible refine Kd.C_drew ?_)))
   (case side4 => exact HC0_2.out)
   rintro e w30 ⟨rfl, hb⟩
   refine ⟨_, rfl, ?_⟩
   replace BK1099 := xB BK1099 hb
   replace HB := xH HB hb
   (try clear hb); (try clear hb2); (try clear hk); (try clear hi)
   refine hK.out _ _ ⟨bcu BK1099 0, bcu BK1099 1, bcu BK1099 2⟩ (fun hHeld => ?_)
   clear hK K
   refine no_ 8 ?_
   refine on_ 6 (some 9) (bl 34 127) HT_ (fun K hK => ?_)
   refine gS Try.func121 #[.int .i64 t1101, .int .i64 1, .int .i64 12] ?_
   with_reducible refine (impl_within.calls t1101 1 12 false _ A5.out).mono ?_
   rintro e w' ⟨rfl, ⟨nd, rfl⟩⟩
   refine ⟨_, rfl, ?_⟩
   refine hK.out _ _ ⟨bcu BK1099 0, bcu BK1099 1, bcu BK1099 2⟩ (fun hHeld => ?_)
   clear hK K
   refine no_ 9 ?_
   refine pu_ 7 10 (bl 34 255) HT_ ?_
   refine pu_ 8 11 (bl 34 511) HT_ ?_
   refine un_ 9 12 (bl 34 1023) HT_ ?_
   refine un_ 10 13 (bl 34 2047) HT_ ?_
   refine un_ 11 14 (bl 34 4095) HT_ ?_
   refine un_ 12 15 (bl 34 8191) HT_ ?_
   refine un_ 13 16 (bl 34 16383) HT_ ?_
   refine un_ 14 17 (bl 34 32767) HT_ ?_
   refine un_ 15 18 (bl 34 65535) HT_ ?_
   refine pu_ 16 19 (bl 34 131071) HT_ ?_
   refine pu_ 17 20 (bl 34 262143) HT_ ?_
   refine un_ 18 21 (bl 34 524287) HT_ ?_
   refine un_ 19 22 (bl 34 1048575) HT_ ?_
   refine un_ 20 23 (bl 34 2097151) HT_ ?_
   refine un_ 21 24 (bl 34 4194303) HT_ ?_
   refine un_ 22 25 (bl 34 8388607) HT_ ?_
   refine un_ 23 26 (bl 34 16777215) HT_ ?_
   refine pu_ 24 27 (bl 34 33554431) HT_ ?_
   refine pu_ 25 28 (bl 34 67108863) HT_ ?_
   refine un_ 26 29 (bl 34 134217727) HT_ ?_
   refine un_ 27 30 (bl 34 268435455) HT_ ?_
   refine un_ 28 31 (bl 34 536870911) HT_ ?_
   refine un_ 29 32 (bl 34 1073741823) HT_ ?_
   refine un_ 30 33 (bl 34 2147483647) HT_ ?_
   refine un_ 31 34 (bl 34 4294967295) HT_ ?_
   refine pu_ 32 35 (bl 34 8589934591) HT_ ?_
   refine pu_ 33 2 (bl 34 17179869183) HT_ ?_
   refine done_ (done_of HT_.out (by kernel_rfl)) ?_
   try go_wp2
   go_ret
   exact ⟨by first | rfl | (simp [errW_none, errW_some] <;> rfl) | (simp [*, errW_none, errW_some] <;> rfl), uH HB.out⟩
 ·replace c3 := Bool.eq_false_iff.mpr c3
  subst c3
  have H1 : (some false) = some r := by rw [if_neg (show ¬ (false = true) by decide)] at H; exact H
  clear H
  have H := H1
  clear H1
  obtain rfl := Option.some.inj H
  go_enter Try.func116, Try.ntmps116
  try go_wp2_with (first | ((with_reducible refine gate_dst (N := 1) rfl ?_); (try (refine gate_guard (by rfl) ?_; dsimp only)); refine bx 1 #[.int .i64 a0_0, .slice A0_1 l0_1.length c0_1, .slice A0_2 l0_2.length c0_2] 26 ?_; intro gb1099 hg w31 hbox hb; have BK1099 := zA (hbox); have GW1099 := gq HB hg; have GE1099 := gq HB hg; replace HB := xH HB hb; have := geI GE1099; clear hb hbox hg))
  replace BK1099 := zA (blk_drew BK1099.out)
  replace HB := zA (below_drew1 HB.out)
  refine start_ (n := 34) (S := fun w' => w'.cell? ⟨gb1099, 0, none⟩ = some (.int .i64 a0_0) ∧ w'.cell? ⟨gb1099, 1, none⟩ = some (.slice A0_1 l0_1.length c0_1) ∧ w'.cell? ⟨gb1099, 2, none⟩ = some (.slice A0_2 l0_2.length c0_2)) (ds := []) #[false, false, false, false, false, false, false, false, false, false, false, false, false, false, false, false, false, false, false, false, false, false, false, false, false, false, false, false, false, false, false, false, false, false] (by kernel_rfl) rfl rfl ⟨bcu BK1099 0, bcu BK1099 1, bcu BK1099 2⟩ (fun hHeld => ?_); refine with_tabW impl_IsJacobi.tab1 impl_IsJacobi.bits1 (fun HT_ HW_ => ?_)
  generalize w31.drew = w32 at BK1099 HB hHeld ⊢
  refine pu_ 0 3 (bl 34 1) HT_ ?_
  refine ta_ 1 4 (bl 34 3) HT_ HW_ hHeld ?_
  refine on_ 2 (some 5) (bl 34 7) HT_ (fun K hK => ?_)
  refine gS Try.func120 #[.int .i64 a0_0] ?_
  with_reducible refine (impl_IsPrime.calls k a0_0 false _ A2.out).mono ?_
  rintro e w' ⟨rfl, ⟨nd, rfl⟩⟩
  refine ⟨_, rfl, ?_⟩
  refine hK.out _ _ ⟨bcu BK1099 0, bcu BK1099 1, bcu BK1099 2⟩ (fun hHeld => ?_)
  clear hK K
  refine no_ 5 ?_
  refine pu_ 3 6 (bl 34 15) HT_ ?_
  refine un_ 4 7 (bl 34 31) HT_ ?_
  refine un_ 5 8 (bl 34 63) HT_ ?_
  refine un_ 6 9 (bl 34 127) HT_ ?_
  refine pu_ 7 10 (bl 34 255) HT_ ?_
  refine pu_ 8 11 (bl 34 511) HT_ ?_
  refine un_ 9 12 (bl 34 1023) HT_ ?_
  refine un_ 10 13 (bl 34 2047) HT_ ?_
  refine un_ 11 14 (bl 34 4095) HT_ ?_
  refine un_ 12 15 (bl 34 8191) HT_ ?_
  refine un_ 13 16 (bl 34 16383) HT_ ?_
  refine un_ 14 17 (bl 34 32767) HT_ ?_
  refine un_ 15 18 (bl 34 65535) HT_ ?_
  refine pu_ 16 19 (bl 34 131071) HT_ ?_
  refine pu_ 17 20 (bl 34 262143) HT_ ?_
  refine un_ 18 21 (bl 34 524287) HT_ ?_
  refine un_ 19 22 (bl 34 1048575) HT_ ?_
  refine un_ 20 23 (bl 34 2097151) HT_ ?_
  refine un_ 21 24 (bl 34 4194303) HT_ ?_
  refine un_ 22 25 (bl 34 8388607) HT_ ?_
  refine un_ 23 26 (bl 34 16777215) HT_ ?_
  refine pu_ 24 27 (bl 34 33554431) HT_ ?_
  refine pu_ 25 28 (bl 34 67108863) HT_ ?_
  refine un_ 26 29 (bl 34 134217727) HT_ ?_
  refine un_ 27 30 (bl 34 268435455) HT_ ?_
  refine un_ 28 31 (bl 34 536870911) HT_ ?_
  refine un_ 29 32 (bl 34 1073741823) HT_ ?_
  refine un_ 30 33 (bl 34 2147483647) HT_ ?_
  refine un_ 31 34 (bl 34 4294967295) HT_ ?_
  refine pu_ 32 35 (bl 34 8589934591) HT_ ?_
  refine pu_ 33 2 (bl 34 17179869183) HT_ ?_
  refine done_ (done_of HT_.out (by kernel_rfl)) ?_
  try go_wp2
  go_ret
  exact ⟨by first | rfl | (simp [errW_none, errW_some] <;> rfl) | (simp [*, errW_none, errW_some] <;> rfl), uH HB.out⟩
/-! ### impl_jacobiCode: function 57 -/
def impl_jacobiCode.f (k : Nat) (a0_0 : Int) (l0_1 : List Int) (l0_2 : List Int) (a1 : Bool) : Option (Int) := (impl_IsJacobi.f k a0_0 l0_1 l0_2).bind fun t1108 => (if t1108 = true then (if a1 = true then (some 0) else (some 2)) else (some 1))
set_option maxHeartbeats 8000000 in
set_option maxRecDepth 100000 in
theorem impl_jacobiCode.calls (k : Nat) (a0_0 : Int) (A0_1 : Option Addr) (c0_1 : Nat) (l0_1 : List Int) (A0_2 : Option Addr) (c0_2 : Nat) (l0_2 : List Int) (a1 : Bool) (r : Int) (w : World) (hr0_1 : Kd.C (Kd.int .i64) w A0_1 l0_1.length l0_1) (hc0_1 : l0_1.length ≤ c0_1) (hr0_2 : Kd.C (Kd.int .i64) w A0_2 l0_2.length l0_2) (hc0_2 : l0_2.length ≤ c0_2) (h : impl_jacobiCode.f k a0_0 l0_1 l0_2 a1 = some r) :
  Calls Try.prog 57 #[.agg #[.int .i64 a0_0, .slice A0_1 l0_1.length c0_1, .slice A0_2 l0_2.length c0_2], .bool a1] w fun e w' => e = .returned (.int .i64 r) ∧ Below w.heap.size w w' := by
 have hu26 := Try.underlying26
 have HR0_1 := zA hr0_1
 have HC0_1 := zA hc0_1
 clear hr0_1 hc0_1
 have HR0_2 := zA hr0_2
 have HC0_2 := zA hc0_2
 clear hr0_2 hc0_2
 have HB := zA (Below.refl w.heap.size w)
 have H : ((impl_IsJacobi.f k a0_0 l0_1 l0_2).bind fun t1108 => (if t1108 = true then (if a1 = true then (some 0) else (some 2)) else (some 1))) = some r := h
 clear h
 replace H := Option.bind_eq_some_iff.mp H
 obtain ⟨t1108, A30, H⟩ := H
 replace H : (if t1108 = true then (if a1 = true then (some 0) else (some 2)) else (some 1)) = some r := H
 have A3 := zA A30
 clear A30
 by_cases c4 : t1108 = true
 ·subst c4
  have H1 : (if a1 = true then (some 0) else (some 2)) = some r := by rw [if_pos rfl] at H; exact H
  clear H
  have H := H1
  clear H1
  by_cases c5 : a1 = true
  ·subst c5
   have H1 : (some 0) = some r := by rw [if_pos rfl] at H; exact H
   clear H
   have H := H1
   clear H1
   obtain rfl := Option.some.inj H
   go_enter Try.func57, Try.ntmps57
   go_wp2_with (first | ((with_reducible refine gate_dst (N := 2) rfl ?_); refine bx 2 #[.int .i64 a0_0, .slice A0_1 l0_1.length c0_1, .slice A0_2 l0_2.length c0_2] 26 ?_; intro gb1107 hg w6 hbox hb; have BK1107 := zA (hbox); have GW1107 := gq HB hg; have GE1107 := gq HB hg; replace HB := xH HB hb; have := geI GE1107; clear hb hbox hg; have hcz7_0 := bc BK1107 0; have hcz7_1 := bc BK1107 1; have hcz7_2 := bc BK1107 2; have hfz7_0 := bf BK1107 0; have hfz7_1 := bf BK1107 1; have hfz7_2 := bf BK1107 2) | ((with_reducible refine gate_callee (f := 116) rfl ?_); refine gL (some 7) Try.func116 #[.agg #[.int .i64 a0_0, .slice A0_1 l0_1.length c0_1, .slice A0_2 l0_2.length c0_2]] ?_; (with_reducible refine (impl_IsJacobi.calls k a0_0 _ _ l0_1 _ _ l0_2 true _ ?side1 ?side2 ?side3 ?side4 A3.out).mono ?_); (case side1 => exact uC ((Kd.C_below HR0_1.out HB.out))); (case side2 => exact HC0_1.out); (case side3 => exact uC ((Kd.C_below HR0_2.out HB.out))); (case side4 => exact HC0_2.out); rintro e w8 ⟨rfl, hb⟩; refine ⟨_, rfl, ?_⟩; replace BK1107 := xB BK1107 hb; replace HB := xH HB hb; (try clear hb); (try clear hb2); (try clear hk); (try clear hi)))
   go_ret
   exact ⟨by first | rfl | (simp [errW_none, errW_some] <;> rfl) | (simp [*, errW_none, errW_some] <;> rfl), uH HB.out⟩
  ·replace c5 := Bool.eq_false_iff.mpr c5
   subst c5
   have H1 : (some 2) = some r := by rw [if_neg (show ¬ (false = true) by decide)] at H; exact H
   clear H
   have H := H1
   clear H1
   obtain rfl := Option.some.inj H
   go_enter Try.func57, Try.ntmps57
   go_wp2_with (first | ((with_reducible refine gate_dst (N := 2) rfl ?_); refine bx 2 #[.int .i64 a0_0, .slice A0_1 l0_1.length c0_1, .slice A0_2 l0_2.length c0_2] 26 ?_; intro gb1107 hg w9 hbox hb; have BK1107 := zA (hbox); have GW1107 := gq HB hg; have GE1107 := gq HB hg; replace HB := xH HB hb; have := geI GE1107; clear hb hbox hg; have hcz10_0 := bc BK1107 0; have hcz10_1 := bc BK1107 1; have hcz10_2 := bc BK1107 2; have hfz10_0 := bf BK1107 0; have hfz10_1 := bf BK1107 1; have hfz10_2 := bf BK1107 2) | ((with_reducible refine gate_callee (f := 116) rfl ?_); refine gL (some 7) Try.func116 #[.agg #[.int .i64 a0_0, .slice A0_1 l0_1.length c0_1, .slice A0_2 l0_2.length c0_2]] ?_; (with_reducible refine (impl_IsJacobi.calls k a0_0 _ _ l0_1 _ _ l0_2 true _ ?side1 ?side2 ?side3 ?side4 A3.out).mono ?_); (case side1 => exact uC ((Kd.C_below HR0_1.out HB.out))); (case side2 => exact HC0_1.out); (case side3 => exact uC ((Kd.C_below HR0_2.out HB.out))); (case side4 => exact HC0_2.out); rintro e w11 ⟨rfl, hb⟩; refine ⟨_, rfl, ?_⟩; replace BK1107 := xB BK1107 hb; replace HB := xH HB hb; (try clear hb); (try clear hb2); (try clear hk); (try clear hi)))
   go_ret
   exact ⟨by first | rfl | (simp [errW_none, errW_some] <;> rfl) | (simp [*, errW_none, errW_some] <;> rfl), uH HB.out⟩
 ·replace c4 := Bool.eq_false_iff.mpr c4
  subst c4
  have H1 : (some 1) = some r := by rw [if_neg (show ¬ (false = true) by decide)] at H; exact H
  clear H
  have H := H1
  clear H1
  obtain rfl := Option.some.inj H
  go_enter Try.func57, Try.ntmps57
  go_wp2_with (first | ((with_reducible refine gate_dst (N := 2) rfl ?_); refine bx 2 #[.int .i64 a0_0, .slice A0_1 l0_1.length c0_1, .slice A0_2 l0_2.length c0_2] 26 ?_; intro gb1107 hg w12 hbox hb; have BK1107 := zA (hbox); have GW1107 := gq HB hg; have GE1107 := gq HB hg; replace HB := xH HB hb; have := geI GE1107; clear hb hbox hg; have hcz13_0 := bc BK1107 0; have hcz13_1 := bc BK1107 1; have hcz13_2 := bc BK1107 2; have hfz13_0 := bf BK1107 0; have hfz13_1 := bf BK1107 1; have hfz13_2 := bf BK1107 2) | ((with_reducible refine gate_callee (f := 116) rfl ?_); refine gL (some 7) Try.func116 #[.agg #[.int .i64 a0_0, .slice A0_1 l0_1.length c0_1, .slice A0_2 l0_2.length c0_2]] ?_; (with_reducible refine (impl_IsJacobi.calls k a0_0 _ _ l0_1 _ _ l0_2 false _ ?side1 ?side2 ?side3 ?side4 A3.out).mono ?_); (case side1 => exact uC ((Kd.C_below HR0_1.out HB.out))); (case side2 => exact HC0_1.out); (case side3 => exact uC ((Kd.C_below HR0_2.out HB.out))); (case side4 => exact HC0_2.out); rintro e w14 ⟨rfl, hb⟩; refine ⟨_, rfl, ?_⟩; replace BK1107 := xB BK1107 hb; replace HB := xH HB hb; (try clear hb); (try clear hb2); (try clear hk); (try clear hi)))
  go_ret
  exact ⟨by first | rfl | (simp [errW_none, errW_some] <;> rfl) | (simp [*, errW_none, errW_some] <;> rfl), uH HB.out⟩
end Go.Proofs.Ytfbnkebgdmfcfaa.Pr
