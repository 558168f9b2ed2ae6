/- Texts of this session in one: what functions of the program compute, and plain facts of it, under the conditions that each theorem names. -/
import Derived.Test.YtfbnkebgdmfcfaaKGaussRule1
import Derived.Test.YtfbnkebgdmfcfaaKGaussRule2
namespace Go.Proofs.Ytfbnkebgdmfcfaa.Pr
open Go.RowKit Go.Proofs.YtfbnkebgdmfcfaaW.PrintWords Go.Proofs.YtfbnkebgdmfcfaaW.PrintLast Go.Proofs.YtfbnkebgdmfcfaaW.PrintMore
attribute [local go_sem] max2_int min2_int max_two min_two max_three min_three max_four min_four   -- for this text's walks alone
set_option linter.unusedVariables false
set_option linter.unusedSimpArgs false
/-! ### impl_Jacobi_polys: function 81 -/
def impl_Jacobi_polys.l0 : Nat → List (List Int) → List Int → List Int → Int → Int → Int → List Int → List Int → Option ((List (List Int)))
 | 0, _, _, _, _, _, _, _, _ => none
 | k + 1, x3, x4, x11, x12, x13, x1378000, x1378001, x1378002 => if x13 < x12 then (if 0 ≤ x13 then (if x13 < (x11.length : Int) then (if x13 < (x3.length : Int) then ((impl_Jacobi_field.f x1378000 x1378001 x1378002).bind fun t1386 => (if x13 < (x1378002.length : Int) then ((impl_field_next.f k t1386 (rd x11 x13) (rd x1378002 x13) (rd_L1 x3 x13) x4).bind fun t1388 => (if x3.length < 5864062014805 then (impl_Jacobi_polys.l0 k (x3 ++ [t1388]) (rd_L1 x3 x13) x11 x12 (wrap64 (x13 + 1)) x1378000 x1378001 x1378002) else (none))) else (none))) else (none)) else (none)) else (none)) else (some x3)
def impl_Jacobi_polys.f (k : Nat) (a0_0 : Int) (l0_1 : List Int) (l0_2 : List Int) : Option ((List (List Int))) := impl_Jacobi_polys.l0 k (([(([1] : List Int))] : List (List Int))) ([] : List Int) l0_1 (l0_1.length : Int) 0 a0_0 l0_1 l0_2
def impl_Jacobi_polys.T7 : Bool × List (List Nat × List Nat) := (true, [([], []), ([], []), ([1], [1]), ([], []), ([], []), ([4], [4]), ([], []), ([5, 6], [5, 6]), ([7], [7]), ([], []), ([], []), ([2, 3, 8, 9, 10, 2], [2, 3, 8, 9, 10]), ([11], [11]), ([0, 12, 11], [0, 12]), ([13, 13, 0, 1, 2, 3, 4, 5, 6, 7, 8, 9, 10, 11, 12, 13], [0, 13])])
def impl_Jacobi_polys.B7 : List Nat := [0, 0, 2, 0, 0, 16, 0, 112, 240, 0, 0, 2046, 4094, 8191, 16383]
theorem impl_Jacobi_polys.tab7 : rtab .any (opsOf Try.f81 7) = impl_Jacobi_polys.T7 := by kernel_rfl
theorem impl_Jacobi_polys.bits7 : waitsOk impl_Jacobi_polys.T7.2 impl_Jacobi_polys.B7 = true := by kernel_rfl
set_option maxHeartbeats 8000000 in
set_option maxRecDepth 100000 in
theorem impl_Jacobi_polys.calls (k : Nat) (a0_0 : Int) (A0_1 : Option Addr) (c0_1 : Nat) (l0_1 : List Int) (A0_2 : Option Addr) (c0_2 : Nat) (l0_2 : List Int) (r : List (List Int)) (w : World) (hr0_1 : Kd.C (Kd.int .i64) w A0_1 l0_1.length l0_1) (hc0_1 : l0_1.length ≤ c0_1) (hr0_2 : Kd.C (Kd.int .i64) w A0_2 l0_2.length l0_2) (hc0_2 : l0_2.length ≤ c0_2) (h : impl_Jacobi_polys.f k a0_0 l0_1 l0_2 = some r) :
  Calls Try.prog 81 #[.agg #[.int .i64 a0_0, .slice A0_1 l0_1.length c0_1, .slice A0_2 l0_2.length c0_2]] w fun e w' => ∃ v0_ : Value, e = .returned (v0_) ∧ Kd.N (Kd.slice 2 (Kd.int .i64)) 22 w' w.heap.size (fun k_ => (w.heap.size ≤ k_)) v0_ r ∧ Below w.heap.size w w' := by
 have hu26 := Try.underlying26
 have HR0_1 := zA hr0_1
 have HC0_1 := zA hc0_1
 clear hr0_1 hc0_1
 have HR0_2 := zA hr0_2
 have HC0_2 := zA hc0_2
 clear hr0_2 hc0_2
 have HB := zA (Below.refl w.heap.size w)
 have H : (impl_Jacobi_polys.l0 k (([(([1] : List Int))] : List (List Int))) ([] : List Int) l0_1 (l0_1.length : Int) 0 a0_0 l0_1 l0_2) = some r := h
 clear h
 obtain ⟨y1378, hy1378⟩ : ∃ y_ : List Int, y_ = (([1] : List Int)) := ⟨_, rfl⟩
 replace H : (impl_Jacobi_polys.l0 k (([y1378] : List (List Int))) ([] : List Int) l0_1 (l0_1.length : Int) 0 a0_0 l0_1 l0_2) = some r := by first | (rw [hy1378]; exact H) | exact H
 have Ny1378 := zA hy1378
 clear hy1378
 obtain ⟨y1381, hy1381⟩ : ∃ y_ : List (List Int), y_ = (([y1378] : List (List Int))) := ⟨_, rfl⟩
 replace H : (impl_Jacobi_polys.l0 k y1381 ([] : List Int) l0_1 (l0_1.length : Int) 0 a0_0 l0_1 l0_2) = some r := by first | (rw [hy1381]; exact H) | exact H
 have Ny1381 := zA hy1381
 clear hy1381
 have H' := zA H
 clear H
 go_enter Try.func81, Try.ntmps81
 go_wp2_with (first | ((with_reducible refine gate_dst (N := 1) rfl ?_); refine bx 1 #[.int .i64 a0_0, .slice A0_1 l0_1.length c0_1, .slice A0_2 l0_2.length c0_2] 26 ?_; intro gb1377 hg w2 hbox hb; have BK1377 := zA (hbox); have GW1377 := gq HB hg; have GE1377 := gq HB hg; replace HB := xH HB hb; have := geI GE1377; clear hb hbox hg) | ((with_reducible refine gate_dst (N := 8) rfl ?_); refine Kd.R_lit (Kd.int .i64) _ 2 ?hg (N := 8) ?hd (xs := ([1] : List Int)) (inner := [.int .i64 1]) (ok := fun _ => True) (okp := fun _ => True) ?hr ?hp (fun _ hk => hk) trivial (Below.refl _ _) (Nat.le_refl _) (by simp) ?_; (case hd => rfl); (case hg => rfl); (case hr => first | (go_simp; done) | (go_simp; rfl)); (case hp => exact (Reps.one (show Kd.M (Kd.int .i64) _ _ _ 1 [.int .i64 1] from rfl) (Reps.none _ _))); intro v1379 w3 ho4 hb hg_ hnew_; clear hg_ hnew_; (first | rw [← Ny1378.out] at ho4 | (simp only [Int.reduceToNat] at ho4; rw [← Ny1378.out] at ho4)); have HO1380 := zA (Kd.R_lower (Kd.R_newM (M := fun k_ => (w.heap.size ≤ k_)) ho4 (below_size (uH HB.out)) (fun k_ h_ => h_)) (below_size (uH HB.out))); replace BK1377 := xB BK1377 hb; replace HB := xH HB hb; clear hb ho4; obtain ⟨Ao5, co5, eo5⟩ := Kd.R_slice HO1380.out; subst eo5) | ((with_reducible refine gate_dst (N := 9) rfl ?_); refine Kd.N_lit (Kd.slice 2 (Kd.int .i64)) _ 22 ?hg (N' := 9) ?hd (xs := ([y1378] : List (List Int))) (inner := [.slice Ao5 y1378.length co5]) (ok := (fun k_ => (w.heap.size ≤ k_) ∧ k_ ≠ gb1377)) (okp := (fun k_ => (w.heap.size ≤ k_) ∧ k_ ≠ gb1377)) ?hr ?hp (fun _ hk => hk) ((show ∀ k_, w3.heap.size ≤ k_ → (fun k_ => (w.heap.size ≤ k_) ∧ k_ ≠ gb1377) k_ from fun k_ hk => ⟨(Nat.le_trans (below_size (uH HB.out)) hk), Kd.freshB (g := gb1377) (o := .cells #[.int .i64 a0_0, .slice A0_1 l0_1.length c0_1, .slice A0_2 l0_2.length c0_2] 26 (0, 0)) (uB BK1377.out) k_ hk⟩) _ (Nat.le_refl _)) (Below.refl _ _) (Nat.le_refl _) (by simp) ?_; (case hd => rfl); (case hg => rfl); (case hr => first | (go_simp; done) | (go_simp; rfl)); (case hp => exact (Reps.one (show Kd.FK (Kd.slice 2 (Kd.int .i64)) _ _ y1378 [.slice Ao5 y1378.length co5] from (Kd.FK_slice_mk (Kd.R_reads' (Kd.R_mono (ok' := (fun k_ => (w.heap.size ≤ k_) ∧ k_ ≠ gb1377)) (Kd.R_types (HO1380.out) BK1377.out (by decide)) (fun k_ hk => ⟨hk.1.1, hk.2⟩))).2.1 (Kd.R_F (Kd.R_mono (ok' := (fun k_ => (w.heap.size ≤ k_) ∧ k_ ≠ gb1377)) (Kd.R_types (HO1380.out) BK1377.out (by decide)) (fun k_ hk => ⟨hk.1.1, hk.2⟩))))) (Reps.none _ _))); intro v1382 w6 ho7 hb hg_ hnew_; clear hg_ hnew_; (first | rw [← Ny1381.out] at ho7 | (simp only [Int.reduceToNat] at ho7; rw [← Ny1381.out] at ho7)); have HO1383 := zA (Kd.N_lower ho7 (below_size (uH HB.out))); replace BK1377 := xB BK1377 hb; replace HB := xH HB hb; clear HO1380 hb ho7; have hcz8_0 := bc BK1377 0; have hcz8_1 := bc BK1377 1; have hcz8_2 := bc BK1377 2; have hfz8_0 := bf BK1377 0; have hfz8_1 := bf BK1377 1; have hfz8_2 := bf BK1377 2))
 go_loopg [3, 4, 13] k (fun kq v3 v4 v13 w' => ∃ (x3_1 : List (List Int)) (x4_1 : List Int) (x13_1 : Int), v13 = .int .i64 x13_1 ∧ Aside0 (impl_Jacobi_polys.l0 kq x3_1 x4_1 l0_1 (l0_1.length : Int) x13_1 a0_0 l0_1 l0_2 = some r) ∧ Aside0 (kq ≤ k) ∧ Aside0 (Kd.N (Kd.slice 2 (Kd.int .i64)) 22 w' w.heap.size (fun k_ => (w.heap.size ≤ k_) ∧ k_ ≠ gb1377) v3 x3_1) ∧ Aside0 (Kd.V (Kd.int .i64) 2 w' w.heap.size (fun k_ => (w.heap.size ≤ k_) ∧ some k_ ≠ (v3 : Value).ownBlock ∧ k_ ≠ gb1377) v4 x4_1) ∧ Aside0 (w'.heap[gb1377]? = some (.cells #[.int .i64 a0_0, (.slice A0_1 l0_1.length c0_1), (.slice A0_2 l0_2.length c0_2)] 26 (0, 0))) ∧ Aside0 (Below w.heap.size w w'))
 case atStart => exact ⟨(y1381), (([] : List Int)), (0), (by first | rfl | (simp; done) | (simp [*]; done)), H', ⟨Nat.le_refl _⟩, ⟨by (with_reducible repeat (first | apply Kd.N_alloc | apply Kd.N_drewN | apply Kd.N_drew)); exact HO1383.out⟩, ⟨Kd.V_nil _ _ _ _ _⟩, ⟨uB BK1377.out⟩, ⟨uH HB.out⟩⟩
 case round =>
  clear H'
  (try clear p2);(try clear c8);(try clear hcz8_0);(try clear hcz8_1);(try clear hcz8_2);(try clear hfz8_0);(try clear hfz8_1);(try clear hfz8_2)
  obtain ⟨x3_1, x4_1, x13_1, rfl, HA, HK1, HO_3, HO_4, BK1377, HB⟩ := hrel
  cases gk with
  | zero => exact absurd HA.out (by simp [impl_Jacobi_polys.l0])
  | succ k1 =>
   have H := HA.out
   clear HA
   simp only [impl_Jacobi_polys.l0] at H
   by_cases c9 : x13_1 < (l0_1.length : Int)
   rotate_left
   ·rw [if_neg c9] at H
    have c9b0 : decide (x13_1 < (l0_1.length : Int)) = false := decide_eq_false c9
    clear c9
    obtain rfl := Option.some.inj H
    go_wp2
    go_ret
    exact ⟨_, by first | rfl | (simp [errW_none, errW_some] <;> rfl) | (simp [*, errW_none, errW_some] <;> rfl), by (with_reducible repeat (first | apply Kd.N_alloc | apply Kd.N_drewN | apply Kd.N_drew)); exact Kd.N_mono HO_3.out (fun _ hk => hk.1), uH HB.out⟩

   rw [if_pos c9] at H
   have c9b0 : decide (x13_1 < (l0_1.length : Int)) = true := decide_eq_true c9
   clear c9
   by_cases c10 : 0 ≤ x13_1
   rotate_left
   ·rw [if_neg c10] at H
    exact absurd H (by simp)
   rw [if_pos c10] at H
   have c10b0 : decide (0 ≤ x13_1) = true := decide_eq_true c10
   clear c10
   by_cases c11 : x13_1 < (l0_1.length : Int)
   rotate_left
   ·rw [if_neg c11] at H
    exact absurd H (by simp)
   rw [if_pos c11] at H
   have c11b0 : decide (x13_1 < (l0_1.length : Int)) = true := decide_eq_true c11
   clear c11
   by_cases c12 : x13_1 < (x3_1.length : Int)
   rotate_left
   ·rw [if_neg c12] at H
    exact absurd H (by simp)
   rw [if_pos c12] at H
   have c12b0 : decide (x13_1 < (x3_1.length : Int)) = true := decide_eq_true c12
   clear c12
   replace H := Option.bind_eq_some_iff.mp H
   obtain ⟨t1386, A130, H⟩ := H
   replace H : (if x13_1 < (l0_2.length : Int) then ((impl_field_next.f k1 t1386 (rd l0_1 x13_1) (rd l0_2 x13_1) (rd_L1 x3_1 x13_1) x4_1).bind fun t1388 => (if x3_1.length < 5864062014805 then (impl_Jacobi_polys.l0 k1 (x3_1 ++ [t1388]) (rd_L1 x3_1 x13_1) l0_1 (l0_1.length : Int) (wrap64 (x13_1 + 1)) a0_0 l0_1 l0_2) else (none))) else (none)) = some r := H
   have A13 := zA A130
   clear A130
   by_cases c14 : x13_1 < (l0_2.length : Int)
   rotate_left
   ·rw [if_neg c14] at H
    exact absurd H (by simp)
   rw [if_pos c14] at H
   have c14b0 : decide (x13_1 < (l0_2.length : Int)) = true := decide_eq_true c14
   clear c14
   replace H := Option.bind_eq_some_iff.mp H
   obtain ⟨t1388, A150, H⟩ := H
   replace H : (if x3_1.length < 5864062014805 then (impl_Jacobi_polys.l0 k1 (x3_1 ++ [t1388]) (rd_L1 x3_1 x13_1) l0_1 (l0_1.length : Int) (wrap64 (x13_1 + 1)) a0_0 l0_1 l0_2) else (none)) = some r := H
   have A15 := zA A150
   clear A150
   by_cases c16 : x3_1.length < 5864062014805
   rotate_left
   ·rw [if_neg c16] at H
    exact absurd H (by simp)
   rw [if_pos c16] at H
   have LMc16 := zA c16
   clear c16
   obtain ⟨y1391, hy1391⟩ : ∃ y_ : List (List Int), y_ = (x3_1 ++ [t1388]) := ⟨_, rfl⟩
   replace H : (impl_Jacobi_polys.l0 k1 y1391 (rd_L1 x3_1 x13_1) l0_1 (l0_1.length : Int) (wrap64 (x13_1 + 1)) a0_0 l0_1 l0_2) = some r := by first | (rw [hy1391]; exact H) | exact H
   have Ny1391 := zA hy1391
   clear hy1391
   have H' := zA H
   clear H
   have p1384 : 0 ≤ (x13_1 : Int) := of_decide_eq_true (by first | (with_reducible assumption) | assumption)
   have q1384 : x13_1 < (l0_1.length : Int) := of_decide_eq_true (by first | (with_reducible assumption) | assumption)
   obtain ⟨ad1384, e1384, hx1384_0⟩ := Kd.at_int HR0_1.out x13_1 p1384 q1384
   cases e1384
   replace hx1384_0 := hc HB hx1384_0
   replace p1384 := eq_true p1384
   replace q1384 := eq_true q1384
   obtain ⟨Ao17, co17, eo17⟩ := Kd.N_slice HO_3.out
   subst eo17
   have p1385 : 0 ≤ (x13_1 : Int) := of_decide_eq_true (by first | (with_reducible assumption) | assumption)
   have q1385 : x13_1 < (x3_1.length : Int) := of_decide_eq_true (by first | (with_reducible assumption) | assumption)
   obtain ⟨ad1385, A1385_0, c1385_0, e1385, hx1385_0, hl1385_0, hi1385_0⟩ := at_L1 (Kd.N_reads' HO_3.out).2.2 x13_1 p1385 q1385
   cases e1385
   obtain ⟨ce1385, hce1385, hMe1385, hcc1385⟩ := Kd.N_get HO_3.out [] x13_1 p1385 (by first | exact q1385 | exact of_decide_eq_true (by first | (with_reducible assumption) | assumption) | (have e_ := (Kd.N_reads' HO_3.out).1; omega))
   obtain ⟨ua1385_0, uc1385_0, rfl, ul1385_0, ge1385_0⟩ := Kd.FK_slice_open hMe1385
   have hv1385_0 := hcc1385 0 _ rfl
   rw [Nat.add_zero, show ((Kd.slice 2 (Kd.int .i64))).sz = 1 from rfl, Nat.mul_one] at hv1385_0
   replace hv1385_0 := Option.some.inj (hv1385_0.symm.trans hx1385_0)
   injection hv1385_0 with hva_ hvn_ hvc_
   rw [hva_] at ge1385_0
   rw [hvc_] at ul1385_0
   have HL1385_0 := zA (show Kd.V (Kd.int .i64) 2 _ w.heap.size _ _ (rd_L1 x3_1 x13_1) from Kd.V_mk ul1385_0 ge1385_0)
   clear hva_ hvn_ hvc_ ge1385_0 ul1385_0
   clear hcc1385 hce1385
   have HR1385_0 := zA hi1385_0
   have HC1385_0 := zA hl1385_0
   clear hi1385_0 hl1385_0
   replace p1385 := eq_true p1385
   replace q1385 := eq_true q1385
   try go_wp2
   replace HO_3 := zA (Kd.N_drew HO_3.out)
   replace HO_4 := zA (Kd.V_drew HO_4.out)
   replace HL1385_0 := zA (Kd.V_drew HL1385_0.out)
   replace BK1377 := zA (blk_drew BK1377.out)
   replace HR1385_0 := zA (Kd.C_drew HR1385_0.out)
   replace HB := zA (below_drew1 HB.out)
   have p1387 : 0 ≤ (x13_1 : Int) := of_decide_eq_true (by first | (with_reducible assumption) | assumption)
   have q1387 : x13_1 < (l0_2.length : Int) := of_decide_eq_true (by first | (with_reducible assumption) | assumption)
   obtain ⟨ad1387, e1387, hx1387_0⟩ := Kd.at_int HR0_2.out x13_1 p1387 q1387
   have hw1387_0 := hx1387_0
   cases e1387
   replace hx1387_0 := hc HB hx1387_0
   replace p1387 := eq_true p1387
   replace q1387 := eq_true q1387
   refine start_ (n := 15) (S := fun w' => w'.cell? ⟨gb1377, 0, none⟩ = some (.int .i64 a0_0) ∧ w'.cell? ⟨gb1377, 1, none⟩ = some (.slice (some ad1384) l0_1.length c0_1) ∧ w'.cell? ⟨gb1377, 2, none⟩ = some (.slice (some ad1387) l0_2.length c0_2) ∧ w'.cell? (ad1387.add (x13_1).toNat) = some (.int .i64 (rd l0_2 x13_1))) (ds := []) #[false, false, false, false, false, false, false, false, false, false, false, false, false, false, false] (by kernel_rfl) rfl rfl ⟨bcu BK1377 0, bcu BK1377 1, bcu BK1377 2, (hcu HB hw1387_0)⟩ (fun hHeld => ?_); refine with_tabW impl_Jacobi_polys.tab7 impl_Jacobi_polys.bits7 (fun HT_ HW_ => ?_)
   generalize wr.drew = w18 at HO_3 HO_4 HL1385_0 BK1377 HR1385_0 HB hx1387_0 hHeld ⊢
   refine pu_ 0 22 (bl 15 1) HT_ ?_
   refine pu_ 3 25 (bl 15 9) HT_ ?_
   refine pu_ 4 26 (bl 15 25) HT_ ?_
   refine pu_ 6 28 (bl 15 89) HT_ ?_
   refine pu_ 9 31 (bl 15 601) HT_ ?_
   refine pu_ 10 32 (bl 15 1625) HT_ ?_
   refine ta_ 1 23 (bl 15 1627) HT_ HW_ hHeld ?_
   refine ta_ 5 27 (bl 15 1659) HT_ HW_ hHeld ?_
   refine pu_ 7 29 (bl 15 1787) HT_ ?_
   refine ta_ 8 30 (bl 15 2043) HT_ HW_ hHeld ?_
   refine on_ 2 (some 24) (bl 15 2047) HT_ (fun K hK => ?_)
   refine gS Try.func79 #[.agg #[.int .i64 a0_0, .slice (some ad1384) l0_1.length c0_1, .slice (some ad1387) l0_2.length c0_2]] ?_
   with_reducible refine (impl_Jacobi_field.calls a0_0 _ _ l0_1 _ _ l0_2 t1386 _ ?side1 ?side2 ?side3 ?side4 A13.out).mono ?_
   (case side1 => exact uC ((Kd.C_below HR0_1.out HB.out)))
   (case side2 => exact HC0_1.out)
   (case side3 => exact uC ((Kd.C_below HR0_2.out HB.out)))
   (case side4 => exact HC0_2.out)
   rintro e w19 ⟨rfl, hb⟩
   refine ⟨_, rfl, ?_⟩
   replace HO_3 := zA (Kd.N_below (by (with_reducible repeat (first | apply Kd.N_alloc | apply Kd.N_drewN | apply Kd.N_drew)); exact HO_3.out) hb)
   replace HO_4 := zA (Kd.V_below (by (with_reducible repeat (first | apply Kd.V_alloc | apply Kd.V_drewN | apply Kd.V_drew)); exact HO_4.out) hb)
   replace HL1385_0 := zA (Kd.V_below (by (with_reducible repeat (first | apply Kd.V_alloc | apply Kd.V_drewN | apply Kd.V_drew)); exact HL1385_0.out) hb)
   replace BK1377 := xB BK1377 hb
   replace HR1385_0 := zA (Kd.C_below (by repeat (first | (with_reducible exact HR1385_0.out) | (with_reducible refine Kd.C_alloc ?_ _) | (with_reducible refine Kd.C_drewN ?_ _) | (with_reducible refine Kd.C_drew ?_) | exact HR1385_0.out)) hb)
   replace HB := xH HB hb
   (try clear hb); (try clear hb2); (try clear hk); (try clear hi)
   obtain ⟨Ao20, co20, eo20⟩ := Kd.V_slice HO_4.out
   (first | subst eo20 | (injection eo20 with f1_ f2_ f3_; have f4_ := f1_.symm; have f5_ := f3_.symm; clear f1_ f2_ f3_; subst f4_; subst f5_))
   refine hK.out _ _ ⟨bcu BK1377 0, bcu BK1377 1, bcu BK1377 2, (hcu HB hw1387_0)⟩ (fun hHeld => ?_)
   clear hK K
   refine no_ 24 ?_
   refine on_ 11 (some 33) (bl 15 4095) HT_ (fun K hK => ?_)
   refine gS Try.func130 #[.int .i64 t1386, .int .i64 (rd l0_1 x13_1), .int .i64 (rd l0_2 x13_1), .slice A1385_0 (rd_L1 x3_1 x13_1).length c1385_0, .slice Ao20 x4_1.length co20] ?_
   with_reducible refine (impl_field_next.calls k1 t1386 (rd l0_1 x13_1) (rd l0_2 x13_1) _ _ (rd_L1 x3_1 x13_1) _ _ x4_1 t1388 _ ?side1 ?side2 ?side3 ?side4 A15.out).mono ?_
   (case side1 => repeat (first | exact (by repeat (first | (with_reducible exact HR1385_0.out) | (with_reducible refine Kd.C_alloc ?_ _) | (with_reducible refine Kd.C_drewN ?_ _) | (with_reducible refine Kd.C_drew ?_) | exact HR1385_0.out)) | (with_reducible refine Kd.C_alloc ?_ _) | (with_reducible refine Kd.C_drewN ?_ _) | (with_reducible refine Kd.C_drew ?_)))
   (case side2 => exact HC1385_0.out)
   (case side3 => exact uC ((Kd.V_reads' HO_4.out).2.2))
   (case side4 => exact (Kd.V_reads' HO_4.out).2.1)
   rintro e w21 ⟨v1389, rfl, ho0, hb⟩
   refine ⟨_, rfl, ?_⟩
   replace HO_3 := zA (Kd.N_elder' (by (with_reducible repeat (first | apply Kd.N_alloc | apply Kd.N_drewN | apply Kd.N_drew)); exact HO_3.out) (Kd.R_base ho0) hb)
   replace HO_4 := zA (Kd.V_elder' (by (with_reducible repeat (first | apply Kd.V_alloc | apply Kd.V_drewN | apply Kd.V_drew)); exact HO_4.out) (Kd.R_base ho0) hb)
   replace HL1385_0 := zA (Kd.V_elder' (by (with_reducible repeat (first | apply Kd.V_alloc | apply Kd.V_drewN | apply Kd.V_drew)); exact HL1385_0.out) (Kd.R_base ho0) hb)
   have HO1390 := zA (Kd.R_lower (Kd.R_newM (M := fun k_ => (w.heap.size ≤ k_)) ho0 (below_size (uH HB.out)) (fun k_ h_ => h_)) (below_size (uH HB.out)))
   replace BK1377 := xB BK1377 hb
   replace HR1385_0 := zA (Kd.C_below (by repeat (first | (with_reducible exact HR1385_0.out) | (with_reducible refine Kd.C_alloc ?_ _) | (with_reducible refine Kd.C_drewN ?_ _) | (with_reducible refine Kd.C_drew ?_) | exact HR1385_0.out)) hb)
   replace HB := xH HB hb
   (try clear hb); (try clear hb2); (try clear hk); (try clear hi); (try clear ho0)
   obtain ⟨Ao23, co23, eo23⟩ := Kd.R_slice HO1390.out
   (first | subst eo23 | (injection eo23 with f1_ f2_ f3_; have f4_ := f1_.symm; have f5_ := f3_.symm; clear f1_ f2_ f3_; subst f4_; subst f5_))
   refine hK.out _ _ ⟨bcu BK1377 0, bcu BK1377 1, bcu BK1377 2, (hcu HB hw1387_0)⟩ (fun hHeld => ?_)
   clear hK K
   refine no_ 33 ?_
   refine on_ 12 (some 34) (bl 15 8191) HT_ (fun K hK => ?_)
   refine value_ (w1 := ?_) (v := ?_) (by rfl) rfl ?_ ?_
   rotate_left 2
   ·go_simp
    constructor
    ·rfl
    ·rfl
   refine hK.out _ _ ⟨(blk_cell (blk_alloc BK1377.out _) 0).trans rfl, (blk_cell (blk_alloc BK1377.out _) 1).trans rfl, (blk_cell (blk_alloc BK1377.out _) 2).trans rfl, (World.cell?_alloc_lt _ _ _ (World.block_lt_of_cell? _ _ ((hcu HB hw1387_0)))).trans ((hcu HB hw1387_0))⟩ (fun hHeld => ?_)
   clear hK K
   refine no_ 34 ?_
   refine on_ 13 (some 35) (bl 15 16383) HT_ (fun K hK => ?_)
   refine Kd.N_append_step (Kd.slice 2 (Kd.int .i64)) (w0 := w) w.heap.size (by rfl) (.tmp 22) (.tmp 34) 87 22 (.slice none 0 0) 24 rfl Try.underlying87 info22 rfl (by decide) (by omega) (.slice (some ad1385) x3_1.length co17) x3_1 t1388 [.slice Ao23 t1388.length co23] (fun k_ => (w.heap.size ≤ k_) ∧ k_ ≠ gb1377) (fun k_ => ((fun k_ => (w.heap.size ≤ k_) ∧ k_ ≠ gb1377)) k_ ∧ ax k_ (.slice (some ad1385) x3_1.length co17)) rfl rfl ?aP (fun _ hk => hk) ?aF ?aO ?aB ?aS ?aL ?_
   (case aP => exact (Kd.FK_slice_mk (Kd.R_reads' (Kd.R_mono (ok' := (fun k_ => ((fun k_ => (w.heap.size ≤ k_) ∧ k_ ≠ gb1377)) k_ ∧ ax k_ (.slice (some ad1385) x3_1.length co17))) (Kd.R_types (Kd.R_apart' (HO1390.out) (Kd.N_typed HO_3.out) (by decide)) BK1377.out (by decide)) (fun k_ hk => ⟨⟨hk.1.1.1, hk.2⟩, hk.1.2⟩))).2.1 (Kd.R_F (Kd.R_mono (ok' := (fun k_ => ((fun k_ => (w.heap.size ≤ k_) ∧ k_ ≠ gb1377)) k_ ∧ ax k_ (.slice (some ad1385) x3_1.length co17))) (Kd.R_types (Kd.R_apart' (HO1390.out) (Kd.N_typed HO_3.out) (by decide)) BK1377.out (by decide)) (fun k_ hk => ⟨⟨hk.1.1.1, hk.2⟩, hk.1.2⟩)))))
   (case aB => exact (uH HB.out))
   (case aF => exact (fun k_ hk => ⟨(Nat.le_trans (below_size (uH HB.out)) hk), Kd.freshB (g := gb1377) (o := .cells #[.int .i64 a0_0, .slice (some ad1384) l0_1.length c0_1, .slice (some ad1387) l0_2.length c0_2] 26 (0, 0)) (uB BK1377.out) k_ hk⟩))
   (case aO => exact (by (with_reducible repeat (first | apply Kd.N_alloc | apply Kd.N_drewN | apply Kd.N_drew)); exact Kd.N_mono HO_3.out (fun _ hk => ⟨hk.1.1, hk.1.2⟩)))
   (case aS => exact (below_size (uH HB.out)))
   (case aL => have := LMc16.out; omega)
   intro v1392 w22 ho hb hg hat
   rw [← Ny1391.out] at ho
   replace HO_4 := zA (Kd.V_afterv (ok := (fun k_ => (w.heap.size ≤ k_) ∧ ax k_ (.slice Ao23 t1388.length co23) ∧ k_ ≠ gb1377)) (by (with_reducible repeat (first | apply Kd.V_alloc | apply Kd.V_drewN | apply Kd.V_drew)); exact Kd.V_mono HO_4.out (fun _ hk => ⟨⟨hk.1.1, ⟨hk.2, hk.1.2.2⟩⟩, hk.1.2.1⟩)) hg hat)
   replace BK1377 := zA (blk_grown (g := gb1377) (o := .cells #[.int .i64 a0_0, .slice (some ad1384) l0_1.length c0_1, .slice (some ad1387) l0_2.length c0_2] 26 (0, 0)) (uB BK1377.out) hg (Kd.N_ne HO_3.out BK1377.out (by decide)))
   replace HL1385_0 := zA (Kd.V_afterv (ok := (fun k_ => (w.heap.size ≤ k_) ∧ ax k_ (.slice Ao23 t1388.length co23) ∧ k_ ≠ gb1377)) (by (with_reducible repeat (first | apply Kd.V_alloc | apply Kd.V_drewN | apply Kd.V_drew)); exact Kd.V_mono HL1385_0.out (fun _ hk => ⟨⟨hk.1.1.1, ⟨hk.2, hk.1.1.2⟩⟩, hk.1.2⟩)) hg hat)
   replace HB := zA (hb)
   have HO1393 := zA (ho)
   clear HO_3 HO1390
   clear ho hb hg hat
   refine hK.out _ _ ⟨bcu BK1377 0, bcu BK1377 1, bcu BK1377 2, (hcu HB hw1387_0)⟩ (fun hHeld => ?_)
   clear hK K
   refine no_ 35 ?_
   refine pu_ 14 3 (bl 15 32767) HT_ ?_
   refine done_ (done_of HT_.out (by kernel_rfl)) ?_
   try go_wp2
   go_roundg k1
   case measure => have := HK1.out; omega
   case rel => exact ⟨(y1391), (rd_L1 x3_1 x13_1), (wrap64 (x13_1 + 1)), (by first | rfl | (simp; done) | (simp [*]; done)), H', ⟨by have := HK1.out; omega⟩, ⟨by (with_reducible repeat (first | apply Kd.N_alloc | apply Kd.N_drewN | apply Kd.N_drew)); exact HO1393.out⟩, ⟨by (with_reducible repeat (first | apply Kd.V_alloc | apply Kd.V_drewN | apply Kd.V_drew)); exact Kd.V_mono HL1385_0.out (fun _ hk => ⟨hk.1.1, ⟨hk.2, hk.1.2.2⟩⟩)⟩, ⟨uB BK1377.out⟩, ⟨uH HB.out⟩⟩
/-! ### impl_within: function 121 -/
def impl_within.f (a0 : Int) (a1 : Int) (a2 : Int) : Option (Bool) := if a1 ≤ a0 then (some (decide (a0 ≤ a2))) else (some false)
set_option maxHeartbeats 8000000 in
set_option maxRecDepth 100000 in
theorem impl_within.calls (a0 : Int) (a1 : Int) (a2 : Int) (r : Bool) (w : World) (h : impl_within.f a0 a1 a2 = some r) :
  Calls Try.prog 121 #[.int .i64 a0, .int .i64 a1, .int .i64 a2] w fun e w' => e = .returned (.bool r) ∧ Drawn0 w w' := by
 have H : (if a1 ≤ a0 then (some (decide (a0 ≤ a2))) else (some false)) = some r := h
 clear h
 by_cases c4 : a1 ≤ a0
 rotate_left
 ·rw [if_neg c4] at H
  have c4b0 : decide (a1 ≤ a0) = false := decide_eq_false c4
  clear c4
  obtain rfl := Option.some.inj H
  go_enter Try.func121, Try.ntmps121
  go_wp2
  go_ret
  exact ⟨by first | rfl | (simp; done) | (simp [*]; done), by repeat (first | exact Drawn0.refl _ | apply Drawn0.step)⟩

 rw [if_pos c4] at H
 have c4b0 : decide (a1 ≤ a0) = true := decide_eq_true c4
 clear c4
 obtain rfl := Option.some.inj H
 go_enter Try.func121, Try.ntmps121
 go_wp2
 go_ret
 exact ⟨by first | rfl | (simp; done) | (simp [*]; done), by repeat (first | exact Drawn0.refl _ | apply Drawn0.step)⟩
/-! ### impl_IsPrime: function 120 -/
def impl_IsPrime.l0 : Nat → Int → Int → Option (Bool)
 | 0, _, _ => none
 | k + 1, x0, x3 => if (wrap64 (x3 * x3)) ≤ x0 then (if x3 = 0 then (none) else (if (Int.tmod x0 x3) = 0 then (some false) else (impl_IsPrime.l0 k x0 (wrap64 (x3 + 1))))) else (some true)
def impl_IsPrime.f (k : Nat) (a0 : Int) : Option (Bool) := (impl_within.f a0 2 10007).bind fun t234 => (if t234 = true then (impl_IsPrime.l0 k a0 2) else (some false))
set_option maxHeartbeats 8000000 in
set_option maxRecDepth 100000 in
theorem impl_IsPrime.calls (k : Nat) (a0 : Int) (r : Bool) (w : World) (h : impl_IsPrime.f k a0 = some r) :
  Calls Try.prog 120 #[.int .i64 a0] w fun e w' => e = .returned (.bool r) ∧ Drawn0 w w' := by
 have H : ((impl_within.f a0 2 10007).bind fun t234 => (if t234 = true then (impl_IsPrime.l0 k a0 2) else (some false))) = some r := h
 clear h
 replace H := Option.bind_eq_some_iff.mp H
 obtain ⟨t234, A20, H⟩ := H
 replace H : (if t234 = true then (impl_IsPrime.l0 k a0 2) else (some false)) = some r := H
 have A2 := zA A20
 clear A20
 by_cases c3 : t234 = true
 ·subst c3
  have H1 : (impl_IsPrime.l0 k a0 2) = some r := by rw [if_pos rfl] at H; exact H
  clear H
  have H := H1
  clear H1
  have H' := zA H
  clear H
  go_enter Try.func120, Try.ntmps120
  go_wp2_with (first | ((with_reducible refine gate_callee (f := 121) rfl ?_); refine gL (some 5) Try.func121 #[.int .i64 a0, .int .i64 2, .int .i64 10007] ?_; (with_reducible refine (impl_within.calls a0 2 10007 true _ A2.out).mono ?_); rintro e w' ⟨rfl, ⟨nd, rfl⟩⟩; refine ⟨_, rfl, ?_⟩))
  go_loopg [3] k (fun kq v3 w' => ∃ (x3_1 : Int), v3 = .int .i64 x3_1 ∧ Aside0 (impl_IsPrime.l0 kq a0 x3_1 = some r) ∧ Aside0 (kq ≤ k) ∧ Drawn0 w w')
  case atStart => exact ⟨(2), (by first | rfl | (simp; done) | (simp [*]; done)), H', ⟨Nat.le_refl _⟩, by repeat (first | exact Drawn0.refl _ | apply Drawn0.step)⟩
  case round =>
   clear H'
   (try clear c1);(try clear p2);(try clear c3)
   obtain ⟨x3_1, rfl, HA, HK1, ⟨m1, rfl⟩⟩ := hrel
   cases gk with
   | zero => exact absurd HA.out (by simp [impl_IsPrime.l0])
   | succ k1 =>
    have H := HA.out
    clear HA
    simp only [impl_IsPrime.l0] at H
    by_cases c4 : (wrap64 (x3_1 * x3_1)) ≤ a0
    rotate_left
    ·rw [if_neg c4] at H
     have c4b0 : decide ((wrap64 (x3_1 * x3_1)) ≤ a0) = false := decide_eq_false c4
     clear c4
     obtain rfl := Option.some.inj H
     go_wp2
     go_ret
     exact ⟨by first | rfl | (simp; done) | (simp [*]; done), by repeat (first | exact Drawn0.refl _ | apply Drawn0.step)⟩
    rw [if_pos c4] at H
    have c4b0 : decide ((wrap64 (x3_1 * x3_1)) ≤ a0) = true := decide_eq_true c4
    clear c4
    by_cases c5 : x3_1 = 0
    rotate_left
    ·rw [if_neg c5] at H
     have c5b0 : (x3_1 == 0) = false := beq_eq_false_iff_ne.mpr c5
     have c5b1 : (x3_1 != 0) = true := bne_iff_ne.mpr c5
     by_cases c6 : (Int.tmod a0 x3_1) = 0
     rotate_left
     ·rw [if_neg c6] at H
      have c6b0 : ((Int.tmod a0 x3_1) == 0) = false := beq_eq_false_iff_ne.mpr c6
      have c6b1 : ((Int.tmod a0 x3_1) != 0) = true := bne_iff_ne.mpr c6
      have H' := zA H
      clear H
      go_wp2
      go_roundg k1
      case measure => have := HK1.out; omega
      case rel => exact ⟨(wrap64 (x3_1 + 1)), (by first | rfl | (simp; done) | (simp [*]; done)), H', ⟨by have := HK1.out; omega⟩, by repeat (first | exact Drawn0.refl _ | apply Drawn0.step)⟩
     rw [if_pos c6] at H
     have c6b0 : ((Int.tmod a0 x3_1) == 0) = true := beq_iff_eq.mpr c6
     have c6b1 : ((Int.tmod a0 x3_1) != 0) = false := bne_eq_false_iff_eq.mpr c6
     clear c6
     obtain rfl := Option.some.inj H
     go_wp2
     go_ret
     exact ⟨by first | rfl | (simp; done) | (simp [*]; done), by repeat (first | exact Drawn0.refl _ | apply Drawn0.step)⟩
    rw [if_pos c5] at H
    exact absurd H (by simp)
 ·replace c3 := Bool.eq_false_iff.mpr c3
  subst c3
  have H1 : (some false) = some r := by rw [if_neg (show ¬ (false = true) by decide)] at H; exact H
  clear H
  have H := H1
  clear H1
  obtain rfl := Option.some.inj H
  go_enter Try.func120, Try.ntmps120
  go_wp2_with (first | ((with_reducible refine gate_callee (f := 121) rfl ?_); refine gL (some 5) Try.func121 #[.int .i64 a0, .int .i64 2, .int .i64 10007] ?_; (with_reducible refine (impl_within.calls a0 2 10007 false _ A2.out).mono ?_); rintro e w' ⟨rfl, ⟨nd, rfl⟩⟩; refine ⟨_, rfl, ?_⟩))
  go_ret
  exact ⟨by first | rfl | (simp; done) | (simp [*]; done), by repeat (first | exact Drawn0.refl _ | apply Drawn0.step)⟩
/-! ### impl_field_isUnit: function 146 -/
def impl_field_isUnit.f (a0 : Int) (a1 : Int) : Option (Bool) := (impl_within.f a1 1 (wrap64 (a0 - 1))).bind fun t1098 => (some t1098)
set_option maxHeartbeats 8000000 in
set_option maxRecDepth 100000 in
theorem impl_field_isUnit.calls (a0 : Int) (a1 : Int) (r : Bool) (w : World) (h : impl_field_isUnit.f a0 a1 = some r) :
  Calls Try.prog 146 #[.int .i64 a0, .int .i64 a1] w fun e w' => e = .returned (.bool r) ∧ Drawn0 w w' := by
 have H : ((impl_within.f a1 1 (wrap64 (a0 - 1))).bind fun t1098 => (some t1098)) = some r := h
 clear h
 replace H := Option.bind_eq_some_iff.mp H
 obtain ⟨t1098, A30, H⟩ := H
 replace H : (some t1098) = some r := H
 have A3 := zA A30
 clear A30
 obtain rfl := Option.some.inj H
 go_enter Try.func146, Try.ntmps146
 go_wp2_with (first | ((with_reducible refine gate_callee (f := 121) rfl ?_); refine gL (some 8) Try.func121 #[.int .i64 a1, .int .i64 1, .int .i64 (wrap64 (a0 - 1))] ?_; (with_reducible refine (impl_within.calls a1 1 (wrap64 (a0 - 1)) t1098 _ A3.out).mono ?_); rintro e w' ⟨rfl, ⟨nd, rfl⟩⟩; refine ⟨_, rfl, ?_⟩))
 go_ret
 exact ⟨by first | rfl | (simp; done) | (simp [*]; done), by repeat (first | exact Drawn0.refl _ | apply Drawn0.step)⟩
/-! ### laws_eqInt64S: function 29 -/
def laws_eqInt64S.l0 : Nat → List Int → List Int → Int → Option (Bool)
 | 0, _, _, _ => none
 | k + 1, x0, x1, x5 => if x5 < (x0.length : Int) then (if 0 ≤ x5 then (if x5 < (x1.length : Int) then (if (rd x0 x5) = (rd x1 x5) then (laws_eqInt64S.l0 k x0 x1 (wrap64 (x5 + 1))) else (some false)) else (none)) else (none)) else (some true)
def laws_eqInt64S.f (k : Nat) (l0 : List Int) (l1 : List Int) : Option (Bool) := if (l0.length : Int) = (l1.length : Int) then (laws_eqInt64S.l0 k l0 l1 0) else (some false)
set_option maxHeartbeats 8000000 in
set_option maxRecDepth 100000 in
theorem laws_eqInt64S.calls (k : Nat) (A0 : Option Addr) (c0 : Nat) (l0 : List Int) (A1 : Option Addr) (c1 : Nat) (l1 : List Int) (r : Bool) (w : World) (hr0 : Kd.C (Kd.int .i64) w A0 l0.length l0) (hc0 : l0.length ≤ c0) (hr1 : Kd.C (Kd.int .i64) w A1 l1.length l1) (hc1 : l1.length ≤ c1) (h : laws_eqInt64S.f k l0 l1 = some r) :
  Calls Try.prog 29 #[.slice A0 l0.length c0, .slice A1 l1.length c1] w fun e w' => e = .returned (.bool r) ∧ Drawn0 w w' := by
 have HR0 := zA hr0
 have HC0 := zA hc0
 clear hr0 hc0
 have HR1 := zA hr1
 have HC1 := zA hc1
 clear hr1 hc1
 have H : (if (l0.length : Int) = (l1.length : Int) then (laws_eqInt64S.l0 k l0 l1 0) else (some false)) = some r := h
 clear h
 by_cases c3 : (l0.length : Int) = (l1.length : Int)
 rotate_left
 ·rw [if_neg c3] at H
  have c3b0 : ((l0.length : Int) == (l1.length : Int)) = false := beq_eq_false_iff_ne.mpr c3
  have c3b1 : ((l0.length : Int) != (l1.length : Int)) = true := bne_iff_ne.mpr c3
  have c3b2 : (l0.length == l1.length) = false := by first | simpa using c3 | (simp at c3 ⊢; omega)
  obtain rfl := Option.some.inj H
  go_enter Try.func29, Try.ntmps29
  go_wp2
  repeat (go_quiet (fail); try go_wp2)
  go_ret
  exact ⟨by first | rfl | (simp; done) | (simp [*]; done), by repeat (first | exact Drawn0.refl _ | apply Drawn0.step)⟩

 rw [if_pos c3] at H
 have c3b0 : ((l0.length : Int) == (l1.length : Int)) = true := beq_iff_eq.mpr c3
 have c3b1 : ((l0.length : Int) != (l1.length : Int)) = false := bne_eq_false_iff_eq.mpr c3
 have c3b2 : (l0.length == l1.length) = true := by first | simpa using c3 | (simp at c3 ⊢; omega)
 clear c3
 have H' := zA H
 clear H
 go_enter Try.func29, Try.ntmps29
 go_wp2
 repeat (go_quiet (fail); try go_wp2)
 go_loopg [5] k (fun kq v5 w' => ∃ (x5_1 : Int), v5 = .int .i64 x5_1 ∧ Aside0 (laws_eqInt64S.l0 kq l0 l1 x5_1 = some r) ∧ Aside0 (kq ≤ k) ∧ Drawn0 w w')
 case atStart => exact ⟨(0), (by first | rfl | (simp; done) | (simp [*]; done)), H', ⟨Nat.le_refl _⟩, by repeat (first | exact Drawn0.refl _ | apply Drawn0.step)⟩
 case round =>
  clear H'
  (try clear c1);(try clear c2);(try clear p2);(try clear c3);(try clear c3b0);(try clear c3b1);(try clear c3b2)
  obtain ⟨x5_1, rfl, HA, HK1, ⟨m1, rfl⟩⟩ := hrel
  cases gk with
  | zero => exact absurd HA.out (by simp [laws_eqInt64S.l0])
  | succ k1 =>
   have H := HA.out
   clear HA
   simp only [laws_eqInt64S.l0] at H
   by_cases c4 : x5_1 < (l0.length : Int)
   rotate_left
   ·rw [if_neg c4] at H
    have c4b0 : decide (x5_1 < (l0.length : Int)) = false := decide_eq_false c4
    clear c4
    obtain rfl := Option.some.inj H
    go_wp2
    repeat (go_quiet (fail); try go_wp2)
    go_ret
    exact ⟨by first | rfl | (simp; done) | (simp [*]; done), by repeat (first | exact Drawn0.refl _ | apply Drawn0.step)⟩
   rw [if_pos c4] at H
   have c4b0 : decide (x5_1 < (l0.length : Int)) = true := decide_eq_true c4
   clear c4
   by_cases c5 : 0 ≤ x5_1
   rotate_left
   ·rw [if_neg c5] at H
    exact absurd H (by simp)
   rw [if_pos c5] at H
   have c5b0 : decide (0 ≤ x5_1) = true := decide_eq_true c5
   clear c5
   by_cases c6 : x5_1 < (l1.length : Int)
   rotate_left
   ·rw [if_neg c6] at H
    exact absurd H (by simp)
   rw [if_pos c6] at H
   have c6b0 : decide (x5_1 < (l1.length : Int)) = true := decide_eq_true c6
   clear c6
   by_cases c7 : (rd l0 x5_1) = (rd l1 x5_1)
   rotate_left
   ·rw [if_neg c7] at H
    have c7b0 : ((rd l0 x5_1) == (rd l1 x5_1)) = false := beq_eq_false_iff_ne.mpr c7
    have c7b1 : ((rd l0 x5_1) != (rd l1 x5_1)) = true := bne_iff_ne.mpr c7
    obtain rfl := Option.some.inj H
    have p114 : 0 ≤ (x5_1 : Int) := of_decide_eq_true (by first | (with_reducible assumption) | assumption)
    have q114 : x5_1 < (l0.length : Int) := of_decide_eq_true (by first | (with_reducible assumption) | assumption)
    obtain ⟨ad114, e114, hx114_0⟩ := Kd.at_int HR0.out x5_1 p114 q114
    cases e114
    replace p114 := eq_true p114
    replace q114 := eq_true q114
    have p115 : 0 ≤ (x5_1 : Int) := of_decide_eq_true (by first | (with_reducible assumption) | assumption)
    have q115 : x5_1 < (l1.length : Int) := of_decide_eq_true (by first | (with_reducible assumption) | assumption)
    obtain ⟨ad115, e115, hx115_0⟩ := Kd.at_int HR1.out x5_1 p115 q115
    cases e115
    replace p115 := eq_true p115
    replace q115 := eq_true q115
    go_wp2
    repeat (go_quiet (fail); try go_wp2)
    go_ret
    exact ⟨by first | rfl | (simp; done) | (simp [*]; done), by repeat (first | exact Drawn0.refl _ | apply Drawn0.step)⟩
   rw [if_pos c7] at H
   have c7b0 : ((rd l0 x5_1) == (rd l1 x5_1)) = true := beq_iff_eq.mpr c7
   have c7b1 : ((rd l0 x5_1) != (rd l1 x5_1)) = false := bne_eq_false_iff_eq.mpr c7
   clear c7
   have H' := zA H
   clear H
   have p114 : 0 ≤ (x5_1 : Int) := of_decide_eq_true (by first | (with_reducible assumption) | assumption)
   have q114 : x5_1 < (l0.length : Int) := of_decide_eq_true (by first | (with_reducible assumption) | assumption)
   obtain ⟨ad114, e114, hx114_0⟩ := Kd.at_int HR0.out x5_1 p114 q114
   cases e114
   replace p114 := eq_true p114
   replace q114 := eq_true q114
   have p115 : 0 ≤ (x5_1 : Int) := of_decide_eq_true (by first | (with_reducible assumption) | assumption)
   have q115 : x5_1 < (l1.length : Int) := of_decide_eq_true (by first | (with_reducible assumption) | assumption)
   obtain ⟨ad115, e115, hx115_0⟩ := Kd.at_int HR1.out x5_1 p115 q115
   cases e115
   replace p115 := eq_true p115
   replace q115 := eq_true q115
   go_wp2
   repeat (go_quiet (fail); try go_wp2)
   go_roundg k1
   case measure => have := HK1.out; omega
   case rel => exact ⟨(wrap64 (x5_1 + 1)), (by first | rfl | (simp; done) | (simp [*]; done)), H', ⟨by have := HK1.out; omega⟩, by repeat (first | exact Drawn0.refl _ | apply Drawn0.step)⟩
/-! ### laws_eqJacobi: function 19 -/
def laws_eqJacobi.f (k : Nat) (a0_0 : Int) (l0_1 : List Int) (l0_2 : List Int) (a1_0 : Int) (l1_1 : List Int) (l1_2 : List Int) : Option (Bool) := if a0_0 = a1_0 then ((laws_eqInt64S.f k l0_1 l1_1).bind fun t886 => (if t886 = true then ((laws_eqInt64S.f k l0_2 l1_2).bind fun t887 => (if t887 = true then (some true) else (some false))) else (some false))) else (some false)
set_option maxHeartbeats 8000000 in
set_option maxRecDepth 100000 in
theorem laws_eqJacobi.calls (k : Nat) (a0_0 : Int) (A0_1 : Option Addr) (c0_1 : Nat) (l0_1 : List Int) (A0_2 : Option Addr) (c0_2 : Nat) (l0_2 : List Int) (a1_0 : Int) (A1_1 : Option Addr) (c1_1 : Nat) (l1_1 : List Int) (A1_2 : Option Addr) (c1_2 : Nat) (l1_2 : List Int) (r : Bool) (w : World) (hr0_1 : Kd.C (Kd.int .i64) w A0_1 l0_1.length l0_1) (hc0_1 : l0_1.length ≤ c0_1) (hr0_2 : Kd.C (Kd.int .i64) w A0_2 l0_2.length l0_2) (hc0_2 : l0_2.length ≤ c0_2) (hr1_1 : Kd.C (Kd.int .i64) w A1_1 l1_1.length l1_1) (hc1_1 : l1_1.length ≤ c1_1) (hr1_2 : Kd.C (Kd.int .i64) w A1_2 l1_2.length l1_2) (hc1_2 : l1_2.length ≤ c1_2) (h : laws_eqJacobi.f k a0_0 l0_1 l0_2 a1_0 l1_1 l1_2 = some r) :
  Calls Try.prog 19 #[.agg #[.int .i64 a0_0, .slice A0_1 l0_1.length c0_1, .slice A0_2 l0_2.length c0_2], .agg #[.int .i64 a1_0, .slice A1_1 l1_1.length c1_1, .slice A1_2 l1_2.length c1_2]] w fun e w' => e = .returned (.bool r) ∧ Below w.heap.size w w' := by
 have hu26 := Try.underlying26
 have HR0_1 := zA hr0_1
 have HC0_1 := zA hc0_1
 clear hr0_1 hc0_1
 have HR0_2 := zA hr0_2
 have HC0_2 := zA hc0_2
 clear hr0_2 hc0_2
 have HR1_1 := zA hr1_1
 have HC1_1 := zA hc1_1
 clear hr1_1 hc1_1
 have HR1_2 := zA hr1_2
 have HC1_2 := zA hc1_2
 clear hr1_2 hc1_2
 have HB := zA (Below.refl w.heap.size w)
 have H : (if a0_0 = a1_0 then ((laws_eqInt64S.f k l0_1 l1_1).bind fun t886 => (if t886 = true then ((laws_eqInt64S.f k l0_2 l1_2).bind fun t887 => (if t887 = true then (some true) else (some false))) else (some false))) else (some false)) = some r := h
 clear h
 by_cases c3 : a0_0 = a1_0
 rotate_left
 ·rw [if_neg c3] at H
  have c3b0 : (a0_0 == a1_0) = false := beq_eq_false_iff_ne.mpr c3
  have c3b1 : (a0_0 != a1_0) = true := bne_iff_ne.mpr c3
  obtain rfl := Option.some.inj H
  go_enter Try.func19, Try.ntmps19
  go_wp2_with (first | ((with_reducible refine gate_dst (N := 2) rfl ?_); refine bx 2 #[.int .i64 a0_0, .slice A0_1 l0_1.length c0_1, .slice A0_2 l0_2.length c0_2] 26 ?_; intro gb884 hg w23 hbox hb; have BK884 := zA (hbox); have GW884 := gq HB hg; have GE884 := gq HB hg; replace HB := xH HB hb; have := geI GE884; clear hb hbox hg) | ((with_reducible refine gate_dst (N := 3) rfl ?_); refine bx 3 #[.int .i64 a1_0, .slice A1_1 l1_1.length c1_1, .slice A1_2 l1_2.length c1_2] 26 ?_; intro gb885 hg w24 hbox hb; have BK885 := zA (hbox); have GW885 := gq HB hg; have GE885 := gq HB hg; replace HB := xH HB hb; have NB884_885 := zA ((by rw [hg]; exact neL BK884 : gb884 ≠ gb885)); have NB885_884 := zA ((by rw [hg]; exact neG BK884 : gb885 ≠ gb884)); replace BK884 := xB BK884 hb; have := geI GE885; clear hb hbox hg; have hnb25 := NB884_885.out; have hnc25 := NB885_884.out; have hcz26_0 := bc BK884 0; have hcz26_1 := bc BK884 1; have hcz26_2 := bc BK884 2; have hfz26_0 := bf BK884 0; have hfz26_1 := bf BK884 1; have hfz26_2 := bf BK884 2; have hcz27_0 := bc BK885 0; have hcz27_1 := bc BK885 1; have hcz27_2 := bc BK885 2; have hfz27_0 := bf BK885 0; have hfz27_1 := bf BK885 1; have hfz27_2 := bf BK885 2))
  go_ret
  exact ⟨by first | rfl | (simp [errW_none, errW_some] <;> rfl) | (simp [*, errW_none, errW_some] <;> rfl), uH HB.out⟩

 rw [if_pos c3] at H
 have c3b0 : (a0_0 == a1_0) = true := beq_iff_eq.mpr c3
 have c3b1 : (a0_0 != a1_0) = false := bne_eq_false_iff_eq.mpr c3
 clear c3
 replace H := Option.bind_eq_some_iff.mp H
 obtain ⟨t886, A40, H⟩ := H
 replace H : (if t886 = true then ((laws_eqInt64S.f k l0_2 l1_2).bind fun t887 => (if t887 = true then (some true) else (some false))) else (some false)) = some r := H
 have A4 := zA A40
 clear A40
 by_cases c5 : t886 = true
 ·subst c5
  have H1 : ((laws_eqInt64S.f k l0_2 l1_2).bind fun t887 => (if t887 = true then (some true) else (some false))) = some r := by rw [if_pos rfl] at H; exact H
  clear H
  have H := H1
  clear H1
  replace H := Option.bind_eq_some_iff.mp H
  obtain ⟨t887, A60, H⟩ := H
  replace H : (if t887 = true then (some true) else (some false)) = some r := H
  have A6 := zA A60
  clear A60
  by_cases c7 : t887 = true
  ·subst c7
   have H1 : (some true) = some r := by rw [if_pos rfl] at H; exact H
   clear H
   have H := H1
   clear H1
   obtain rfl := Option.some.inj H
   go_enter Try.func19, Try.ntmps19
   go_wp2_with (first | ((with_reducible refine gate_dst (N := 2) rfl ?_); refine bx 2 #[.int .i64 a0_0, .slice A0_1 l0_1.length c0_1, .slice A0_2 l0_2.length c0_2] 26 ?_; intro gb884 hg w8 hbox hb; have BK884 := zA (hbox); have GW884 := gq HB hg; have GE884 := gq HB hg; replace HB := xH HB hb; have := geI GE884; clear hb hbox hg) | ((with_reducible refine gate_dst (N := 3) rfl ?_); refine bx 3 #[.int .i64 a1_0, .slice A1_1 l1_1.length c1_1, .slice A1_2 l1_2.length c1_2] 26 ?_; intro gb885 hg w9 hbox hb; have BK885 := zA (hbox); have GW885 := gq HB hg; have GE885 := gq HB hg; replace HB := xH HB hb; have NB884_885 := zA ((by rw [hg]; exact neL BK884 : gb884 ≠ gb885)); have NB885_884 := zA ((by rw [hg]; exact neG BK884 : gb885 ≠ gb884)); replace BK884 := xB BK884 hb; have := geI GE885; clear hb hbox hg; have hnb10 := NB884_885.out; have hnc10 := NB885_884.out; have hcz11_0 := bc BK884 0; have hcz11_1 := bc BK884 1; have hcz11_2 := bc BK884 2; have hfz11_0 := bf BK884 0; have hfz11_1 := bf BK884 1; have hfz11_2 := bf BK884 2; have hcz12_0 := bc BK885 0; have hcz12_1 := bc BK885 1; have hcz12_2 := bc BK885 2; have hfz12_0 := bf BK885 0; have hfz12_1 := bf BK885 1; have hfz12_2 := bf BK885 2) | ((with_reducible refine gate_callee (f := 29) rfl ?_); refine gL (some 14) Try.func29 #[.slice A0_1 l0_1.length c0_1, .slice A1_1 l1_1.length c1_1] ?_; (with_reducible refine (laws_eqInt64S.calls k _ _ l0_1 _ _ l1_1 true _ ?side1 ?side2 ?side3 ?side4 A4.out).mono ?_); (case side1 => exact uC ((Kd.C_below HR0_1.out HB.out))); (case side2 => exact HC0_1.out); (case side3 => exact uC ((Kd.C_below HR1_1.out HB.out))); (case side4 => exact HC1_1.out); rintro e w' ⟨rfl, ⟨nd, rfl⟩⟩; refine ⟨_, rfl, ?_⟩) | ((with_reducible refine gate_callee (f := 29) rfl ?_); refine gL (some 20) Try.func29 #[.slice A0_2 l0_2.length c0_2, .slice A1_2 l1_2.length c1_2] ?_; (with_reducible refine (laws_eqInt64S.calls k _ _ l0_2 _ _ l1_2 true _ ?side1 ?side2 ?side3 ?side4 A6.out).mono ?_); (case side1 => repeat (first | exact (Kd.C_below HR0_2.out (uH HB.out)) | (with_reducible refine Kd.C_alloc ?_ _) | (with_reducible refine Kd.C_drewN ?_ _) | (with_reducible refine Kd.C_drew ?_))); (case side2 => exact HC0_2.out); (case side3 => repeat (first | exact (Kd.C_below HR1_2.out (uH HB.out)) | (with_reducible refine Kd.C_alloc ?_ _) | (with_reducible refine Kd.C_drewN ?_ _) | (with_reducible refine Kd.C_drew ?_))); (case side4 => exact HC1_2.out); rintro e w' ⟨rfl, ⟨nd, rfl⟩⟩; refine ⟨_, rfl, ?_⟩))
   go_ret
   exact ⟨by first | rfl | (simp [errW_none, errW_some] <;> rfl) | (simp [*, errW_none, errW_some] <;> rfl), uH HB.out⟩
  ·replace c7 := Bool.eq_false_iff.mpr c7
   subst c7
   have H1 : (some false) = some r := by rw [if_neg (show ¬ (false = true) by decide)] at H; exact H
   clear H
   have H := H1
   clear H1
   obtain rfl := Option.some.inj H
   go_enter Try.func19, Try.ntmps19
   go_wp2_with (first | ((with_reducible refine gate_dst (N := 2) rfl ?_); refine bx 2 #[.int .i64 a0_0, .slice A0_1 l0_1.length c0_1, .slice A0_2 l0_2.length c0_2] 26 ?_; intro gb884 hg w13 hbox hb; have BK884 := zA (hbox); have GW884 := gq HB hg; have GE884 := gq HB hg; replace HB := xH HB hb; have := geI GE884; clear hb hbox hg) | ((with_reducible refine gate_dst (N := 3) rfl ?_); refine bx 3 #[.int .i64 a1_0, .slice A1_1 l1_1.length c1_1, .slice A1_2 l1_2.length c1_2] 26 ?_; intro gb885 hg w14 hbox hb; have BK885 := zA (hbox); have GW885 := gq HB hg; have GE885 := gq HB hg; replace HB := xH HB hb; have NB884_885 := zA ((by rw [hg]; exact neL BK884 : gb884 ≠ gb885)); have NB885_884 := zA ((by rw [hg]; exact neG BK884 : gb885 ≠ gb884)); replace BK884 := xB BK884 hb; have := geI GE885; clear hb hbox hg; have hnb15 := NB884_885.out; have hnc15 := NB885_884.out; have hcz16_0 := bc BK884 0; have hcz16_1 := bc BK884 1; have hcz16_2 := bc BK884 2; have hfz16_0 := bf BK884 0; have hfz16_1 := bf BK884 1; have hfz16_2 := bf BK884 2; have hcz17_0 := bc BK885 0; have hcz17_1 := bc BK885 1; have hcz17_2 := bc BK885 2; have hfz17_0 := bf BK885 0; have hfz17_1 := bf BK885 1; have hfz17_2 := bf BK885 2) | ((with_reducible refine gate_callee (f := 29) rfl ?_); refine gL (some 14) Try.func29 #[.slice A0_1 l0_1.length c0_1, .slice A1_1 l1_1.length c1_1] ?_; (with_reducible refine (laws_eqInt64S.calls k _ _ l0_1 _ _ l1_1 true _ ?side1 ?side2 ?side3 ?side4 A4.out).mono ?_); (case side1 => exact uC ((Kd.C_below HR0_1.out HB.out))); (case side2 => exact HC0_1.out); (case side3 => exact uC ((Kd.C_below HR1_1.out HB.out))); (case side4 => exact HC1_1.out); rintro e w' ⟨rfl, ⟨nd, rfl⟩⟩; refine ⟨_, rfl, ?_⟩) | ((with_reducible refine gate_callee (f := 29) rfl ?_); refine gL (some 20) Try.func29 #[.slice A0_2 l0_2.length c0_2, .slice A1_2 l1_2.length c1_2] ?_; (with_reducible refine (laws_eqInt64S.calls k _ _ l0_2 _ _ l1_2 false _ ?side1 ?side2 ?side3 ?side4 A6.out).mono ?_); (case side1 => repeat (first | exact (Kd.C_below HR0_2.out (uH HB.out)) | (with_reducible refine Kd.C_alloc ?_ _) | (with_reducible refine Kd.C_drewN ?_ _) | (with_reducible refine Kd.C_drew ?_))); (case side2 => exact HC0_2.out); (case side3 => repeat (first | exact (Kd.C_below HR1_2.out (uH HB.out)) | (with_reducible refine Kd.C_alloc ?_ _) | (with_reducible refine Kd.C_drewN ?_ _) | (with_reducible refine Kd.C_drew ?_))); (case side4 => exact HC1_2.out); rintro e w' ⟨rfl, ⟨nd, rfl⟩⟩; refine ⟨_, rfl, ?_⟩))
   go_ret
   exact ⟨by first | rfl | (simp [errW_none, errW_some] <;> rfl) | (simp [*, errW_none, errW_some] <;> rfl), uH HB.out⟩
 ·replace c5 := Bool.eq_false_iff.mpr c5
  subst c5
  have H1 : (some false) = some r := by rw [if_neg (show ¬ (false = true) by decide)] at H; exact H
  clear H
  have H := H1
  clear H1
  obtain rfl := Option.some.inj H
  go_enter Try.func19, Try.ntmps19
  go_wp2_with (first | ((with_reducible refine gate_dst (N := 2) rfl ?_); refine bx 2 #[.int .i64 a0_0, .slice A0_1 l0_1.length c0_1, .slice A0_2 l0_2.length c0_2] 26 ?_; intro gb884 hg w18 hbox hb; have BK884 := zA (hbox); have GW884 := gq HB hg; have GE884 := gq HB hg; replace HB := xH HB hb; have := geI GE884; clear hb hbox hg) | ((with_reducible refine gate_dst (N := 3) rfl ?_); refine bx 3 #[.int .i64 a1_0, .slice A1_1 l1_1.length c1_1, .slice A1_2 l1_2.length c1_2] 26 ?_; intro gb885 hg w19 hbox hb; have BK885 := zA (hbox); have GW885 := gq HB hg; have GE885 := gq HB hg; replace HB := xH HB hb; have NB884_885 := zA ((by rw [hg]; exact neL BK884 : gb884 ≠ gb885)); have NB885_884 := zA ((by rw [hg]; exact neG BK884 : gb885 ≠ gb884)); replace BK884 := xB BK884 hb; have := geI GE885; clear hb hbox hg; have hnb20 := NB884_885.out; have hnc20 := NB885_884.out; have hcz21_0 := bc BK884 0; have hcz21_1 := bc BK884 1; have hcz21_2 := bc BK884 2; have hfz21_0 := bf BK884 0; have hfz21_1 := bf BK884 1; have hfz21_2 := bf BK884 2; have hcz22_0 := bc BK885 0; have hcz22_1 := bc BK885 1; have hcz22_2 := bc BK885 2; have hfz22_0 := bf BK885 0; have hfz22_1 := bf BK885 1; have hfz22_2 := bf BK885 2) | ((with_reducible refine gate_callee (f := 29) rfl ?_); refine gL (some 14) Try.func29 #[.slice A0_1 l0_1.length c0_1, .slice A1_1 l1_1.length c1_1] ?_; (with_reducible refine (laws_eqInt64S.calls k _ _ l0_1 _ _ l1_1 false _ ?side1 ?side2 ?side3 ?side4 A4.out).mono ?_); (case side1 => exact uC ((Kd.C_below HR0_1.out HB.out))); (case side2 => exact HC0_1.out); (case side3 => exact uC ((Kd.C_below HR1_1.out HB.out))); (case side4 => exact HC1_1.out); rintro e w' ⟨rfl, ⟨nd, rfl⟩⟩; refine ⟨_, rfl, ?_⟩))
  go_ret
  exact ⟨by first | rfl | (simp [errW_none, errW_some] <;> rfl) | (simp [*, errW_none, errW_some] <;> rfl), uH HB.out⟩
/-! ### laws_eqRule: function 27 -/
def laws_eqRule.f (k : Nat) (a0_0 : Int) (l0_1 : List Int) (l0_2 : List Int) (a1_0 : Int) (l1_1 : List Int) (l1_2 : List Int) : Option (Bool) := if a0_0 = a1_0 then ((laws_eqInt64S.f k l0_1 l1_1).bind fun t1253 => (if t1253 = true then ((laws_eqInt64S.f k l0_2 l1_2).bind fun t1254 => (if t1254 = true then (some true) else (some false))) else (some false))) else (some false)
set_option maxHeartbeats 8000000 in
set_option maxRecDepth 100000 in
theorem laws_eqRule.calls (k : Nat) (a0_0 : Int) (A0_1 : Option Addr) (c0_1 : Nat) (l0_1 : List Int) (A0_2 : Option Addr) (c0_2 : Nat) (l0_2 : List Int) (a1_0 : Int) (A1_1 : Option Addr) (c1_1 : Nat) (l1_1 : List Int) (A1_2 : Option Addr) (c1_2 : Nat) (l1_2 : List Int) (r : Bool) (w : World) (hr0_1 : Kd.C (Kd.int .i64) w A0_1 l0_1.length l0_1) (hc0_1 : l0_1.length ≤ c0_1) (hr0_2 : Kd.C (Kd.int .i64) w A0_2 l0_2.length l0_2) (hc0_2 : l0_2.length ≤ c0_2) (hr1_1 : Kd.C (Kd.int .i64) w A1_1 l1_1.length l1_1) (hc1_1 : l1_1.length ≤ c1_1) (hr1_2 : Kd.C (Kd.int .i64) w A1_2 l1_2.length l1_2) (hc1_2 : l1_2.length ≤ c1_2) (h : laws_eqRule.f k a0_0 l0_1 l0_2 a1_0 l1_1 l1_2 = some r) :
  Calls Try.prog 27 #[.agg #[.int .i64 a0_0, .slice A0_1 l0_1.length c0_1, .slice A0_2 l0_2.length c0_2], .agg #[.int .i64 a1_0, .slice A1_1 l1_1.length c1_1, .slice A1_2 l1_2.length c1_2]] w fun e w' => e = .returned (.bool r) ∧ Below w.heap.size w w' := by
 have hu37 := Try.underlying37
 have HR0_1 := zA hr0_1
 have HC0_1 := zA hc0_1
 clear hr0_1 hc0_1
 have HR0_2 := zA hr0_2
 have HC0_2 := zA hc0_2
 clear hr0_2 hc0_2
 have HR1_1 := zA hr1_1
 have HC1_1 := zA hc1_1
 clear hr1_1 hc1_1
 have HR1_2 := zA hr1_2
 have HC1_2 := zA hc1_2
 clear hr1_2 hc1_2
 have HB := zA (Below.refl w.heap.size w)
 have H : (if a0_0 = a1_0 then ((laws_eqInt64S.f k l0_1 l1_1).bind fun t1253 => (if t1253 = true then ((laws_eqInt64S.f k l0_2 l1_2).bind fun t1254 => (if t1254 = true then (some true) else (some false))) else (some false))) else (some false)) = some r := h
 clear h
 by_cases c3 : a0_0 = a1_0
 rotate_left
 ·rw [if_neg c3] at H
  have c3b0 : (a0_0 == a1_0) = false := beq_eq_false_iff_ne.mpr c3
  have c3b1 : (a0_0 != a1_0) = true := bne_iff_ne.mpr c3
  obtain rfl := Option.some.inj H
  go_enter Try.func27, Try.ntmps27
  go_wp2_with (first | ((with_reducible refine gate_dst (N := 2) rfl ?_); refine bx 2 #[.int .i64 a0_0, .slice A0_1 l0_1.length c0_1, .slice A0_2 l0_2.length c0_2] 37 ?_; intro gb1251 hg w23 hbox hb; have BK1251 := zA (hbox); have GW1251 := gq HB hg; have GE1251 := gq HB hg; replace HB := xH HB hb; have := geI GE1251; clear hb hbox hg) | ((with_reducible refine gate_dst (N := 3) rfl ?_); refine bx 3 #[.int .i64 a1_0, .slice A1_1 l1_1.length c1_1, .slice A1_2 l1_2.length c1_2] 37 ?_; intro gb1252 hg w24 hbox hb; have BK1252 := zA (hbox); have GW1252 := gq HB hg; have GE1252 := gq HB hg; replace HB := xH HB hb; have NB1251_1252 := zA ((by rw [hg]; exact neL BK1251 : gb1251 ≠ gb1252)); have NB1252_1251 := zA ((by rw [hg]; exact neG BK1251 : gb1252 ≠ gb1251)); replace BK1251 := xB BK1251 hb; have := geI GE1252; clear hb hbox hg; have hnb25 := NB1251_1252.out; have hnc25 := NB1252_1251.out; have hcz26_0 := bc BK1251 0; have hcz26_1 := bc BK1251 1; have hcz26_2 := bc BK1251 2; have hfz26_0 := bf BK1251 0; have hfz26_1 := bf BK1251 1; have hfz26_2 := bf BK1251 2; have hcz27_0 := bc BK1252 0; have hcz27_1 := bc BK1252 1; have hcz27_2 := bc BK1252 2; have hfz27_0 := bf BK1252 0; have hfz27_1 := bf BK1252 1; have hfz27_2 := bf BK1252 2))
  go_ret
  exact ⟨by first | rfl | (simp [errW_none, errW_some] <;> rfl) | (simp [*, errW_none, errW_some] <;> rfl), uH HB.out⟩

 rw [if_pos c3] at H
 have c3b0 : (a0_0 == a1_0) = true := beq_iff_eq.mpr c3
 have c3b1 : (a0_0 != a1_0) = false := bne_eq_false_iff_eq.mpr c3
 clear c3
 replace H := Option.bind_eq_some_iff.mp H
 obtain ⟨t1253, A40, H⟩ := H
 replace H : (if t1253 = true then ((laws_eqInt64S.f k l0_2 l1_2).bind fun t1254 => (if t1254 = true then (some true) else (some false))) else (some false)) = some r := H
 have A4 := zA A40
 clear A40
 by_cases c5 : t1253 = true
 ·subst c5
  have H1 : ((laws_eqInt64S.f k l0_2 l1_2).bind fun t1254 => (if t1254 = true then (some true) else (some false))) = some r := by rw [if_pos rfl] at H; exact H
  clear H
  have H := H1
  clear H1
  replace H := Option.bind_eq_some_iff.mp H
  obtain ⟨t1254, A60, H⟩ := H
  replace H : (if t1254 = true then (some true) else (some false)) = some r := H
  have A6 := zA A60
  clear A60
  by_cases c7 : t1254 = true
  ·subst c7
   have H1 : (some true) = some r := by rw [if_pos rfl] at H; exact H
   clear H
   have H := H1
   clear H1
   obtain rfl := Option.some.inj H
   go_enter Try.func27, Try.ntmps27
   go_wp2_with (first | ((with_reducible refine gate_dst (N := 2) rfl ?_); refine bx 2 #[.int .i64 a0_0, .slice A0_1 l0_1.length c0_1, .slice A0_2 l0_2.length c0_2] 37 ?_; intro gb1251 hg w8 hbox hb; have BK1251 := zA (hbox); have GW1251 := gq HB hg; have GE1251 := gq HB hg; replace HB := xH HB hb; have := geI GE1251; clear hb hbox hg) | ((with_reducible refine gate_dst (N := 3) rfl ?_); refine bx 3 #[.int .i64 a1_0, .slice A1_1 l1_1.length c1_1, .slice A1_2 l1_2.length c1_2] 37 ?_; intro gb1252 hg w9 hbox hb; have BK1252 := zA (hbox); have GW1252 := gq HB hg; have GE1252 := gq HB hg; replace HB := xH HB hb; have NB1251_1252 := zA ((by rw [hg]; exact neL BK1251 : gb1251 ≠ gb1252)); have NB1252_1251 := zA ((by rw [hg]; exact neG BK1251 : gb1252 ≠ gb1251)); replace BK1251 := xB BK1251 hb; have := geI GE1252; clear hb hbox hg; have hnb10 := NB1251_1252.out; have hnc10 := NB1252_1251.out; have hcz11_0 := bc BK1251 0; have hcz11_1 := bc BK1251 1; have hcz11_2 := bc BK1251 2; have hfz11_0 := bf BK1251 0; have hfz11_1 := bf BK1251 1; have hfz11_2 := bf BK1251 2; have hcz12_0 := bc BK1252 0; have hcz12_1 := bc BK1252 1; have hcz12_2 := bc BK1252 2; have hfz12_0 := bf BK1252 0; have hfz12_1 := bf BK1252 1; have hfz12_2 := bf BK1252 2) | ((with_reducible refine gate_callee (f := 29) rfl ?_); refine gL (some 14) Try.func29 #[.slice A0_1 l0_1.length c0_1, .slice A1_1 l1_1.length c1_1] ?_; (with_reducible refine (laws_eqInt64S.calls k _ _ l0_1 _ _ l1_1 true _ ?side1 ?side2 ?side3 ?side4 A4.out).mono ?_); (case side1 => exact uC ((Kd.C_below HR0_1.out HB.out))); (case side2 => exact HC0_1.out); (case side3 => exact uC ((Kd.C_below HR1_1.out HB.out))); (case side4 => exact HC1_1.out); rintro e w' ⟨rfl, ⟨nd, rfl⟩⟩; refine ⟨_, rfl, ?_⟩) | ((with_reducible refine gate_callee (f := 29) rfl ?_); refine gL (some 20) Try.func29 #[.slice A0_2 l0_2.length c0_2, .slice A1_2 l1_2.length c1_2] ?_; (with_reducible refine (laws_eqInt64S.calls k _ _ l0_2 _ _ l1_2 true _ ?side1 ?side2 ?side3 ?side4 A6.out).mono ?_); (case side1 => repeat (first | exact (Kd.C_below HR0_2.out (uH HB.out)) | (with_reducible refine Kd.C_alloc ?_ _) | (with_reducible refine Kd.C_drewN ?_ _) | (with_reducible refine Kd.C_drew ?_))); (case side2 => exact HC0_2.out); (case side3 => repeat (first | exact (Kd.C_below HR1_2.out (uH HB.out)) | (with_reducible refine Kd.C_alloc ?_ _) | (with_reducible refine Kd.C_drewN ?_ _) | (with_reducible refine Kd.C_drew ?_))); (case side4 => exact HC1_2.out); rintro e w' ⟨rfl, ⟨nd, rfl⟩⟩; refine ⟨_, rfl, ?_⟩))
   go_ret
   exact ⟨by first | rfl | (simp [errW_none, errW_some] <;> rfl) | (simp [*, errW_none, errW_some] <;> rfl), uH HB.out⟩
  ·replace c7 := Bool.eq_false_iff.mpr c7
   subst c7
   have H1 : (some false) = some r := by rw [if_neg (show ¬ (false = true) by decide)] at H; exact H
   clear H
   have H := H1
   clear H1
   obtain rfl := Option.some.inj H
   go_enter Try.func27, Try.ntmps27
   go_wp2_with (first | ((with_reducible refine gate_dst (N := 2) rfl ?_); refine bx 2 #[.int .i64 a0_0, .slice A0_1 l0_1.length c0_1, .slice A0_2 l0_2.length c0_2] 37 ?_; intro gb1251 hg w13 hbox hb; have BK1251 := zA (hbox); have GW1251 := gq HB hg; have GE1251 := gq HB hg; replace HB := xH HB hb; have := geI GE1251; clear hb hbox hg) | ((with_reducible refine gate_dst (N := 3) rfl ?_); refine bx 3 #[.int .i64 a1_0, .slice A1_1 l1_1.length c1_1, .slice A1_2 l1_2.length c1_2] 37 ?_; intro gb1252 hg w14 hbox hb; have BK1252 := zA (hbox); have GW1252 := gq HB hg; have GE1252 := gq HB hg; replace HB := xH HB hb; have NB1251_1252 := zA ((by rw [hg]; exact neL BK1251 : gb1251 ≠ gb1252)); have NB1252_1251 := zA ((by rw [hg]; exact neG BK1251 : gb1252 ≠ gb1251)); replace BK1251 := xB BK1251 hb; have := geI GE1252; clear hb hbox hg; have hnb15 := NB1251_1252.out; have hnc15 := NB1252_1251.out; have hcz16_0 := bc BK1251 0; have hcz16_1 := bc BK1251 1; have hcz16_2 := bc BK1251 2; have hfz16_0 := bf BK1251 0; have hfz16_1 := bf BK1251 1; have hfz16_2 := bf BK1251 2; have hcz17_0 := bc BK1252 0; have hcz17_1 := bc BK1252 1; have hcz17_2 := bc BK1252 2; have hfz17_0 := bf BK1252 0; have hfz17_1 := bf BK1252 1; have hfz17_2 := bf BK1252 2) | ((with_reducible refine gate_callee (f := 29) rfl ?_); refine gL (some 14) Try.func29 #[.slice A0_1 l0_1.length c0_1, .slice A1_1 l1_1.length c1_1] ?_; (with_reducible refine (laws_eqInt64S.calls k _ _ l0_1 _ _ l1_1 true _ ?side1 ?side2 ?side3 ?side4 A4.out).mono ?_); (case side1 => exact uC ((Kd.C_below HR0_1.out HB.out))); (case side2 => exact HC0_1.out); (case side3 => exact uC ((Kd.C_below HR1_1.out HB.out))); (case side4 => exact HC1_1.out); rintro e w' ⟨rfl, ⟨nd, rfl⟩⟩; refine ⟨_, rfl, ?_⟩) | ((with_reducible refine gate_callee (f := 29) rfl ?_); refine gL (some 20) Try.func29 #[.slice A0_2 l0_2.length c0_2, .slice A1_2 l1_2.length c1_2] ?_; (with_reducible refine (laws_eqInt64S.calls k _ _ l0_2 _ _ l1_2 false _ ?side1 ?side2 ?side3 ?side4 A6.out).mono ?_); (case side1 => repeat (first | exact (Kd.C_below HR0_2.out (uH HB.out)) | (with_reducible refine Kd.C_alloc ?_ _) | (with_reducible refine Kd.C_drewN ?_ _) | (with_reducible refine Kd.C_drew ?_))); (case side2 => exact HC0_2.out); (case side3 => repeat (first | exact (Kd.C_below HR1_2.out (uH HB.out)) | (with_reducible refine Kd.C_alloc ?_ _) | (with_reducible refine Kd.C_drewN ?_ _) | (with_reducible refine Kd.C_drew ?_))); (case side4 => exact HC1_2.out); rintro e w' ⟨rfl, ⟨nd, rfl⟩⟩; refine ⟨_, rfl, ?_⟩))
   go_ret
   exact ⟨by first | rfl | (simp [errW_none, errW_some] <;> rfl) | (simp [*, errW_none, errW_some] <;> rfl), uH HB.out⟩
 ·replace c5 := Bool.eq_false_iff.mpr c5
  subst c5
  have H1 : (some false) = some r := by rw [if_neg (show ¬ (false = true) by decide)] at H; exact H
  clear H
  have H := H1
  clear H1
  obtain rfl := Option.some.inj H
  go_enter Try.func27, Try.ntmps27
  go_wp2_with (first | ((with_reducible refine gate_dst (N := 2) rfl ?_); refine bx 2 #[.int .i64 a0_0, .slice A0_1 l0_1.length c0_1, .slice A0_2 l0_2.length c0_2] 37 ?_; intro gb1251 hg w18 hbox hb; have BK1251 := zA (hbox); have GW1251 := gq HB hg; have GE1251 := gq HB hg; replace HB := xH HB hb; have := geI GE1251; clear hb hbox hg) | ((with_reducible refine gate_dst (N := 3) rfl ?_); refine bx 3 #[.int .i64 a1_0, .slice A1_1 l1_1.length c1_1, .slice A1_2 l1_2.length c1_2] 37 ?_; intro gb1252 hg w19 hbox hb; have BK1252 := zA (hbox); have GW1252 := gq HB hg; have GE1252 := gq HB hg; replace HB := xH HB hb; have NB1251_1252 := zA ((by rw [hg]; exact neL BK1251 : gb1251 ≠ gb1252)); have NB1252_1251 := zA ((by rw [hg]; exact neG BK1251 : gb1252 ≠ gb1251)); replace BK1251 := xB BK1251 hb; have := geI GE1252; clear hb hbox hg; have hnb20 := NB1251_1252.out; have hnc20 := NB1252_1251.out; have hcz21_0 := bc BK1251 0; have hcz21_1 := bc BK1251 1; have hcz21_2 := bc BK1251 2; have hfz21_0 := bf BK1251 0; have hfz21_1 := bf BK1251 1; have hfz21_2 := bf BK1251 2; have hcz22_0 := bc BK1252 0; have hcz22_1 := bc BK1252 1; have hcz22_2 := bc BK1252 2; have hfz22_0 := bf BK1252 0; have hfz22_1 := bf BK1252 1; have hfz22_2 := bf BK1252 2) | ((with_reducible refine gate_callee (f := 29) rfl ?_); refine gL (some 14) Try.func29 #[.slice A0_1 l0_1.length c0_1, .slice A1_1 l1_1.length c1_1] ?_; (with_reducible refine (laws_eqInt64S.calls k _ _ l0_1 _ _ l1_1 false _ ?side1 ?side2 ?side3 ?side4 A4.out).mono ?_); (case side1 => exact uC ((Kd.C_below HR0_1.out HB.out))); (case side2 => exact HC0_1.out); (case side3 => exact uC ((Kd.C_below HR1_1.out HB.out))); (case side4 => exact HC1_1.out); rintro e w' ⟨rfl, ⟨nd, rfl⟩⟩; refine ⟨_, rfl, ?_⟩))
  go_ret
  exact ⟨by first | rfl | (simp [errW_none, errW_some] <;> rfl) | (simp [*, errW_none, errW_some] <;> rfl), uH HB.out⟩
/-! ### laws_heldInt64S: function 40 -/
def laws_heldInt64S.l0 : Nat → List Int → Int → Int → Option (Int)
 | 0, _, _, _ => none
 | k + 1, x0, x1, x5 => if x5 < (x0.length : Int) then (if 0 ≤ x5 then (if (rd x0 x5) = x1 then (laws_heldInt64S.l0 k x0 (wrap64 (x1 + 1)) (wrap64 (x5 + 1))) else (some (-1))) else (none)) else (some x1)
def laws_heldInt64S.f (k : Nat) (l0 : List Int) (a1 : Int) : Option (Int) := laws_heldInt64S.l0 k l0 a1 0
set_option maxHeartbeats 8000000 in
set_option maxRecDepth 100000 in
theorem laws_heldInt64S.calls (k : Nat) (A0 : Option Addr) (c0 : Nat) (l0 : List Int) (a1 : Int) (r : Int) (w : World) (hr0 : Kd.C (Kd.int .i64) w A0 l0.length l0) (hc0 : l0.length ≤ c0) (h : laws_heldInt64S.f k l0 a1 = some r) :
  Calls Try.prog 40 #[.slice A0 l0.length c0, .int .i64 a1] w fun e w' => e = .returned (.int .i64 r) ∧ Drawn0 w w' := by
 have HR0 := zA hr0
 have HC0 := zA hc0
 clear hr0 hc0
 have H : (laws_heldInt64S.l0 k l0 a1 0) = some r := h
 clear h
 have H' := zA H
 clear H
 go_enter Try.func40, Try.ntmps40
 go_wp2
 go_loopg [1, 5] k (fun kq v1 v5 w' => ∃ (x1_1 : Int) (x5_1 : Int), v1 = .int .i64 x1_1 ∧ v5 = .int .i64 x5_1 ∧ Aside0 (laws_heldInt64S.l0 kq l0 x1_1 x5_1 = some r) ∧ Aside0 (kq ≤ k) ∧ Drawn0 w w')
 case atStart => exact ⟨(a1), (0), (by first | rfl | (simp; done) | (simp [*]; done)), (by first | rfl | (simp; done) | (simp [*]; done)), H', ⟨Nat.le_refl _⟩, by repeat (first | exact Drawn0.refl _ | apply Drawn0.step)⟩
 case round =>
  clear H'
  try clear p2
  obtain ⟨x1_1, x5_1, rfl, rfl, HA, HK1, ⟨m1, rfl⟩⟩ := hrel
  cases gk with
  | zero => exact absurd HA.out (by simp [laws_heldInt64S.l0])
  | succ k1 =>
   have H := HA.out
   clear HA
   simp only [laws_heldInt64S.l0] at H
   by_cases c3 : x5_1 < (l0.length : Int)
   rotate_left
   ·rw [if_neg c3] at H
    have c3b0 : decide (x5_1 < (l0.length : Int)) = false := decide_eq_false c3
    clear c3
    obtain rfl := Option.some.inj H
    go_wp2
    go_ret
    exact ⟨by first | rfl | (simp; done) | (simp [*]; done), by repeat (first | exact Drawn0.refl _ | apply Drawn0.step)⟩

   rw [if_pos c3] at H
   have c3b0 : decide (x5_1 < (l0.length : Int)) = true := decide_eq_true c3
   clear c3
   by_cases c4 : 0 ≤ x5_1
   rotate_left
   ·rw [if_neg c4] at H
    exact absurd H (by simp)
   rw [if_pos c4] at H
   have c4b0 : decide (0 ≤ x5_1) = true := decide_eq_true c4
   clear c4
   by_cases c5 : (rd l0 x5_1) = x1_1
   rotate_left
   ·rw [if_neg c5] at H
    have c5b0 : ((rd l0 x5_1) == x1_1) = false := beq_eq_false_iff_ne.mpr c5
    have c5b1 : ((rd l0 x5_1) != x1_1) = true := bne_iff_ne.mpr c5
    obtain rfl := Option.some.inj H
    have p487 : 0 ≤ (x5_1 : Int) := of_decide_eq_true (by first | (with_reducible assumption) | assumption)
    have q487 : x5_1 < (l0.length : Int) := of_decide_eq_true (by first | (with_reducible assumption) | assumption)
    obtain ⟨ad487, e487, hx487_0⟩ := Kd.at_int HR0.out x5_1 p487 q487
    cases e487
    replace p487 := eq_true p487
    replace q487 := eq_true q487
    go_wp2
    go_ret
    exact ⟨by first | rfl | (simp; done) | (simp [*]; done), by repeat (first | exact Drawn0.refl _ | apply Drawn0.step)⟩
   rw [if_pos c5] at H
   have c5b0 : ((rd l0 x5_1) == x1_1) = true := beq_iff_eq.mpr c5
   have c5b1 : ((rd l0 x5_1) != x1_1) = false := bne_eq_false_iff_eq.mpr c5
   clear c5
   have H' := zA H
   clear H
   have p487 : 0 ≤ (x5_1 : Int) := of_decide_eq_true (by first | (with_reducible assumption) | assumption)
   have q487 : x5_1 < (l0.length : Int) := of_decide_eq_true (by first | (with_reducible assumption) | assumption)
   obtain ⟨ad487, e487, hx487_0⟩ := Kd.at_int HR0.out x5_1 p487 q487
   cases e487
   replace p487 := eq_true p487
   replace q487 := eq_true q487
   go_wp2
   go_roundg k1
   case measure => have := HK1.out; omega
   case rel => exact ⟨(wrap64 (x1_1 + 1)), (wrap64 (x5_1 + 1)), (by first | rfl | (simp; done) | (simp [*]; done)), (by first | rfl | (simp; done) | (simp [*]; done)), H', ⟨by have := HK1.out; omega⟩, by repeat (first | exact Drawn0.refl _ | apply Drawn0.step)⟩
/-! ### laws_heldJacobi: function 21 -/
def laws_heldJacobi.f (k : Nat) (a0_0 : Int) (l0_1 : List Int) (l0_2 : List Int) (a1 : Int) : Option (Int) := (laws_heldInt64S.f k l0_1 a1).bind fun t894 => (if t894 < 0 then (some (-1)) else ((laws_heldInt64S.f k l0_2 t894).bind fun t895 => (if t895 < 0 then (some (-1)) else (some t895))))
set_option maxHeartbeats 8000000 in
set_option maxRecDepth 100000 in
theorem laws_heldJacobi.calls (k : Nat) (a0_0 : Int) (A0_1 : Option Addr) (c0_1 : Nat) (l0_1 : List Int) (A0_2 : Option Addr) (c0_2 : Nat) (l0_2 : List Int) (a1 : Int) (r : Int) (w : World) (hr0_1 : Kd.C (Kd.int .i64) w A0_1 l0_1.length l0_1) (hc0_1 : l0_1.length ≤ c0_1) (hr0_2 : Kd.C (Kd.int .i64) w A0_2 l0_2.length l0_2) (hc0_2 : l0_2.length ≤ c0_2) (h : laws_heldJacobi.f k a0_0 l0_1 l0_2 a1 = some r) :
  Calls Try.prog 21 #[.agg #[.int .i64 a0_0, .slice A0_1 l0_1.length c0_1, .slice A0_2 l0_2.length c0_2], .int .i64 a1] w fun e w' => e = .returned (.int .i64 r) ∧ Below w.heap.size w w' := by
 have hu26 := Try.underlying26
 have HR0_1 := zA hr0_1
 have HC0_1 := zA hc0_1
 clear hr0_1 hc0_1
 have HR0_2 := zA hr0_2
 have HC0_2 := zA hc0_2
 clear hr0_2 hc0_2
 have HB := zA (Below.refl w.heap.size w)
 have H : ((laws_heldInt64S.f k l0_1 a1).bind fun t894 => (if t894 < 0 then (some (-1)) else ((laws_heldInt64S.f k l0_2 t894).bind fun t895 => (if t895 < 0 then (some (-1)) else (some t895))))) = some r := h
 clear h
 replace H := Option.bind_eq_some_iff.mp H
 obtain ⟨t894, A30, H⟩ := H
 replace H : (if t894 < 0 then (some (-1)) else ((laws_heldInt64S.f k l0_2 t894).bind fun t895 => (if t895 < 0 then (some (-1)) else (some t895)))) = some r := H
 have A3 := zA A30
 clear A30
 by_cases c4 : t894 < 0
 rotate_left
 ·rw [if_neg c4] at H
  have c4b0 : decide (t894 < 0) = false := decide_eq_false c4
  clear c4
  replace H := Option.bind_eq_some_iff.mp H
  obtain ⟨t895, A70, H⟩ := H
  replace H : (if t895 < 0 then (some (-1)) else (some t895)) = some r := H
  have A7 := zA A70
  clear A70
  by_cases c8 : t895 < 0
  rotate_left
  ·rw [if_neg c8] at H
   have c8b0 : decide (t895 < 0) = false := decide_eq_false c8
   clear c8
   obtain rfl := Option.some.inj H
   go_enter Try.func21, Try.ntmps21
   go_wp2_with (first | ((with_reducible refine gate_dst (N := 2) rfl ?_); refine bx 2 #[.int .i64 a0_0, .slice A0_1 l0_1.length c0_1, .slice A0_2 l0_2.length c0_2] 26 ?_; intro gb893 hg w11 hbox hb; have BK893 := zA (hbox); have GW893 := gq HB hg; have GE893 := gq HB hg; replace HB := xH HB hb; have := geI GE893; clear hb hbox hg; have hcz12_0 := bc BK893 0; have hcz12_1 := bc BK893 1; have hcz12_2 := bc BK893 2; have hfz12_0 := bf BK893 0; have hfz12_1 := bf BK893 1; have hfz12_2 := bf BK893 2) | ((with_reducible refine gate_callee (f := 40) rfl ?_); refine gL (some 8) Try.func40 #[.slice A0_1 l0_1.length c0_1, .int .i64 a1] ?_; (with_reducible refine (laws_heldInt64S.calls k _ _ l0_1 a1 t894 _ ?side1 ?side2 A3.out).mono ?_); (case side1 => exact uC ((Kd.C_below HR0_1.out HB.out))); (case side2 => exact HC0_1.out); rintro e w' ⟨rfl, ⟨nd, rfl⟩⟩; refine ⟨_, rfl, ?_⟩) | ((with_reducible refine gate_callee (f := 40) rfl ?_); refine gL (some 14) Try.func40 #[.slice A0_2 l0_2.length c0_2, .int .i64 t894] ?_; (with_reducible refine (laws_heldInt64S.calls k _ _ l0_2 t894 t895 _ ?side1 ?side2 A7.out).mono ?_); (case side1 => repeat (first | exact (Kd.C_below HR0_2.out (uH HB.out)) | (with_reducible refine Kd.C_alloc ?_ _) | (with_reducible refine Kd.C_drewN ?_ _) | (with_reducible refine Kd.C_drew ?_))); (case side2 => exact HC0_2.out); rintro e w' ⟨rfl, ⟨nd, rfl⟩⟩; refine ⟨_, rfl, ?_⟩))
   go_ret
   exact ⟨by first | rfl | (simp [errW_none, errW_some] <;> rfl) | (simp [*, errW_none, errW_some] <;> rfl), uH HB.out⟩

  rw [if_pos c8] at H
  have c8b0 : decide (t895 < 0) = true := decide_eq_true c8
  clear c8
  obtain rfl := Option.some.inj H
  go_enter Try.func21, Try.ntmps21
  go_wp2_with (first | ((with_reducible refine gate_dst (N := 2) rfl ?_); refine bx 2 #[.int .i64 a0_0, .slice A0_1 l0_1.length c0_1, .slice A0_2 l0_2.length c0_2] 26 ?_; intro gb893 hg w9 hbox hb; have BK893 := zA (hbox); have GW893 := gq HB hg; have GE893 := gq HB hg; replace HB := xH HB hb; have := geI GE893; clear hb hbox hg; have hcz10_0 := bc BK893 0; have hcz10_1 := bc BK893 1; have hcz10_2 := bc BK893 2; have hfz10_0 := bf BK893 0; have hfz10_1 := bf BK893 1; have hfz10_2 := bf BK893 2) | ((with_reducible refine gate_callee (f := 40) rfl ?_); refine gL (some 8) Try.func40 #[.slice A0_1 l0_1.length c0_1, .int .i64 a1] ?_; (with_reducible refine (laws_heldInt64S.calls k _ _ l0_1 a1 t894 _ ?side1 ?side2 A3.out).mono ?_); (case side1 => exact uC ((Kd.C_below HR0_1.out HB.out))); (case side2 => exact HC0_1.out); rintro e w' ⟨rfl, ⟨nd, rfl⟩⟩; refine ⟨_, rfl, ?_⟩) | ((with_reducible refine gate_callee (f := 40) rfl ?_); refine gL (some 14) Try.func40 #[.slice A0_2 l0_2.length c0_2, .int .i64 t894] ?_; (with_reducible refine (laws_heldInt64S.calls k _ _ l0_2 t894 t895 _ ?side1 ?side2 A7.out).mono ?_); (case side1 => repeat (first | exact (Kd.C_below HR0_2.out (uH HB.out)) | (with_reducible refine Kd.C_alloc ?_ _) | (with_reducible refine Kd.C_drewN ?_ _) | (with_reducible refine Kd.C_drew ?_))); (case side2 => exact HC0_2.out); rintro e w' ⟨rfl, ⟨nd, rfl⟩⟩; refine ⟨_, rfl, ?_⟩))
  go_ret
  exact ⟨by first | rfl | (simp [errW_none, errW_some] <;> rfl) | (simp [*, errW_none, errW_some] <;> rfl), uH HB.out⟩
 rw [if_pos c4] at H
 have c4b0 : decide (t894 < 0) = true := decide_eq_true c4
 clear c4
 obtain rfl := Option.some.inj H
 go_enter Try.func21, Try.ntmps21
 go_wp2_with (first | ((with_reducible refine gate_dst (N := 2) rfl ?_); refine bx 2 #[.int .i64 a0_0, .slice A0_1 l0_1.length c0_1, .slice A0_2 l0_2.length c0_2] 26 ?_; intro gb893 hg w5 hbox hb; have BK893 := zA (hbox); have GW893 := gq HB hg; have GE893 := gq HB hg; replace HB := xH HB hb; have := geI GE893; clear hb hbox hg; have hcz6_0 := bc BK893 0; have hcz6_1 := bc BK893 1; have hcz6_2 := bc BK893 2; have hfz6_0 := bf BK893 0; have hfz6_1 := bf BK893 1; have hfz6_2 := bf BK893 2) | ((with_reducible refine gate_callee (f := 40) rfl ?_); refine gL (some 8) Try.func40 #[.slice A0_1 l0_1.length c0_1, .int .i64 a1] ?_; (with_reducible refine (laws_heldInt64S.calls k _ _ l0_1 a1 t894 _ ?side1 ?side2 A3.out).mono ?_); (case side1 => exact uC ((Kd.C_below HR0_1.out HB.out))); (case side2 => exact HC0_1.out); rintro e w' ⟨rfl, ⟨nd, rfl⟩⟩; refine ⟨_, rfl, ?_⟩))
 go_ret
 exact ⟨by first | rfl | (simp [errW_none, errW_some] <;> rfl) | (simp [*, errW_none, errW_some] <;> rfl), uH HB.out⟩
end Go.Proofs.Ytfbnkebgdmfcfaa.Pr
