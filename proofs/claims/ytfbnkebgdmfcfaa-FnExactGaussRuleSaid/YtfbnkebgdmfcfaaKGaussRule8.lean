/- Texts of this session in one: what functions of the program compute, and plain facts of it, under the conditions that each theorem names. -/
import Derived.Test.YtfbnkebgdmfcfaaKGaussRule1
import Derived.Test.YtfbnkebgdmfcfaaKGaussRule2
import Derived.Test.YtfbnkebgdmfcfaaKGaussRule3
import Derived.Test.YtfbnkebgdmfcfaaKGaussRule4
import Derived.Test.YtfbnkebgdmfcfaaKGaussRule5
import Derived.Test.YtfbnkebgdmfcfaaKGaussRule6
import Derived.Test.YtfbnkebgdmfcfaaKGaussRule7
namespace Go.Proofs.Ytfbnkebgdmfcfaa.Pr
/- The rows of rows that this function makes are the call's own, the inner ones too; turned out of the printed walk. No condition beside its own. -/
open Go.RowKit Go.Proofs.YtfbnkebgdmfcfaaW.PrintWords Go.Proofs.YtfbnkebgdmfcfaaW.PrintLast Go.Proofs.YtfbnkebgdmfcfaaW.PrintMore
attribute [local go_sem] max2_int min2_int max_two min_two max_three min_three max_four min_four   -- for this text's walks alone
set_option linter.unusedVariables false
set_option linter.unusedSimpArgs false
set_option maxHeartbeats 8000000 in
set_option maxRecDepth 100000 in
theorem impl_Jacobi_polys.callsR (k : Nat) (a0_0 : Int) (A0_1 : Option Addr) (c0_1 : Nat) (l0_1 : List Int) (A0_2 : Option Addr) (c0_2 : Nat) (l0_2 : List Int) (r : List (List Int)) (w : World) (hr0_1 : Kd.C (Kd.int .i64) w A0_1 l0_1.length l0_1) (hc0_1 : l0_1.length ≤ c0_1) (hr0_2 : Kd.C (Kd.int .i64) w A0_2 l0_2.length l0_2) (hc0_2 : l0_2.length ≤ c0_2) (h : impl_Jacobi_polys.f k a0_0 l0_1 l0_2 = some r) :
  Calls Try.prog 81 #[.agg #[.int .i64 a0_0, .slice A0_1 l0_1.length c0_1, .slice A0_2 l0_2.length c0_2]] w fun e w' => ∃ v0_ : Value, e = .returned (v0_) ∧ Kd.R (Kd.slice 2 (Kd.int .i64)) 22 w' w.heap.size (fun k_ => (w.heap.size ≤ k_)) v0_ r ∧ Below w.heap.size w w' := by
 have hu26 := Try.underlying26
 have HR0_1 := zA hr0_1
 have HC0_1 := zA hc0_1
 clear hr0_1 hc0_1
 have HR0_2 := zA hr0_2
 have HC0_2 := zA hc0_2
 clear hr0_2 hc0_2
 have HB := zA (Below.refl w.heap.size w)
 have H : (impl_Jacobi_polys.l0 k (([(([1] : List Int))] : List (List Int))) ([] : List Int) l0_1 (l0_1.length : Int) 0 a0_0 l0_1 l0_2) = some r := h
 clear h
 obtain ⟨y1378, hy1378⟩ : ∃ y_ : List Int, y_ = (([1] : List Int)) := ⟨_, rfl⟩
 replace H : (impl_Jacobi_polys.l0 k (([y1378] : List (List Int))) ([] : List Int) l0_1 (l0_1.length : Int) 0 a0_0 l0_1 l0_2) = some r := by first | (rw [hy1378]; with_reducible exact H) | (have H2_ := (Option.bind_some _ _).symm.trans H; rw [hy1378]; with_reducible exact H2_) | (have H2_ := (Option.bind_some _ _).symm.trans H; with_reducible exact H2_) | with_reducible exact H | (rw [hy1378]; exact H) | exact H
 have Ny1378 := zA hy1378
 clear hy1378
 obtain ⟨y1381, hy1381⟩ : ∃ y_ : List (List Int), y_ = (([y1378] : List (List Int))) := ⟨_, rfl⟩
 replace H : (impl_Jacobi_polys.l0 k y1381 ([] : List Int) l0_1 (l0_1.length : Int) 0 a0_0 l0_1 l0_2) = some r := by first | (rw [hy1381]; with_reducible exact H) | (have H2_ := (Option.bind_some _ _).symm.trans H; rw [hy1381]; with_reducible exact H2_) | (have H2_ := (Option.bind_some _ _).symm.trans H; with_reducible exact H2_) | with_reducible exact H | (rw [hy1381]; exact H) | exact H
 have Ny1381 := zA hy1381
 clear hy1381
 have H' := zA H
 clear H
 go_enter Try.func81, Try.ntmps81
 go_wp2_with (first | ((with_reducible refine gate_dst (N := 1) rfl ?_); refine box_event ?hg (N := 1) ?hd (cs := #[.int .i64 a0_0, .slice A0_1 l0_1.length c0_1, .slice A0_2 l0_2.length c0_2]) (t := 26) ?hr ?_; (case hd => rfl); (case hg => rfl); (case hr => first | (go_simp; done) | (go_simp; rfl)); intro gb1377 hg w2 hbox hb; have n0_ := xH HB hb; have n1_ := zA (hbox); have n2_ := zA ((by rw [hg]; exact (below_size (uH HB.out)) : w.heap.size ≤ gb1377)); have n3_ := zA ((by rw [hg]; exact (below_size (uH HB.out)) : w.heap.size ≤ gb1377)); clear HB; have HB := n0_; have BK1377 := n1_; have GW1377 := n2_; have GE1377 := n3_; have := geI GE1377; clear n0_ n1_ n2_ n3_ hb hbox hg) | ((with_reducible refine gate_dst (N := 8) rfl ?_); refine Kd.R_lit (Kd.int .i64) _ 2 ?hg (N := 8) ?hd (xs := ([1] : List Int)) (inner := [.int .i64 1]) (ok := fun _ => True) (okp := fun _ => True) ?hr ?hp (fun _ hk => hk) trivial (Below.refl _ _) (Nat.le_refl _) (by simp) ?_; (case hd => rfl); (case hg => rfl); (case hr => first | (go_simp; done) | (go_simp; rfl)); (case hp => exact (Reps.one (show Kd.M (Kd.int .i64) _ _ _ 1 [.int .i64 1] from rfl) (Reps.none _ _))); intro v1379 w3 ho4 hb hg_ hnew_; clear hg_ hnew_; (first | rw [← Ny1378.out] at ho4 | (simp only [Int.reduceToNat] at ho4; rw [← Ny1378.out] at ho4)); have n0_ := zA (Kd.R_lower (Kd.R_newM (M := fun k_ => (w.heap.size ≤ k_)) ho4 (below_size (uH HB.out)) (fun k_ h_ => h_)) (below_size (uH HB.out))); have n1_ := xB BK1377 hb; have n2_ := xH HB hb; clear BK1377 HB; have HO1380 := n0_; have BK1377 := n1_; have HB := n2_; clear n0_ n1_ n2_ hb ho4; obtain ⟨Ao5, co5, eo5⟩ := Kd.R_slice HO1380.out; subst eo5) | ((with_reducible refine gate_dst (N := 9) rfl ?_); refine Kd.R_lit (Kd.slice 2 (Kd.int .i64)) w.heap.size 22 ?hg (N := 9) ?hd (xs := ([y1378] : List (List Int))) (inner := [.slice Ao5 y1378.length co5]) (ok := (fun k_ => (w.heap.size ≤ k_) ∧ k_ ≠ gb1377)) (okp := (fun k_ => (w.heap.size ≤ k_) ∧ k_ ≠ gb1377)) ?hr ?hp (fun _ hk => hk) ((show ∀ k_, w3.heap.size ≤ k_ → (fun k_ => (w.heap.size ≤ k_) ∧ k_ ≠ gb1377) k_ from fun k_ hk => ⟨(Nat.le_trans (below_size (uH HB.out)) hk), Kd.freshB (g := gb1377) (o := .cells #[.int .i64 a0_0, .slice A0_1 l0_1.length c0_1, .slice A0_2 l0_2.length c0_2] 26 (0, 0)) (uB BK1377.out) k_ hk⟩) _ (Nat.le_refl _)) (Below.refl _ _) (below_size (uH HB.out)) (by simp) ?_; (case hd => rfl); (case hg => rfl); (case hr => first | (go_simp; done) | (go_simp; rfl)); (case hp => exact (Reps.one (show Kd.M (Kd.slice 2 (Kd.int .i64)) _ _ _ y1378 [.slice Ao5 y1378.length co5] from ⟨_, rfl, (Kd.R_mono (ok' := (fun k_ => (w.heap.size ≤ k_) ∧ k_ ≠ gb1377)) (Kd.R_types (HO1380.out) BK1377.out (by decide)) (fun k_ hk => ⟨hk.1.1, hk.2⟩))⟩) (Reps.none _ _))); intro v1382 w6 ho7 hb hg_ hnew_; replace hb := (Below.refl _ _).grown hg_ (Nat.le_refl _) (fun k e => by simp at e); clear hg_ hnew_; (first | rw [← Ny1381.out] at ho7 | (simp only [Int.reduceToNat] at ho7; rw [← Ny1381.out] at ho7)); have n0_ := zA (ho7); have n1_ := xB BK1377 hb; have n2_ := xH HB hb; clear BK1377 HB HO1380; have HO1383 := n0_; have BK1377 := n1_; have HB := n2_; clear n0_ n1_ n2_ hb ho7; have hcz8_0 : w6.cell? ⟨gb1377, 0, none⟩ = some (.int .i64 a0_0) := (blk_cell BK1377.out 0).trans rfl; have hcz8_1 : w6.cell? ⟨gb1377, 1, none⟩ = some (.slice A0_1 l0_1.length c0_1) := (blk_cell BK1377.out 1).trans rfl; have hcz8_2 : w6.cell? ⟨gb1377, 2, none⟩ = some (.slice A0_2 l0_2.length c0_2) := (blk_cell BK1377.out 2).trans rfl; have hfz8_0 := blk_frozen BK1377.out 0; have hfz8_1 := blk_frozen BK1377.out 1; have hfz8_2 := blk_frozen BK1377.out 2))
 go_loopg [3, 4, 13] k (fun kq v3 v4 v13 w' => ∃ (x3_1 : List (List Int)) (x4_1 : List Int) (x13_1 : Int), v13 = .int .i64 x13_1 ∧ Aside0 (impl_Jacobi_polys.l0 kq x3_1 x4_1 l0_1 (l0_1.length : Int) x13_1 a0_0 l0_1 l0_2 = some r) ∧ Aside0 (kq ≤ k) ∧ Aside0 (Kd.R (Kd.slice 2 (Kd.int .i64)) 22 w' w.heap.size (fun k_ => (w.heap.size ≤ k_) ∧ k_ ≠ gb1377) v3 x3_1) ∧ Aside0 (Kd.V (Kd.int .i64) 2 w' w.heap.size (fun k_ => (w.heap.size ≤ k_) ∧ some k_ ≠ (v3 : Value).ownBlock ∧ k_ ≠ gb1377) v4 x4_1) ∧ Aside0 (w'.heap[gb1377]? = some (.cells #[.int .i64 a0_0, (.slice A0_1 l0_1.length c0_1), (.slice A0_2 l0_2.length c0_2)] 26 (0, 0))) ∧ Aside0 (Below w.heap.size w w'))
 case atStart => exact ⟨(y1381), (([] : List Int)), (0), (by first | rfl | (simp; done) | (simp [*]; done)), H', ⟨Nat.le_refl _⟩, ⟨by (with_reducible repeat (first | apply Kd.R_alloc | apply Kd.R_drewN | apply Kd.R_drew)); exact HO1383.out⟩, ⟨Kd.V_nil _ _ _ _ _⟩, ⟨uB BK1377.out⟩, ⟨uH HB.out⟩⟩
 case round =>
  clear H'
  try clear p2
  try clear c8
  try clear hcz8_0
  try clear hcz8_1
  try clear hcz8_2
  try clear hfz8_0
  try clear hfz8_1
  try clear hfz8_2
  obtain ⟨x3_1, x4_1, x13_1, rfl, HA, HK1, HO_3, HO_4, BK1377, HB⟩ := hrel
  cases gk with
  | zero => exact absurd HA.out (by simp [impl_Jacobi_polys.l0])
  | succ k1 =>
   have H := HA.out
   clear HA
   simp only [impl_Jacobi_polys.l0] at H
   by_cases c9 : x13_1 < (l0_1.length : Int)
   ·rw [if_pos c9] at H
    have c9b0 : decide (x13_1 < (l0_1.length : Int)) = true := decide_eq_true c9
    clear c9
    by_cases c10 : 0 ≤ x13_1
    ·rw [if_pos c10] at H
     have c10b0 : decide (0 ≤ x13_1) = true := decide_eq_true c10
     clear c10
     by_cases c11 : x13_1 < (l0_1.length : Int)
     ·rw [if_pos c11] at H
      have c11b0 : decide (x13_1 < (l0_1.length : Int)) = true := decide_eq_true c11
      clear c11
      by_cases c12 : x13_1 < (x3_1.length : Int)
      ·rw [if_pos c12] at H
       have c12b0 : decide (x13_1 < (x3_1.length : Int)) = true := decide_eq_true c12
       clear c12
       replace H := Option.bind_eq_some_iff.mp H
       obtain ⟨t1386, A130, H⟩ := H
       replace H : (if x13_1 < (l0_2.length : Int) then ((impl_field_next.f k1 t1386 (rd l0_1 x13_1) (rd l0_2 x13_1) (rd_L1 x3_1 x13_1) x4_1).bind fun t1388 => (if x3_1.length < 5864062014805 then (impl_Jacobi_polys.l0 k1 (x3_1 ++ [t1388]) (rd_L1 x3_1 x13_1) l0_1 (l0_1.length : Int) (wrap64 (x13_1 + 1)) a0_0 l0_1 l0_2) else (none))) else (none)) = some r := H
       have A13 := zA A130
       clear A130
       by_cases c14 : x13_1 < (l0_2.length : Int)
       ·rw [if_pos c14] at H
        have c14b0 : decide (x13_1 < (l0_2.length : Int)) = true := decide_eq_true c14
        clear c14
        replace H := Option.bind_eq_some_iff.mp H
        obtain ⟨t1388, A150, H⟩ := H
        replace H : (if x3_1.length < 5864062014805 then (impl_Jacobi_polys.l0 k1 (x3_1 ++ [t1388]) (rd_L1 x3_1 x13_1) l0_1 (l0_1.length : Int) (wrap64 (x13_1 + 1)) a0_0 l0_1 l0_2) else (none)) = some r := H
        have A15 := zA A150
        clear A150
        by_cases c16 : x3_1.length < 5864062014805
        ·rw [if_pos c16] at H
         have LMc16 := zA c16
         clear c16
         obtain ⟨y1391, hy1391⟩ : ∃ y_ : List (List Int), y_ = (x3_1 ++ [t1388]) := ⟨_, rfl⟩
         replace H : (impl_Jacobi_polys.l0 k1 y1391 (rd_L1 x3_1 x13_1) l0_1 (l0_1.length : Int) (wrap64 (x13_1 + 1)) a0_0 l0_1 l0_2) = some r := by first | (rw [hy1391]; with_reducible exact H) | (have H2_ := (Option.bind_some _ _).symm.trans H; rw [hy1391]; with_reducible exact H2_) | (have H2_ := (Option.bind_some _ _).symm.trans H; with_reducible exact H2_) | with_reducible exact H | (rw [hy1391]; exact H) | exact H
         have Ny1391 := zA hy1391
         clear hy1391
         have H' := zA H
         clear H
         have p1384 : 0 ≤ (x13_1 : Int) := of_decide_eq_true (by first | (with_reducible assumption) | assumption)
         have q1384 : x13_1 < (l0_1.length : Int) := of_decide_eq_true (by first | (with_reducible assumption) | assumption)
         obtain ⟨ad1384, e1384, hx1384_0⟩ := Kd.at_int HR0_1.out x13_1 p1384 q1384
         cases e1384
         replace hx1384_0 := (HB.out.cell (World.block_lt_of_cell? w _ hx1384_0)).trans hx1384_0
         replace p1384 := eq_true p1384
         replace q1384 := eq_true q1384
         obtain ⟨Ao17, co17, eo17⟩ := Kd.R_slice HO_3.out
         subst eo17
         have p1385 : 0 ≤ (x13_1 : Int) := of_decide_eq_true (by first | (with_reducible assumption) | assumption)
         have q1385 : x13_1 < (x3_1.length : Int) := of_decide_eq_true (by first | (with_reducible assumption) | assumption)
         obtain ⟨ad1385, A1385_0, c1385_0, e1385, hx1385_0, hl1385_0, hi1385_0⟩ := at_L1 (Kd.R_reads' HO_3.out).2.2 x13_1 p1385 q1385
         cases e1385
         obtain ⟨ce1385, hce1385, hMe1385, hcc1385⟩ := Kd.N_get (Kd.R_N HO_3.out) [] x13_1 p1385 (by first | exact q1385 | exact of_decide_eq_true (by first | (with_reducible assumption) | assumption) | (have e_ := (Kd.R_reads' HO_3.out).1; omega))
         obtain ⟨ua1385_0, uc1385_0, rfl, ul1385_0, ge1385_0⟩ := Kd.FK_slice_open hMe1385
         have hv1385_0 := hcc1385 0 _ rfl
         rw [Nat.add_zero, show ((Kd.slice 2 (Kd.int .i64))).sz = 1 from rfl, Nat.mul_one] at hv1385_0
         replace hv1385_0 := Option.some.inj (hv1385_0.symm.trans hx1385_0)
         injection hv1385_0 with hva_ hvn_ hvc_
         rw [hva_] at ge1385_0
         rw [hvc_] at ul1385_0
         have HL1385_0 := zA (show Kd.V (Kd.int .i64) 2 _ w.heap.size _ _ (rd_L1 x3_1 x13_1) from Kd.V_mk ul1385_0 ge1385_0)
         clear hva_ hvn_ hvc_ ge1385_0 ul1385_0
         clear hcc1385 hce1385
         have HR1385_0 := zA hi1385_0
         have HC1385_0 := zA hl1385_0
         clear hi1385_0 hl1385_0
         replace p1385 := eq_true p1385
         replace q1385 := eq_true q1385
         try go_wp2
         have n0_ := zA (Kd.R_drew HO_3.out)
         have n1_ := zA (Kd.V_drew HO_4.out)
         have n2_ := zA (Kd.V_drew HL1385_0.out)
         have n3_ := zA (blk_drew BK1377.out)
         have n4_ := zA (Kd.C_drew HR1385_0.out)
         have n5_ := zA (below_drew1 HB.out)
         clear HO_3 HO_4 HL1385_0 BK1377 HR1385_0 HB
         have HO_3 := n0_; have HO_4 := n1_; have HL1385_0 := n2_; have BK1377 := n3_; have HR1385_0 := n4_; have HB := n5_
         clear n0_ n1_ n2_ n3_ n4_ n5_
         have p1387 : 0 ≤ (x13_1 : Int) := of_decide_eq_true (by first | (with_reducible assumption) | assumption)
         have q1387 : x13_1 < (l0_2.length : Int) := of_decide_eq_true (by first | (with_reducible assumption) | assumption)
         obtain ⟨ad1387, e1387, hx1387_0⟩ := Kd.at_int HR0_2.out x13_1 p1387 q1387
         have hw1387_0 := hx1387_0
         cases e1387
         replace hx1387_0 := (HB.out.cell (World.block_lt_of_cell? w _ hx1387_0)).trans hx1387_0
         replace p1387 := eq_true p1387
         replace q1387 := eq_true q1387
         refine start_ (n := 15) (S := fun w' => w'.cell? ⟨gb1377, 0, none⟩ = some (.int .i64 a0_0) ∧ w'.cell? ⟨gb1377, 1, none⟩ = some (.slice (some ad1384) l0_1.length c0_1) ∧ w'.cell? ⟨gb1377, 2, none⟩ = some (.slice (some ad1387) l0_2.length c0_2) ∧ w'.cell? (ad1387.add (x13_1).toNat) = some (.int .i64 (rd l0_2 x13_1))) (ds := []) #[false, false, false, false, false, false, false, false, false, false, false, false, false, false, false] (by kernel_rfl) rfl rfl ⟨(blk_cell BK1377.out 0).trans rfl, (blk_cell BK1377.out 1).trans rfl, (blk_cell BK1377.out 2).trans rfl, ((HB.out.cell (World.block_lt_of_cell? w _ hw1387_0)).trans hw1387_0)⟩ (fun hHeld => ?_); refine with_tabW impl_Jacobi_polys.tab7 impl_Jacobi_polys.bits7 (fun HT_ HW_ => ?_)
         generalize wr.drew = w18 at HO_3 HO_4 HL1385_0 BK1377 HR1385_0 HB hx1387_0 hHeld ⊢
         refine pu_ 0 22 (bl 15 1) HT_ ?_
         refine pu_ 3 25 (bl 15 9) HT_ ?_
         refine pu_ 4 26 (bl 15 25) HT_ ?_
         refine pu_ 6 28 (bl 15 89) HT_ ?_
         refine pu_ 9 31 (bl 15 601) HT_ ?_
         refine pu_ 10 32 (bl 15 1625) HT_ ?_
         refine ta_ 1 23 (bl 15 1627) HT_ HW_ hHeld ?_
         refine ta_ 5 27 (bl 15 1659) HT_ HW_ hHeld ?_
         refine pu_ 7 29 (bl 15 1787) HT_ ?_
         refine ta_ 8 30 (bl 15 2043) HT_ HW_ hHeld ?_
         refine on_ 2 (some 24) (bl 15 2047) HT_ (fun K hK => ?_)
         refine goes_ Try.func79 (by kernel_rfl) rfl #[.agg #[.int .i64 a0_0, .slice (some ad1384) l0_1.length c0_1, .slice (some ad1387) l0_2.length c0_2]] (by rfl) rfl rfl (by (try simp only [la, lb, lc]); first | done | rfl | (simp only [ld, le]; rfl)) ?_
         with_reducible refine (impl_Jacobi_field.calls a0_0 _ _ l0_1 _ _ l0_2 t1386 _ ?side1 ?side2 ?side3 ?side4 A13.out).mono ?_
         (case side1 => exact uC ((Kd.C_below HR0_1.out HB.out)))
         (case side2 => exact HC0_1.out)
         (case side3 => exact uC ((Kd.C_below HR0_2.out HB.out)))
         (case side4 => exact HC0_2.out)
         rintro e w19 ⟨rfl, hb⟩
         refine ⟨_, rfl, ?_⟩
         have n0_ := zA (Kd.R_below (uR HO_3.out) hb)
         have n1_ := zA (Kd.V_below (by (with_reducible repeat (first | apply Kd.V_alloc | apply Kd.V_drewN | apply Kd.V_drew)); exact HO_4.out) hb)
         have n2_ := zA (Kd.V_below (by (with_reducible repeat (first | apply Kd.V_alloc | apply Kd.V_drewN | apply Kd.V_drew)); exact HL1385_0.out) hb)
         have n3_ := xB BK1377 hb
         have n4_ := zA (Kd.C_below (by repeat (first | (with_reducible exact HR1385_0.out) | (with_reducible refine Kd.C_alloc ?_ _) | (with_reducible refine Kd.C_drewN ?_ _) | (with_reducible refine Kd.C_drew ?_) | exact HR1385_0.out)) hb)
         have n5_ := xH HB hb
         clear HO_3 HO_4 HL1385_0 BK1377 HR1385_0 HB
         have HO_3 := n0_; have HO_4 := n1_; have HL1385_0 := n2_; have BK1377 := n3_; have HR1385_0 := n4_; have HB := n5_
         clear n0_ n1_ n2_ n3_ n4_ n5_
         (try clear hb); (try clear hb2); (try clear hk); (try clear hi)
         obtain ⟨Ao20, co20, eo20⟩ := Kd.V_slice HO_4.out
         (first | subst eo20 | (injection eo20 with f1_ f2_ f3_; have f4_ := f1_.symm; have f5_ := f3_.symm; clear f1_ f2_ f3_; subst f4_; subst f5_))
         refine hK.out _ _ ⟨(blk_cell BK1377.out 0).trans rfl, (blk_cell BK1377.out 1).trans rfl, (blk_cell BK1377.out 2).trans rfl, ((HB.out.cell (World.block_lt_of_cell? w _ hw1387_0)).trans hw1387_0)⟩ (fun hHeld => ?_)
         clear hK K
         refine no_ 24 ?_
         refine on_ 11 (some 33) (bl 15 4095) HT_ (fun K hK => ?_)
         refine goes_ Try.func130 (by kernel_rfl) rfl #[.int .i64 t1386, .int .i64 (rd l0_1 x13_1), .int .i64 (rd l0_2 x13_1), .slice A1385_0 (rd_L1 x3_1 x13_1).length c1385_0, .slice Ao20 x4_1.length co20] (by rfl) rfl rfl (by (try simp only [la, lb, lc]); first | done | rfl | (simp only [ld, le]; rfl)) ?_
         with_reducible refine (impl_field_next.calls k1 t1386 (rd l0_1 x13_1) (rd l0_2 x13_1) _ _ (rd_L1 x3_1 x13_1) _ _ x4_1 t1388 _ ?side1 ?side2 ?side3 ?side4 A15.out).mono ?_
         (case side1 => repeat (first | exact (by repeat (first | (with_reducible exact HR1385_0.out) | (with_reducible refine Kd.C_alloc ?_ _) | (with_reducible refine Kd.C_drewN ?_ _) | (with_reducible refine Kd.C_drew ?_) | exact HR1385_0.out)) | (with_reducible refine Kd.C_alloc ?_ _) | (with_reducible refine Kd.C_drewN ?_ _) | (with_reducible refine Kd.C_drew ?_)))
         (case side2 => exact HC1385_0.out)
         (case side3 => exact uC ((Kd.V_reads' HO_4.out).2.2))
         (case side4 => exact (Kd.V_reads' HO_4.out).2.1)
         rintro e w21 ⟨v1389, rfl, ho0, hb⟩
         refine ⟨_, rfl, ?_⟩
         have n0_ := zA (Kd.R_elder' (uR HO_3.out) (Kd.R_base ho0) hb)
         have n1_ := zA (Kd.V_elder' (by (with_reducible repeat (first | apply Kd.V_alloc | apply Kd.V_drewN | apply Kd.V_drew)); exact HO_4.out) (Kd.R_base ho0) hb)
         have n2_ := zA (Kd.V_elder' (by (with_reducible repeat (first | apply Kd.V_alloc | apply Kd.V_drewN | apply Kd.V_drew)); exact HL1385_0.out) (Kd.R_base ho0) hb)
         have n3_ := zA (Kd.R_lower (Kd.R_newM (M := fun k_ => (w.heap.size ≤ k_)) ho0 (below_size (uH HB.out)) (fun k_ h_ => h_)) (below_size (uH HB.out)))
         have n4_ := xB BK1377 hb
         have n5_ := zA (Kd.C_below (by repeat (first | (with_reducible exact HR1385_0.out) | (with_reducible refine Kd.C_alloc ?_ _) | (with_reducible refine Kd.C_drewN ?_ _) | (with_reducible refine Kd.C_drew ?_) | exact HR1385_0.out)) hb)
         have n6_ := xH HB hb
         clear HO_3 HO_4 HL1385_0 BK1377 HR1385_0 HB
         have HO_3 := n0_; have HO_4 := n1_; have HL1385_0 := n2_; have HO1390 := n3_; have BK1377 := n4_; have HR1385_0 := n5_; have HB := n6_
         clear n0_ n1_ n2_ n3_ n4_ n5_ n6_
         (try clear hb); (try clear hb2); (try clear hk); (try clear hi); (try clear ho0)
         obtain ⟨Ao23, co23, eo23⟩ := Kd.R_slice HO1390.out
         (first | subst eo23 | (injection eo23 with f1_ f2_ f3_; have f4_ := f1_.symm; have f5_ := f3_.symm; clear f1_ f2_ f3_; subst f4_; subst f5_))
         refine hK.out _ _ ⟨(blk_cell BK1377.out 0).trans rfl, (blk_cell BK1377.out 1).trans rfl, (blk_cell BK1377.out 2).trans rfl, ((HB.out.cell (World.block_lt_of_cell? w _ hw1387_0)).trans hw1387_0)⟩ (fun hHeld => ?_)
         clear hK K
         refine no_ 33 ?_
         refine on_ 12 (some 34) (bl 15 8191) HT_ (fun K hK => ?_)
         refine value_ (w1 := ?_) (v := ?_) (by rfl) rfl ?_ ?_
         rotate_left 2
         ·go_simp
          constructor
          ·rfl
          ·rfl
         refine hK.out _ _ ⟨(blk_cell (blk_alloc BK1377.out _) 0).trans rfl, (blk_cell (blk_alloc BK1377.out _) 1).trans rfl, (blk_cell (blk_alloc BK1377.out _) 2).trans rfl, (World.cell?_alloc_lt _ _ _ (World.block_lt_of_cell? _ _ (((HB.out.cell (World.block_lt_of_cell? w _ hw1387_0)).trans hw1387_0)))).trans (((HB.out.cell (World.block_lt_of_cell? w _ hw1387_0)).trans hw1387_0))⟩ (fun hHeld => ?_)
         clear hK K
         refine no_ 34 ?_
         refine on_ 13 (some 35) (bl 15 16383) HT_ (fun K hK => ?_)
         refine Kd.R_append_step (Kd.slice 2 (Kd.int .i64)) (w0 := w) w.heap.size (by rfl) (.tmp 22) (.tmp 34) 87 22 (.slice none 0 0) 24 rfl Try.underlying87 info22 rfl (by decide) (by omega) (.slice (some ad1385) x3_1.length co17) x3_1 t1388 [.slice Ao23 t1388.length co23] (fun k_ => (w.heap.size ≤ k_) ∧ k_ ≠ gb1377) (fun k_ => ((fun k_ => (w.heap.size ≤ k_) ∧ k_ ≠ gb1377)) k_ ∧ some k_ ≠ (.slice (some ad1385) x3_1.length co17 : Value).ownBlock) rfl rfl ?aP (fun _ hk => hk) ?aF ?aO ?aB ?aS ?aL ?_
         (case aP => exact ⟨_, rfl, (Kd.R_mono (ok' := (fun k_ => ((fun k_ => (w.heap.size ≤ k_) ∧ k_ ≠ gb1377)) k_ ∧ some k_ ≠ (.slice (some ad1385) x3_1.length co17 : Value).ownBlock)) (Kd.R_types (Kd.R_apart' (HO1390.out) (Kd.R_typed HO_3.out) (by decide)) BK1377.out (by decide)) (fun k_ hk => ⟨⟨hk.1.1.1, hk.2⟩, hk.1.2⟩))⟩)
         (case aB => exact (uH HB.out))
         (case aF => exact (fun k_ hk => ⟨(Nat.le_trans (below_size (uH HB.out)) hk), Kd.freshB (g := gb1377) (o := .cells #[.int .i64 a0_0, .slice (some ad1384) l0_1.length c0_1, .slice (some ad1387) l0_2.length c0_2] 26 (0, 0)) (uB BK1377.out) k_ hk⟩))
         (case aO => exact (uR (Kd.R_mono HO_3.out (fun _ hk => ⟨hk.1.1, hk.1.2⟩))))
         (case aS => exact (below_size (uH HB.out)))
         (case aL => have := LMc16.out; omega)
         intro v1392 w22 ho hb hg hat
         rw [← Ny1391.out] at ho
         have n0_ := zA (Kd.V_afterv (ok := (fun k_ => (w.heap.size ≤ k_) ∧ some k_ ≠ (.slice Ao23 t1388.length co23 : Value).ownBlock ∧ k_ ≠ gb1377)) (by (with_reducible repeat (first | apply Kd.V_alloc | apply Kd.V_drewN | apply Kd.V_drew)); exact Kd.V_mono HO_4.out (fun _ hk => ⟨⟨hk.1.1, ⟨hk.2, hk.1.2.2⟩⟩, hk.1.2.1⟩)) hg hat)
         have n1_ := zA (blk_grown (g := gb1377) (o := .cells #[.int .i64 a0_0, .slice (some ad1384) l0_1.length c0_1, .slice (some ad1387) l0_2.length c0_2] 26 (0, 0)) (uB BK1377.out) hg (Kd.R_ne HO_3.out BK1377.out (by decide)))
         have n2_ := zA (Kd.V_afterv (ok := (fun k_ => (w.heap.size ≤ k_) ∧ some k_ ≠ (.slice Ao23 t1388.length co23 : Value).ownBlock ∧ k_ ≠ gb1377)) (by (with_reducible repeat (first | apply Kd.V_alloc | apply Kd.V_drewN | apply Kd.V_drew)); exact Kd.V_mono HL1385_0.out (fun _ hk => ⟨⟨hk.1.1.1, ⟨hk.2, hk.1.1.2⟩⟩, hk.1.2⟩)) hg hat)
         have n3_ := zA (hb)
         have n4_ := zA (ho)
         clear HO_4 BK1377 HL1385_0 HB HO_3 HO1390
         have HO_4 := n0_; have BK1377 := n1_; have HL1385_0 := n2_; have HB := n3_; have HO1393 := n4_
         clear n0_ n1_ n2_ n3_ n4_
         clear ho hb hg hat
         refine hK.out _ _ ⟨(blk_cell BK1377.out 0).trans rfl, (blk_cell BK1377.out 1).trans rfl, (blk_cell BK1377.out 2).trans rfl, ((HB.out.cell (World.block_lt_of_cell? w _ hw1387_0)).trans hw1387_0)⟩ (fun hHeld => ?_)
         clear hK K
         refine no_ 35 ?_
         refine pu_ 14 3 (bl 15 32767) HT_ ?_
         refine done_ (done_of HT_.out (by kernel_rfl)) ?_
         try go_wp2
         go_roundg k1
         case measure => have := HK1.out; omega
         case rel => exact ⟨(y1391), (rd_L1 x3_1 x13_1), (wrap64 (x13_1 + 1)), (by first | rfl | (simp; done) | (simp [*]; done)), H', ⟨by have := HK1.out; omega⟩, ⟨by (with_reducible repeat (first | apply Kd.R_alloc | apply Kd.R_drewN | apply Kd.R_drew)); exact HO1393.out⟩, ⟨by (with_reducible repeat (first | apply Kd.V_alloc | apply Kd.V_drewN | apply Kd.V_drew)); exact Kd.V_mono HL1385_0.out (fun _ hk => ⟨hk.1.1, ⟨hk.2, hk.1.2.2⟩⟩)⟩, ⟨uB BK1377.out⟩, ⟨uH HB.out⟩⟩
        ·rw [if_neg c16] at H
         exact absurd H (by simp)
       ·rw [if_neg c14] at H
        exact absurd H (by simp)
      ·rw [if_neg c12] at H
       exact absurd H (by simp)
     ·rw [if_neg c11] at H
      exact absurd H (by simp)
    ·rw [if_neg c10] at H
     exact absurd H (by simp)
   ·rw [if_neg c9] at H
    have c9b0 : decide (x13_1 < (l0_1.length : Int)) = false := decide_eq_false c9
    clear c9
    obtain rfl := Option.some.inj H
    go_wp2
    go_ret
    exact ⟨_, by first | rfl | (simp [errW_none, errW_some] <;> rfl) | (simp [*, errW_none, errW_some] <;> rfl), by (with_reducible repeat (first | apply Kd.R_alloc | apply Kd.R_drewN | apply Kd.R_drew)); exact Kd.R_mono HO_3.out (fun _ hk => hk.1), uH HB.out⟩
/- Plain lemmas: rounds (Ev), wrapped sums, rests modulo p, lists read and written at an index. No program is in sight. -/
section
variable {α β : Type}
theorem Ev.pos {c : Prop} [Decidable c] {X Y : Nat → Option α} {r : α} (h : c) (e : Ev X r) : Ev (fun k => if c then X k else Y k) r := by
  simpa only [if_pos h] using e
theorem Ev.neg {c : Prop} [Decidable c] {X Y : Nat → Option α} {r : α} (h : ¬ c) (e : Ev Y r) : Ev (fun k => if c then X k else Y k) r := by
  simpa only [if_neg h] using e
theorem Ev.eq {x : Option α} {r : α} (h : x = some r) : Ev (fun _ => x) r := ⟨0, fun _ _ => h⟩
theorem Ev.some' {r s : α} (h : r = s) : Ev (fun _ => some r) s := ⟨0, fun _ _ => by rw [h]⟩
theorem Ev.bindE {x : Option α} {f : Nat → α → Option β} {a : α} {r : β} (h : x = some a) (e : Ev (fun n => f n a) r) : Ev (fun n => x.bind (f n)) r := by
  subst h; simpa using e
theorem Ev.cast {g : Nat → Option α} {r s : α} (h : Ev g r) (e : r = s) : Ev g s := e ▸ h
theorem Ev.fn {g : Nat → Option α} {r s : α} (h : Ev g r) (h' : Ev g s) : r = s := by
  obtain ⟨K, h⟩ := h
  obtain ⟨K', h'⟩ := h'
  have a := h (max K K') (by omega)
  have b := h' (max K K') (by omega)
  rw [a] at b
  exact Option.some.inj b
end

theorem ne_self {α : Type} [BEq α] [LawfulBEq α] (a : α) : ¬ ((a != a) = true) := by simp

theorem wrap_id {x : Int} (h0 : -9223372036854775808 ≤ x) (h1 : x < 9223372036854775808) : wrap64 x = x := by unfold wrap64; omega
theorem wsucc {i n : Nat} (h : i < n) (hn : n < 4611686018427387904) : wrap64 ((i : Int) + 1) = ((i + 1 : Nat) : Int) := by unfold wrap64; omega
theorem wadd {i j n : Nat} (h : i + j < n) (hn : n < 4611686018427387904) : wrap64 ((i : Int) + (j : Int)) = ((i + j : Nat) : Int) := by unfold wrap64; omega
theorem wpred {i : Nat} (h : 0 < i) (hn : i < 4611686018427387904) : wrap64 ((i : Int) - 1) = ((i - 1 : Nat) : Int) := by unfold wrap64; omega

theorem rd_nat (l : List Int) (i : Nat) : rd l (i : Int) = l.getD i 0 := by simp [rd]
theorem rdL_nat (l : List (List Int)) (i : Nat) : rd_L1 l (i : Int) = l.getD i [] := by simp [rd_L1]
theorem getD_mem {α : Type} {l : List α} {i : Nat} {d : α} (h : i < l.length) : l.getD i d ∈ l := by
  simp only [List.getD_eq_getElem?_getD, List.getElem?_eq_getElem h, Option.getD_some]; exact List.getElem_mem h
theorem toNat_nat (i : Nat) : ((i : Int)).toNat = i := rfl

/-- A length that is small. -/
abbrev Sm (n : Nat) : Prop := n ≤ 1048576

/-- Numbers modulo p. -/
def Nm (p : Int) (l : List Int) : Prop := ∀ x ∈ l, 0 ≤ x ∧ x < p
theorem Nm.nil (p : Int) : Nm p [] := fun x h => by cases h
theorem Nm.cons {p x : Int} {l : List Int} (h0 : 0 ≤ x) (h1 : x < p) (h : Nm p l) : Nm p (x :: l) := fun y hy => by
  rcases List.mem_cons.1 hy with rfl | hy
  · exact ⟨h0, h1⟩
  · exact h y hy
theorem Nm.append {p : Int} {l m : List Int} (h : Nm p l) (h' : Nm p m) : Nm p (l ++ m) := fun y hy => by
  rcases List.mem_append.1 hy with hy | hy
  · exact h y hy
  · exact h' y hy
theorem Nm.get {p : Int} {l : List Int} (h : Nm p l) {i : Nat} (hi : i < l.length) : 0 ≤ l.getD i 0 ∧ l.getD i 0 < p := h _ (getD_mem hi)
theorem Nm.getp {p : Int} {l : List Int} (h : Nm p l) (hp : 0 < p) (i : Nat) : 0 ≤ l.getD i 0 ∧ l.getD i 0 < p := by
  by_cases hi : i < l.length
  · exact h.get hi
  · rw [List.getD_eq_getElem?_getD, List.getElem?_eq_none (by omega)]; exact ⟨Int.le_refl _, hp⟩
theorem Nm.take {p : Int} {l : List Int} (h : Nm p l) (n : Nat) : Nm p (l.take n) := fun x hx => h x (List.mem_of_mem_take hx)
theorem Nm.drop {p : Int} {l : List Int} (h : Nm p l) (n : Nat) : Nm p (l.drop n) := fun x hx => h x (List.mem_of_mem_drop hx)
theorem Nm.set {p x : Int} {l : List Int} (h : Nm p l) (h0 : 0 ≤ x) (h1 : x < p) (i : Nat) : Nm p (l.set i x) := fun y hy => by
  rcases List.mem_or_eq_of_mem_set hy with hy | rfl
  · exact h y hy
  · exact ⟨h0, h1⟩
theorem Nm.zeros {p : Int} (hp : 0 < p) (n : Nat) : Nm p (List.replicate n 0) := fun x hx => by
  rw [(List.mem_replicate.1 hx).2]; exact ⟨Int.le_refl _, hp⟩
instance (p : Int) (l : List Int) : Decidable (Nm p l) := by unfold Nm; infer_instance

theorem wf64 {x : Int} (h : (Lit.int .i64 x).wf = true) : -9223372036854775808 ≤ x ∧ x ≤ 9223372036854775807 := by
  have h2 : IntKind.i64.min ≤ x ∧ x ≤ 9223372036854775807 := by simpa [Lit.wf] using h
  exact h2
/-- A modulus that the program may have (in its range; a prime or not). -/
structure Pm (p : Int) : Prop where
  two : 2 ≤ p
  top : p ≤ 10007
theorem Pm.pos {p : Int} (h : Pm p) : 0 < p := by have := h.two; omega
theorem Pm.ne {p : Int} (h : Pm p) : p ≠ 0 := by have := h.two; omega

theorem mulB {a b m n : Int} (ha : 0 ≤ a) (ha' : a ≤ m) (hb : 0 ≤ b) (hb' : b ≤ n) : 0 ≤ a * b ∧ a * b ≤ m * n :=
  ⟨Int.mul_nonneg ha hb, Int.mul_le_mul ha' hb' hb (by omega)⟩
/-- A product of two numbers modulo p. -/
theorem mulP {p a b : Int} (hp : Pm p) (ha : 0 ≤ a) (ha' : a < p) (hb : 0 ≤ b) (hb' : b < p) : 0 ≤ a * b ∧ a * b ≤ 100140049 := by
  have h1 := hp.top
  have h := mulB (m := 10007) (n := 10007) ha (by omega) hb (by omega)
  exact ⟨h.1, by omega⟩
theorem tmod_pos {a b : Int} (h : 0 ≤ a) : Int.tmod a b = a % b := Int.tmod_eq_emod_of_nonneg h
theorem emodB {p : Int} (hp : 0 < p) (x : Int) : 0 ≤ x % p ∧ x % p < p := ⟨Int.emod_nonneg _ (by omega), Int.emod_lt_of_pos _ hp⟩
/-- Go's '(x % p + p) % p' is the rest of x. -/
theorem go_mod {p x : Int} (hp : Pm p) : Int.tmod (wrap64 (Int.tmod x p + p)) p = x % p := by
  have h2 := hp.two
  have ht := hp.top
  have h := Int.tmod_eq_emod (a := x) (b := p)
  have hb := emodB hp.pos x
  have hn : ((p.natAbs : Nat) : Int) = p := by omega
  split at h
  · rw [h, Int.natCast_zero, wrap_id (by omega) (by omega), tmod_pos (by omega), show x % p - 0 + p = x % p + p from by omega, Int.add_emod_right, Int.emod_emod]
  · rw [h, hn, wrap_id (by omega) (by omega), tmod_pos (by omega), show x % p - p + p = x % p from by omega, Int.emod_emod]

/-- A list without noughts at its end. -/
def trim (l : List Int) : List Int := (l.reverse.dropWhile (· == 0)).reverse
theorem trim_nil : trim [] = [] := rfl
theorem trim_snoc_zero (l : List Int) : trim (l ++ [0]) = trim l := by simp [trim]
theorem trim_snoc (l : List Int) {x : Int} (h : x ≠ 0) : trim (l ++ [x]) = l ++ [x] := by simp [trim, h]
theorem snocInd {α : Type} {P : List α → Prop} (h0 : P []) (h1 : ∀ l x, P l → P (l ++ [x])) (l : List α) : P l := by
  have h : ∀ l : List α, P l.reverse := by
    intro l
    induction l with
    | nil => exact h0
    | cons x l ih => rw [List.reverse_cons]; exact h1 _ _ ih
  simpa using h l.reverse
theorem trim_sub (l : List Int) : ∃ n, l = trim l ++ List.replicate n 0 := by
  induction l using snocInd with
  | h0 => exact ⟨0, rfl⟩
  | h1 l x ih =>
    by_cases h : x = 0
    · subst h
      obtain ⟨n, hn⟩ := ih
      refine ⟨n + 1, ?_⟩
      rw [trim_snoc_zero, List.replicate_succ', ← List.append_assoc, ← hn]
    · exact ⟨0, by rw [trim_snoc l h]; simp⟩
/- Copies of lists; no condition. -/
theorem Sm0 : Sm ([] : List Int).length := by simp [Sm]
theorem Sm.take {l : List Int} (h : Sm l.length) (n : Nat) : Sm (l.take n).length := by unfold Sm at h ⊢; rw [List.length_take]; omega
theorem Sm.drop {l : List Int} (h : Sm l.length) (n : Nat) : Sm (l.drop n).length := by unfold Sm at h ⊢; rw [List.length_drop]; omega
theorem own_eq (l : List Int) (hl : Sm l.length) : spec_l01Own.f l = some l := by
  unfold spec_l01Own.f
  simp only [Option.bind_some, List.length_nil, List.nil_append]
  rw [if_pos (by unfold Sm at hl; omega)]
theorem clone_eq (l : List Int) (hl : Sm l.length) : slices_Clone_ints.f l = some l := by
  unfold slices_Clone_ints.f
  rw [if_pos (by unfold Sm at hl; omega)]
/- What the laws' own helpers compute: copies, comparisons, marks. -/
theorem set_take_step (l : List Int) (i : Nat) (h : i < l.length) : (l.take i ++ List.replicate (l.length - i) 0).set i (l.getD i 0) = l.take (i + 1) ++ List.replicate (l.length - (i + 1)) 0 := by
  obtain ⟨m, hm⟩ : ∃ m, l.length - i = m + 1 := ⟨l.length - i - 1, by omega⟩
  rw [List.set_append_right (h := by simp; omega)]
  rw [hm, List.replicate_succ]
  have e : i - (l.take i).length = 0 := by simp; omega
  rw [e, List.set_cons_zero, List.take_succ_eq_append_getElem h]
  have e2 : l.length - (i + 1) = m := by omega
  rw [e2, List.append_assoc]
  simp [List.getD, h]

theorem toInt64S_l0 (l : List Int) (hl : Sm l.length) (d : Nat) : ∀ i, i + d = l.length → Ev (fun k => laws_toInt64S.l0 k l (l.take i ++ List.replicate (l.length - i) 0) (i : Int)) l := by
  induction d with
  | zero =>
    intro i hi
    refine Ev.step (fun k => by rw [laws_toInt64S.l0]) ?_
    refine Ev.neg (by omega) (Ev.some' ?_)
    have e : l.length - i = 0 := by omega
    rw [e, List.take_of_length_le (by omega)]; simp
  | succ d ih =>
    intro i hi
    have hlen : (l.take i ++ List.replicate (l.length - i) (0 : Int)).length = l.length := by simp; omega
    refine Ev.step (fun k => by rw [laws_toInt64S.l0]) ?_
    refine Ev.pos (by omega) (Ev.pos (by omega) (Ev.pos (by rw [hlen]; omega) ?_))
    rw [toNat_nat, rd_nat, set_take_step l i (by omega), wsucc (i := i) (n := l.length) (by omega) (by unfold Sm at hl; omega)]
    exact ih (i + 1) (by omega)
theorem toInt64S_ev (l : List Int) (hl : Sm l.length) : Ev (fun k => laws_toInt64S.f k l) l := by
  unfold laws_toInt64S.f
  refine Ev.pos (by omega) (Ev.pos (by unfold Sm at hl; rw [toNat_nat]; omega) ?_)
  have h := toInt64S_l0 l hl l.length 0 (by omega)
  simpa using h

theorem eqInt64S_l0 (l : List Int) (hl : Sm l.length) (d : Nat) : ∀ i, i + d = l.length → Ev (fun k => laws_eqInt64S.l0 k l l (i : Int)) true := by
  induction d with
  | zero =>
    intro i hi
    refine Ev.step (fun k => by rw [laws_eqInt64S.l0]) ?_
    exact Ev.neg (by omega) (Ev.now _)
  | succ d ih =>
    intro i hi
    refine Ev.step (fun k => by rw [laws_eqInt64S.l0]) ?_
    refine Ev.pos (by omega) (Ev.pos (by omega) (Ev.pos (by omega) (Ev.pos rfl ?_)))
    rw [wsucc (i := i) (n := l.length) (by omega) (by unfold Sm at hl; omega)]
    exact ih (i + 1) (by omega)
theorem eqInt64S_ev (l : List Int) (hl : Sm l.length) : Ev (fun k => laws_eqInt64S.f k l l) true := by
  unfold laws_eqInt64S.f
  exact Ev.pos rfl (eqInt64S_l0 l hl l.length 0 (by omega))

/-- The marks m, m + 1, .. -/
def marks (m n : Nat) : List Int := (List.range n).map fun i => ((m + i : Nat) : Int)
theorem marks_length (m n : Nat) : (marks m n).length = n := by simp [marks]
theorem marks_get (m n i : Nat) (h : i < n) : (marks m n).getD i 0 = ((m + i : Nat) : Int) := by
  simp [marks, List.getD, h]

theorem markInt64S_l0 (l : List Int) (m : Nat) (hl : Sm l.length) (hm : m ≤ 4611686018427387904 - 4194304) (d : Nat) : ∀ i, i + d = l.length →
    Ev (fun k => laws_markInt64S.l0 k (marks m i ++ l.drop i) ((m + i : Nat) : Int) (i : Int)) (((m + l.length : Nat) : Int), marks m l.length) := by
  induction d with
  | zero =>
    intro i hi
    have hlen : (marks m i ++ l.drop i).length = l.length := by simp [marks_length]; omega
    refine Ev.step (fun k => by rw [laws_markInt64S.l0]) ?_
    refine Ev.neg (by rw [hlen]; omega) (Ev.some' ?_)
    have e : i = l.length := by omega
    subst e
    simp
  | succ d ih =>
    intro i hi
    have hlen : (marks m i ++ l.drop i).length = l.length := by simp [marks_length]; omega
    refine Ev.step (fun k => by rw [laws_markInt64S.l0]) ?_
    refine Ev.pos (by rw [hlen]; omega) (Ev.pos (by omega) ?_)
    have e : (marks m i ++ l.drop i).set ((i : Int)).toNat ((m + i : Nat) : Int) = marks m (i + 1) ++ l.drop (i + 1) := by
      rw [toNat_nat, List.set_append_right (h := by simp [marks_length])]
      rw [marks_length, Nat.sub_self, List.drop_eq_getElem_cons (by omega), List.set_cons_zero]
      unfold marks
      rw [List.range_succ, List.map_append, List.append_assoc]
      rfl
    rw [e, wsucc (i := i) (n := l.length) (by omega) (by unfold Sm at hl; omega), wsucc (i := m + i) (n := m + i + 1) (by omega) (by unfold Sm at hl; omega)]
    exact ih (i + 1) (by omega)
theorem markInt64S_ev (l : List Int) (m : Nat) (hl : Sm l.length) (hm : m ≤ 4611686018427387904 - 4194304) :
    Ev (fun k => laws_markInt64S.f k l (m : Int)) (((m + l.length : Nat) : Int), marks m l.length) := by
  unfold laws_markInt64S.f
  have h := markInt64S_l0 l m hl hm l.length 0 (by omega)
  simpa [marks] using h

theorem heldInt64S_l0 (n m : Nat) (hl : Sm n) (hm : m ≤ 4611686018427387904 - 4194304) (d : Nat) : ∀ i, i + d = n →
    Ev (fun k => laws_heldInt64S.l0 k (marks m n) ((m + i : Nat) : Int) (i : Int)) ((m + n : Nat) : Int) := by
  induction d with
  | zero =>
    intro i hi
    refine Ev.step (fun k => by rw [laws_heldInt64S.l0]) ?_
    refine Ev.neg (by rw [marks_length]; omega) (Ev.some' ?_)
    have e : i = n := by omega
    rw [e]
  | succ d ih =>
    intro i hi
    refine Ev.step (fun k => by rw [laws_heldInt64S.l0]) ?_
    refine Ev.pos (by rw [marks_length]; omega) (Ev.pos (by omega) (Ev.pos (by rw [rd_nat, marks_get m n i (by omega)]) ?_))
    rw [wsucc (i := i) (n := n) (by omega) (by unfold Sm at hl; omega), wsucc (i := m + i) (n := m + i + 1) (by omega) (by unfold Sm at hl; omega)]
    exact ih (i + 1) (by omega)
theorem heldInt64S_ev (n m : Nat) (hl : Sm n) (hm : m ≤ 4611686018427387904 - 4194304) : Ev (fun k => laws_heldInt64S.f k (marks m n) (m : Int)) ((m + n : Nat) : Int) := by
  unfold laws_heldInt64S.f
  exact heldInt64S_l0 n m hl hm n 0 (by omega)

theorem szInt64S_yes (l : List Int) (a : Nat) (ha : a ≤ 1048576) (h : l.length ≤ a) : laws_szInt64S.f l (a : Int) = some ((a - l.length : Nat) : Int) := by
  unfold laws_szInt64S.f
  rw [wrap_id (by omega) (by omega), if_neg (by omega)]
  congr 1
  omega
theorem szInt64S_no (l : List Int) (a : Nat) (hl : l.length ≤ 9223372036854775807) (ha : a ≤ 1048576) (h : a < l.length) : laws_szInt64S.f l (a : Int) = some (-1) := by
  unfold laws_szInt64S.f
  rw [wrap_id (by omega) (by omega), if_pos (by omega)]
/- The laws' helpers at Jacobi: copies, comparisons, marks. -/
theorem toJacobi_ev (p : Int) (l0 l1 : List Int) (h0 : Sm l0.length) (h1 : Sm l1.length) : Ev (fun k => laws_toJacobi.f k p l0 l1) (p, l0, l1) := by
  unfold laws_toJacobi.f
  exact Ev.bind (toInt64S_ev _ h0) (Ev.bind (toInt64S_ev _ h1) (Ev.now _))
theorem eqJacobi_ev (p : Int) (l0 l1 : List Int) (h0 : Sm l0.length) (h1 : Sm l1.length) : Ev (fun k => laws_eqJacobi.f k p l0 l1 p l0 l1) true := by
  unfold laws_eqJacobi.f
  exact Ev.pos rfl (Ev.bind (eqInt64S_ev _ h0) (Ev.pos rfl (Ev.bind (eqInt64S_ev _ h1) (Ev.pos rfl (Ev.now _)))))
theorem markJacobi_ev (p : Int) (l0 l1 : List Int) (h0 : Sm l0.length) (h1 : Sm l1.length) (m : Nat) (hm : m ≤ 4194304) : Ev (fun k => laws_markJacobi.f k p l0 l1 (m : Int)) (((m + l0.length + l1.length : Nat) : Int), marks (m) l0.length, marks (m + l0.length) l1.length) := by
  unfold laws_markJacobi.f
  unfold Sm at h0 h1
  exact Ev.bind (markInt64S_ev _ _ h0 (by omega)) (Ev.bind (markInt64S_ev _ _ h1 (by omega)) (Ev.now _))
theorem heldJacobi_ev (p : Int) (n0 n1 : Nat) (h0 : Sm n0) (h1 : Sm n1) (m : Nat) (hm : m ≤ 4194304) : Ev (fun k => laws_heldJacobi.f k p (marks (m) n0) (marks (m + n0) n1) (m : Int)) ((m + n0 + n1 : Nat) : Int) := by
  unfold laws_heldJacobi.f
  unfold Sm at h0 h1
  exact Ev.bind (heldInt64S_ev _ _ h0 (by omega)) (Ev.neg (by omega) (Ev.bind (heldInt64S_ev _ _ h1 (by omega)) (Ev.neg (by omega) (Ev.now _))))
theorem szJacobi_yes (p : Int) (l0 l1 : List Int) (a : Nat) (ha : a ≤ 1048576) (h : l0.length + l1.length ≤ a) : laws_szJacobi.f p l0 l1 (a : Int) = some ((a - (l0.length + l1.length) : Nat) : Int) := by
  unfold laws_szJacobi.f
  rw [szInt64S_yes l0 (a) (by omega) (by omega), Option.bind_some, if_neg (by omega)]
  rw [szInt64S_yes l1 (a - l0.length) (by omega) (by omega), Option.bind_some, if_neg (by omega)]
  congr 2
  omega
theorem szJacobi_no (p : Int) (l0 l1 : List Int) (g0 : l0.length ≤ 9223372036854775807) (g1 : l1.length ≤ 9223372036854775807) (a : Nat) (ha : a ≤ 1048576) (h : a < l0.length + l1.length) : laws_szJacobi.f p l0 l1 (a : Int) = some (-1) := by
  unfold laws_szJacobi.f
  by_cases e0 : a < l0.length
  · rw [szInt64S_no l0 (a) g0 (by omega) e0, Option.bind_some, if_pos (by omega)]
  · rw [szInt64S_yes l0 (a) (by omega) (by omega), Option.bind_some, if_neg (by omega)]
    rw [szInt64S_no l1 (a - l0.length) g1 (by omega) (by omega), Option.bind_some, if_pos (by omega)]
/- The laws' helpers at Rule: copies, comparisons, marks. -/
theorem eqRule_ev (p : Int) (l0 l1 : List Int) (h0 : Sm l0.length) (h1 : Sm l1.length) : Ev (fun k => laws_eqRule.f k p l0 l1 p l0 l1) true := by
  unfold laws_eqRule.f
  exact Ev.pos rfl (Ev.bind (eqInt64S_ev _ h0) (Ev.pos rfl (Ev.bind (eqInt64S_ev _ h1) (Ev.pos rfl (Ev.now _)))))
theorem markRule_ev (p : Int) (l0 l1 : List Int) (h0 : Sm l0.length) (h1 : Sm l1.length) (m : Nat) (hm : m ≤ 4194304) : Ev (fun k => laws_markRule.f k p l0 l1 (m : Int)) (((m + l0.length + l1.length : Nat) : Int), marks (m) l0.length, marks (m + l0.length) l1.length) := by
  unfold laws_markRule.f
  unfold Sm at h0 h1
  exact Ev.bind (markInt64S_ev _ _ h0 (by omega)) (Ev.bind (markInt64S_ev _ _ h1 (by omega)) (Ev.now _))
theorem heldRule_ev (p : Int) (n0 n1 : Nat) (h0 : Sm n0) (h1 : Sm n1) (m : Nat) (hm : m ≤ 4194304) : Ev (fun k => laws_heldRule.f k p (marks (m) n0) (marks (m + n0) n1) (m : Int)) ((m + n0 + n1 : Nat) : Int) := by
  unfold laws_heldRule.f
  unfold Sm at h0 h1
  exact Ev.bind (heldInt64S_ev _ _ h0 (by omega)) (Ev.neg (by omega) (Ev.bind (heldInt64S_ev _ _ h1 (by omega)) (Ev.neg (by omega) (Ev.now _))))
/- Primes and numbers modulo p: what the program and the reference compute of them. -/
theorem in_eq (a b c : Int) : spec_l01In.f a b c = some (decide (b ≤ a ∧ a ≤ c)) := by
  unfold spec_l01In.f
  by_cases h : b ≤ a
  · rw [if_pos h]; simp [h]
  · rw [if_neg h]; simp [h]
theorem within_eq (a b c : Int) : impl_within.f a b c = some (decide (b ≤ a ∧ a ≤ c)) := by
  unfold impl_within.f
  by_cases h : b ≤ a
  · rw [if_pos h]; simp [h]
  · rw [if_neg h]; simp [h]
theorem has_eq (p x : Int) : impl_field_has.f p x = some (decide (0 ≤ x ∧ x < p)) := by
  unfold impl_field_has.f
  by_cases h : 0 ≤ x
  · rw [if_pos h]; simp [h]
  · rw [if_neg h]; simp [h]
theorem mod_eq {p : Int} (hp : Pm p) (x : Int) : impl_field_mod.f p x = some (x % p) := by
  unfold impl_field_mod.f
  rw [if_neg hp.ne, go_mod hp]

/-! ### primes -/
def noDiv (p : Int) (i : Nat) : Prop := ∀ j, j < 101 → i ≤ j → (j : Int) * (j : Int) ≤ p → p % (j : Int) ≠ 0
instance (p : Int) (i : Nat) : Decidable (noDiv p i) := by unfold noDiv; infer_instance
def primeB (p : Int) : Bool := decide (2 ≤ p ∧ p ≤ 10007) && decide (noDiv p 2)
theorem primeB.pm {p : Int} (h : primeB p = true) : Pm p := by
  simp only [primeB, Bool.and_eq_true, decide_eq_true_eq] at h
  exact ⟨h.1.1, h.1.2⟩
theorem noDiv_succ {p : Int} {i : Nat} (h : p % (i : Int) ≠ 0) : decide (noDiv p i) = decide (noDiv p (i + 1)) := by
  apply decide_eq_decide.2
  constructor
  · exact fun g j h1 h2 h3 => g j h1 (by omega) h3
  · intro g j h1 h2 h3
    by_cases e : j = i
    · subst e; exact h
    · exact g j h1 (by omega) h3
theorem noDiv_big {p : Int} {i : Nat} (h : p < (i : Int) * (i : Int)) : noDiv p i := by
  intro j h1 h2 h3
  have := mulB (a := (i : Int)) (b := (i : Int)) (m := (j : Int)) (n := (j : Int)) (by omega) (by omega) (by omega) (by omega)
  omega
theorem sqB {i : Nat} (h : i ≤ 101) : 0 ≤ (i : Int) * (i : Int) ∧ (i : Int) * (i : Int) ≤ 10201 := by
  have := mulB (a := (i : Int)) (b := (i : Int)) (m := 101) (n := 101) (by omega) (by omega) (by omega) (by omega)
  omega
theorem specPrime_l0 {p : Int} (h2 : 2 ≤ p) (ht : p ≤ 10007) (d : Nat) : ∀ i, 2 ≤ i → i + d = 101 → Ev (fun k => spec_l01Prime.l0 k p (i : Int)) (decide (noDiv p i)) := by
  induction d with
  | zero =>
    intro i hi hd
    obtain rfl : i = 101 := by omega
    refine Ev.step (fun k => by rw [spec_l01Prime.l0]) ?_
    refine Ev.neg (by rw [wrap_id (by omega) (by omega)]; omega) (Ev.some' ?_)
    exact (decide_eq_true (noDiv_big (by omega))).symm
  | succ d ih =>
    intro i hi hd
    have hb := sqB (i := i) (by omega)
    refine Ev.step (fun k => by rw [spec_l01Prime.l0]) ?_
    rw [wrap_id (x := (i : Int) * (i : Int)) (by omega) (by omega), tmod_pos (by omega)]
    by_cases h : (i : Int) * (i : Int) ≤ p
    · refine Ev.pos h (Ev.neg (by omega) ?_)
      by_cases h3 : p % (i : Int) = 0
      · exact Ev.pos h3 (Ev.some' (decide_eq_false (fun g => g i (by omega) (by omega) h h3)).symm)
      · refine Ev.neg h3 ?_
        rw [noDiv_succ h3, wsucc (i := i) (n := 101) (by omega) (by omega)]
        exact ih (i + 1) (by omega) (by omega)
    · exact Ev.neg h (Ev.some' (decide_eq_true (noDiv_big (by omega))).symm)
theorem implPrime_l0 {p : Int} (h2 : 2 ≤ p) (ht : p ≤ 10007) (d : Nat) : ∀ i, 2 ≤ i → i + d = 101 → Ev (fun k => impl_IsPrime.l0 k p (i : Int)) (decide (noDiv p i)) := by
  induction d with
  | zero =>
    intro i hi hd
    obtain rfl : i = 101 := by omega
    refine Ev.step (fun k => by rw [impl_IsPrime.l0]) ?_
    refine Ev.neg (by rw [wrap_id (by omega) (by omega)]; omega) (Ev.some' ?_)
    exact (decide_eq_true (noDiv_big (by omega))).symm
  | succ d ih =>
    intro i hi hd
    have hb := sqB (i := i) (by omega)
    refine Ev.step (fun k => by rw [impl_IsPrime.l0]) ?_
    rw [wrap_id (x := (i : Int) * (i : Int)) (by omega) (by omega), tmod_pos (by omega)]
    by_cases h : (i : Int) * (i : Int) ≤ p
    · refine Ev.pos h (Ev.neg (by omega) ?_)
      by_cases h3 : p % (i : Int) = 0
      · exact Ev.pos h3 (Ev.some' (decide_eq_false (fun g => g i (by omega) (by omega) h h3)).symm)
      · refine Ev.neg h3 ?_
        rw [noDiv_succ h3, wsucc (i := i) (n := 101) (by omega) (by omega)]
        exact ih (i + 1) (by omega) (by omega)
    · exact Ev.neg h (Ev.some' (decide_eq_true (noDiv_big (by omega))).symm)
theorem specPrime_ev (p : Int) : Ev (fun k => spec_l01Prime.f k p) (primeB p) := by
  unfold spec_l01Prime.f primeB
  refine Ev.bindE (in_eq _ _ _) ?_
  by_cases h : 2 ≤ p ∧ p ≤ 10007
  · refine Ev.pos (decide_eq_true h) ?_
    rw [decide_eq_true h, Bool.true_and]
    exact specPrime_l0 h.1 h.2 99 2 (by omega) (by omega)
  · refine Ev.neg (by simp [h]) (Ev.some' ?_)
    rw [decide_eq_false h, Bool.false_and]
theorem implPrime_ev (p : Int) : Ev (fun k => impl_IsPrime.f k p) (primeB p) := by
  unfold impl_IsPrime.f primeB
  refine Ev.bindE (within_eq _ _ _) ?_
  by_cases h : 2 ≤ p ∧ p ≤ 10007
  · refine Ev.pos (decide_eq_true h) ?_
    rw [decide_eq_true h, Bool.true_and]
    exact implPrime_l0 h.1 h.2 99 2 (by omega) (by omega)
  · refine Ev.neg (by simp [h]) (Ev.some' ?_)
    rw [decide_eq_false h, Bool.false_and]

/-! ### numbers modulo p -/
theorem Nm_cons (p x : Int) (l : List Int) : Nm p (x :: l) ↔ (0 ≤ x ∧ x < p) ∧ Nm p l := by
  constructor
  · exact fun h => ⟨h x (List.mem_cons_self ..), fun y hy => h y (List.mem_cons_of_mem _ hy)⟩
  · exact fun h => Nm.cons h.1.1 h.1.2 h.2
theorem allO_has (p : Int) (l : List Int) : allO (fun z_ => impl_field_has.f p z_) l = some (decide (Nm p l)) := by
  induction l with
  | nil => simp only [allO]; rw [decide_eq_true (Nm.nil p)]
  | cons x l ih =>
    simp only [has_eq] at ih
    simp only [allO, has_eq, Option.bind_some]
    by_cases h : 0 ≤ x ∧ x < p
    · rw [if_pos (decide_eq_true h), ih]
      congr 1
      apply decide_eq_decide.2
      rw [Nm_cons]
      exact ⟨fun g => ⟨h, g⟩, fun g => g.2⟩
    · rw [if_neg (by simp [h])]
      congr 1
      exact (decide_eq_false (fun g => h ((Nm_cons p x l).1 g).1)).symm
theorem areAll_has (p : Int) (l : List Int) (hl : l.length < 4611686018427387904) : impl_areAll_int64.f l (fun z_ => impl_field_has.f p z_) = some (decide (Nm p l)) := by
  unfold impl_areAll_int64.f
  rw [if_pos hl, allO_has]
theorem Nm_drop {p : Int} {l : List Int} {i : Nat} (h : i < l.length) : Nm p (l.drop i) ↔ (0 ≤ l.getD i 0 ∧ l.getD i 0 < p) ∧ Nm p (l.drop (i + 1)) := by
  rw [drop_cons l 0 i h, Nm_cons]
/-! ### sums -/
def sumTo (g : Nat → Int) : Nat → Int
  | 0 => 0
  | n + 1 => sumTo g n + g n
/- Data of recurrences: which lists are such data, for the program and for the reference; their codes; no condition. -/
/-- Numbers modulo p other than 0. -/
def Um (p : Int) (l : List Int) : Prop := ∀ x ∈ l, 1 ≤ x ∧ x < p
instance (p : Int) (l : List Int) : Decidable (Um p l) := by unfold Um; infer_instance
theorem Um.nil (p : Int) : Um p [] := fun x h => by cases h
theorem Um_cons (p x : Int) (l : List Int) : Um p (x :: l) ↔ (1 ≤ x ∧ x < p) ∧ Um p l := by
  constructor
  · exact fun h => ⟨h x (List.mem_cons_self ..), fun y hy => h y (List.mem_cons_of_mem _ hy)⟩
  · intro h y hy
    rcases List.mem_cons.1 hy with rfl | hy
    · exact h.1
    · exact h.2 y hy
theorem Um.nm {p : Int} {l : List Int} (h : Um p l) : Nm p l := fun x hx => by have := h x hx; omega
theorem Um_drop {p : Int} {l : List Int} {i : Nat} (h : i < l.length) : Um p (l.drop i) ↔ (1 ≤ l.getD i 0 ∧ l.getD i 0 < p) ∧ Um p (l.drop (i + 1)) := by
  rw [drop_cons l 0 i h, Um_cons]
theorem isUnit_eq {p : Int} (hp : -9223372036854775807 ≤ p) (hp' : p ≤ 9223372036854775807) (x : Int) : impl_field_isUnit.f p x = some (decide (1 ≤ x ∧ x < p)) := by
  unfold impl_field_isUnit.f
  rw [within_eq, wrap_id (by omega) (by omega)]
  simp only [Option.bind_some]
  congr 1
  apply decide_eq_decide.2
  omega
theorem allO_unit {p : Int} (hp : -9223372036854775807 ≤ p) (hp' : p ≤ 9223372036854775807) (l : List Int) : allO (fun z_ => impl_field_isUnit.f p z_) l = some (decide (Um p l)) := by
  induction l with
  | nil => simp only [allO]; rw [decide_eq_true (Um.nil p)]
  | cons x l ih =>
    simp only [isUnit_eq hp hp'] at ih
    simp only [allO, isUnit_eq hp hp', Option.bind_some]
    by_cases h : 1 ≤ x ∧ x < p
    · rw [if_pos (decide_eq_true h), ih]
      congr 1
      apply decide_eq_decide.2
      rw [Um_cons]
      exact ⟨fun g => ⟨h, g⟩, fun g => g.2⟩
    · rw [if_neg (by simp [h])]
      congr 1
      exact (decide_eq_false (fun g => h ((Um_cons p x l).1 g).1)).symm
theorem areAll_unit {p : Int} (hp : -9223372036854775807 ≤ p) (hp' : p ≤ 9223372036854775807) (l : List Int) (hl : l.length < 4611686018427387904) : impl_areAll_int64.f l (fun z_ => impl_field_isUnit.f p z_) = some (decide (Um p l)) := by
  unfold impl_areAll_int64.f
  rw [if_pos hl, allO_unit hp hp']

def jacB (p : Int) (a b : List Int) : Bool := primeB p && decide (((1 ≤ a.length ∧ a.length ≤ 12) ∧ b.length = a.length) ∧ (Nm p a ∧ Um p b))
theorem jacB.prime {p : Int} {a b : List Int} (h : jacB p a b = true) : primeB p = true := by simp only [jacB, Bool.and_eq_true] at h; exact h.1
theorem jacB.pm {p : Int} {a b : List Int} (h : jacB p a b = true) : Pm p := primeB.pm (jacB.prime h)
theorem jacB.all {p : Int} {a b : List Int} (h : jacB p a b = true) : ((1 ≤ a.length ∧ a.length ≤ 12) ∧ b.length = a.length) ∧ (Nm p a ∧ Um p b) := by
  simp only [jacB, Bool.and_eq_true, decide_eq_true_eq] at h; exact h.2

theorem specJac_l0 {p : Int} (hp : Pm p) (a b : List Int) (hl : Sm a.length) (hab : b.length = a.length) (d : Nat) : ∀ i, i + d = a.length →
    Ev (fun k => spec_l03Is.l0 k (i : Int) p a b) (decide (Nm p (a.drop i) ∧ Um p (b.drop i))) := by
  induction d with
  | zero =>
    intro i hi
    refine Ev.step (fun k => by rw [spec_l03Is.l0]) ?_
    refine Ev.neg (by omega) (Ev.some' ?_)
    rw [List.drop_eq_nil_of_le (by omega), List.drop_eq_nil_of_le (by omega)]
    exact (decide_eq_true ⟨Nm.nil p, Um.nil p⟩).symm
  | succ d ih =>
    intro i hi
    unfold Sm at hl
    have h2 := hp.two
    have ht := hp.top
    refine Ev.step (fun k => by rw [spec_l03Is.l0]) ?_
    refine Ev.pos (by omega) (Ev.pos (by omega) (Ev.bindE (in_eq _ _ _) ?_))
    rw [rd_nat, rd_nat, wrap_id (x := p - 1) (by omega) (by omega)]
    by_cases h : 0 ≤ a.getD i 0 ∧ a.getD i 0 ≤ p - 1
    · refine Ev.pos (decide_eq_true h) (Ev.pos (by omega) (Ev.bindE (in_eq _ _ _) ?_))
      by_cases g : 1 ≤ b.getD i 0 ∧ b.getD i 0 ≤ p - 1
      · refine Ev.pos (decide_eq_true g) ?_
        rw [wsucc (i := i) (n := a.length) (by omega) (by omega)]
        refine Ev.cast (ih (i + 1) (by omega)) ?_
        apply decide_eq_decide.2
        rw [Nm_drop (l := a) (i := i) (by omega), Um_drop (l := b) (i := i) (by omega)]
        exact ⟨fun q => ⟨⟨by omega, q.1⟩, ⟨by omega, q.2⟩⟩, fun q => ⟨q.1.2, q.2.2⟩⟩
      · refine Ev.neg (by simp only [decide_eq_true_eq]; exact g) (Ev.some' ?_)
        exact (decide_eq_false (fun q => g (by have := ((Um_drop (p := p) (l := b) (i := i) (by omega)).1 q.2).1; omega))).symm
    · refine Ev.neg (by simp only [decide_eq_true_eq]; exact h) (Ev.some' ?_)
      exact (decide_eq_false (fun q => h (by have := ((Nm_drop (p := p) (l := a) (i := i) (by omega)).1 q.1).1; omega))).symm
theorem specJac_ev (p : Int) (a b : List Int) (ha : Sm a.length) (_hb : Sm b.length) : Ev (fun k => spec_l03Is.f k p a b) (jacB p a b) := by
  unfold spec_l03Is.f jacB
  refine Ev.bind (specPrime_ev p) ?_
  by_cases hp : primeB p = true
  · rw [hp, Bool.true_and]
    refine Ev.pos rfl ?_
    by_cases h1 : 1 ≤ a.length
    · refine Ev.neg (by omega) ?_
      by_cases h2 : a.length ≤ 12
      · refine Ev.neg (by omega) ?_
        by_cases h3 : b.length = a.length
        · rw [show (((b.length : Int) != (a.length : Int)) : Bool) = false from by simp [h3]]
          refine Ev.step (fun k => by rw [spec_l03Is.j0]) ?_
          refine Ev.neg (by decide) ?_
          refine Ev.cast (specJac_l0 (primeB.pm hp) a b ha h3 a.length 0 (by omega)) ?_
          apply decide_eq_decide.2
          exact ⟨fun g => ⟨⟨⟨h1, h2⟩, h3⟩, g⟩, fun g => g.2⟩
        · rw [show (((b.length : Int) != (a.length : Int)) : Bool) = true from by simp; omega]
          refine Ev.step (fun k => by rw [spec_l03Is.j0]) ?_
          refine Ev.pos rfl (Ev.some' (decide_eq_false (fun g => h3 g.1.2)).symm)
      · refine Ev.pos (by omega) ?_
        refine Ev.step (fun k => by rw [spec_l03Is.j0]) ?_
        refine Ev.pos rfl (Ev.some' (decide_eq_false (fun g => h2 g.1.1.2)).symm)
    · refine Ev.pos (by omega) ?_
      refine Ev.step (fun k => by rw [spec_l03Is.j0]) ?_
      refine Ev.pos rfl (Ev.some' (decide_eq_false (fun g => h1 g.1.1.1)).symm)
  · rw [Bool.eq_false_iff.2 hp, Bool.false_and]
    refine Ev.neg (by simp) ?_
    refine Ev.step (fun k => by rw [spec_l03Is.j0]) ?_
    exact Ev.pos rfl (Ev.now _)
theorem size_eq (p : Int) (a b : List Int) : impl_Jacobi_size.f p a b = some (a.length : Int) := by
  unfold impl_Jacobi_size.f impl_length_int64.f; rfl
theorem implJac_ev (p : Int) (a b : List Int) (ha : Sm a.length) (hb : Sm b.length) : Ev (fun k => impl_IsJacobi.f k p a b) (jacB p a b) := by
  unfold impl_IsJacobi.f jacB
  refine Ev.bind (implPrime_ev p) ?_
  have ha' := ha
  have hb' := hb
  unfold Sm at ha' hb'
  by_cases hp : primeB p = true
  · have h2 := (primeB.pm hp).two
    have ht := (primeB.pm hp).top
    rw [hp, Bool.true_and]
    refine Ev.pos rfl (Ev.bindE (size_eq p a b) (Ev.bindE (within_eq _ _ _) ?_))
    by_cases h1 : 1 ≤ a.length ∧ a.length ≤ 12
    · refine Ev.pos (decide_eq_true (by omega)) ?_
      by_cases h3 : b.length = a.length
      · refine Ev.pos (by omega) (Ev.bindE (a := p) rfl (Ev.bindE (areAll_has p a (by omega)) ?_))
        by_cases h4 : Nm p a
        · refine Ev.pos (decide_eq_true h4) (Ev.bindE (a := p) rfl (Ev.bindE (areAll_unit (by omega) (by omega) b (by omega)) (Ev.some' ?_)))
          apply decide_eq_decide.2
          exact ⟨fun g => ⟨⟨h1, h3⟩, h4, g⟩, fun g => g.2.2⟩
        · refine Ev.neg (by simp only [decide_eq_true_eq]; exact h4) (Ev.some' ?_)
          exact (decide_eq_false (fun g => h4 g.2.1)).symm
      · exact Ev.neg (by omega) (Ev.some' (decide_eq_false (fun g => h3 g.1.2)).symm)
    · refine Ev.neg (by simp only [decide_eq_true_eq]; omega) (Ev.some' ?_)
      exact (decide_eq_false (fun g => h1 g.1.1)).symm
  · rw [Bool.eq_false_iff.2 hp, Bool.false_and]
    exact Ev.neg (by simp) (Ev.now _)
/-- The code of data and a range. -/
def jacC (p : Int) (a b : List Int) (r : Bool) : Int := if jacB p a b = true then (if r = true then 0 else 2) else 1
theorem implJacCode_ev (p : Int) (a b : List Int) (r : Bool) (ha : Sm a.length) (hb : Sm b.length) : Ev (fun k => impl_jacobiCode.f k p a b r) (jacC p a b r) := by
  unfold impl_jacobiCode.f jacC
  refine Ev.bind (implJac_ev p a b ha hb) ?_
  by_cases h : jacB p a b = true
  · rw [if_pos h, if_pos h]
    by_cases g : r = true
    · rw [if_pos g, if_pos g]; exact Ev.now _
    · rw [if_neg g, if_neg g]; exact Ev.now _
  · rw [if_neg h, if_neg h]; exact Ev.now _
theorem jacC0 {p : Int} {a b : List Int} {r : Bool} (h : jacC p a b r = 0) : jacB p a b = true ∧ r = true := by
  unfold jacC at h
  split at h
  · split at h
    · exact ⟨‹_›, ‹_›⟩
    · omega
  · omega
/- Lists without noughts at their end; no condition. -/
theorem smod_eq {p : Int} (hp : Pm p) (x : Int) : spec_l01Mod.f p x = some (x % p) := by
  unfold spec_l01Mod.f
  rw [if_neg hp.ne, go_mod hp]

/-! ### noughts at the end -/
theorem getD_snoc (l : List Int) (x : Int) (m : List Int) : ((l ++ [x]) ++ m).getD l.length 0 = x := by
  rw [List.append_assoc, List.getD_eq_getElem?_getD, List.getElem?_append_right (Nat.le_refl _), Nat.sub_self]; rfl
theorem implTrim_l0 (l : List Int) : Sm l.length → Ev (fun k => impl_trimmed.l0 k l) (trim l) := by
  induction l using snocInd with
  | h0 =>
    intro _
    refine Ev.step (fun k => by rw [impl_trimmed.l0]) ?_
    exact Ev.neg (by simp) (Ev.now _)
  | h1 l x ih =>
    intro hl
    have hn : (l ++ [x]).length = l.length + 1 := by simp
    rw [hn] at hl
    unfold Sm at hl
    have e : wrap64 (((l ++ [x]).length : Int) - 1) = (l.length : Int) := by rw [hn, wrap_id (by omega) (by omega)]; omega
    have er : rd (l ++ [x]) (l.length : Int) = x := by
      rw [rd_nat]; have := getD_snoc l x []; rwa [List.append_nil] at this
    refine Ev.step (fun k => by rw [impl_trimmed.l0]) ?_
    rw [e, er]
    refine Ev.pos (by omega) (Ev.pos (by omega) (Ev.pos (by omega) ?_))
    by_cases hx : x = 0
    · refine Ev.pos hx (Ev.pos (by omega) ?_)
      rw [toNat_nat, List.take_left, hx, trim_snoc_zero]
      exact ih (by unfold Sm; omega)
    · refine Ev.neg hx (Ev.some' ?_)
      rw [trim_snoc l hx]
theorem implTrim_ev (l : List Int) (hl : Sm l.length) : Ev (fun k => impl_trimmed.f k l) (trim l) := by
  unfold impl_trimmed.f
  exact implTrim_l0 l hl
theorem specTrim_l0 (l : List Int) : ∀ m : List Int, Sm (l ++ m).length → Ev (fun k => spec_l01Trim.l0 k (l ++ m) (l.length : Int)) (trim l) := by
  induction l using snocInd with
  | h0 =>
    intro m hl
    refine Ev.step (fun k => by rw [spec_l01Trim.l0]) ?_
    refine Ev.neg (by simp) (Ev.pos (by simp) (Ev.pos (by simp) (Ev.bindE (own_eq _ (hl.take _)) (Ev.some' ?_))))
    simp [trim_nil]
  | h1 l x ih =>
    intro m hl
    have hn : (l ++ [x]).length = l.length + 1 := by simp
    have hl' := hl
    rw [List.length_append, hn] at hl'
    have hm : (l ++ [x] ++ m).length = l.length + 1 + m.length := by rw [List.length_append, hn]
    unfold Sm at hl'
    have e : wrap64 (((l ++ [x]).length : Int) - 1) = (l.length : Int) := by rw [hn, wrap_id (by omega) (by omega)]; omega
    have er : rd ((l ++ [x]) ++ m) (l.length : Int) = x := by
      rw [rd_nat]; exact getD_snoc l x m
    refine Ev.step (fun k => by rw [spec_l01Trim.l0]) ?_
    rw [e, er]
    refine Ev.pos (by omega) (Ev.pos (by omega) (Ev.pos (by omega) ?_))
    by_cases hx : x = 0
    · refine Ev.pos hx ?_
      have := ih ([x] ++ m) (by rw [← List.append_assoc]; exact hl)
      rw [← List.append_assoc] at this
      rw [hx, trim_snoc_zero]
      rw [hx] at this
      exact this
    · refine Ev.neg hx (Ev.pos (by omega) (Ev.pos (by omega) (Ev.bindE (own_eq _ (hl.take _)) (Ev.some' ?_))))
      rw [toNat_nat, List.take_left, trim_snoc l hx]
theorem specTrim_ev (l : List Int) (hl : Sm l.length) : Ev (fun k => spec_l01Trim.f k l) (trim l) := by
  unfold spec_l01Trim.f
  have := specTrim_l0 l [] (by rw [List.append_nil]; exact hl)
  rwa [List.append_nil] at this
theorem trim_len (l : List Int) : (trim l).length ≤ l.length := by
  obtain ⟨n, h⟩ := trim_sub l
  have := congrArg List.length h
  rw [List.length_append] at this
  omega
theorem Nm.trim {p : Int} {l : List Int} (h : Nm p l) : Nm p (trim l) := by
  obtain ⟨n, e⟩ := trim_sub l
  intro x hx
  refine h x ?_
  rw [e]
  exact List.mem_append_left _ hx
/- Derivatives of polynomials modulo p; no condition. -/
/-- The first n numbers of the derivative. -/
def derL (p : Int) (f : List Int) (n : Nat) : List Int := (List.range n).map fun i => (((i + 1 : Nat) : Int) * f.getD (i + 1) 0) % p
theorem derL_len (p : Int) (f : List Int) (n : Nat) : (derL p f n).length = n := by simp [derL]
theorem derL_succ (p : Int) (f : List Int) (n : Nat) : derL p f (n + 1) = derL p f n ++ [(((n + 1 : Nat) : Int) * f.getD (n + 1) 0) % p] := by simp [derL, List.range_succ]
theorem derL_nm {p : Int} (hp : 0 < p) (f : List Int) (n : Nat) : Nm p (derL p f n) := fun x hx => by
  obtain ⟨i, _, rfl⟩ := List.mem_map.1 hx
  exact emodB hp _
def derF (p : Int) (f : List Int) : List Int := trim (derL p f (f.length - 1))
theorem derF_nm {p : Int} (hp : 0 < p) (f : List Int) : Nm p (derF p f) := (derL_nm hp f _).trim
theorem derF_len (p : Int) (f : List Int) : (derF p f).length ≤ f.length := by
  have h := trim_len (derL p f (f.length - 1))
  rw [derL_len] at h
  unfold derF
  omega
theorem derB {p : Int} (hp : Pm p) (f : List Int) (nf : Nm p f) (hf : f.length ≤ 1000) (i : Nat) (hi : i + 1 < f.length) :
    -9223372036854775808 ≤ ((i + 1 : Nat) : Int) * f.getD (i + 1) 0 ∧ ((i + 1 : Nat) : Int) * f.getD (i + 1) 0 < 9223372036854775808 ∧ 0 ≤ ((i + 1 : Nat) : Int) * f.getD (i + 1) 0 := by
  have h := nf.get (i := i + 1) hi
  have ht := hp.top
  have hb := mulB (a := ((i + 1 : Nat) : Int)) (b := f.getD (i + 1) 0) (m := 1000) (n := 10007) (by omega) (by omega) h.1 (by omega)
  omega
theorem specDer_l0 {p : Int} (hp : Pm p) (f : List Int) (nf : Nm p f) (hf : f.length ≤ 1000) (d : Nat) : ∀ i : Nat, i + d = f.length - 1 →
    Ev (fun k => spec_l01Derive.l0 k p f (derL p f i) ((i + 1 : Nat) : Int)) (derF p f) := by
  induction d with
  | zero =>
    intro i hi
    refine Ev.step (fun k => by rw [spec_l01Derive.l0]) ?_
    refine Ev.neg (by omega) ?_
    rw [show i = f.length - 1 from by omega]
    exact Ev.bind (specTrim_ev _ (by rw [derL_len]; unfold Sm; omega)) (Ev.now _)
  | succ d ih =>
    intro i hi
    have hb := derB hp f nf hf i (by omega)
    refine Ev.step (fun k => by rw [spec_l01Derive.l0]) ?_
    rw [rd_nat, wsucc (i := i + 1) (n := f.length) (by omega) (by omega), wrap_id hb.1 hb.2.1, tmod_pos hb.2.2]
    have c1 : ((i + 1 : Nat) : Int) < (f.length : Int) := by clear hb; omega
    have c2 : (0 : Int) ≤ ((i + 1 : Nat) : Int) := by clear hb; omega
    refine Ev.pos c1 (Ev.pos c2 (Ev.neg hp.ne (Ev.pos (by rw [derL_len]; clear hb; omega) ?_)))
    rw [← derL_succ]
    exact ih (i + 1) (by clear hb; omega)
theorem specDer_ev {p : Int} (hp : Pm p) (f : List Int) (nf : Nm p f) (hf : f.length ≤ 1000) : Ev (fun k => spec_l01Derive.f k p f) (derF p f) := by
  unfold spec_l01Derive.f
  exact specDer_l0 hp f nf hf (f.length - 1) 0 (by omega)
theorem implDer_l0 {p : Int} (hp : Pm p) (f : List Int) (nf : Nm p f) (hf : f.length ≤ 1000) (d : Nat) : ∀ i : Nat, i + d = f.length - 1 →
    Ev (fun k => impl_field_derivative.l0 k p f (derL p f i) ((i + 1 : Nat) : Int)) (derF p f) := by
  induction d with
  | zero =>
    intro i hi
    refine Ev.step (fun k => by rw [impl_field_derivative.l0]) ?_
    refine Ev.neg (by omega) ?_
    rw [show i = f.length - 1 from by omega]
    exact Ev.bind (implTrim_ev _ (by rw [derL_len]; unfold Sm; omega)) (Ev.now _)
  | succ d ih =>
    intro i hi
    have hb := derB hp f nf hf i (by omega)
    have em : impl_field_mul.f p ((i + 1 : Nat) : Int) (f.getD (i + 1) 0) = some ((((i + 1 : Nat) : Int) * f.getD (i + 1) 0) % p) := by
      unfold impl_field_mul.f
      rw [wrap_id hb.1 hb.2.1, mod_eq hp]; rfl
    refine Ev.step (fun k => by rw [impl_field_derivative.l0]) ?_
    rw [rd_nat, wsucc (i := i + 1) (n := f.length) (by omega) (by omega)]
    have c1 : ((i + 1 : Nat) : Int) < (f.length : Int) := by clear hb em; omega
    have c2 : (0 : Int) ≤ ((i + 1 : Nat) : Int) := by clear hb em; omega
    refine Ev.pos c1 (Ev.pos c2 (Ev.bindE em (Ev.pos (by rw [derL_len]; clear hb em; omega) ?_)))
    rw [← derL_succ]
    exact ih (i + 1) (by clear hb em; omega)
theorem implDer_ev {p : Int} (hp : Pm p) (f : List Int) (nf : Nm p f) (hf : f.length ≤ 1000) : Ev (fun k => impl_field_derivative.f k p f) (derF p f) := by
  unfold impl_field_derivative.f
  exact implDer_l0 hp f nf hf (f.length - 1) 0 (by omega)
/- Sums of polynomials modulo p; no condition. -/
/-! ### sums -/
def addGo (p k : Int) (g : List Int) : Nat → Nat → List Int → List Int
  | 0, _, o => o
  | d + 1, i, o => addGo p k g d (i + 1) (o.set i ((o.getD i 0 + k * g.getD i 0) % p))
theorem addGo_len (p k : Int) (g : List Int) (d : Nat) : ∀ i o, (addGo p k g d i o).length = o.length := by
  induction d with
  | zero => intro i o; rfl
  | succ d ih => intro i o; rw [addGo, ih, List.length_set]
theorem addGo_nm {p : Int} (hp : 0 < p) (k : Int) (g : List Int) (d : Nat) : ∀ i o, Nm p o → Nm p (addGo p k g d i o) := by
  induction d with
  | zero => intro i o h; exact h
  | succ d ih => intro i o h; exact ih _ _ (h.set (emodB hp _).1 (emodB hp _).2 i)
/-- The list that the sum begins with. -/
def addOf (f : List Int) (n : Nat) : List Int := f ++ List.replicate (n - f.length) 0
theorem addOf_len (f : List Int) {n : Nat} (h : f.length ≤ n) : (addOf f n).length = n := by
  rw [addOf, List.length_append, List.length_replicate]; omega
theorem Nm.addOf {p : Int} (hp : 0 < p) {f : List Int} (h : Nm p f) (n : Nat) : Nm p (addOf f n) := h.append (Nm.zeros hp _)
/-- f and k times g. -/
def padd (p : Int) (f g : List Int) (k : Int) : List Int := trim (addGo p k g g.length 0 (addOf f (max f.length g.length)))
theorem padd_len (p : Int) (f g : List Int) (k : Int) : (padd p f g k).length ≤ max f.length g.length := by
  have := trim_len (addGo p k g g.length 0 (addOf f (max f.length g.length)))
  rw [addGo_len, addOf_len f (by omega)] at this
  exact this
theorem padd_nm {p : Int} (hp : 0 < p) {f g : List Int} (hf : Nm p f) (k : Int) : Nm p (padd p f g k) := (addGo_nm hp k g _ _ _ (hf.addOf hp _)).trim
theorem mx_nat (a b : Nat) : mx (a : Int) (b : Int) = ((max a b : Nat) : Int) := by
  unfold mx; split <;> omega
theorem specAdd1 {p k : Int} (hp : Pm p) (hk : 0 ≤ k ∧ k < p) (g : List Int) (hg : Nm p g) (d : Nat) : ∀ (i : Nat) (o : List Int), i + d = g.length → g.length ≤ o.length → Nm p o → Sm o.length →
    Ev (fun n => spec_l01Add.l1 n p g k o (i : Int)) (trim (addGo p k g d i o)) := by
  induction d with
  | zero =>
    intro i o hi hl ho hs
    refine Ev.step (fun n => by rw [spec_l01Add.l1]) ?_
    exact Ev.neg (by omega) (Ev.bind (specTrim_ev o hs) (Ev.now _))
  | succ d ih =>
    intro i o hi hl ho hs
    have h1 := ho.get (i := i) (by omega)
    have h2 := hg.get (i := i) (by omega)
    have h3 := mulP hp hk.1 hk.2 h2.1 h2.2
    have ht := hp.top
    have hm := emodB hp.pos (o.getD i 0 + k * g.getD i 0)
    have hs' := hs
    unfold Sm at hs'
    refine Ev.step (fun n => by rw [spec_l01Add.l1]) ?_
    refine Ev.pos (by omega) (Ev.pos (by omega) (Ev.pos (by omega) ?_))
    rw [rd_nat, rd_nat, wrap_id (x := k * g.getD i 0) (by omega) (by omega), wrap_id (by omega) (by omega)]
    refine Ev.bindE (smod_eq hp _) ?_
    rw [wsucc (i := i) (n := g.length) (by omega) (by omega), toNat_nat]
    exact ih (i + 1) _ (by omega) (by rw [List.length_set]; omega) (ho.set hm.1 hm.2 i) (by rw [List.length_set]; exact hs)
theorem implAdd1 {p k : Int} (hp : Pm p) (hk : 0 ≤ k ∧ k < p) (g : List Int) (hg : Nm p g) (d : Nat) : ∀ (i : Nat) (o : List Int), i + d = g.length → g.length ≤ o.length → Nm p o → Sm o.length →
    Ev (fun n => impl_field_add.l0 n p k o g (g.length : Int) (i : Int)) (trim (addGo p k g d i o)) := by
  induction d with
  | zero =>
    intro i o hi hl ho hs
    refine Ev.step (fun n => by rw [impl_field_add.l0]) ?_
    exact Ev.neg (by omega) (Ev.bind (implTrim_ev o hs) (Ev.now _))
  | succ d ih =>
    intro i o hi hl ho hs
    have h1 := ho.get (i := i) (by omega)
    have h2 := hg.get (i := i) (by omega)
    have h3 := mulP hp hk.1 hk.2 h2.1 h2.2
    have ht := hp.top
    have hm := emodB hp.pos (o.getD i 0 + k * g.getD i 0)
    have hs' := hs
    unfold Sm at hs'
    refine Ev.step (fun n => by rw [impl_field_add.l0]) ?_
    refine Ev.pos (by omega) (Ev.pos (by omega) (Ev.pos (by omega) (Ev.pos (by omega) ?_)))
    rw [rd_nat, rd_nat, wrap_id (x := k * g.getD i 0) (by omega) (by omega), wrap_id (by omega) (by omega)]
    refine Ev.bindE (mod_eq hp _) ?_
    rw [wsucc (i := i) (n := g.length) (by omega) (by omega), toNat_nat]
    exact ih (i + 1) _ (by omega) (by rw [List.length_set]; omega) (ho.set hm.1 hm.2 i) (by rw [List.length_set]; exact hs)
theorem cpy_zeros (f : List Int) {n : Nat} (h : f.length ≤ n) : cpy (List.replicate n 0) f = addOf f n := by
  unfold cpy addOf
  rw [List.length_replicate, Nat.min_eq_left h, List.take_length, List.drop_replicate]
theorem implAdd_ev {p k : Int} (hp : Pm p) (hk : 0 ≤ k ∧ k < p) (f g : List Int) (hf : Nm p f) (hg : Nm p g) (sf : Sm f.length) (sg : Sm g.length) :
    Ev (fun n => impl_field_add.f n p f g k) (padd p f g k) := by
  unfold impl_field_add.f
  unfold Sm at sf sg
  rw [mx_nat, toNat_nat, cpy_zeros f (by omega)]
  refine Ev.pos (by omega) (Ev.pos (by omega) ?_)
  exact implAdd1 hp hk g hg g.length 0 _ (by omega) (by rw [addOf_len f (by omega)]; omega) (hf.addOf hp.pos _) (by rw [addOf_len f (by omega)]; unfold Sm; omega)
theorem specAdd0 {p k : Int} (f g : List Int) (n : Nat) (r : List Int) (hn : f.length ≤ n) (hs : Sm n) (e : Ev (fun m => spec_l01Add.l1 m p g k (addOf f n) 0) r) (d : Nat) : ∀ i, i + d = f.length →
    Ev (fun m => spec_l01Add.l0 m p f g k (f.take i ++ List.replicate (n - i) 0) (i : Int)) r := by
  induction d with
  | zero =>
    intro i hi
    refine Ev.step (fun m => by rw [spec_l01Add.l0]) ?_
    refine Ev.neg (by omega) ?_
    rw [show i = f.length from by omega, List.take_length]
    exact e
  | succ d ih =>
    intro i hi
    unfold Sm at hs
    have hl : (f.take i ++ List.replicate (n - i) (0 : Int)).length = n := by rw [List.length_append, List.length_take, List.length_replicate]; omega
    refine Ev.step (fun m => by rw [spec_l01Add.l0]) ?_
    refine Ev.pos (by omega) (Ev.pos (by omega) (Ev.pos (by omega) ?_))
    rw [rd_nat, toNat_nat, wsucc (i := i) (n := n) (by omega) (by omega)]
    have e2 : (f.take i ++ List.replicate (n - i) (0 : Int)).set i (f.getD i 0) = f.take (i + 1) ++ List.replicate (n - (i + 1)) 0 := by
      rw [List.set_append_right (h := by rw [List.length_take]; omega), List.length_take, show i - min i f.length = 0 from by omega, show n - i = (n - (i + 1)) + 1 from by omega, List.replicate_succ, List.set_cons_zero, List.take_add_one, List.append_assoc, List.getElem?_eq_getElem (by omega), List.getD_eq_getElem?_getD, List.getElem?_eq_getElem (by omega)]
      rfl
    rw [e2]
    exact ih (i + 1) (by omega)
theorem specAdd_ev {p k : Int} (hp : Pm p) (hk : 0 ≤ k ∧ k < p) (f g : List Int) (hf : Nm p f) (hg : Nm p g) (sf : Sm f.length) (sg : Sm g.length) :
    Ev (fun n => spec_l01Add.f n p f g k) (padd p f g k) := by
  unfold spec_l01Add.f
  unfold Sm at sf sg
  rw [mx_nat, toNat_nat]
  refine Ev.pos (by omega) (Ev.pos (by omega) ?_)
  have h1 := specAdd1 hp hk g hg g.length 0 (addOf f (max f.length g.length)) (by omega) (by rw [addOf_len f (by omega)]; omega) (hf.addOf hp.pos _) (by rw [addOf_len f (by omega)]; unfold Sm; omega)
  have h2 := specAdd0 f g (max f.length g.length) _ (by omega) (by unfold Sm; omega) h1 f.length 0 (by omega)
  rw [List.take_zero, List.nil_append, Nat.sub_zero] at h2
  exact h2
end Go.Proofs.Ytfbnkebgdmfcfaa.Pr
