/- Texts of this session in one: what functions of the program compute, and plain facts of it, under the conditions that each theorem names. -/
import Derived.Deep.RegionHeld
import Derived.RangeFuncBound
import Derived.RangeFuncCalls
import Derived.RangeFuncFrom
import Derived.Test.YtokkabgkjhpecaaKC01
import Derived.Test.YtokkabgkjhpecaaKC02
import Derived.Test.YtokkabgkjhpecaaKC04
import Derived.Test.YtokkabgkjhpecaaKC05
import Derived.Test.YtokkabgkjhpecaaKC06
import Derived.Test.YtokkabgkjhpecaaKC07
/- Printed by a program of this session out of the translation: what these functions of the program compute, under the conditions that each theorem names. -/
namespace Go.Proofs.Ytokkabgkjhpecaa.Pr
open Go.RowKit Go.Proofs.YtokkabgkjhpecaaW.PrintWords Go.Proofs.YtokkabgkjhpecaaW.PrintLast Go.Proofs.YtokkabgkjhpecaaW.PrintMore
attribute [local go_sem] max2_int min2_int max_two min_two max_three min_three max_four min_four   -- for this text's walks alone
set_option linter.unusedVariables false
set_option linter.unusedSimpArgs false

/-! ### spec_l03Second: function 105 -/
def spec_l03Second.l0 : Nat → Int → List Int → List Int → Int → Int → List Int → List Int → Option (List Int)
 | 0, _, _, _, _, _, _, _ => none
 | k + 1, x1, x5, x6, x7, x595000, x595001, x595002 => if x7 < x1 then (if 0 ≤ x7 then (if x7 < (x595001.length : Int) then (if x7 < (x595002.length : Int) then ((spec_l03Step.f k x595000 x6 x5 (rd x595001 x7) (rd x595002 x7)).bind fun t606 => (spec_l03Second.l0 k x1 x6 t606 (wrap64 (x7 + 1)) x595000 x595001 x595002)) else (none)) else (none)) else (none)) else (some x6)
def spec_l03Second.f (k : Nat) (a0_0 : Int) (l0_1 : List Int) (l0_2 : List Int) (a1 : Int) : Option (List Int) := if a1 = 0 then (some (([] : List Int))) else (spec_l03Second.l0 k a1 (([] : List Int)) (([1] : List Int)) 1 a0_0 l0_1 l0_2)
theorem spec_l03Second.mono_l : ∀ k, (∀ y0 y1 y2 y3 y4 y5 y6, LeO (spec_l03Second.l0 k y0 y1 y2 y3 y4 y5 y6) (spec_l03Second.l0 (k + 1) y0 y1 y2 y3 y4 y5 y6))
 | 0 => fun _ _ _ _ _ _ _ r h => by simp [spec_l03Second.l0] at h
 | k + 1 => by
  have ih0 := spec_l03Second.mono_l k
  ·intro y0 y1 y2 y3 y4 y5 y6
   unfold spec_l03Second.l0
   repeat' first
   | (with_reducible exact ih0 _ _ _ _ _ _ _)
   | (with_reducible exact spec_l03Step.mono _ _ _ _ _ _)
   | (with_reducible exact LeO.refl _)
   | (with_reducible exact LeO.none _)
   | (with_reducible refine LeO.ite ?_ ?_)
   | (with_reducible refine LeO.bind ?_ (fun _ => ?_))
   | exact ih0 _ _ _ _ _ _ _
   | exact spec_l03Step.mono _ _ _ _ _ _
   | exact LeO.none _
   | refine LeO.ite ?_ ?_
   | refine LeO.bind ?_ (fun _ => ?_)
theorem spec_l03Second.mono : ∀ a0 a1 a2 a3 k, LeO (spec_l03Second.f k a0 a1 a2 a3) (spec_l03Second.f (k + 1) a0 a1 a2 a3) := by
 intro a0 a1 a2 a3 k
 have ih0 := spec_l03Second.mono_l k
 unfold spec_l03Second.f
 repeat' first
   | (with_reducible exact ih0 _ _ _ _ _ _ _)
   | (with_reducible exact spec_l03Step.mono _ _ _ _ _ _)
   | (with_reducible exact LeO.refl _)
   | (with_reducible exact LeO.none _)
   | (with_reducible refine LeO.ite ?_ ?_)
   | (with_reducible refine LeO.bind ?_ (fun _ => ?_))
   | exact ih0 _ _ _ _ _ _ _
   | exact spec_l03Step.mono _ _ _ _ _ _
   | exact LeO.none _
   | refine LeO.ite ?_ ?_
   | refine LeO.bind ?_ (fun _ => ?_)
def spec_l03Second.T7 : Bool × List (List Nat × List Nat) := (true, [([], []), ([0], [0]), ([], []), ([], []), ([], []), ([4], [4]), ([], []), ([5, 6], [5, 6]), ([7], [7]), ([], []), ([9], [9]), ([], []), ([10, 11], [10, 11]), ([12], [12]), ([1, 2, 3, 8, 13], [1, 2, 3, 8, 13]), ([14, 14, 0, 1, 2, 3, 4, 5, 6, 7, 8, 9, 10, 11, 12, 13, 14], [14])])
def spec_l03Second.B7 : List Nat := [0, 1, 0, 0, 0, 16, 0, 112, 240, 0, 512, 0, 3584, 7680, 16383, 32767]
theorem spec_l03Second.tab7 : rtab .any (opsOf Try.f105 7) = spec_l03Second.T7 := by kernel_rfl
theorem spec_l03Second.bits7 : waitsOk spec_l03Second.T7.2 spec_l03Second.B7 = true := by kernel_rfl
set_option maxHeartbeats 8000000 in
set_option maxRecDepth 100000 in
theorem spec_l03Second.calls (k : Nat) (a0_0 : Int) (A0_1 : Option Addr) (c0_1 : Nat) (l0_1 : List Int) (A0_2 : Option Addr) (c0_2 : Nat) (l0_2 : List Int) (a1 : Int) (r : List Int) (w : World) (hr0_1 : Kd.C (Kd.int .i64) w A0_1 l0_1.length l0_1) (hc0_1 : l0_1.length ≤ c0_1) (hr0_2 : Kd.C (Kd.int .i64) w A0_2 l0_2.length l0_2) (hc0_2 : l0_2.length ≤ c0_2) (h : spec_l03Second.f k a0_0 l0_1 l0_2 a1 = some r) :
  Calls Try.prog 105 #[.agg #[.int .i64 a0_0, .slice A0_1 l0_1.length c0_1, .slice A0_2 l0_2.length c0_2], .int .i64 a1] w fun e w' => ∃ v0_ : Value, e = .returned (v0_) ∧ Kd.R (Kd.int .i64) 2 w' w.heap.size (fun _ => True) v0_ r ∧ Below w.heap.size w w' := by
 have hu46 := Try.underlying46
 have HR0_1 := zA hr0_1
 have HC0_1 := zA hc0_1
 clear hr0_1 hc0_1
 have HR0_2 := zA hr0_2
 have HC0_2 := zA hc0_2
 clear hr0_2 hc0_2
 have HB := zA (Below.refl w.heap.size w)
 have H : (if a1 = 0 then (some (([] : List Int))) else (spec_l03Second.l0 k a1 (([] : List Int)) (([1] : List Int)) 1 a0_0 l0_1 l0_2)) = some r := h
 clear h
 by_cases c3 : a1 = 0
 ·rw [if_pos c3] at H
  have c3b0 : (a1 == 0) = true := beq_iff_eq.mpr c3
  have c3b1 : (a1 != 0) = false := bne_eq_false_iff_eq.mpr c3
  clear c3
  obtain ⟨y595, hy595⟩ : ∃ y_ : List Int, y_ = (([] : List Int)) := ⟨_, rfl⟩
  replace H : (some y595) = some r := by first | (rw [hy595]; with_reducible exact H) | (have H2_ := (Option.bind_some _ _).symm.trans H; rw [hy595]; with_reducible exact H2_) | (have H2_ := (Option.bind_some _ _).symm.trans H; with_reducible exact H2_) | with_reducible exact H | (rw [hy595]; exact H) | exact H
  have Ny595 := zA hy595
  clear hy595
  obtain rfl := Option.some.inj H
  go_enter Try.func105, Try.ntmps105
  go_wp2_with (first | ((with_reducible refine gate_dst (N := 2) rfl ?_); refine box_event ?hg (N := 2) ?hd (cs := #[.int .i64 a0_0, .slice A0_1 l0_1.length c0_1, .slice A0_2 l0_2.length c0_2]) (t := 46) ?hr ?_; (case hd => rfl); (case hg => rfl); (case hr => first | (go_simp; done) | (go_simp; rfl)); intro gb594 hg w4 hbox hb; have n0_ := xH HB hb; have n1_ := zA (hbox); have n2_ := zA ((by rw [hg]; exact (below_size (uH HB.out)) : w.heap.size ≤ gb594)); have n3_ := zA ((by rw [hg]; exact (below_size (uH HB.out)) : w.heap.size ≤ gb594)); clear HB; have HB := n0_; have BK594 := n1_; have GW594 := n2_; have GE594 := n3_; have := geI GE594; clear n0_ n1_ n2_ n3_ hb hbox hg) | ((with_reducible refine gate_dst (N := 11) rfl ?_); refine Kd.R_lit (Kd.int .i64) _ 2 ?hg (N := 11) ?hd (xs := ([] : List Int)) (inner := []) (ok := fun _ => True) (okp := fun _ => True) ?hr ?hp (fun _ hk => hk) trivial (Below.refl _ _) (Nat.le_refl _) (by simp) ?_; (case hd => rfl); (case hg => rfl); (case hr => first | (go_simp; done) | (go_simp; rfl)); (case hp => exact (Reps.none _ _)); intro v596 w5 ho6 hb hg_ hnew_; clear hg_ hnew_; (first | rw [← Ny595.out] at ho6 | (simp only [Int.reduceToNat] at ho6; rw [← Ny595.out] at ho6)); have n0_ := zA (Kd.R_lower ho6 (below_size (uH HB.out))); have n1_ := xB BK594 hb; have n2_ := xH HB hb; clear BK594 HB; have HO597 := n0_; have BK594 := n1_; have HB := n2_; clear n0_ n1_ n2_ hb ho6))
  go_ret
  exact ⟨_, by first | rfl | (simp [errW_none, errW_some] <;> rfl) | (simp [*, errW_none, errW_some] <;> rfl), uR HO597.out, uH HB.out⟩
 ·rw [if_neg c3] at H
  have c3b0 : (a1 == 0) = false := beq_eq_false_iff_ne.mpr c3
  have c3b1 : (a1 != 0) = true := bne_iff_ne.mpr c3
  obtain ⟨y598, hy598⟩ : ∃ y_ : List Int, y_ = (([] : List Int)) := ⟨_, rfl⟩
  replace H : (spec_l03Second.l0 k a1 y598 (([1] : List Int)) 1 a0_0 l0_1 l0_2) = some r := by first | (rw [hy598]; with_reducible exact H) | (have H2_ := (Option.bind_some _ _).symm.trans H; rw [hy598]; with_reducible exact H2_) | (have H2_ := (Option.bind_some _ _).symm.trans H; with_reducible exact H2_) | with_reducible exact H | (rw [hy598]; exact H) | exact H
  have Ny598 := zA hy598
  clear hy598
  obtain ⟨y601, hy601⟩ : ∃ y_ : List Int, y_ = (([1] : List Int)) := ⟨_, rfl⟩
  replace H : (spec_l03Second.l0 k a1 y598 y601 1 a0_0 l0_1 l0_2) = some r := by first | (rw [hy601]; with_reducible exact H) | (have H2_ := (Option.bind_some _ _).symm.trans H; rw [hy601]; with_reducible exact H2_) | (have H2_ := (Option.bind_some _ _).symm.trans H; with_reducible exact H2_) | with_reducible exact H | (rw [hy601]; exact H) | exact H
  have Ny601 := zA hy601
  clear hy601
  have H' := zA H
  clear H
  go_enter Try.func105, Try.ntmps105
  go_wp2_with (first | ((with_reducible refine gate_dst (N := 2) rfl ?_); refine box_event ?hg (N := 2) ?hd (cs := #[.int .i64 a0_0, .slice A0_1 l0_1.length c0_1, .slice A0_2 l0_2.length c0_2]) (t := 46) ?hr ?_; (case hd => rfl); (case hg => rfl); (case hr => first | (go_simp; done) | (go_simp; rfl)); intro gb594 hg w7 hbox hb; have n0_ := xH HB hb; have n1_ := zA (hbox); have n2_ := zA ((by rw [hg]; exact (below_size (uH HB.out)) : w.heap.size ≤ gb594)); have n3_ := zA ((by rw [hg]; exact (below_size (uH HB.out)) : w.heap.size ≤ gb594)); clear HB; have HB := n0_; have BK594 := n1_; have GW594 := n2_; have GE594 := n3_; have := geI GE594; clear n0_ n1_ n2_ n3_ hb hbox hg) | ((with_reducible refine gate_dst (N := 12) rfl ?_); refine Kd.R_lit (Kd.int .i64) _ 2 ?hg (N := 12) ?hd (xs := ([] : List Int)) (inner := []) (ok := fun _ => True) (okp := fun _ => True) ?hr ?hp (fun _ hk => hk) trivial (Below.refl _ _) (Nat.le_refl _) (by simp) ?_; (case hd => rfl); (case hg => rfl); (case hr => first | (go_simp; done) | (go_simp; rfl)); (case hp => exact (Reps.none _ _)); intro v599 w8 ho9 hb hg_ hnew_; clear hg_ hnew_; (first | rw [← Ny598.out] at ho9 | (simp only [Int.reduceToNat] at ho9; rw [← Ny598.out] at ho9)); have n0_ := zA (Kd.R_lower ho9 (below_size (uH HB.out))); have n1_ := xB BK594 hb; have n2_ := xH HB hb; clear BK594 HB; have HO600 := n0_; have BK594 := n1_; have HB := n2_; clear n0_ n1_ n2_ hb ho9) | ((with_reducible refine gate_dst (N := 13) rfl ?_); refine Kd.R_lit (Kd.int .i64) _ 2 ?hg (N := 13) ?hd (xs := ([1] : List Int)) (inner := [.int .i64 1]) (ok := fun _ => True) (okp := fun _ => True) ?hr ?hp (fun _ hk => hk) trivial (Below.refl _ _) (Nat.le_refl _) (by simp) ?_; (case hd => rfl); (case hg => rfl); (case hr => first | (go_simp; done) | (go_simp; rfl)); (case hp => exact (Reps.one (show Kd.M (Kd.int .i64) _ _ _ 1 [.int .i64 1] from rfl) (Reps.none _ _))); intro v602 w10 ho11 hb hg_ hnew_; clear hg_ hnew_; (first | rw [← Ny601.out] at ho11 | (simp only [Int.reduceToNat] at ho11; rw [← Ny601.out] at ho11)); have n0_ := zA (Kd.R_elder' (uR HO600.out) (Kd.R_base ho11) hb); have n1_ := zA (Kd.R_lower (Kd.R_new' ho11 (Kd.R_lt (uR HO600.out))) (below_size (uH HB.out))); have n2_ := xB BK594 hb; have n3_ := xH HB hb; clear HO600 BK594 HB; have HO600 := n0_; have HO603 := n1_; have BK594 := n2_; have HB := n3_; clear n0_ n1_ n2_ n3_ hb ho11))
  go_loopg [5, 6, 7] k (fun kq v5 v6 v7 w' => ∃ (x5_1 : List Int) (x6_1 : List Int) (x7_1 : Int), v7 = .int .i64 x7_1 ∧ Aside0 (spec_l03Second.l0 kq a1 x5_1 x6_1 x7_1 a0_0 l0_1 l0_2 = some r) ∧ Aside0 (kq ≤ k) ∧ Aside0 (Kd.R (Kd.int .i64) 2 w' w.heap.size (fun k_ => some k_ ≠ (v6 : Value).ownBlock) v5 x5_1) ∧ Aside0 (Kd.R (Kd.int .i64) 2 w' w.heap.size (fun k_ => some k_ ≠ (v5 : Value).ownBlock) v6 x6_1) ∧ Aside0 (w'.heap[gb594]? = some (.cells #[.int .i64 a0_0, (.slice A0_1 l0_1.length c0_1), (.slice A0_2 l0_2.length c0_2)] 46 (0, 0))) ∧ Aside0 (Below w.heap.size w w'))
  case atStart => exact ⟨(y598), (y601), (1), (by first | rfl | (simp; done) | (simp [*]; done)), H', ⟨Nat.le_refl _⟩, ⟨uR (Kd.R_mono HO600.out (fun _ hk => hk.2))⟩, ⟨uR (Kd.R_mono HO603.out (fun _ hk => hk.2))⟩, ⟨uB BK594.out⟩, ⟨uH HB.out⟩⟩
  case round =>
   clear H'
   try clear c1
   try clear p2
   try clear c3
   try clear c3b0
   try clear c3b1
   try clear c10
   obtain ⟨x5_1, x6_1, x7_1, rfl, HA, HK1, HO_5, HO_6, BK594, HB⟩ := hrel
   cases gk with
   | zero => exact absurd HA.out (by simp [spec_l03Second.l0])
   | succ k1 =>
    have H := HA.out
    clear HA
    simp only [spec_l03Second.l0] at H
    by_cases c12 : x7_1 < a1
    ·rw [if_pos c12] at H
     have c12b0 : decide (x7_1 < a1) = true := decide_eq_true c12
     clear c12
     by_cases c13 : 0 ≤ x7_1
     ·rw [if_pos c13] at H
      have c13b0 : decide (0 ≤ x7_1) = true := decide_eq_true c13
      clear c13
      by_cases c14 : x7_1 < (l0_1.length : Int)
      ·rw [if_pos c14] at H
       have c14b0 : decide (x7_1 < (l0_1.length : Int)) = true := decide_eq_true c14
       clear c14
       by_cases c15 : x7_1 < (l0_2.length : Int)
       ·rw [if_pos c15] at H
        have c15b0 : decide (x7_1 < (l0_2.length : Int)) = true := decide_eq_true c15
        clear c15
        replace H := Option.bind_eq_some_iff.mp H
        obtain ⟨t606, A160, H⟩ := H
        replace H : (spec_l03Second.l0 k1 a1 x6_1 t606 (wrap64 (x7_1 + 1)) a0_0 l0_1 l0_2) = some r := H
        have A16 := zA A160
        clear A160
        have H' := zA H
        clear H
        try go_wp2
        have n0_ := zA (Kd.R_drew HO_5.out)
        have n1_ := zA (Kd.R_drew HO_6.out)
        have n2_ := zA (blk_drew BK594.out)
        have n3_ := zA (below_drew1 HB.out)
        clear HO_5 HO_6 BK594 HB
        have HO_5 := n0_; have HO_6 := n1_; have BK594 := n2_; have HB := n3_
        clear n0_ n1_ n2_ n3_
        have p604 : 0 ≤ (x7_1 : Int) := of_decide_eq_true (by first | (with_reducible assumption) | assumption)
        have q604 : x7_1 < (l0_1.length : Int) := of_decide_eq_true (by first | (with_reducible assumption) | assumption)
        obtain ⟨ad604, e604, hx604_0⟩ := Kd.at_int HR0_1.out x7_1 p604 q604
        have hw604_0 := hx604_0
        cases e604
        replace hx604_0 := (HB.out.cell (World.block_lt_of_cell? w _ hx604_0)).trans hx604_0
        replace p604 := eq_true p604
        replace q604 := eq_true q604
        have p605 : 0 ≤ (x7_1 : Int) := of_decide_eq_true (by first | (with_reducible assumption) | assumption)
        have q605 : x7_1 < (l0_2.length : Int) := of_decide_eq_true (by first | (with_reducible assumption) | assumption)
        obtain ⟨ad605, e605, hx605_0⟩ := Kd.at_int HR0_2.out x7_1 p605 q605
        have hw605_0 := hx605_0
        cases e605
        replace hx605_0 := (HB.out.cell (World.block_lt_of_cell? w _ hx605_0)).trans hx605_0
        replace p605 := eq_true p605
        replace q605 := eq_true q605
        obtain ⟨Ao18, co18, eo18⟩ := Kd.R_slice HO_6.out
        (first | subst eo18 | (injection eo18 with f1_ f2_ f3_; have f4_ := f1_.symm; have f5_ := f3_.symm; clear f1_ f2_ f3_; subst f4_; subst f5_))
        obtain ⟨Ao19, co19, eo19⟩ := Kd.R_slice HO_5.out
        (first | subst eo19 | (injection eo19 with f1_ f2_ f3_; have f4_ := f1_.symm; have f5_ := f3_.symm; clear f1_ f2_ f3_; subst f4_; subst f5_))
        refine start_ (n := 16) (S := fun w' => w'.cell? ⟨gb594, 0, none⟩ = some (.int .i64 a0_0) ∧ w'.cell? ⟨gb594, 1, none⟩ = some (.slice (some ad604) l0_1.length c0_1) ∧ w'.cell? ⟨gb594, 2, none⟩ = some (.slice (some ad605) l0_2.length c0_2) ∧ w'.cell? (ad604.add (x7_1).toNat) = some (.int .i64 (rd l0_1 x7_1)) ∧ w'.cell? (ad605.add (x7_1).toNat) = some (.int .i64 (rd l0_2 x7_1))) (ds := []) #[false, false, false, false, false, false, false, false, false, false, false, false, false, false, false, false] (by kernel_rfl) rfl rfl ⟨(blk_cell BK594.out 0).trans rfl, (blk_cell BK594.out 1).trans rfl, (blk_cell BK594.out 2).trans rfl, ((HB.out.cell (World.block_lt_of_cell? w _ hw604_0)).trans hw604_0), ((HB.out.cell (World.block_lt_of_cell? w _ hw605_0)).trans hw605_0)⟩ (fun hHeld => ?_); refine with_tabW spec_l03Second.tab7 spec_l03Second.bits7 (fun HT_ HW_ => ?_)
        generalize wr.drew = w17 at HO_5 HO_6 BK594 HB hx604_0 hx605_0 hHeld ⊢
        refine pu_ 0 19 (bl 16 1) HT_ ?_
        refine pu_ 2 21 (bl 16 5) HT_ ?_
        refine pu_ 3 22 (bl 16 13) HT_ ?_
        refine pu_ 4 23 (bl 16 29) HT_ ?_
        refine pu_ 6 25 (bl 16 93) HT_ ?_
        refine pu_ 9 28 (bl 16 605) HT_ ?_
        refine pu_ 11 30 (bl 16 2653) HT_ ?_
        refine ta_ 1 20 (bl 16 2655) HT_ HW_ hHeld ?_
        refine ta_ 5 24 (bl 16 2687) HT_ HW_ hHeld ?_
        refine pu_ 7 26 (bl 16 2815) HT_ ?_
        refine ta_ 8 27 (bl 16 3071) HT_ HW_ hHeld ?_
        refine ta_ 10 29 (bl 16 4095) HT_ HW_ hHeld ?_
        refine pu_ 12 31 (bl 16 8191) HT_ ?_
        refine ta_ 13 32 (bl 16 16383) HT_ HW_ hHeld ?_
        refine on_ 14 (some 33) (bl 16 32767) HT_ (fun K hK => ?_)
        refine goes_ Try.func136 (by kernel_rfl) rfl #[.int .i64 a0_0, .slice Ao18 x6_1.length co18, .slice Ao19 x5_1.length co19, .int .i64 (rd l0_1 x7_1), .int .i64 (rd l0_2 x7_1)] (by rfl) rfl rfl (by (try simp only [la, lb, lc]); first | done | rfl | (simp only [ld, le]; rfl)) ?_
        with_reducible refine (spec_l03Step.calls k1 a0_0 _ _ x6_1 _ _ x5_1 (rd l0_1 x7_1) (rd l0_2 x7_1) t606 _ ?side1 ?side2 ?side3 ?side4 A16.out).mono ?_
        (case side1 => exact uC ((Kd.R_reads' HO_6.out).2.2))
        (case side2 => exact (Kd.R_reads' HO_6.out).2.1)
        (case side3 => exact uC ((Kd.R_reads' HO_5.out).2.2))
        (case side4 => exact (Kd.R_reads' HO_5.out).2.1)
        rintro e w20 ⟨v607, rfl, ho0, hb⟩
        refine ⟨_, rfl, ?_⟩
        have n0_ := zA (Kd.R_elder' (uR HO_5.out) (Kd.R_base ho0) hb)
        have n1_ := zA (Kd.R_elder' (uR HO_6.out) (Kd.R_base ho0) hb)
        have n2_ := zA (Kd.R_lower (Kd.R_new' (Kd.R_new' ho0 (Kd.R_lt (uR HO_5.out))) (Kd.R_lt (uR HO_6.out))) (below_size (uH HB.out)))
        have n3_ := xB BK594 hb
        have n4_ := xH HB hb
        clear HO_5 HO_6 BK594 HB
        have HO_5 := n0_; have HO_6 := n1_; have HO608 := n2_; have BK594 := n3_; have HB := n4_
        clear n0_ n1_ n2_ n3_ n4_
        (try clear hb); (try clear hb2); (try clear hk); (try clear hi); (try clear ho0)
        refine hK.out _ _ ⟨(blk_cell BK594.out 0).trans rfl, (blk_cell BK594.out 1).trans rfl, (blk_cell BK594.out 2).trans rfl, ((HB.out.cell (World.block_lt_of_cell? w _ hw604_0)).trans hw604_0), ((HB.out.cell (World.block_lt_of_cell? w _ hw605_0)).trans hw605_0)⟩ (fun hHeld => ?_)
        clear hK K
        refine no_ 33 ?_
        refine pu_ 15 8 (bl 16 65535) HT_ ?_
        refine done_ (done_of HT_.out (by kernel_rfl)) ?_
        try go_wp2
        go_roundg k1
        case measure => have := HK1.out; omega
        case rel => exact ⟨(x6_1), (t606), (wrap64 (x7_1 + 1)), (by first | rfl | (simp; done) | (simp [*]; done)), H', ⟨by have := HK1.out; omega⟩, ⟨uR (Kd.R_mono HO_6.out (fun _ hk => hk.2))⟩, ⟨uR (Kd.R_mono HO608.out (fun _ hk => hk.2))⟩, ⟨uB BK594.out⟩, ⟨uH HB.out⟩⟩
       ·rw [if_neg c15] at H
        exact absurd H (by simp)
      ·rw [if_neg c14] at H
       exact absurd H (by simp)
     ·rw [if_neg c13] at H
      exact absurd H (by simp)
    ·rw [if_neg c12] at H
     have c12b0 : decide (x7_1 < a1) = false := decide_eq_false c12
     clear c12
     obtain rfl := Option.some.inj H
     go_wp2
     go_ret
     exact ⟨_, by first | rfl | (simp [errW_none, errW_some] <;> rfl) | (simp [*, errW_none, errW_some] <;> rfl), uR (Kd.R_mono HO_6.out (fun _ hk => trivial)), uH HB.out⟩

end Go.Proofs.Ytokkabgkjhpecaa.Pr
/- Sums of polynomials modulo p; no condition. -/
namespace Go.Proofs.Ytokkabgkjhpecaa.Pr
open Go.RowKit Go.Proofs.YtokkabgkjhpecaaW.PrintWords Go.Proofs.YtokkabgkjhpecaaW.PrintLast Go.Proofs.YtokkabgkjhpecaaW.PrintMore

/-! ### sums -/
def addGo (p k : Int) (g : List Int) : Nat → Nat → List Int → List Int
  | 0, _, o => o
  | d + 1, i, o => addGo p k g d (i + 1) (o.set i ((o.getD i 0 + k * g.getD i 0) % p))
theorem addGo_len (p k : Int) (g : List Int) (d : Nat) : ∀ i o, (addGo p k g d i o).length = o.length := by
  induction d with
  | zero => intro i o; rfl
  | succ d ih => intro i o; rw [addGo, ih, List.length_set]
theorem addGo_nm {p : Int} (hp : 0 < p) (k : Int) (g : List Int) (d : Nat) : ∀ i o, Nm p o → Nm p (addGo p k g d i o) := by
  induction d with
  | zero => intro i o h; exact h
  | succ d ih => intro i o h; exact ih _ _ (h.set (emodB hp _).1 (emodB hp _).2 i)
/-- The list that the sum begins with. -/
def addOf (f : List Int) (n : Nat) : List Int := f ++ List.replicate (n - f.length) 0
theorem addOf_len (f : List Int) {n : Nat} (h : f.length ≤ n) : (addOf f n).length = n := by
  rw [addOf, List.length_append, List.length_replicate]; omega
theorem Nm.addOf {p : Int} (hp : 0 < p) {f : List Int} (h : Nm p f) (n : Nat) : Nm p (addOf f n) := h.append (Nm.zeros hp _)
/-- f and k times g. -/
def padd (p : Int) (f g : List Int) (k : Int) : List Int := trim (addGo p k g g.length 0 (addOf f (max f.length g.length)))
theorem padd_len (p : Int) (f g : List Int) (k : Int) : (padd p f g k).length ≤ max f.length g.length := by
  have := trim_len (addGo p k g g.length 0 (addOf f (max f.length g.length)))
  rw [addGo_len, addOf_len f (by omega)] at this
  exact this
theorem padd_nm {p : Int} (hp : 0 < p) {f g : List Int} (hf : Nm p f) (k : Int) : Nm p (padd p f g k) := (addGo_nm hp k g _ _ _ (hf.addOf hp _)).trim
theorem mx_nat (a b : Nat) : mx (a : Int) (b : Int) = ((max a b : Nat) : Int) := by
  unfold mx; split <;> omega
theorem specAdd1 {p k : Int} (hp : Pm p) (hk : 0 ≤ k ∧ k < p) (g : List Int) (hg : Nm p g) (d : Nat) : ∀ (i : Nat) (o : List Int), i + d = g.length → g.length ≤ o.length → Nm p o → Sm o.length →
    Ev (fun n => spec_l01Add.l1 n p g k o (i : Int)) (trim (addGo p k g d i o)) := by
  induction d with
  | zero =>
    intro i o hi hl ho hs
    refine Ev.step (fun n => by rw [spec_l01Add.l1]) ?_
    exact Ev.neg (by omega) (Ev.bind (specTrim_ev o hs) (Ev.now _))
  | succ d ih =>
    intro i o hi hl ho hs
    have h1 := ho.get (i := i) (by omega)
    have h2 := hg.get (i := i) (by omega)
    have h3 := mulP hp hk.1 hk.2 h2.1 h2.2
    have ht := hp.top
    have hm := emodB hp.pos (o.getD i 0 + k * g.getD i 0)
    have hs' := hs
    unfold Sm at hs'
    refine Ev.step (fun n => by rw [spec_l01Add.l1]) ?_
    refine Ev.pos (by omega) (Ev.pos (by omega) (Ev.pos (by omega) ?_))
    rw [rd_nat, rd_nat, wrap_id (x := k * g.getD i 0) (by omega) (by omega), wrap_id (by omega) (by omega)]
    refine Ev.bindE (smod_eq hp _) ?_
    rw [wsucc (i := i) (n := g.length) (by omega) (by omega), toNat_nat]
    exact ih (i + 1) _ (by omega) (by rw [List.length_set]; omega) (ho.set hm.1 hm.2 i) (by rw [List.length_set]; exact hs)
theorem implAdd1 {p k : Int} (hp : Pm p) (hk : 0 ≤ k ∧ k < p) (g : List Int) (hg : Nm p g) (d : Nat) : ∀ (i : Nat) (o : List Int), i + d = g.length → g.length ≤ o.length → Nm p o → Sm o.length →
    Ev (fun n => impl_field_add.l0 n p k o g (g.length : Int) (i : Int)) (trim (addGo p k g d i o)) := by
  induction d with
  | zero =>
    intro i o hi hl ho hs
    refine Ev.step (fun n => by rw [impl_field_add.l0]) ?_
    exact Ev.neg (by omega) (Ev.bind (implTrim_ev o hs) (Ev.now _))
  | succ d ih =>
    intro i o hi hl ho hs
    have h1 := ho.get (i := i) (by omega)
    have h2 := hg.get (i := i) (by omega)
    have h3 := mulP hp hk.1 hk.2 h2.1 h2.2
    have ht := hp.top
    have hm := emodB hp.pos (o.getD i 0 + k * g.getD i 0)
    have hs' := hs
    unfold Sm at hs'
    refine Ev.step (fun n => by rw [impl_field_add.l0]) ?_
    refine Ev.pos (by omega) (Ev.pos (by omega) (Ev.pos (by omega) (Ev.pos (by omega) ?_)))
    rw [rd_nat, rd_nat, wrap_id (x := k * g.getD i 0) (by omega) (by omega), wrap_id (by omega) (by omega)]
    refine Ev.bindE (mod_eq hp _) ?_
    rw [wsucc (i := i) (n := g.length) (by omega) (by omega), toNat_nat]
    exact ih (i + 1) _ (by omega) (by rw [List.length_set]; omega) (ho.set hm.1 hm.2 i) (by rw [List.length_set]; exact hs)
theorem cpy_zeros (f : List Int) {n : Nat} (h : f.length ≤ n) : cpy (List.replicate n 0) f = addOf f n := by
  unfold cpy addOf
  rw [List.length_replicate, Nat.min_eq_left h, List.take_length, List.drop_replicate]
theorem implAdd_ev {p k : Int} (hp : Pm p) (hk : 0 ≤ k ∧ k < p) (f g : List Int) (hf : Nm p f) (hg : Nm p g) (sf : Sm f.length) (sg : Sm g.length) :
    Ev (fun n => impl_field_add.f n p f g k) (padd p f g k) := by
  unfold impl_field_add.f
  unfold Sm at sf sg
  rw [mx_nat, toNat_nat, cpy_zeros f (by omega)]
  refine Ev.pos (by omega) (Ev.pos (by omega) ?_)
  exact implAdd1 hp hk g hg g.length 0 _ (by omega) (by rw [addOf_len f (by omega)]; omega) (hf.addOf hp.pos _) (by rw [addOf_len f (by omega)]; unfold Sm; omega)
theorem specAdd0 {p k : Int} (f g : List Int) (n : Nat) (r : List Int) (hn : f.length ≤ n) (hs : Sm n) (e : Ev (fun m => spec_l01Add.l1 m p g k (addOf f n) 0) r) (d : Nat) : ∀ i, i + d = f.length →
    Ev (fun m => spec_l01Add.l0 m p f g k (f.take i ++ List.replicate (n - i) 0) (i : Int)) r := by
  induction d with
  | zero =>
    intro i hi
    refine Ev.step (fun m => by rw [spec_l01Add.l0]) ?_
    refine Ev.neg (by omega) ?_
    rw [show i = f.length from by omega, List.take_length]
    exact e
  | succ d ih =>
    intro i hi
    unfold Sm at hs
    have hl : (f.take i ++ List.replicate (n - i) (0 : Int)).length = n := by rw [List.length_append, List.length_take, List.length_replicate]; omega
    refine Ev.step (fun m => by rw [spec_l01Add.l0]) ?_
    refine Ev.pos (by omega) (Ev.pos (by omega) (Ev.pos (by omega) ?_))
    rw [rd_nat, toNat_nat, wsucc (i := i) (n := n) (by omega) (by omega)]
    have e2 : (f.take i ++ List.replicate (n - i) (0 : Int)).set i (f.getD i 0) = f.take (i + 1) ++ List.replicate (n - (i + 1)) 0 := by
      rw [List.set_append_right (h := by rw [List.length_take]; omega), List.length_take, show i - min i f.length = 0 from by omega, show n - i = (n - (i + 1)) + 1 from by omega, List.replicate_succ, List.set_cons_zero, List.take_add_one, List.append_assoc, List.getElem?_eq_getElem (by omega), List.getD_eq_getElem?_getD, List.getElem?_eq_getElem (by omega)]
      rfl
    rw [e2]
    exact ih (i + 1) (by omega)
theorem specAdd_ev {p k : Int} (hp : Pm p) (hk : 0 ≤ k ∧ k < p) (f g : List Int) (hf : Nm p f) (hg : Nm p g) (sf : Sm f.length) (sg : Sm g.length) :
    Ev (fun n => spec_l01Add.f n p f g k) (padd p f g k) := by
  unfold spec_l01Add.f
  unfold Sm at sf sg
  rw [mx_nat, toNat_nat]
  refine Ev.pos (by omega) (Ev.pos (by omega) ?_)
  have h1 := specAdd1 hp hk g hg g.length 0 (addOf f (max f.length g.length)) (by omega) (by rw [addOf_len f (by omega)]; omega) (hf.addOf hp.pos _) (by rw [addOf_len f (by omega)]; unfold Sm; omega)
  have h2 := specAdd0 f g (max f.length g.length) _ (by omega) (by unfold Sm; omega) h1 f.length 0 (by omega)
  rw [List.take_zero, List.nil_append, Nat.sub_zero] at h2
  exact h2
end Go.Proofs.Ytokkabgkjhpecaa.Pr
/- Products of polynomials modulo p; no condition. -/
namespace Go.Proofs.Ytokkabgkjhpecaa.Pr
open Go.RowKit Go.Proofs.YtokkabgkjhpecaaW.PrintWords Go.Proofs.YtokkabgkjhpecaaW.PrintLast Go.Proofs.YtokkabgkjhpecaaW.PrintMore

/-! ### products -/
def mulIn (p c : Int) (g : List Int) (i : Nat) : Nat → Nat → List Int → List Int
  | 0, _, o => o
  | d + 1, j, o => mulIn p c g i d (j + 1) (o.set (i + j) ((o.getD (i + j) 0 + c * g.getD j 0) % p))
theorem mulIn_len (p c : Int) (g : List Int) (i d : Nat) : ∀ j o, (mulIn p c g i d j o).length = o.length := by
  induction d with
  | zero => intro j o; rfl
  | succ d ih => intro j o; rw [mulIn, ih, List.length_set]
theorem mulIn_nm {p : Int} (hp : 0 < p) (c : Int) (g : List Int) (i d : Nat) : ∀ j o, Nm p o → Nm p (mulIn p c g i d j o) := by
  induction d with
  | zero => intro j o h; exact h
  | succ d ih => intro j o h; exact ih _ _ (h.set (emodB hp _).1 (emodB hp _).2 _)
def mulOut (p : Int) (f g : List Int) : Nat → Nat → List Int → List Int
  | 0, _, o => o
  | d + 1, i, o => mulOut p f g d (i + 1) (mulIn p (f.getD i 0) g i g.length 0 o)
theorem mulOut_len (p : Int) (f g : List Int) (d : Nat) : ∀ i o, (mulOut p f g d i o).length = o.length := by
  induction d with
  | zero => intro i o; rfl
  | succ d ih => intro i o; rw [mulOut, ih, mulIn_len]
theorem mulOut_nm {p : Int} (hp : 0 < p) (f g : List Int) (d : Nat) : ∀ i o, Nm p o → Nm p (mulOut p f g d i o) := by
  induction d with
  | zero => intro i o h; exact h
  | succ d ih => intro i o h; exact ih _ _ (mulIn_nm hp _ _ _ _ _ _ h)
/-- f times g. -/
def pmul (p : Int) (f g : List Int) : List Int := if f.length = 0 ∨ g.length = 0 then [] else trim (mulOut p f g f.length 0 (List.replicate (f.length + g.length - 1) 0))
theorem pmul_len (p : Int) (f g : List Int) : (pmul p f g).length ≤ f.length + g.length - 1 := by
  unfold pmul
  split
  · simp
  · have := trim_len (mulOut p f g f.length 0 (List.replicate (f.length + g.length - 1) 0))
    rw [mulOut_len, List.length_replicate] at this
    exact this
theorem pmul_nm {p : Int} (hp : 0 < p) (f g : List Int) : Nm p (pmul p f g) := by
  unfold pmul
  split
  · exact Nm.nil p
  · exact (mulOut_nm hp _ _ _ _ _ (Nm.zeros hp _)).trim
theorem implMul1 {p : Int} (hp : Pm p) (f g : List Int) (hg : Nm p g) (c : Int) (hc : 0 ≤ c ∧ c < p) (i : Nat) (r : List Int) (d : Nat) : ∀ (j : Nat) (o : List Int), j + d = g.length → i + g.length ≤ o.length → Nm p o → Sm o.length →
    Ev (fun n => impl_field_product.l0 n p g (mulIn p c g i d j o) f (f.length : Int) (wrap64 ((i : Int) + 1))) r →
    Ev (fun n => impl_field_product.l1 n p g o (i : Int) c f (f.length : Int) (i : Int) g (g.length : Int) (j : Int)) r := by
  induction d with
  | zero =>
    intro j o hj hl ho hs e
    refine Ev.step (fun n => by rw [impl_field_product.l1]) ?_
    exact Ev.neg (by omega) e
  | succ d ih =>
    intro j o hj hl ho hs e
    have h1 := ho.get (i := i + j) (by omega)
    have h2 := hg.get (i := j) (by omega)
    have h3 := mulP hp hc.1 hc.2 h2.1 h2.2
    have ht := hp.top
    have hm := emodB hp.pos (o.getD (i + j) 0 + c * g.getD j 0)
    have hs' := hs
    unfold Sm at hs'
    have hw : wrap64 ((i : Int) + (j : Int)) = ((i + j : Nat) : Int) := wadd (n := o.length) (by omega) (by omega)
    refine Ev.step (fun n => by rw [impl_field_product.l1]) ?_
    rw [hw]
    have c1 : (j : Int) < (g.length : Int) := by clear h1 h2 h3 hm hw e; omega
    have c2 : (0 : Int) ≤ (j : Int) := by clear h1 h2 h3 hm hw e; omega
    have c3 : (0 : Int) ≤ ((i + j : Nat) : Int) := by clear h1 h2 h3 hm hw e; omega
    have c4 : ((i + j : Nat) : Int) < (o.length : Int) := by clear h1 h2 h3 hm hw e; omega
    refine Ev.pos c1 (Ev.pos c2 (Ev.pos c1 (Ev.pos c3 (Ev.pos c4 ?_))))
    rw [rd_nat, rd_nat, wrap_id (x := c * g.getD j 0) (by omega) (by omega), wrap_id (by omega) (by omega)]
    refine Ev.bindE (mod_eq hp _) ?_
    rw [wsucc (i := j) (n := g.length) (by clear h1 h2 h3 hm hw e; omega) (by clear h1 h2 h3 hm hw e; omega), toNat_nat]
    exact ih (j + 1) _ (by clear h1 h2 h3 hm hw e; omega) (by rw [List.length_set]; clear h1 h2 h3 hm hw e; omega) (ho.set hm.1 hm.2 _) (by rw [List.length_set]; exact hs) e
theorem implMul0 {p : Int} (hp : Pm p) (f g : List Int) (hf : Nm p f) (hg : Nm p g) (d : Nat) : ∀ (i : Nat) (o : List Int), i + d = f.length → f.length + g.length ≤ o.length + 1 → Nm p o → Sm o.length →
    Ev (fun n => impl_field_product.l0 n p g o f (f.length : Int) (i : Int)) (trim (mulOut p f g d i o)) := by
  induction d with
  | zero =>
    intro i o hi hl ho hs
    refine Ev.step (fun n => by rw [impl_field_product.l0]) ?_
    exact Ev.neg (by omega) (Ev.bind (implTrim_ev o hs) (Ev.now _))
  | succ d ih =>
    intro i o hi hl ho hs
    have hs' := hs
    unfold Sm at hs'
    refine Ev.step (fun n => by rw [impl_field_product.l0]) ?_
    refine Ev.pos (by omega) (Ev.pos (by omega) (Ev.pos (by omega) ?_))
    rw [rd_nat]
    refine implMul1 hp f g hg _ (hf.get (i := i) (by omega)) i _ g.length 0 o (by omega) (by omega) ho hs ?_
    by_cases hg0 : f.length ≤ 4611686018427387903
    · rw [wsucc (i := i) (n := f.length) (by omega) (by omega)]
      exact ih (i + 1) _ (by omega) (by rw [mulIn_len]; exact hl) (mulIn_nm hp.pos _ _ _ _ _ _ ho) (by rw [mulIn_len]; exact hs)
    · omega
theorem implMul_ev {p : Int} (hp : Pm p) (f g : List Int) (hf : Nm p f) (hg : Nm p g) (sf : Sm f.length) (sg : Sm g.length) (sfg : Sm (f.length + g.length)) :
    Ev (fun n => impl_field_product.f n p f g) (pmul p f g) := by
  unfold impl_field_product.f pmul
  unfold Sm at sf sg sfg
  by_cases h1 : f.length = 0
  · rw [if_pos (Or.inl h1)]
    refine Ev.pos (by omega) ?_
    refine Ev.step (fun n => by rw [impl_field_product.j0]) ?_
    exact Ev.pos rfl (Ev.now _)
  · refine Ev.neg (by omega) ?_
    by_cases h2 : g.length = 0
    · rw [if_pos (Or.inr h2), show ((g.length : Int) == 0) = true from by simp [h2]]
      refine Ev.step (fun n => by rw [impl_field_product.j0]) ?_
      exact Ev.pos rfl (Ev.now _)
    · rw [if_neg (by omega), show ((g.length : Int) == 0) = false from by simp; exact fun h => h2 (by simp [h])]
      refine Ev.step (fun n => by rw [impl_field_product.j0]) ?_
      have e : wrap64 (wrap64 ((f.length : Int) + (g.length : Int)) - 1) = ((f.length + g.length - 1 : Nat) : Int) := by
        rw [wrap_id (x := (f.length : Int) + (g.length : Int)) (by omega) (by omega), wrap_id (by omega) (by omega)]; omega
      rw [e, toNat_nat]
      refine Ev.neg (by decide) (Ev.pos (by omega) (Ev.pos (by omega) ?_))
      exact implMul0 hp f g hf hg f.length 0 _ (by omega) (by rw [List.length_replicate]; omega) (Nm.zeros hp.pos _) (by rw [List.length_replicate]; unfold Sm; omega)
theorem specMul1 {p : Int} (hp : Pm p) (f g : List Int) (hf : Nm p f) (hg : Nm p g) (i : Nat) (hi : i < f.length) (r : List Int) (d : Nat) : ∀ (j : Nat) (o : List Int), j + d = g.length → i + g.length ≤ o.length → Nm p o → Sm o.length →
    Ev (fun n => spec_l01Times.l0 n p f g (mulIn p (f.getD i 0) g i d j o) (wrap64 ((i : Int) + 1))) r →
    Ev (fun n => spec_l01Times.l1 n p f g o (i : Int) (j : Int)) r := by
  induction d with
  | zero =>
    intro j o hj hl ho hs e
    refine Ev.step (fun n => by rw [spec_l01Times.l1]) ?_
    exact Ev.neg (by omega) e
  | succ d ih =>
    intro j o hj hl ho hs e
    have hc := hf.get (i := i) hi
    have h1 := ho.get (i := i + j) (by omega)
    have h2 := hg.get (i := j) (by omega)
    have h3 := mulP hp hc.1 hc.2 h2.1 h2.2
    have ht := hp.top
    have hm := emodB hp.pos (o.getD (i + j) 0 + f.getD i 0 * g.getD j 0)
    have hs' := hs
    unfold Sm at hs'
    have hw : wrap64 ((i : Int) + (j : Int)) = ((i + j : Nat) : Int) := wadd (n := o.length) (by omega) (by omega)
    refine Ev.step (fun n => by rw [spec_l01Times.l1]) ?_
    rw [hw]
    have c1 : (j : Int) < (g.length : Int) := by clear h1 h2 h3 hm hw e; omega
    have c2 : (0 : Int) ≤ (j : Int) := by clear h1 h2 h3 hm hw e; omega
    have c3 : (0 : Int) ≤ ((i + j : Nat) : Int) := by clear h1 h2 h3 hm hw e; omega
    have c4 : ((i + j : Nat) : Int) < (o.length : Int) := by clear h1 h2 h3 hm hw e; omega
    have c5 : (0 : Int) ≤ (i : Int) := by clear h1 h2 h3 hm hw e; omega
    have c6 : (i : Int) < (f.length : Int) := by clear h1 h2 h3 hm hw e; omega
    refine Ev.pos c1 (Ev.pos c3 (Ev.pos c4 (Ev.pos c5 (Ev.pos c6 (Ev.pos c2 (Ev.neg hp.ne ?_))))))
    rw [rd_nat, rd_nat, rd_nat, wrap_id (x := f.getD i 0 * g.getD j 0) (by omega) (by omega), wrap_id (by omega) (by omega), tmod_pos (by omega), wsucc (i := j) (n := g.length) (by clear h1 h2 h3 hm hw e; omega) (by clear h1 h2 h3 hm hw e; omega), toNat_nat]
    exact ih (j + 1) _ (by clear h1 h2 h3 hm hw e; omega) (by rw [List.length_set]; clear h1 h2 h3 hm hw e; omega) (ho.set hm.1 hm.2 _) (by rw [List.length_set]; exact hs) e
theorem specMul0 {p : Int} (hp : Pm p) (f g : List Int) (hf : Nm p f) (hg : Nm p g) (d : Nat) : ∀ (i : Nat) (o : List Int), i + d = f.length → f.length + g.length ≤ o.length + 1 → Nm p o → Sm o.length →
    Ev (fun n => spec_l01Times.l0 n p f g o (i : Int)) (trim (mulOut p f g d i o)) := by
  induction d with
  | zero =>
    intro i o hi hl ho hs
    refine Ev.step (fun n => by rw [spec_l01Times.l0]) ?_
    exact Ev.neg (by omega) (Ev.bind (specTrim_ev o hs) (Ev.now _))
  | succ d ih =>
    intro i o hi hl ho hs
    have hs' := hs
    unfold Sm at hs'
    refine Ev.step (fun n => by rw [spec_l01Times.l0]) ?_
    refine Ev.pos (by omega) ?_
    refine specMul1 hp f g hf hg i (by omega) _ g.length 0 o (by omega) (by omega) ho hs ?_
    by_cases hg0 : f.length ≤ 4611686018427387903
    · rw [wsucc (i := i) (n := f.length) (by omega) (by omega)]
      exact ih (i + 1) _ (by omega) (by rw [mulIn_len]; exact hl) (mulIn_nm hp.pos _ _ _ _ _ _ ho) (by rw [mulIn_len]; exact hs)
    · omega
theorem specMul_ev {p : Int} (hp : Pm p) (f g : List Int) (hf : Nm p f) (hg : Nm p g) (sf : Sm f.length) (sg : Sm g.length) (sfg : Sm (f.length + g.length)) :
    Ev (fun n => spec_l01Times.f n p f g) (pmul p f g) := by
  unfold spec_l01Times.f pmul
  unfold Sm at sf sg sfg
  by_cases h1 : f.length = 0
  · rw [if_pos (Or.inl h1)]
    refine Ev.pos (by omega) ?_
    refine Ev.step (fun n => by rw [spec_l01Times.j0]) ?_
    exact Ev.pos rfl (Ev.now _)
  · refine Ev.neg (by omega) ?_
    by_cases h2 : g.length = 0
    · rw [if_pos (Or.inr h2), show ((g.length : Int) == 0) = true from by simp [h2]]
      refine Ev.step (fun n => by rw [spec_l01Times.j0]) ?_
      exact Ev.pos rfl (Ev.now _)
    · rw [if_neg (by omega), show ((g.length : Int) == 0) = false from by simp; exact fun h => h2 (by simp [h])]
      refine Ev.step (fun n => by rw [spec_l01Times.j0]) ?_
      have e : wrap64 (wrap64 ((f.length : Int) + (g.length : Int)) - 1) = ((f.length + g.length - 1 : Nat) : Int) := by
        rw [wrap_id (x := (f.length : Int) + (g.length : Int)) (by omega) (by omega), wrap_id (by omega) (by omega)]; omega
      rw [e, toNat_nat]
      refine Ev.neg (by decide) (Ev.pos (by omega) (Ev.pos (by omega) ?_))
      exact specMul0 hp f g hf hg f.length 0 _ (by omega) (by rw [List.length_replicate]; omega) (Nm.zeros hp.pos _) (by rw [List.length_replicate]; unfold Sm; omega)
end Go.Proofs.Ytokkabgkjhpecaa.Pr
/- One more short step: what is read at the world where it comes up; no condition. -/
namespace Go.Proofs.Ytokkabgkjhpecaa.Pr
open Go Go.RowKit Go.Proofs.YtokkabgkjhpecaaW.PrintWords Go.Proofs.YtokkabgkjhpecaaW.PrintLast Go.Proofs.YtokkabgkjhpecaaW.PrintMore

section
variable {P : Program} {ops : Array Oper} {Q : Exit → Act → World → Prop} {S : World → Prop} {ds : List Nat} {T : Bool × List (List Nat × List Nat)} {fuel : Nat} {l : Array Bool} {a a' : Act} {w : World} {oi : Oper} {v : Value}
theorem lo_ (i : Nat) (N : Tmp) (l' : Array Bool) (HT : Aside0 (rtab .any ops = T)) (hS : S w) (h : wpAnyLast P .any ops Q S ds fuel l' a' w)
    (hi : ops[i]? = some oi := by rfl) (hN : oi.dst = some N := by rfl) (hc : (readyT T.2 l.toList == [i] && l.toList.set i true == l'.toList) = true := by kernel_rfl) (hd : i ∉ ds := by decide)
    (hw : Region.wanted oi (yielded ops a.tmps) = true := by rfl) (hrun : (execOp a.eval oi).run P w = .ok (.value v) w := by (go_simp; with_reducible rfl))
    (ha : a.put (some N) v = a' := by (simp only [Act.put, ls, lz, ln, i64_w, i32_w]; rfl)) : wpAnyLast P .any ops Q S ds (fuel + 1) l a w := by
  subst ha
  exact one_ l' hi hN (one_of HT.out hc) hd (fun K hK => value_ hw hN hrun (hK.out _ _ hS (fun _ => h)))
end
instance Up.setDrewN2 (w0 w : World) (n : Nat) (a b : Addr) (v u : Value) [q : Up w0 ((w.setCell a v).setCell b u)] : Up w0 (((w.drewN n).setCell a v).setCell b u) := ⟨⟨q.up.os, q.up.tape, q.up.output, q.up.size, q.up.block⟩⟩
instance Up.setDrewN3 (w0 w : World) (n : Nat) (a b c : Addr) (v u x : Value) [q : Up w0 (((w.setCell a v).setCell b u).setCell c x)] : Up w0 ((((w.drewN n).setCell a v).setCell b u).setCell c x) := ⟨⟨q.up.os, q.up.tape, q.up.output, q.up.size, q.up.block⟩⟩
end Go.Proofs.Ytokkabgkjhpecaa.Pr
/- field.value: the value of a polynomial, read from the last number on: what the call answers, for every list within the reach and every p other than 0. -/
namespace Go.Proofs.Ytokkabgkjhpecaa.Pr
open Go.RowKit Go.Shelf Go.Proofs.YtokkabgkjhpecaaW.PrintWords Go.Proofs.YtokkabgkjhpecaaW.PrintLast Go.Proofs.YtokkabgkjhpecaaW.PrintMore

attribute [local go_sem] Oper.semAt_some

/-- One round. -/
def valStep (p x o c : Int) : Int := Int.tmod (wrap64 (Int.tmod (wrap64 (wrap64 (o * x) + c)) p + p)) p
def valOf (p x : Int) (ys : List (Int × Int)) : Int := ys.foldl (fun o y => valStep p x o y.2) 0
theorem valOf_snoc (p x : Int) (ys : List (Int × Int)) (y : Int × Int) : valOf p x (ys ++ [y]) = valStep p x (valOf p x ys) y.2 := by simp [valOf]
def impl_field_value.f (p : Int) (l : List Int) (x : Int) : Option Int := if p = 0 then none else if l.length ≤ 17592186040320 then some (valOf p x (upto (bk l l.length) l.length)) else none

theorem cell_of_box_v {W : World} {B : Nat} {v : Value} {t : TypeId} (h : W.heap[B]? = some (.cells #[v] t (0, 0))) : W.cell? ⟨B, 0, none⟩ = some v ∧ W.frozen? ⟨B, 0, none⟩ = false := by
  constructor <;> simp [World.cell?, World.frozen?, h]
theorem cell_new_v (W : World) (v : Value) (t : TypeId) : (W.alloc (.cells #[v] t)).cell? ⟨W.heap.size, 0, none⟩ = some v ∧ (W.alloc (.cells #[v] t)).frozen? ⟨W.heap.size, 0, none⟩ = false :=
  cell_of_box_v (World.alloc_heap_new W _)
theorem cell_alloc_v {W : World} {a : Addr} {v : Value} (o : Obj) (h : W.cell? a = some v) : (W.alloc o).cell? a = some v := cell_kept h (World.grownBy_alloc W o none) (fun r e => by cases e)
theorem frozen_alloc_v {W : World} {a : Addr} {v : Value} (o : Obj) (h : W.cell? a = some v) (hf : W.frozen? a = false) : (W.alloc o).frozen? a = false := (frozen_kept h (World.grownBy_alloc W o none) (fun r e => by cases e)).trans hf

set_option maxRecDepth 100000 in
set_option maxHeartbeats 2000000 in
theorem impl_field_value.calls_in (F : Fence) (n : Nat) (h1 : F.fn 78) (h2 : F.fn 138) (h3 : F.fn 157) (h4 : F.fn 88) (hro : F.round = none) (hn : 4 ≤ n)
    (hmod : ∀ (k m : Nat) (x y r : Int) (W : World), impl_field_mod.f x y = some r → CallsIn (F.inRound k) m Try.prog 88 #[.int .i64 x, .int .i64 y] W fun e W' => e = .returned (.int .i64 r) ∧ Drawn0 W W')
    (a0 : Int) (A1 : Option Addr) (c1 : Nat) (l1 : List Int) (a2 : Int) (hp : a0 ≠ 0) (hl : l1.length ≤ 17592186040320) (w : World) (hI : IntsB w.heap.size w (.slice A1 l1.length c1) l1) :
    CallsIn F n Try.prog 78 #[.int .i64 a0, .slice A1 l1.length c1, .int .i64 a2] w fun e W' => e = .returned (.int .i64 (valOf a0 a2 (upto (bk l1 l1.length) l1.length))) ∧ Below w.heap.size w W' := by
  have hn1 : 1 ≤ n := by omega
  refine callsIn_of_wp_marks Try.func78 rfl h1 ?_ hro
  simp only [Try.ntmps78, List.size_toArray, List.length_cons, List.length_nil, Nat.reduceAdd, Nat.reduceSub, Array.replicate_succ, Array.replicate_zero, List.push_toArray, List.append_toArray, List.nil_append, List.cons_append]
  gi_wp2_with (gi_at_call 138; refine (back_in F (n - 1) h2 hro _ _ _ _).mono ?_; rintro e w' ⟨rfl, rfl⟩)
  have c0 := cell_new_v w (.int .i64 a0) 85
  have c1' := cell_new_v (w.alloc (.cells #[.int .i64 a0] 85)) (.int .i64 a2) 2
  have c2 := cell_new_v ((w.alloc (.cells #[.int .i64 a0] 85)).alloc (.cells #[.int .i64 a2] 2)) (.int .i64 0) 2
  have c3 := cell_new_v (((w.alloc (.cells #[.int .i64 a0] 85)).alloc (.cells #[.int .i64 a2] 2)).alloc (.cells #[.int .i64 0] 2)) (.slice A1 l1.length c1) 22
  simp only [World.size_alloc] at c1' c2 c3
  have hB0 : Below w.heap.size w ((((w.alloc (.cells #[.int .i64 a0] 85)).alloc (.cells #[.int .i64 a2] 2)).alloc (.cells #[.int .i64 0] 2)).alloc (.cells #[.slice A1 l1.length c1] 22)) := ((((Below.refl _ w).alloc (Nat.le_refl _) _).alloc (by simp) _).alloc (by simp; omega) _).alloc (by simp; omega) _
  refine wpIn_rangeFunc_ownF hro hn1 (gf := 157) (lb := #[.pointer (some ⟨w.heap.size + 1 + 1 + 1, 0, none⟩)]) rfl h3 (enters_of Try.func157 (by kernel_rfl) rfl)
    (back_stops F (n - 1) h3 hro (by omega) (w.heap.size + 1 + 1 + 1) w.heap.size (.slice A1 l1.length c1) l1 (by omega) _ (by simp) (by simp; omega) c3.1 (hI.below hB0)) (fun h k => h.trans k)
    (fun W l o o' hl ho hc hw => ⟨belowK_b (by simp; omega) W l o o' hl ho hc hw, fun v hv => cell_kept hv (grownBy_putObj' _ l o') (fun r e => by cases e; exact ⟨_, ho, hc⟩)⟩) (Below.refl _ _) (fun _ => rfl)
    (fun pre W => ((W.cell? ⟨w.heap.size, 0, none⟩ = some (.int .i64 a0) ∧ W.cell? ⟨w.heap.size + 1, 0, none⟩ = some (.int .i64 a2)) ∧ (W.cell? ⟨w.heap.size + 1 + 1, 0, none⟩ = some (.int .i64 (valOf a0 a2 pre)) ∧ W.frozen? ⟨w.heap.size + 1 + 1, 0, none⟩ = false)) ∧ Below w.heap.size w W)
    (fun _ _ _ => False)
    (OwnFrom.and (Own.from (fun s A B row hs hg hr => ⟨⟨cell_kept hs.1.1 hg hr, cell_kept hs.1.2 hg hr⟩, cell_kept hs.2.1 hg hr, (frozen_kept hs.2.1 hg hr).trans hs.2.2⟩) _) (ownFrom_below (Nat.le_refl _) (by simp; omega)))
    (fun _ _ _ _ _ hs _ _ => hs)
    ⟨⟨⟨cell_alloc_v _ (cell_alloc_v _ (cell_alloc_v _ c0.1)), cell_alloc_v _ (cell_alloc_v _ c1'.1)⟩, cell_alloc_v _ c2.1, frozen_alloc_v _ c2.1 c2.2⟩, hB0⟩
    (fun x => { tmps := #[.int .i64 a0, .slice A1 l1.length c1, .int .i64 a2, .pointer (some ⟨w.heap.size, 0, none⟩), undef, .pointer (some ⟨w.heap.size + 1, 0, none⟩), .int .i64 0, .pointer (some ⟨w.heap.size + 1 + 1, 0, none⟩), undef, .int .i64 x.2, .slice A1 l1.length c1, .func (.func 157) #[] #[.pointer (some ⟨w.heap.size + 1 + 1 + 1, 0, none⟩)], .int .i64 x.1, .int .i64 x.2, undef, undef, undef, undef, undef, undef, undef, undef], defers := [] }) ?assign ?body ?done ?stop
  case assign =>
    intro l x W K hK
    gi_wp2
    exact hK
  case body =>
    rintro l pre x W ⟨⟨⟨hc0, hc1⟩, hc2, hf2⟩, hB⟩ _
    have hm : impl_field_mod.f a0 (wrap64 (wrap64 (valOf a0 a2 pre * a2) + x.2)) = some (valStep a0 a2 (valOf a0 a2 pre) x.2) := by
      unfold impl_field_mod.f valStep
      rw [if_neg hp]
    gi_wp2
    refine ⟨fun _ => by omega, (hmod _ _ _ _ _ _ hm).mono ?_⟩
    rintro e w' ⟨rfl, ⟨nd, rfl⟩⟩
    have d0 : (W.drewN nd).cell? ⟨w.heap.size + 1 + 1, 0, none⟩ = some (.int .i64 (valOf a0 a2 pre)) := hc2
    have d1 : (W.drewN nd).frozen? ⟨w.heap.size + 1 + 1, 0, none⟩ = false := hf2
    have d2 : (W.drewN nd).cell? ⟨w.heap.size, 0, none⟩ = some (.int .i64 a0) := hc0
    have d3 : (W.drewN nd).cell? ⟨w.heap.size + 1, 0, none⟩ = some (.int .i64 a2) := hc1
    have kO : KeepsOthers W (W.drewN nd) := ⟨Nat.le_refl _, fun _ _ h _ => h⟩
    have kB : Below w.heap.size W (W.drewN nd) := pw_below_drewN (Below.refl _ _) nd
    have oth : ∀ (g : Nat) (v v' : Value), g ≠ w.heap.size + 1 + 1 → (W.drewN nd).cell? ⟨g, 0, none⟩ = some v → ((W.drewN nd).setCell ⟨w.heap.size + 1 + 1, 0, none⟩ v').cell? ⟨g, 0, none⟩ = some v := by
      intro g v v' hg hv
      exact (World.cell?_setCell_far _ _ _ _ (fun e => hg e.symm)).trans hv
    gi_wp2
    exact ⟨kO.trans (KeepsOthers.setCell _ _ _), ⟨kB.setCell (p := ⟨w.heap.size + 1 + 1, 0, none⟩) (show w.heap.size ≤ w.heap.size + 1 + 1 from by omega) _, fun v hv => oth _ _ _ (by omega) hv⟩, ⟨⟨oth _ _ _ (by omega) d2, oth _ _ _ (by omega) d3⟩, by rw [valOf_snoc]; exact World.cell?_setCell_same' _ _ _ (by rw [d0]; rfl), by rw [World.frozen?_setCell]; exact d1⟩, (hB.trans kB).setCell (p := ⟨w.heap.size + 1 + 1, 0, none⟩) (show w.heap.size ≤ w.heap.size + 1 + 1 from by omega) _⟩
  case done =>
    rintro D ys W hD rfl ⟨⟨_, hc, _⟩, hB⟩ hK
    gi_wp2
    refine ⟨by simp, .inl ⟨_, _, rfl, run_takeDeferred hK, ?_⟩⟩
    exact ⟨_, results_tmp rfl _ _ _, rfl, hB.trans (belowK_b (w := w) (Nat.le_refl _) W D _ _ (by simp at hD; omega) hK rfl rfl)⟩
  case stop =>
    rintro D c pre W _ _ h _
    exact h.elim
/-- What a slice that came in holds, as the loop wants it. -/
theorem intsB_of_C {w : World} {A1 : Option Addr} {c1 : Nat} {l1 : List Int} (hr1 : Kd.C (Kd.int .i64) w A1 l1.length l1) (hc1 : l1.length ≤ c1) : IntsB w.heap.size w (.slice A1 l1.length c1) l1 := by
  have h := Kd.reads_of_C (enc := Value.int .i64) (d := (0 : Int)) (h1 := fun _ => rfl) hr1
  by_cases h0 : l1.length = 0
  · rw [List.length_eq_zero_iff] at h0
    subst h0
    exact .inl ⟨rfl, A1, c1, rfl⟩
  · obtain ⟨ad, rfl, hc⟩ := h.2.2 (by omega)
    refine .inr ⟨ad, c1, rfl, ?_, fun j hj => ?_⟩
    · have := World.block_lt_of_cell? w _ (hc 0 (by omega))
      rwa [add_block] at this
    · have := hc j hj
      rw [List.getD_eq_getElem?_getD] at this
      exact this
theorem impl_field_value.calls (a0 : Int) (A1 : Option Addr) (c1 : Nat) (l1 : List Int) (a2 : Int) (r : Int) (w : World) (hr1 : Kd.C (Kd.int .i64) w A1 l1.length l1) (hc1 : l1.length ≤ c1) (h : impl_field_value.f a0 l1 a2 = some r) :
    Calls Try.prog 78 #[.int .i64 a0, .slice A1 l1.length c1, .int .i64 a2] w fun e w' => e = .returned (.int .i64 r) ∧ Below w.heap.size w w' := by
  unfold impl_field_value.f at h
  split at h
  · cases h
  · rename_i hp
    split at h
    · rename_i hl
      cases h
      exact callsIn_wide.1 (impl_field_value.calls_in Fence.wide 4 trivial trivial trivial trivial rfl (by omega) (fun k m x y r W hm => (CallsIn.inRound k (callsIn_wide.2 (impl_field_mod.calls x y r W hm)))) a0 A1 c1 l1 a2 hp hl w (intsB_of_C hr1 hc1))
    · cases h
end Go.Proofs.Ytokkabgkjhpecaa.Pr
/- Values of polynomials: the program's and the reference's come to one number; no condition. -/
namespace Go.Proofs.Ytokkabgkjhpecaa.Pr
open Go.RowKit Go.Proofs.YtokkabgkjhpecaaW.PrintWords Go.Proofs.YtokkabgkjhpecaaW.PrintLast Go.Proofs.YtokkabgkjhpecaaW.PrintMore

/-- The first k numbers from behind taken in. -/
def valG (p x : Int) (l : List Int) : Nat → Int
  | 0 => 0
  | k + 1 => (valG p x l k * x + l.getD (l.length - 1 - k) 0) % p
theorem valG_in {p : Int} (hp : Pm p) (x : Int) (l : List Int) (k : Nat) : 0 ≤ valG p x l k ∧ valG p x l k < p := by
  cases k with
  | zero => exact ⟨Int.le_refl _, hp.pos⟩
  | succ k => exact emodB hp.pos _
def valF (p x : Int) (l : List Int) : Int := valG p x l l.length
theorem valF_in {p : Int} (hp : Pm p) (x : Int) (l : List Int) : 0 ≤ valF p x l ∧ valF p x l < p := valG_in hp x l _
theorem valStep_eq {p x o c : Int} (hp : Pm p) (hx : 0 ≤ x ∧ x < p) (ho : 0 ≤ o ∧ o < p) (hc : 0 ≤ c ∧ c < p) : valStep p x o c = (o * x + c) % p := by
  have h := mulP hp ho.1 ho.2 hx.1 hx.2
  have ht := hp.top
  unfold valStep
  rw [wrap_id (x := o * x) (by omega) (by omega), wrap_id (x := o * x + c) (by omega) (by omega), go_mod hp]
theorem valOf_upto {p x : Int} (hp : Pm p) (hx : 0 ≤ x ∧ x < p) (l : List Int) (hl : Nm p l) (k : Nat) (hk : k ≤ l.length) : valOf p x (upto (bk l l.length) k) = valG p x l k := by
  induction k with
  | zero => rfl
  | succ k ih =>
    have hg := hl.get (i := l.length - 1 - k) (by omega)
    have hv := valG_in hp x l k
    rw [upto_succ, valOf_snoc, ih (by omega), valG]
    have e : (bk l l.length k).2 = l.getD (l.length - 1 - k) 0 := by simp [bk, List.getD_eq_getElem?_getD]
    rw [e, valStep_eq hp hx hv hg]
theorem implValue_eq {p x : Int} (hp : Pm p) (hx : 0 ≤ x ∧ x < p) (l : List Int) (hl : Nm p l) (hs : Sm l.length) : impl_field_value.f p l x = some (valF p x l) := by
  unfold impl_field_value.f
  unfold Sm at hs
  rw [if_neg hp.ne, if_pos (by omega), valOf_upto hp hx l hl l.length (Nat.le_refl _)]; rfl
theorem specAt_l0 {p x : Int} (hp : Pm p) (hx : 0 ≤ x ∧ x < p) (l : List Int) (hl : Nm p l) (hs : Sm l.length) (d : Nat) : ∀ k, k + d = l.length →
    Ev (fun n => spec_l01At.l0 n p l x (valG p x l k) ((l.length : Int) - 1 - (k : Int))) (valF p x l) := by
  induction d with
  | zero =>
    intro k hk
    refine Ev.step (fun n => by rw [spec_l01At.l0]) ?_
    refine Ev.neg (by omega) (Ev.some' ?_)
    rw [show k = l.length from by omega]; rfl
  | succ d ih =>
    intro k hk
    have hv := valG_in hp x l k
    have hg := hl.get (i := l.length - 1 - k) (by omega)
    have h := mulP hp hv.1 hv.2 hx.1 hx.2
    have ht := hp.top
    unfold Sm at hs
    have er : rd l ((l.length : Int) - 1 - (k : Int)) = l.getD (l.length - 1 - k) 0 := by
      rw [show (l.length : Int) - 1 - (k : Int) = ((l.length - 1 - k : Nat) : Int) from by omega, rd_nat]
    have ew : wrap64 ((l.length : Int) - 1 - (k : Int) - 1) = (l.length : Int) - 1 - ((k + 1 : Nat) : Int) := by rw [wrap_id (by omega) (by omega)]; omega
    refine Ev.step (fun n => by rw [spec_l01At.l0]) ?_
    rw [er, ew]
    clear er ew
    refine Ev.pos (by omega) (Ev.pos (by omega) (Ev.pos (by omega) (Ev.neg hp.ne ?_)))
    rw [wrap_id (x := valG p x l k * x) (by omega) (by omega), wrap_id (by omega) (by omega), tmod_pos (by omega)]
    exact ih (k + 1) (by omega)
theorem specAt_ev {p x : Int} (hp : Pm p) (hx : 0 ≤ x ∧ x < p) (l : List Int) (hl : Nm p l) (hs : Sm l.length) : Ev (fun n => spec_l01At.f n p l x) (valF p x l) := by
  unfold spec_l01At.f
  have h := specAt_l0 hp hx l hl hs l.length 0 (by omega)
  have hs' := hs
  unfold Sm at hs'
  rw [wrap_id (x := (l.length : Int) - 1) (by omega) (by omega)]
  rw [show (l.length : Int) - 1 - ((0 : Nat) : Int) = (l.length : Int) - 1 from by omega] at h
  exact h
end Go.Proofs.Ytokkabgkjhpecaa.Pr
