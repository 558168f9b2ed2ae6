/- Printed by a program of this session out of the translation: what these functions of the program compute, under the conditions that each theorem names. -/
import Derived.Test.YtgneldhhlfjjaaaKWronskiAt1
import Derived.Test.YtgneldhhlfjjaaaKWronskiAt2
namespace Go.Proofs.Ytgneldhhlfjjaaa.Pr
open Go.RowKit Go.Proofs.YtgneldhhlfjjaaaW.PrintWords Go.Proofs.YtgneldhhlfjjaaaW.PrintLast Go.Proofs.YtgneldhhlfjjaaaW.PrintMore
attribute [local go_sem] max2_int min2_int max_two min_two max_three min_three max_four min_four   -- for this text's walks alone
set_option linter.unusedVariables false
set_option linter.unusedSimpArgs false

/-! ### impl_Jacobi_associated: function 70 -/
def impl_Jacobi_associated.l0 : Nat → List (List Int) → Int → Int → List Int → List Int → Option ((List (List Int)))
 | 0, _, _, _, _, _ => none
 | k + 1, x3, x4, x763000, x763001, x763002 => if x4 < (x763001.length : Int) then ((impl_Jacobi_field.f x763000 x763001 x763002).bind fun t769 => (if 0 ≤ x4 then (if x4 < (x763002.length : Int) then (if x4 < (x3.length : Int) then (if 0 ≤ (wrap64 (x4 - 1)) then (if (wrap64 (x4 - 1)) < (x3.length : Int) then ((impl_field_next.f k t769 (rd x763001 x4) (rd x763002 x4) (rd_L1 x3 x4) (rd_L1 x3 (wrap64 (x4 - 1)))).bind fun t774 => (if x3.length < 5864062014805 then (impl_Jacobi_associated.l0 k (x3 ++ [t774]) (wrap64 (x4 + 1)) x763000 x763001 x763002) else (none))) else (none)) else (none)) else (none)) else (none)) else (none))) else (some x3)
def impl_Jacobi_associated.f (k : Nat) (a0_0 : Int) (l0_1 : List Int) (l0_2 : List Int) : Option ((List (List Int))) := impl_Jacobi_associated.l0 k (([[], (([1] : List Int))] : List (List Int))) 1 a0_0 l0_1 l0_2
theorem impl_Jacobi_associated.mono_l : ∀ k, (∀ y0 y1 y2 y3 y4, LeO (impl_Jacobi_associated.l0 k y0 y1 y2 y3 y4) (impl_Jacobi_associated.l0 (k + 1) y0 y1 y2 y3 y4))
 | 0 => fun _ _ _ _ _ r h => by simp [impl_Jacobi_associated.l0] at h
 | k + 1 => by
  have ih0 := impl_Jacobi_associated.mono_l k
  ·intro y0 y1 y2 y3 y4
   unfold impl_Jacobi_associated.l0
   repeat' first
   | (with_reducible exact ih0 _ _ _ _ _)
   | (with_reducible exact impl_field_next.mono _ _ _ _ _ _)
   | (with_reducible exact LeO.refl _)
   | (with_reducible exact LeO.none _)
   | (with_reducible refine LeO.ite ?_ ?_)
   | (with_reducible refine LeO.bind ?_ (fun _ => ?_))
   | exact ih0 _ _ _ _ _
   | exact impl_field_next.mono _ _ _ _ _ _
   | exact LeO.none _
   | refine LeO.ite ?_ ?_
   | refine LeO.bind ?_ (fun _ => ?_)
theorem impl_Jacobi_associated.mono : ∀ a0 a1 a2 k, LeO (impl_Jacobi_associated.f k a0 a1 a2) (impl_Jacobi_associated.f (k + 1) a0 a1 a2) := by
 intro a0 a1 a2 k
 have ih0 := impl_Jacobi_associated.mono_l k
 unfold impl_Jacobi_associated.f
 repeat' first
   | (with_reducible exact ih0 _ _ _ _ _)
   | (with_reducible exact impl_field_next.mono _ _ _ _ _ _)
   | (with_reducible exact LeO.refl _)
   | (with_reducible exact LeO.none _)
   | (with_reducible refine LeO.ite ?_ ?_)
   | (with_reducible refine LeO.bind ?_ (fun _ => ?_))
   | exact ih0 _ _ _ _ _
   | exact impl_field_next.mono _ _ _ _ _ _
   | exact LeO.none _
   | refine LeO.ite ?_ ?_
   | refine LeO.bind ?_ (fun _ => ?_)
def impl_Jacobi_associated.T5 : Bool × List (List Nat × List Nat) := (true, [([], []), ([], []), ([1], [1]), ([], []), ([3], [3]), ([], []), ([4, 5], [4, 5]), ([6], [6]), ([], []), ([8], [8]), ([], []), ([9, 10], [9, 10]), ([11], [11]), ([], []), ([], []), ([13, 14], [13, 14]), ([15], [15]), ([], []), ([], []), ([18], [18]), ([17, 19], [17, 19]), ([20], [20]), ([2, 7, 12, 16, 21, 2], [2, 7, 12, 16, 21]), ([22], [22]), ([0, 23, 22], [0, 23]), ([24, 24, 0, 1, 2, 3, 4, 5, 6, 7, 8, 9, 10, 11, 12, 13, 14, 15, 16, 17, 18, 19, 20, 21, 22, 23, 24], [0, 13, 17, 24])])
def impl_Jacobi_associated.B5 : List Nat := [0, 0, 2, 0, 8, 0, 56, 120, 0, 256, 0, 1792, 3840, 0, 0, 24576, 57344, 0, 0, 262144, 917504, 1966080, 4194302, 8388606, 16777215, 33554431]
theorem impl_Jacobi_associated.tab5 : rtab .any (opsOf Try.f70 5) = impl_Jacobi_associated.T5 := by kernel_rfl
theorem impl_Jacobi_associated.bits5 : waitsOk impl_Jacobi_associated.T5.2 impl_Jacobi_associated.B5 = true := by kernel_rfl
set_option maxHeartbeats 8000000 in
set_option maxRecDepth 100000 in
theorem impl_Jacobi_associated.calls (k : Nat) (a0_0 : Int) (A0_1 : Option Addr) (c0_1 : Nat) (l0_1 : List Int) (A0_2 : Option Addr) (c0_2 : Nat) (l0_2 : List Int) (r : List (List Int)) (w : World) (hr0_1 : Kd.C (Kd.int .i64) w A0_1 l0_1.length l0_1) (hc0_1 : l0_1.length ≤ c0_1) (hr0_2 : Kd.C (Kd.int .i64) w A0_2 l0_2.length l0_2) (hc0_2 : l0_2.length ≤ c0_2) (h : impl_Jacobi_associated.f k a0_0 l0_1 l0_2 = some r) :
  Calls Try.prog 70 #[.agg #[.int .i64 a0_0, .slice A0_1 l0_1.length c0_1, .slice A0_2 l0_2.length c0_2]] w fun e w' => ∃ v0_ : Value, e = .returned (v0_) ∧ Kd.N (Kd.slice 2 (Kd.int .i64)) 22 w' w.heap.size (fun k_ => (w.heap.size ≤ k_)) v0_ r ∧ Below w.heap.size w w' := by
 have hu26 := Try.underlying26
 have HR0_1 := zA hr0_1
 have HC0_1 := zA hc0_1
 clear hr0_1 hc0_1
 have HR0_2 := zA hr0_2
 have HC0_2 := zA hc0_2
 clear hr0_2 hc0_2
 have HB := zA (Below.refl w.heap.size w)
 have H : (impl_Jacobi_associated.l0 k (([[], (([1] : List Int))] : List (List Int))) 1 a0_0 l0_1 l0_2) = some r := h
 clear h
 obtain ⟨y763, hy763⟩ : ∃ y_ : List Int, y_ = (([1] : List Int)) := ⟨_, rfl⟩
 replace H : (impl_Jacobi_associated.l0 k (([[], y763] : List (List Int))) 1 a0_0 l0_1 l0_2) = some r := by first | (rw [hy763]; with_reducible exact H) | (have H2_ := (Option.bind_some _ _).symm.trans H; rw [hy763]; with_reducible exact H2_) | (have H2_ := (Option.bind_some _ _).symm.trans H; with_reducible exact H2_) | with_reducible exact H | (rw [hy763]; exact H) | exact H
 have Ny763 := zA hy763
 clear hy763
 obtain ⟨y766, hy766⟩ : ∃ y_ : List (List Int), y_ = (([[], y763] : List (List Int))) := ⟨_, rfl⟩
 replace H : (impl_Jacobi_associated.l0 k y766 1 a0_0 l0_1 l0_2) = some r := by first | (rw [hy766]; with_reducible exact H) | (have H2_ := (Option.bind_some _ _).symm.trans H; rw [hy766]; with_reducible exact H2_) | (have H2_ := (Option.bind_some _ _).symm.trans H; with_reducible exact H2_) | with_reducible exact H | (rw [hy766]; exact H) | exact H
 have Ny766 := zA hy766
 clear hy766
 have H' := zA H
 clear H
 go_enter Try.func70, Try.ntmps70
 go_wp2_with (first | ((with_reducible refine gate_dst (N := 1) rfl ?_); refine box_event ?hg (N := 1) ?hd (cs := #[.int .i64 a0_0, .slice A0_1 l0_1.length c0_1, .slice A0_2 l0_2.length c0_2]) (t := 26) ?hr ?_; (case hd => rfl); (case hg => rfl); (case hr => first | (go_simp; done) | (go_simp; rfl)); intro gb762 hg w2 hbox hb; have n0_ := xH HB hb; have n1_ := zA (hbox); have n2_ := zA ((by rw [hg]; exact (below_size (uH HB.out)) : w.heap.size ≤ gb762)); have n3_ := zA ((by rw [hg]; exact (below_size (uH HB.out)) : w.heap.size ≤ gb762)); clear HB; have HB := n0_; have BK762 := n1_; have GW762 := n2_; have GE762 := n3_; have := geI GE762; clear n0_ n1_ n2_ n3_ hb hbox hg) | ((with_reducible refine gate_dst (N := 5) rfl ?_); refine Kd.R_lit (Kd.int .i64) _ 2 ?hg (N := 5) ?hd (xs := ([1] : List Int)) (inner := [.int .i64 1]) (ok := fun _ => True) (okp := fun _ => True) ?hr ?hp (fun _ hk => hk) trivial (Below.refl _ _) (Nat.le_refl _) (by simp) ?_; (case hd => rfl); (case hg => rfl); (case hr => first | (go_simp; done) | (go_simp; rfl)); (case hp => exact (Reps.one (show Kd.M (Kd.int .i64) _ _ _ 1 [.int .i64 1] from rfl) (Reps.none _ _))); intro v764 w3 ho4 hb hg_ hnew_; clear hg_ hnew_; (first | rw [← Ny763.out] at ho4 | (simp only [Int.reduceToNat] at ho4; rw [← Ny763.out] at ho4)); have n0_ := zA (Kd.R_lower (Kd.R_newM (M := fun k_ => (w.heap.size ≤ k_)) ho4 (below_size (uH HB.out)) (fun k_ h_ => h_)) (below_size (uH HB.out))); have n1_ := xB BK762 hb; have n2_ := xH HB hb; clear BK762 HB; have HO765 := n0_; have BK762 := n1_; have HB := n2_; clear n0_ n1_ n2_ hb ho4; obtain ⟨Ao5, co5, eo5⟩ := Kd.R_slice HO765.out; subst eo5) | ((with_reducible refine gate_dst (N := 6) rfl ?_); refine Kd.N_lit (Kd.slice 2 (Kd.int .i64)) _ 22 ?hg (N' := 6) ?hd (xs := ([[], y763] : List (List Int))) (inner := [.slice none 0 0, .slice Ao5 y763.length co5]) (ok := (fun k_ => (w.heap.size ≤ k_) ∧ k_ ≠ gb762)) (okp := (fun k_ => (w.heap.size ≤ k_) ∧ k_ ≠ gb762)) ?hr ?hp (fun _ hk => hk) ((show ∀ k_, w3.heap.size ≤ k_ → (fun k_ => (w.heap.size ≤ k_) ∧ k_ ≠ gb762) k_ from fun k_ hk => ⟨(Nat.le_trans (below_size (uH HB.out)) hk), Kd.freshB (g := gb762) (o := .cells #[.int .i64 a0_0, .slice A0_1 l0_1.length c0_1, .slice A0_2 l0_2.length c0_2] 26 (0, 0)) (uB BK762.out) k_ hk⟩) _ (Nat.le_refl _)) (Below.refl _ _) (Nat.le_refl _) (by simp) ?_; (case hd => rfl); (case hg => rfl); (case hr => first | (go_simp; done) | (go_simp; rfl)); (case hp => exact (Reps.one (show Kd.FK (Kd.slice 2 (Kd.int .i64)) _ _ [] [.slice none 0 0] from (Kd.FK_slice_mk (Nat.le_refl _) (Kd.F_nil _ _ _))) (Reps.one (show Kd.FK (Kd.slice 2 (Kd.int .i64)) _ _ y763 [.slice Ao5 y763.length co5] from (Kd.FK_slice_mk (Kd.R_reads' (Kd.R_mono (ok' := (fun k_ => (w.heap.size ≤ k_) ∧ k_ ≠ gb762)) (Kd.R_types (HO765.out) BK762.out (by decide)) (fun k_ hk => ⟨hk.1.1, hk.2⟩))).2.1 (Kd.R_F (Kd.R_mono (ok' := (fun k_ => (w.heap.size ≤ k_) ∧ k_ ≠ gb762)) (Kd.R_types (HO765.out) BK762.out (by decide)) (fun k_ hk => ⟨hk.1.1, hk.2⟩))))) (Reps.none _ _)))); intro v767 w6 ho7 hb hg_ hnew_; clear hg_ hnew_; (first | rw [← Ny766.out] at ho7 | (simp only [Int.reduceToNat] at ho7; rw [← Ny766.out] at ho7)); have n0_ := zA (Kd.N_lower ho7 (below_size (uH HB.out))); have n1_ := xB BK762 hb; have n2_ := xH HB hb; clear BK762 HB HO765; have HO768 := n0_; have BK762 := n1_; have HB := n2_; clear n0_ n1_ n2_ hb ho7))
 go_loopg [3, 4] k (fun kq v3 v4 w' => ∃ (x3_1 : List (List Int)) (x4_1 : Int), v4 = .int .i64 x4_1 ∧ Aside0 (impl_Jacobi_associated.l0 kq x3_1 x4_1 a0_0 l0_1 l0_2 = some r) ∧ Aside0 (kq ≤ k) ∧ Aside0 (Kd.N (Kd.slice 2 (Kd.int .i64)) 22 w' w.heap.size (fun k_ => (w.heap.size ≤ k_) ∧ k_ ≠ gb762) v3 x3_1) ∧ Aside0 (w'.heap[gb762]? = some (.cells #[.int .i64 a0_0, (.slice A0_1 l0_1.length c0_1), (.slice A0_2 l0_2.length c0_2)] 26 (0, 0))) ∧ Aside0 (Below w.heap.size w w'))
 case atStart => exact ⟨(y766), (1), (by first | rfl | (simp; done) | (simp [*]; done)), H', ⟨Nat.le_refl _⟩, ⟨by (with_reducible repeat (first | apply Kd.N_alloc | apply Kd.N_drewN | apply Kd.N_drew)); exact HO768.out⟩, ⟨uB BK762.out⟩, ⟨uH HB.out⟩⟩
 case round =>
  clear H'
  try clear p2
  try clear c7
  obtain ⟨x3_1, x4_1, rfl, HA, HK1, HO_3, BK762, HB⟩ := hrel
  cases gk with
  | zero => exact absurd HA.out (by simp [impl_Jacobi_associated.l0])
  | succ k1 =>
   have H := HA.out
   clear HA
   simp only [impl_Jacobi_associated.l0] at H
   by_cases c8 : x4_1 < (l0_1.length : Int)
   ·rw [if_pos c8] at H
    have c8b0 : decide (x4_1 < (l0_1.length : Int)) = true := decide_eq_true c8
    clear c8
    replace H := Option.bind_eq_some_iff.mp H
    obtain ⟨t769, A90, H⟩ := H
    replace H : (if 0 ≤ x4_1 then (if x4_1 < (l0_2.length : Int) then (if x4_1 < (x3_1.length : Int) then (if 0 ≤ (wrap64 (x4_1 - 1)) then (if (wrap64 (x4_1 - 1)) < (x3_1.length : Int) then ((impl_field_next.f k1 t769 (rd l0_1 x4_1) (rd l0_2 x4_1) (rd_L1 x3_1 x4_1) (rd_L1 x3_1 (wrap64 (x4_1 - 1)))).bind fun t774 => (if x3_1.length < 5864062014805 then (impl_Jacobi_associated.l0 k1 (x3_1 ++ [t774]) (wrap64 (x4_1 + 1)) a0_0 l0_1 l0_2) else (none))) else (none)) else (none)) else (none)) else (none)) else (none)) = some r := H
    have A9 := zA A90
    clear A90
    by_cases c10 : 0 ≤ x4_1
    ·rw [if_pos c10] at H
     have c10b0 : decide (0 ≤ x4_1) = true := decide_eq_true c10
     clear c10
     by_cases c11 : x4_1 < (l0_2.length : Int)
     ·rw [if_pos c11] at H
      have c11b0 : decide (x4_1 < (l0_2.length : Int)) = true := decide_eq_true c11
      clear c11
      by_cases c12 : x4_1 < (x3_1.length : Int)
      ·rw [if_pos c12] at H
       have c12b0 : decide (x4_1 < (x3_1.length : Int)) = true := decide_eq_true c12
       clear c12
       obtain ⟨ji13, hji13⟩ : ∃ j_ : Int, (wrap64 (x4_1 - 1)) = j_ := ⟨_, rfl⟩
       replace H : (if 0 ≤ (ji13) then (if (ji13) < (x3_1.length : Int) then ((impl_field_next.f k1 t769 (rd l0_1 x4_1) (rd l0_2 x4_1) (rd_L1 x3_1 x4_1) (rd_L1 x3_1 (ji13))).bind fun t774 => (if x3_1.length < 5864062014805 then (impl_Jacobi_associated.l0 k1 (x3_1 ++ [t774]) (wrap64 (x4_1 + 1)) a0_0 l0_1 l0_2) else (none))) else (none)) else (none)) = some r := by first | (rw [hji13] at H; exact H) | (simp only [hji13] at H ⊢; exact H)
       (try rw [hji13] at A9)
       have hji13w : (IntKind.i64.wrap (x4_1 - 1)) = ji13 := (i64_w _).trans hji13
       by_cases c14 : 0 ≤ (ji13)
       ·rw [if_pos c14] at H
        have c14b0 : decide (0 ≤ (ji13)) = true := decide_eq_true c14
        clear c14
        by_cases c15 : (ji13) < (x3_1.length : Int)
        ·rw [if_pos c15] at H
         have c15b0 : decide ((ji13) < (x3_1.length : Int)) = true := decide_eq_true c15
         clear c15
         replace H := Option.bind_eq_some_iff.mp H
         obtain ⟨t774, A160, H⟩ := H
         replace H : (if x3_1.length < 5864062014805 then (impl_Jacobi_associated.l0 k1 (x3_1 ++ [t774]) (wrap64 (x4_1 + 1)) a0_0 l0_1 l0_2) else (none)) = some r := H
         have A16 := zA A160
         clear A160
         by_cases c17 : x3_1.length < 5864062014805
         ·rw [if_pos c17] at H
          have LMc17 := zA c17
          clear c17
          obtain ⟨y777, hy777⟩ : ∃ y_ : List (List Int), y_ = (x3_1 ++ [t774]) := ⟨_, rfl⟩
          replace H : (impl_Jacobi_associated.l0 k1 y777 (wrap64 (x4_1 + 1)) a0_0 l0_1 l0_2) = some r := by first | (rw [hy777]; with_reducible exact H) | (have H2_ := (Option.bind_some _ _).symm.trans H; rw [hy777]; with_reducible exact H2_) | (have H2_ := (Option.bind_some _ _).symm.trans H; with_reducible exact H2_) | with_reducible exact H | (rw [hy777]; exact H) | exact H
          have Ny777 := zA hy777
          clear hy777
          have H' := zA H
          clear H
          have hcz18_0 : wr.cell? ⟨gb762, 0, none⟩ = some (.int .i64 a0_0) := (blk_cell BK762.out 0).trans rfl
          have hcz18_1 : wr.cell? ⟨gb762, 1, none⟩ = some (.slice A0_1 l0_1.length c0_1) := (blk_cell BK762.out 1).trans rfl
          have hcz18_2 : wr.cell? ⟨gb762, 2, none⟩ = some (.slice A0_2 l0_2.length c0_2) := (blk_cell BK762.out 2).trans rfl
          have hfz18_0 := blk_frozen BK762.out 0
          have hfz18_1 := blk_frozen BK762.out 1
          have hfz18_2 := blk_frozen BK762.out 2
          try go_wp2
          have n0_ := zA (Kd.N_drew HO_3.out)
          have n1_ := zA (blk_drew BK762.out)
          have n2_ := zA (below_drew1 HB.out)
          clear HO_3 BK762 HB
          have HO_3 := n0_; have BK762 := n1_; have HB := n2_
          clear n0_ n1_ n2_
          have p770 : 0 ≤ (x4_1 : Int) := of_decide_eq_true (by first | (with_reducible assumption) | assumption)
          have q770 : x4_1 < (l0_1.length : Int) := of_decide_eq_true (by first | (with_reducible assumption) | assumption)
          obtain ⟨ad770, e770, hx770_0⟩ := Kd.at_int HR0_1.out x4_1 p770 q770
          have hw770_0 := hx770_0
          cases e770
          replace hx770_0 := (HB.out.cell (World.block_lt_of_cell? w _ hx770_0)).trans hx770_0
          replace p770 := eq_true p770
          replace q770 := eq_true q770
          have p771 : 0 ≤ (x4_1 : Int) := of_decide_eq_true (by first | (with_reducible assumption) | assumption)
          have q771 : x4_1 < (l0_2.length : Int) := of_decide_eq_true (by first | (with_reducible assumption) | assumption)
          obtain ⟨ad771, e771, hx771_0⟩ := Kd.at_int HR0_2.out x4_1 p771 q771
          have hw771_0 := hx771_0
          cases e771
          replace hx771_0 := (HB.out.cell (World.block_lt_of_cell? w _ hx771_0)).trans hx771_0
          replace p771 := eq_true p771
          replace q771 := eq_true q771
          obtain ⟨Ao20, co20, eo20⟩ := Kd.N_slice HO_3.out
          (first | subst eo20 | (injection eo20 with f1_ f2_ f3_; have f4_ := f1_.symm; have f5_ := f3_.symm; clear f1_ f2_ f3_; subst f4_; subst f5_))
          have p772 : 0 ≤ (x4_1 : Int) := of_decide_eq_true (by first | (with_reducible assumption) | assumption)
          have q772 : x4_1 < (x3_1.length : Int) := of_decide_eq_true (by first | (with_reducible assumption) | assumption)
          obtain ⟨ad772, A772_0, c772_0, e772, hx772_0, hl772_0, hi772_0⟩ := at_L1 (Kd.N_reads' HO_3.out).2.2 x4_1 p772 q772
          cases e772
          obtain ⟨ce772, hce772, hMe772, hcc772⟩ := Kd.N_get HO_3.out [] x4_1 p772 (by first | exact q772 | exact of_decide_eq_true (by first | (with_reducible assumption) | assumption) | (have e_ := (Kd.N_reads' HO_3.out).1; omega))
          obtain ⟨ua772_0, uc772_0, rfl, ul772_0, ge772_0⟩ := Kd.FK_slice_open hMe772
          have hv772_0 := hcc772 0 _ rfl
          rw [Nat.add_zero, show ((Kd.slice 2 (Kd.int .i64))).sz = 1 from rfl, Nat.mul_one] at hv772_0
          replace hv772_0 := Option.some.inj (hv772_0.symm.trans hx772_0)
          injection hv772_0 with hva_ hvn_ hvc_
          rw [hva_] at ge772_0
          rw [hvc_] at ul772_0
          have HL772_0 := zA (show Kd.V (Kd.int .i64) 2 _ w.heap.size _ _ (rd_L1 x3_1 x4_1) from Kd.V_mk ul772_0 ge772_0)
          clear hva_ hvn_ hvc_ ge772_0 ul772_0
          clear hcc772 hce772
          have HR772_0 := zA hi772_0
          have HC772_0 := zA hl772_0
          clear hi772_0 hl772_0
          replace p772 := eq_true p772
          replace q772 := eq_true q772
          have p773 : 0 ≤ ((ji13) : Int) := of_decide_eq_true (by first | (with_reducible assumption) | assumption)
          have q773 : (ji13) < (x3_1.length : Int) := of_decide_eq_true (by first | (with_reducible assumption) | assumption)
          obtain ⟨ad773, A773_0, c773_0, e773, hx773_0, hl773_0, hi773_0⟩ := at_L1 (Kd.N_reads' HO_3.out).2.2 (ji13) p773 q773
          obtain rfl : ad772 = ad773 := (by injection e773)
          obtain ⟨ce773, hce773, hMe773, hcc773⟩ := Kd.N_get HO_3.out [] (ji13) p773 (by first | exact q773 | exact of_decide_eq_true (by first | (with_reducible assumption) | assumption) | (have e_ := (Kd.N_reads' HO_3.out).1; omega))
          obtain ⟨ua773_0, uc773_0, rfl, ul773_0, ge773_0⟩ := Kd.FK_slice_open hMe773
          have hv773_0 := hcc773 0 _ rfl
          rw [Nat.add_zero, show ((Kd.slice 2 (Kd.int .i64))).sz = 1 from rfl, Nat.mul_one] at hv773_0
          replace hv773_0 := Option.some.inj (hv773_0.symm.trans hx773_0)
          injection hv773_0 with hva_ hvn_ hvc_
          rw [hva_] at ge773_0
          rw [hvc_] at ul773_0
          have HL773_0 := zA (show Kd.V (Kd.int .i64) 2 _ w.heap.size _ _ (rd_L1 x3_1 (ji13)) from Kd.V_mk ul773_0 ge773_0)
          clear hva_ hvn_ hvc_ ge773_0 ul773_0
          clear hcc773 hce773
          have HR773_0 := zA hi773_0
          have HC773_0 := zA hl773_0
          clear hi773_0 hl773_0
          replace p773 := eq_true p773
          replace q773 := eq_true q773
          refine start_ (n := 26) (S := fun w' => w'.cell? ⟨gb762, 0, none⟩ = some (.int .i64 a0_0) ∧ w'.cell? ⟨gb762, 1, none⟩ = some (.slice (some ad770) l0_1.length c0_1) ∧ w'.cell? ⟨gb762, 2, none⟩ = some (.slice (some ad771) l0_2.length c0_2) ∧ w'.cell? (ad770.add (x4_1).toNat) = some (.int .i64 (rd l0_1 x4_1)) ∧ w'.cell? (ad771.add (x4_1).toNat) = some (.int .i64 (rd l0_2 x4_1)) ∧ w'.cell? (ad772.add (x4_1).toNat) = some (.slice A772_0 (rd_L1 x3_1 x4_1).length c772_0) ∧ w'.cell? (ad772.add ((ji13)).toNat) = some (.slice A773_0 (rd_L1 x3_1 (ji13)).length c773_0)) (ds := [23, 24]) #[false, false, false, false, false, false, false, false, false, false, false, false, false, false, false, false, false, false, false, false, false, false, false, false, false, false] (by kernel_rfl) rfl rfl ⟨(blk_cell BK762.out 0).trans rfl, (blk_cell BK762.out 1).trans rfl, (blk_cell BK762.out 2).trans rfl, ((HB.out.cell (World.block_lt_of_cell? w _ hw770_0)).trans hw770_0), ((HB.out.cell (World.block_lt_of_cell? w _ hw771_0)).trans hw771_0), hx772_0, hx773_0⟩ (fun hHeld => ?_); refine with_tabW impl_Jacobi_associated.tab5 impl_Jacobi_associated.bits5 (fun HT_ HW_ => ?_)
          generalize wr.drew = w19 at HO_3 BK762 HB HL772_0 HL773_0 HR772_0 HR773_0 hx770_0 hx771_0 hx772_0 hx773_0 hHeld ⊢
          refine pure_ (i := 0) (N := some 14) (v := ?_) (a' := ?_) #[true, false, false, false, false, false, false, false, false, false, false, false, false, false, false, false, false, false, false, false, false, false, false, false, false, false] rfl rfl (any_of HT_.out (by kernel_rfl)) (fun _ _ _ h => h) (Or.inl ⟨by rfl, ?_⟩) ?_ ?_
          rotate_left
          ·intro w'
           go_simp
           with_reducible rfl
          rotate_left
          ·simp only [Act.put, ls, lz, ln, i64_w, i32_w]
           rfl
          refine pure_ (i := 3) (N := some 17) (v := ?_) (a' := ?_) #[true, false, false, true, false, false, false, false, false, false, false, false, false, false, false, false, false, false, false, false, false, false, false, false, false, false] rfl rfl (any_of HT_.out (by kernel_rfl)) (fun _ _ _ h => h) (Or.inl ⟨by rfl, ?_⟩) ?_ ?_
          rotate_left
          ·intro w'
           go_simp
           with_reducible rfl
          rotate_left
          ·simp only [Act.put, ls, lz, ln, i64_w, i32_w]
           rfl
          refine pure_ (i := 5) (N := some 19) (v := ?_) (a' := ?_) #[true, false, false, true, false, true, false, false, false, false, false, false, false, false, false, false, false, false, false, false, false, false, false, false, false, false] rfl rfl (any_of HT_.out (by kernel_rfl)) (fun _ _ _ h => h) (Or.inl ⟨by rfl, ?_⟩) ?_ ?_
          rotate_left
          ·intro w'
           go_simp
           with_reducible rfl
          rotate_left
          ·simp only [Act.put, ls, lz, ln, i64_w, i32_w]
           rfl
          refine pure_ (i := 8) (N := some 22) (v := ?_) (a' := ?_) #[true, false, false, true, false, true, false, false, true, false, false, false, false, false, false, false, false, false, false, false, false, false, false, false, false, false] rfl rfl (any_of HT_.out (by kernel_rfl)) (fun _ _ _ h => h) (Or.inl ⟨by rfl, ?_⟩) ?_ ?_
          rotate_left
          ·intro w'
           go_simp
           with_reducible rfl
          rotate_left
          ·simp only [Act.put, ls, lz, ln, i64_w, i32_w]
           rfl
          refine pure_ (i := 10) (N := some 24) (v := ?_) (a' := ?_) #[true, false, false, true, false, true, false, false, true, false, true, false, false, false, false, false, false, false, false, false, false, false, false, false, false, false] rfl rfl (any_of HT_.out (by kernel_rfl)) (fun _ _ _ h => h) (Or.inl ⟨by rfl, ?_⟩) ?_ ?_
          rotate_left
          ·intro w'
           go_simp
           with_reducible rfl
          rotate_left
          ·simp only [Act.put, ls, lz, ln, i64_w, i32_w]
           rfl
          refine pure_ (i := 13) (N := some 27) (v := ?_) (a' := ?_) #[true, false, false, true, false, true, false, false, true, false, true, false, false, true, false, false, false, false, false, false, false, false, false, false, false, false] rfl rfl (any_of HT_.out (by kernel_rfl)) (fun _ _ _ h => h) (Or.inl ⟨by rfl, ?_⟩) ?_ ?_
          rotate_left
          ·intro w'
           go_simp
           with_reducible rfl
          rotate_left
          ·simp only [Act.put, ls, lz, ln, i64_w, i32_w]
           rfl
          refine pure_ (i := 14) (N := some 28) (v := ?_) (a' := ?_) #[true, false, false, true, false, true, false, false, true, false, true, false, false, true, true, false, false, false, false, false, false, false, false, false, false, false] rfl rfl (any_of HT_.out (by kernel_rfl)) (fun _ _ _ h => h) (Or.inl ⟨by rfl, ?_⟩) ?_ ?_
          rotate_left
          ·intro w'
           go_simp
           with_reducible rfl
          rotate_left
          ·simp only [Act.put, ls, lz, ln, i64_w, i32_w]
           rfl
          refine pure_ (i := 15) (N := some 29) (v := ?_) (a' := ?_) #[true, false, false, true, false, true, false, false, true, false, true, false, false, true, true, true, false, false, false, false, false, false, false, false, false, false] rfl rfl (any_of HT_.out (by kernel_rfl)) (fun _ _ _ h => h) (Or.inl ⟨by rfl, ?_⟩) ?_ ?_
          rotate_left
          ·intro w'
           go_simp
           with_reducible rfl
          rotate_left
          ·simp only [Act.put, ls, lz, ln, i64_w, i32_w]
           rfl
          refine pure_ (i := 17) (N := some 31) (v := ?_) (a' := ?_) #[true, false, false, true, false, true, false, false, true, false, true, false, false, true, true, true, false, true, false, false, false, false, false, false, false, false] rfl rfl (any_of HT_.out (by kernel_rfl)) (fun _ _ _ h => h) (Or.inl ⟨by rfl, ?_⟩) ?_ ?_
          rotate_left
          ·intro w'
           go_simp
           with_reducible rfl
          rotate_left
          ·simp only [Act.put, ls, lz, ln, i64_w, i32_w]
           rfl
          refine pure_ (i := 18) (N := some 32) (v := ?_) (a' := ?_) #[true, false, false, true, false, true, false, false, true, false, true, false, false, true, true, true, false, true, true, false, false, false, false, false, false, false] rfl rfl (any_of HT_.out (by kernel_rfl)) (fun _ _ _ h => h) (Or.inl ⟨by rfl, ?_⟩) ?_ ?_
          rotate_left
          ·intro w'
           go_simp
           with_reducible rfl
          rotate_left
          ·simp only [Act.put, ls, lz, ln, i64_w, i32_w]
           rfl
          refine pure_ (i := 19) (N := some 33) (v := ?_) (a' := ?_) #[true, false, false, true, false, true, false, false, true, false, true, false, false, true, true, true, false, true, true, true, false, false, false, false, false, false] rfl rfl (any_of HT_.out (by kernel_rfl)) (fun _ _ _ h => h) (Or.inl ⟨by rfl, ?_⟩) ?_ ?_
          rotate_left
          ·intro w'
           go_simp
           with_reducible rfl
          rotate_left
          ·simp only [Act.put, ls, lz, ln, i64_w, i32_w]
           rfl
          refine pure_ (i := 20) (N := some 34) (v := ?_) (a' := ?_) #[true, false, false, true, false, true, false, false, true, false, true, false, false, true, true, true, false, true, true, true, true, false, false, false, false, false] rfl rfl (any_of HT_.out (by kernel_rfl)) (fun _ _ _ h => h) (Or.inl ⟨by rfl, ?_⟩) ?_ ?_
          rotate_left
          ·intro w'
           go_simp
           with_reducible rfl
          rotate_left
          ·simp only [Act.put, ls, lz, ln, i64_w, i32_w]
           rfl
          refine take_ (i := 1) (N := some 15) (v := ?_) (a' := ?_) #[true, true, false, true, false, true, false, false, true, false, true, false, false, true, true, true, false, true, true, true, true, false, false, false, false, false] rfl rfl (take_ofW HT_.out HW_.out (by kernel_rfl)) (fun _ _ _ h => h) (Or.inl ⟨by rfl, ?_⟩) hHeld ?_ ?_
          rotate_left
          ·rintro w' ⟨s0, s1, s2, s3, s4, s5, s6⟩
           go_simp
           with_reducible rfl
          rotate_left
          ·simp only [Act.put, ls, lz, ln, i64_w, i32_w]
           rfl
          refine take_ (i := 4) (N := some 18) (v := ?_) (a' := ?_) #[true, true, false, true, true, true, false, false, true, false, true, false, false, true, true, true, false, true, true, true, true, false, false, false, false, false] rfl rfl (take_ofW HT_.out HW_.out (by kernel_rfl)) (fun _ _ _ h => h) (Or.inl ⟨by rfl, ?_⟩) hHeld ?_ ?_
          rotate_left
          ·rintro w' ⟨s0, s1, s2, s3, s4, s5, s6⟩
           go_simp
           with_reducible rfl
          rotate_left
          ·simp only [Act.put, ls, lz, ln, i64_w, i32_w]
           rfl
          refine pure_ (i := 6) (N := some 20) (v := ?_) (a' := ?_) #[true, true, false, true, true, true, true, false, true, false, true, false, false, true, true, true, false, true, true, true, true, false, false, false, false, false] rfl rfl (any_of HT_.out (by kernel_rfl)) (fun _ _ _ h => h) (Or.inl ⟨by rfl, ?_⟩) ?_ ?_
          rotate_left
          ·intro w'
           go_simp
           with_reducible rfl
          rotate_left
          ·simp only [Act.put, ls, lz, ln, i64_w, i32_w]
           rfl
          refine take_ (i := 7) (N := some 21) (v := ?_) (a' := ?_) #[true, true, false, true, true, true, true, true, true, false, true, false, false, true, true, true, false, true, true, true, true, false, false, false, false, false] rfl rfl (take_ofW HT_.out HW_.out (by kernel_rfl)) (fun _ _ _ h => h) (Or.inl ⟨by rfl, ?_⟩) hHeld ?_ ?_
          rotate_left
          ·rintro w' ⟨s0, s1, s2, s3, s4, s5, s6⟩
           go_simp
           with_reducible rfl
          rotate_left
          ·simp only [Act.put, ls, lz, ln, i64_w, i32_w]
           rfl
          refine take_ (i := 9) (N := some 23) (v := ?_) (a' := ?_) #[true, true, false, true, true, true, true, true, true, true, true, false, false, true, true, true, false, true, true, true, true, false, false, false, false, false] rfl rfl (take_ofW HT_.out HW_.out (by kernel_rfl)) (fun _ _ _ h => h) (Or.inl ⟨by rfl, ?_⟩) hHeld ?_ ?_
          rotate_left
          ·rintro w' ⟨s0, s1, s2, s3, s4, s5, s6⟩
           go_simp
           with_reducible rfl
          rotate_left
          ·simp only [Act.put, ls, lz, ln, i64_w, i32_w]
           rfl
          refine pure_ (i := 11) (N := some 25) (v := ?_) (a' := ?_) #[true, true, false, true, true, true, true, true, true, true, true, true, false, true, true, true, false, true, true, true, true, false, false, false, false, false] rfl rfl (any_of HT_.out (by kernel_rfl)) (fun _ _ _ h => h) (Or.inl ⟨by rfl, ?_⟩) ?_ ?_
          rotate_left
          ·intro w'
           go_simp
           with_reducible rfl
          rotate_left
          ·simp only [Act.put, ls, lz, ln, i64_w, i32_w]
           rfl
          refine take_ (i := 12) (N := some 26) (v := ?_) (a' := ?_) #[true, true, false, true, true, true, true, true, true, true, true, true, true, true, true, true, false, true, true, true, true, false, false, false, false, false] rfl rfl (take_ofW HT_.out HW_.out (by kernel_rfl)) (fun _ _ _ h => h) (Or.inl ⟨by rfl, ?_⟩) hHeld ?_ ?_
          rotate_left
          ·rintro w' ⟨s0, s1, s2, s3, s4, s5, s6⟩
           go_simp
           with_reducible rfl
          rotate_left
          ·simp only [Act.put, ls, lz, ln, i64_w, i32_w]
           rfl
          refine take_ (i := 16) (N := some 30) (v := ?_) (a' := ?_) #[true, true, false, true, true, true, true, true, true, true, true, true, true, true, true, true, true, true, true, true, true, false, false, false, false, false] rfl rfl (take_ofW HT_.out HW_.out (by kernel_rfl)) (fun _ _ _ h => h) (Or.inl ⟨by rfl, ?_⟩) hHeld ?_ ?_
          rotate_left
          ·rintro w' ⟨s0, s1, s2, s3, s4, s5, s6⟩
           go_simp
           with_reducible rfl
          rotate_left
          ·simp only [Act.put, ls, lz, ln, i64_w, i32_w]
           rfl
          refine take_ (i := 21) (N := some 35) (v := ?_) (a' := ?_) #[true, true, false, true, true, true, true, true, true, true, true, true, true, true, true, true, true, true, true, true, true, true, false, false, false, false] rfl rfl (take_ofW HT_.out HW_.out (by kernel_rfl)) (fun _ _ _ h => h) (Or.inl ⟨by rfl, ?_⟩) hHeld ?_ ?_
          rotate_left
          ·rintro w' ⟨s0, s1, s2, s3, s4, s5, s6⟩
           go_simp
           with_reducible rfl
          rotate_left
          ·simp only [Act.put, ls, lz, ln, i64_w, i32_w]
           rfl
          refine one_ (i := 2) (N := some 16) #[true, true, true, true, true, true, true, true, true, true, true, true, true, true, true, true, true, true, true, true, true, true, false, false, false, false] rfl rfl (one_of HT_.out (by kernel_rfl)) (by decide) (fun K hK => ?_)
          refine goes_ Try.func62 (by kernel_rfl) rfl #[.agg #[.int .i64 a0_0, .slice (some ad770) l0_1.length c0_1, .slice (some ad771) l0_2.length c0_2]] (by rfl) rfl rfl (by (try simp only [la, lb, lc]); first | done | rfl | (simp only [ld, le]; rfl)) ?_
          with_reducible refine (impl_Jacobi_field.calls a0_0 _ _ l0_1 _ _ l0_2 t769 _ ?side1 ?side2 ?side3 ?side4 A9.out).mono ?_
          (case side1 => exact uC ((Kd.C_below HR0_1.out HB.out)))
          (case side2 => exact HC0_1.out)
          (case side3 => exact uC ((Kd.C_below HR0_2.out HB.out)))
          (case side4 => exact HC0_2.out)
          rintro e w21 ⟨rfl, hb⟩
          have HS5_ := (hb.cell (World.block_lt_of_cell? _ _ (hHeld.2.2.2.2.2.1))).trans (hHeld.2.2.2.2.2.1)
          have HS6_ := (hb.cell (World.block_lt_of_cell? _ _ (hHeld.2.2.2.2.2.2))).trans (hHeld.2.2.2.2.2.2)
          refine ⟨_, rfl, ?_⟩
          have n0_ := zA (Kd.N_below (by (with_reducible repeat (first | apply Kd.N_alloc | apply Kd.N_drewN | apply Kd.N_drew)); exact HO_3.out) hb)
          have n1_ := zA (Kd.V_below (by (with_reducible repeat (first | apply Kd.V_alloc | apply Kd.V_drewN | apply Kd.V_drew)); exact HL772_0.out) hb)
          have n2_ := zA (Kd.V_below (by (with_reducible repeat (first | apply Kd.V_alloc | apply Kd.V_drewN | apply Kd.V_drew)); exact HL773_0.out) hb)
          have n3_ := xB BK762 hb
          have n4_ := zA (Kd.C_below (by repeat (first | (with_reducible exact HR772_0.out) | (with_reducible refine Kd.C_alloc ?_ _) | (with_reducible refine Kd.C_drewN ?_ _) | (with_reducible refine Kd.C_drew ?_) | exact HR772_0.out)) hb)
          have n5_ := zA (Kd.C_below (by repeat (first | (with_reducible exact HR773_0.out) | (with_reducible refine Kd.C_alloc ?_ _) | (with_reducible refine Kd.C_drewN ?_ _) | (with_reducible refine Kd.C_drew ?_) | exact HR773_0.out)) hb)
          have n6_ := xH HB hb
          clear HO_3 HL772_0 HL773_0 BK762 HR772_0 HR773_0 HB
          have HO_3 := n0_; have HL772_0 := n1_; have HL773_0 := n2_; have BK762 := n3_; have HR772_0 := n4_; have HR773_0 := n5_; have HB := n6_
          clear n0_ n1_ n2_ n3_ n4_ n5_ n6_
          (try clear hb); (try clear hb2); (try clear hk); (try clear hi)
          refine hK.out _ _ ⟨(blk_cell BK762.out 0).trans rfl, (blk_cell BK762.out 1).trans rfl, (blk_cell BK762.out 2).trans rfl, ((HB.out.cell (World.block_lt_of_cell? w _ hw770_0)).trans hw770_0), ((HB.out.cell (World.block_lt_of_cell? w _ hw771_0)).trans hw771_0), HS5_, HS6_⟩ (fun hHeld => ?_)
          clear hK K
          refine norm_ (a' := ?_) ?_ ?_
          rotate_left
          ·show Act.put _ (some 16) _ = _
           simp only [Act.put, ls, lz, ln, i64_w, i32_w]
           rfl
          refine one_ (i := 22) (N := some 36) #[true, true, true, true, true, true, true, true, true, true, true, true, true, true, true, true, true, true, true, true, true, true, true, false, false, false] rfl rfl (one_of HT_.out (by kernel_rfl)) (by decide) (fun K hK => ?_)
          refine goes_ Try.func96 (by kernel_rfl) rfl #[.int .i64 t769, .int .i64 (rd l0_1 x4_1), .int .i64 (rd l0_2 x4_1), .slice A772_0 (rd_L1 x3_1 x4_1).length c772_0, .slice A773_0 (rd_L1 x3_1 (ji13)).length c773_0] (by rfl) rfl rfl (by (try simp only [la, lb, lc]); first | done | (simp only [hji13]; rfl) | rfl | (simp only [ld, le]; rfl)) ?_
          with_reducible refine (impl_field_next.calls k1 t769 (rd l0_1 x4_1) (rd l0_2 x4_1) _ _ (rd_L1 x3_1 x4_1) _ _ (rd_L1 x3_1 (ji13)) t774 _ ?side1 ?side2 ?side3 ?side4 A16.out).mono ?_
          (case side1 => repeat (first | exact (by repeat (first | (with_reducible exact HR772_0.out) | (with_reducible refine Kd.C_alloc ?_ _) | (with_reducible refine Kd.C_drewN ?_ _) | (with_reducible refine Kd.C_drew ?_) | exact HR772_0.out)) | (with_reducible refine Kd.C_alloc ?_ _) | (with_reducible refine Kd.C_drewN ?_ _) | (with_reducible refine Kd.C_drew ?_)))
          (case side2 => exact HC772_0.out)
          (case side3 => repeat (first | exact (by repeat (first | (with_reducible exact HR773_0.out) | (with_reducible refine Kd.C_alloc ?_ _) | (with_reducible refine Kd.C_drewN ?_ _) | (with_reducible refine Kd.C_drew ?_) | exact HR773_0.out)) | (with_reducible refine Kd.C_alloc ?_ _) | (with_reducible refine Kd.C_drewN ?_ _) | (with_reducible refine Kd.C_drew ?_)))
          (case side4 => exact HC773_0.out)
          rintro e w22 ⟨v775, rfl, ho0, hb⟩
          have HS5_ := (hb.cell (World.block_lt_of_cell? _ _ (hHeld.2.2.2.2.2.1))).trans (hHeld.2.2.2.2.2.1)
          have HS6_ := (hb.cell (World.block_lt_of_cell? _ _ (hHeld.2.2.2.2.2.2))).trans (hHeld.2.2.2.2.2.2)
          refine ⟨_, rfl, ?_⟩
          have n0_ := zA (Kd.N_elder' (by (with_reducible repeat (first | apply Kd.N_alloc | apply Kd.N_drewN | apply Kd.N_drew)); exact HO_3.out) (Kd.R_base ho0) hb)
          have n1_ := zA (Kd.V_elder' (by (with_reducible repeat (first | apply Kd.V_alloc | apply Kd.V_drewN | apply Kd.V_drew)); exact HL772_0.out) (Kd.R_base ho0) hb)
          have n2_ := zA (Kd.V_elder' (by (with_reducible repeat (first | apply Kd.V_alloc | apply Kd.V_drewN | apply Kd.V_drew)); exact HL773_0.out) (Kd.R_base ho0) hb)
          have n3_ := zA (Kd.R_lower (Kd.R_newM (M := fun k_ => (w.heap.size ≤ k_)) ho0 (below_size (uH HB.out)) (fun k_ h_ => h_)) (below_size (uH HB.out)))
          have n4_ := xB BK762 hb
          have n5_ := zA (Kd.C_below (by repeat (first | (with_reducible exact HR772_0.out) | (with_reducible refine Kd.C_alloc ?_ _) | (with_reducible refine Kd.C_drewN ?_ _) | (with_reducible refine Kd.C_drew ?_) | exact HR772_0.out)) hb)
          have n6_ := zA (Kd.C_below (by repeat (first | (with_reducible exact HR773_0.out) | (with_reducible refine Kd.C_alloc ?_ _) | (with_reducible refine Kd.C_drewN ?_ _) | (with_reducible refine Kd.C_drew ?_) | exact HR773_0.out)) hb)
          have n7_ := xH HB hb
          clear HO_3 HL772_0 HL773_0 BK762 HR772_0 HR773_0 HB
          have HO_3 := n0_; have HL772_0 := n1_; have HL773_0 := n2_; have HO776 := n3_; have BK762 := n4_; have HR772_0 := n5_; have HR773_0 := n6_; have HB := n7_
          clear n0_ n1_ n2_ n3_ n4_ n5_ n6_ n7_
          (try clear hb); (try clear hb2); (try clear hk); (try clear hi); (try clear ho0)
          obtain ⟨Ao24, co24, eo24⟩ := Kd.R_slice HO776.out
          (first | subst eo24 | (injection eo24 with f1_ f2_ f3_; have f4_ := f1_.symm; have f5_ := f3_.symm; clear f1_ f2_ f3_; subst f4_; subst f5_))
          refine hK.out _ _ ⟨(blk_cell BK762.out 0).trans rfl, (blk_cell BK762.out 1).trans rfl, (blk_cell BK762.out 2).trans rfl, ((HB.out.cell (World.block_lt_of_cell? w _ hw770_0)).trans hw770_0), ((HB.out.cell (World.block_lt_of_cell? w _ hw771_0)).trans hw771_0), HS5_, HS6_⟩ (fun hHeld => ?_)
          clear hK K
          refine norm_ (a' := ?_) ?_ ?_
          rotate_left
          ·show Act.put _ (some 36) _ = _
           simp only [Act.put, ls, lz, ln, i64_w, i32_w]
           rfl
          refine last_ (i := 23) (N := some 37) #[true, true, true, true, true, true, true, true, true, true, true, true, true, true, true, true, true, true, true, true, true, true, true, true, false, false] rfl rfl (one_of HT_.out (by kernel_rfl)) (by decide) (fun K hK => ?_)
          refine value_ (w1 := ?_) (v := ?_) (by rfl) rfl ?_ ?_
          rotate_left 2
          ·go_simp
           constructor
           ·rfl
           ·rfl
          refine hK.out _ _ ?_
          clear hK K
          refine norm_ (a' := ?_) ?_ ?_
          rotate_left
          ·show Act.put _ (some 37) _ = _
           simp only [Act.put, ls, lz, ln, i64_w, i32_w]
           rfl
          refine last_ (i := 24) (N := some 38) #[true, true, true, true, true, true, true, true, true, true, true, true, true, true, true, true, true, true, true, true, true, true, true, true, true, false] rfl rfl (one_of HT_.out (by kernel_rfl)) (by decide) (fun K hK => ?_)
          refine Kd.N_append_step (Kd.slice 2 (Kd.int .i64)) (w0 := w) w.heap.size (by rfl) (.tmp 14) (.tmp 37) 37 22 (.slice none 0 0) 24 rfl Try.underlying37 info22 rfl (by decide) (by omega) (.slice (some ad772) x3_1.length co20) x3_1 t774 [.slice Ao24 t774.length co24] (fun k_ => (w.heap.size ≤ k_) ∧ k_ ≠ gb762) (fun k_ => ((fun k_ => (w.heap.size ≤ k_) ∧ k_ ≠ gb762)) k_ ∧ some k_ ≠ (.slice (some ad772) x3_1.length co20 : Value).ownBlock) rfl rfl ?aP (fun _ hk => hk) ?aF ?aO ?aB ?aS ?aL ?_
          (case aP => exact (Kd.FK_slice_mk (Kd.R_reads' (Kd.R_mono (ok' := (fun k_ => ((fun k_ => (w.heap.size ≤ k_) ∧ k_ ≠ gb762)) k_ ∧ some k_ ≠ (.slice (some ad772) x3_1.length co20 : Value).ownBlock)) (Kd.R_types (Kd.R_apart' (HO776.out) (Kd.N_typed HO_3.out) (by decide)) BK762.out (by decide)) (fun k_ hk => ⟨⟨hk.1.1.1, hk.2⟩, hk.1.2⟩))).2.1 (Kd.R_F (Kd.R_mono (ok' := (fun k_ => ((fun k_ => (w.heap.size ≤ k_) ∧ k_ ≠ gb762)) k_ ∧ some k_ ≠ (.slice (some ad772) x3_1.length co20 : Value).ownBlock)) (Kd.R_types (Kd.R_apart' (HO776.out) (Kd.N_typed HO_3.out) (by decide)) BK762.out (by decide)) (fun k_ hk => ⟨⟨hk.1.1.1, hk.2⟩, hk.1.2⟩)))))
          (case aB => exact (uH HB.out))
          (case aF => exact (fun k_ hk => ⟨(Nat.le_trans (below_size (uH HB.out)) hk), Kd.freshB (g := gb762) (o := .cells #[.int .i64 a0_0, .slice (some ad770) l0_1.length c0_1, .slice (some ad771) l0_2.length c0_2] 26 (0, 0)) (uB BK762.out) k_ hk⟩))
          (case aO => exact (by (with_reducible repeat (first | apply Kd.N_alloc | apply Kd.N_drewN | apply Kd.N_drew)); exact Kd.N_mono HO_3.out (fun _ hk => ⟨hk.1.1, hk.1.2⟩)))
          (case aS => exact (below_size (uH HB.out)))
          (case aL => have := LMc17.out; omega)
          intro v778 w23 ho hb hg hat
          rw [← Ny777.out] at ho
          have n0_ := zA (blk_grown (g := gb762) (o := .cells #[.int .i64 a0_0, .slice (some ad770) l0_1.length c0_1, .slice (some ad771) l0_2.length c0_2] 26 (0, 0)) (uB BK762.out) hg (Kd.N_ne HO_3.out BK762.out (by decide)))
          have n1_ := zA (Kd.V_afterv (ok := (fun k_ => (w.heap.size ≤ k_) ∧ some k_ ≠ (.slice Ao24 t774.length co24 : Value).ownBlock ∧ k_ ≠ gb762)) (by (with_reducible repeat (first | apply Kd.V_alloc | apply Kd.V_drewN | apply Kd.V_drew)); exact Kd.V_mono HL772_0.out (fun _ hk => ⟨⟨hk.1.1.1, ⟨hk.2, hk.1.1.2⟩⟩, hk.1.2⟩)) hg hat)
          have n2_ := zA (Kd.V_afterv (ok := (fun k_ => (w.heap.size ≤ k_) ∧ some k_ ≠ (.slice Ao24 t774.length co24 : Value).ownBlock ∧ k_ ≠ gb762)) (by (with_reducible repeat (first | apply Kd.V_alloc | apply Kd.V_drewN | apply Kd.V_drew)); exact Kd.V_mono HL773_0.out (fun _ hk => ⟨⟨hk.1.1.1, ⟨hk.2, hk.1.1.2⟩⟩, hk.1.2⟩)) hg hat)
          have n3_ := zA (hb)
          have n4_ := zA (ho)
          clear BK762 HL772_0 HL773_0 HB HO_3 HO776
          have BK762 := n0_; have HL772_0 := n1_; have HL773_0 := n2_; have HB := n3_; have HO779 := n4_
          clear n0_ n1_ n2_ n3_ n4_
          clear ho hb hg hat
          refine hK.out _ _ ?_
          clear hK K
          refine norm_ (a' := ?_) ?_ ?_
          rotate_left
          ·show Act.put _ (some 38) _ = _
           simp only [Act.put, ls, lz, ln, i64_w, i32_w]
           rfl
          refine pure_ (i := 25) (N := some 3) (v := ?_) (a' := ?_) #[true, true, true, true, true, true, true, true, true, true, true, true, true, true, true, true, true, true, true, true, true, true, true, true, true, true] rfl rfl (any_of HT_.out (by kernel_rfl)) (fun _ _ _ h => h) (Or.inl ⟨by rfl, ?_⟩) ?_ ?_
          rotate_left
          ·intro w'
           go_simp
           with_reducible rfl
          rotate_left
          ·simp only [Act.put, ls, lz, ln, i64_w, i32_w]
           rfl
          refine done_ (done_of HT_.out (by kernel_rfl)) ?_
          try go_wp2
          go_roundg k1
          case measure => have := HK1.out; omega
          case rel => exact ⟨(y777), (wrap64 (x4_1 + 1)), (by first | rfl | (simp; done) | (simp [*]; done)), H', ⟨by have := HK1.out; omega⟩, ⟨by (with_reducible repeat (first | apply Kd.N_alloc | apply Kd.N_drewN | apply Kd.N_drew)); exact HO779.out⟩, ⟨uB BK762.out⟩, ⟨uH HB.out⟩⟩
         ·rw [if_neg c17] at H
          exact absurd H (by simp)
        ·rw [if_neg c15] at H
         exact absurd H (by simp)
       ·rw [if_neg c14] at H
        exact absurd H (by simp)
      ·rw [if_neg c12] at H
       exact absurd H (by simp)
     ·rw [if_neg c11] at H
      exact absurd H (by simp)
    ·rw [if_neg c10] at H
     exact absurd H (by simp)
   ·rw [if_neg c8] at H
    have c8b0 : decide (x4_1 < (l0_1.length : Int)) = false := decide_eq_false c8
    clear c8
    obtain rfl := Option.some.inj H
    have hcz25_0 : wr.cell? ⟨gb762, 0, none⟩ = some (.int .i64 a0_0) := (blk_cell BK762.out 0).trans rfl
    have hcz25_1 : wr.cell? ⟨gb762, 1, none⟩ = some (.slice A0_1 l0_1.length c0_1) := (blk_cell BK762.out 1).trans rfl
    have hcz25_2 : wr.cell? ⟨gb762, 2, none⟩ = some (.slice A0_2 l0_2.length c0_2) := (blk_cell BK762.out 2).trans rfl
    have hfz25_0 := blk_frozen BK762.out 0
    have hfz25_1 := blk_frozen BK762.out 1
    have hfz25_2 := blk_frozen BK762.out 2
    go_wp2
    go_ret
    exact ⟨_, by first | rfl | (simp [errW_none, errW_some] <;> rfl) | (simp [*, errW_none, errW_some] <;> rfl), by (with_reducible repeat (first | apply Kd.N_alloc | apply Kd.N_drewN | apply Kd.N_drew)); exact Kd.N_mono HO_3.out (fun _ hk => hk.1), uH HB.out⟩

end Go.Proofs.Ytgneldhhlfjjaaa.Pr
