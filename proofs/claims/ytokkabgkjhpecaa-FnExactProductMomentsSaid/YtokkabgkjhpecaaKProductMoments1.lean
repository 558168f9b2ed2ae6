/- Texts of this session in one: what functions of the program compute, and plain facts of it, under the conditions that each theorem names. -/
import Derived.Test.YtokkabgkjhpecaaKC01
import Derived.Test.YtokkabgkjhpecaaKC03
import Derived.Test.YtokkabgkjhpecaaKC04
import Derived.Test.YtokkabgkjhpecaaKC21
/- Printed by a program of this session out of the translation: what these functions of the program compute, under the conditions that each theorem names. -/
namespace Go.Proofs.Ytokkabgkjhpecaa.Pr
open Go.RowKit Go.Proofs.YtokkabgkjhpecaaW.PrintWords Go.Proofs.YtokkabgkjhpecaaW.PrintLast Go.Proofs.YtokkabgkjhpecaaW.PrintMore
attribute [local go_sem] max2_int min2_int max_two min_two max_three min_three max_four min_four   -- for this text's walks alone
set_option linter.unusedVariables false
set_option linter.unusedSimpArgs false

/-! ### impl_Moments_product: function 95 -/
def impl_Moments_product.l0 : Nat → List Int → Int → Int → List Int → Int → List Int → Option (Int × List Int)
 | 0, _, _, _, _, _, _ => none
 | k + 1, x1, x6, x914000, x914001, x916000, x916001 => if (wrap64 (x6 + (mx (x1.length : Int) 1))) ≤ (x914001.length : Int) then (if 0 ≤ x6 then (if x6 ≤ (x914001.length : Int) then ((impl_Moments_apply.f k x914000 (x914001.drop (x6 : Int).toNat) x1).bind fun t917 => (if x916001.length < 17592186044416 then (impl_Moments_product.l0 k x1 (wrap64 (x6 + 1)) x914000 x914001 x916000 (x916001 ++ [t917])) else (none))) else (none)) else (none)) else (some (x916000, x916001))
def impl_Moments_product.f (k : Nat) (a0_0 : Int) (l0_1 : List Int) (l1 : List Int) : Option (Int × List Int) := impl_Moments_product.l0 k l1 0 a0_0 l0_1 a0_0 ([] : List Int)
theorem impl_Moments_product.mono_l : ∀ k, (∀ y0 y1 y2 y3 y4 y5, LeO (impl_Moments_product.l0 k y0 y1 y2 y3 y4 y5) (impl_Moments_product.l0 (k + 1) y0 y1 y2 y3 y4 y5))
 | 0 => fun _ _ _ _ _ _ r h => by simp [impl_Moments_product.l0] at h
 | k + 1 => by
  have ih0 := impl_Moments_product.mono_l k
  ·intro y0 y1 y2 y3 y4 y5
   unfold impl_Moments_product.l0
   repeat' first
   | (with_reducible exact ih0 _ _ _ _ _ _)
   | (with_reducible exact impl_Moments_apply.mono _ _ _ _)
   | (with_reducible exact LeO.refl _)
   | (with_reducible exact LeO.none _)
   | (with_reducible refine LeO.ite ?_ ?_)
   | (with_reducible refine LeO.bind ?_ (fun _ => ?_))
   | exact ih0 _ _ _ _ _ _
   | exact impl_Moments_apply.mono _ _ _ _
   | exact LeO.none _
   | refine LeO.ite ?_ ?_
   | refine LeO.bind ?_ (fun _ => ?_)
theorem impl_Moments_product.mono : ∀ a0 a1 a2 k, LeO (impl_Moments_product.f k a0 a1 a2) (impl_Moments_product.f (k + 1) a0 a1 a2) := by
 intro a0 a1 a2 k
 have ih0 := impl_Moments_product.mono_l k
 unfold impl_Moments_product.f
 repeat' first
   | (with_reducible exact ih0 _ _ _ _ _ _)
   | (with_reducible exact impl_Moments_apply.mono _ _ _ _)
   | (with_reducible exact LeO.refl _)
   | (with_reducible exact LeO.none _)
   | (with_reducible refine LeO.ite ?_ ?_)
   | (with_reducible refine LeO.bind ?_ (fun _ => ?_))
   | exact ih0 _ _ _ _ _ _
   | exact impl_Moments_apply.mono _ _ _ _
   | exact LeO.none _
   | refine LeO.ite ?_ ?_
   | refine LeO.bind ?_ (fun _ => ?_)
def impl_Moments_product.T5 : Bool × List (List Nat × List Nat) := (true, [([], []), ([0], [0]), ([], []), ([2], [2]), ([], []), ([4], [4]), ([], []), ([5, 6], [5, 6]), ([3, 7], [3, 7]), ([], []), ([8, 9], [8, 9]), ([10], [10]), ([1, 11, 10], [1, 11]), ([0, 1, 2, 3, 4, 5, 6, 7, 8, 9, 10, 11, 12], []), ([13, 12, 12, 0, 1, 2, 3, 4, 5, 6, 7, 8, 9, 10, 11, 12], [12, 13])])
def impl_Moments_product.B5 : List Nat := [0, 1, 0, 4, 0, 16, 0, 112, 252, 0, 1020, 2044, 4095, 8191, 16383]
theorem impl_Moments_product.tab5 : rtab .any (opsOf Try.f95 5) = impl_Moments_product.T5 := by kernel_rfl
theorem impl_Moments_product.bits5 : waitsOk impl_Moments_product.T5.2 impl_Moments_product.B5 = true := by kernel_rfl
set_option maxHeartbeats 8000000 in
set_option maxRecDepth 100000 in
theorem impl_Moments_product.calls (k : Nat) (a0_0 : Int) (A0_1 : Option Addr) (c0_1 : Nat) (l0_1 : List Int) (A1 : Option Addr) (c1 : Nat) (l1 : List Int) (r1 : Int) (r2 : List Int) (w : World) (hr0_1 : Kd.C (Kd.int .i64) w A0_1 l0_1.length l0_1) (hc0_1 : l0_1.length ≤ c0_1) (hr1 : Kd.C (Kd.int .i64) w A1 l1.length l1) (hc1 : l1.length ≤ c1) (h : impl_Moments_product.f k a0_0 l0_1 l1 = some (r1, r2)) :
  Calls Try.prog 95 #[.agg #[.int .i64 a0_0, .slice A0_1 l0_1.length c0_1], .slice A1 l1.length c1] w fun e w' => ∃ v1_ : Value, e = .returned (.agg #[.int .i64 r1, v1_]) ∧ Kd.R (Kd.int .i64) 2 w' w.heap.size (fun _ => True) v1_ r2 ∧ Below w.heap.size w w' := by
 have hu31 := Try.underlying31
 have HR0_1 := zA hr0_1
 have HC0_1 := zA hc0_1
 clear hr0_1 hc0_1
 have HR1 := zA hr1
 have HC1 := zA hc1
 clear hr1 hc1
 have HB := zA (Below.refl w.heap.size w)
 have H : (impl_Moments_product.l0 k l1 0 a0_0 l0_1 a0_0 ([] : List Int)) = some (r1, r2) := h
 clear h
 have H' := zA H
 clear H
 go_enter Try.func95, Try.ntmps95
 go_wp2_with (first | ((with_reducible refine gate_dst (N := 2) rfl ?_); refine box_event ?hg (N := 2) ?hd (cs := #[.int .i64 a0_0, .slice A0_1 l0_1.length c0_1]) (t := 31) ?hr ?_; (case hd => rfl); (case hg => rfl); (case hr => first | (go_simp; done) | (go_simp; rfl)); intro gb913 hg w3 hbox hb; have n0_ := xH HB hb; have n1_ := zA (hbox); have n2_ := zA ((by rw [hg]; exact (below_size (uH HB.out)) : w.heap.size ≤ gb913)); have n3_ := zA ((by rw [hg]; exact (below_size (uH HB.out)) : w.heap.size ≤ gb913)); clear HB; have HB := n0_; have BK913 := n1_; have GW913 := n2_; have GE913 := n3_; have := geI GE913; clear n0_ n1_ n2_ n3_ hb hbox hg) | ((with_reducible refine gate_dst (N := 4) rfl ?_); refine box_event ?hg (N := 4) ?hd (cs := #[.int .i64 0, .slice none 0 0]) (t := 31) ?hr ?_; (case hd => rfl); (case hg => rfl); (case hr => first | (go_simp; done) | (go_simp; rfl)); intro gb914 hg w4 hbox hb; have n0_ := xB BK913 hb; have n1_ := xH HB hb; have n2_ := zA (hbox); have n3_ := zA ((by rw [hg]; exact (below_size (uH HB.out)) : w.heap.size ≤ gb914)); have n4_ := zA ((by rw [hg]; exact (below_size (uH HB.out)) : w.heap.size ≤ gb914)); have n5_ := zA ((by rw [hg]; exact neL BK913 : gb913 ≠ gb914)); have n6_ := zA ((by rw [hg]; exact neG BK913 : gb914 ≠ gb913)); clear BK913 HB; have BK913 := n0_; have HB := n1_; have BK914 := n2_; have GW914 := n3_; have GE914 := n4_; have := geI GE914; have NB913_914 := n5_; have NB914_913 := n6_; clear n0_ n1_ n2_ n3_ n4_ n5_ n6_ hb hbox hg; have hnb5 := NB913_914.out; have hnc5 := NB914_913.out; have hcz6_0 : w4.cell? ⟨gb913, 0, none⟩ = some (.int .i64 a0_0) := (blk_cell BK913.out 0).trans rfl; have hcz6_1 : w4.cell? ⟨gb913, 1, none⟩ = some (.slice A0_1 l0_1.length c0_1) := (blk_cell BK913.out 1).trans rfl; have hfz6_0 := blk_frozen BK913.out 0; have hfz6_1 := blk_frozen BK913.out 1) | ((with_reducible refine gate_dst (N := 5) rfl ?_); refine box_event ?hg (N := 5) ?hd (cs := #[.int .i64 0, .slice none 0 0]) (t := 31) ?hr ?_; (case hd => rfl); (case hg => rfl); (case hr => first | (go_simp; done) | (go_simp; rfl)); intro gb915 hg w7 hbox hb; have n0_ := xB BK913 hb; have n1_ := xB BK914 hb; have n2_ := xH HB hb; have n3_ := zA (hbox); have n4_ := zA ((by rw [hg]; exact (below_size (uH HB.out)) : w.heap.size ≤ gb915)); have n5_ := zA ((by rw [hg]; exact (below_size (uH HB.out)) : w.heap.size ≤ gb915)); have n6_ := zA ((by rw [hg]; exact neL BK913 : gb913 ≠ gb915)); have n7_ := zA ((by rw [hg]; exact neG BK913 : gb915 ≠ gb913)); have n8_ := zA ((by rw [hg]; exact neL BK914 : gb914 ≠ gb915)); have n9_ := zA ((by rw [hg]; exact neG BK914 : gb915 ≠ gb914)); clear BK913 BK914 HB; have BK913 := n0_; have BK914 := n1_; have HB := n2_; have BK915 := n3_; have GW915 := n4_; have GE915 := n5_; have := geI GE915; have NB913_915 := n6_; have NB915_913 := n7_; have NB914_915 := n8_; have NB915_914 := n9_; clear n0_ n1_ n2_ n3_ n4_ n5_ n6_ n7_ n8_ n9_ hb hbox hg; have hnb8 := NB915_913.out; have hnc8 := NB913_915.out; have hnb9 := NB915_914.out; have hnc9 := NB914_915.out; have hcz10_0 : w7.cell? ⟨gb915, 0, none⟩ = some (.int .i64 0) := (blk_cell BK915.out 0).trans rfl; have hcz10_1 : w7.cell? ⟨gb915, 1, none⟩ = some (.slice none 0 0) := (blk_cell BK915.out 1).trans rfl; have hfz10_0 := blk_frozen BK915.out 0; have hfz10_1 := blk_frozen BK915.out 1))
 go_loopg [6] k (fun kq v6 w' => ∃ (x6_1 : Int) (x916001_1 : List Int) (u916001 : Value), v6 = .int .i64 x6_1 ∧ Aside0 (impl_Moments_product.l0 kq l1 x6_1 a0_0 l0_1 a0_0 x916001_1 = some (r1, r2)) ∧ Aside0 (kq ≤ k) ∧ Aside0 (Kd.R (Kd.int .i64) 2 w' w.heap.size (fun _ => True) u916001 x916001_1) ∧ Aside0 (w'.heap[gb913]? = some (.cells #[.int .i64 a0_0, (.slice A0_1 l0_1.length c0_1)] 31 (0, 0))) ∧ Aside0 (w'.heap[gb914]? = some (.cells #[.int .i64 0, (.slice none 0 0)] 31 (0, 0))) ∧ Aside0 (w'.heap[gb915]? = some (.cells #[.int .i64 a0_0, u916001] 31 (0, 0))) ∧ Aside0 (Below w.heap.size w w'))
 case atStart => exact ⟨(0), (([] : List Int)), (.slice none 0 0), (by first | rfl | (simp; done) | (simp [*]; done)), H', ⟨Nat.le_refl _⟩, ⟨by first | exact Kd.R_nil _ _ _ _ _ | exact Kd.N_nil _ _ _ _ _ | exact Kd.V_nil _ _ _ _ _ | exact Kd.Q_nil _ _ _ _ _ | exact Kd.S_nil _ _ _ _ _⟩, ⟨by (with_reducible repeat (first | refine blk_drewN ?_ _ | refine blk_drew ?_ | refine blk_alloc ?_ _)); refine blk_far ?_ NB913_915.out _; (with_reducible repeat (first | refine blk_drewN ?_ _ | refine blk_drew ?_ | refine blk_alloc ?_ _)); refine blk_far ?_ NB913_915.out _; (with_reducible repeat (first | refine blk_drewN ?_ _ | refine blk_drew ?_ | refine blk_alloc ?_ _)); exact BK913.out⟩, ⟨by (with_reducible repeat (first | refine blk_drewN ?_ _ | refine blk_drew ?_ | refine blk_alloc ?_ _)); refine blk_far ?_ NB914_915.out _; (with_reducible repeat (first | refine blk_drewN ?_ _ | refine blk_drew ?_ | refine blk_alloc ?_ _)); refine blk_far ?_ NB914_915.out _; (with_reducible repeat (first | refine blk_drewN ?_ _ | refine blk_drew ?_ | refine blk_alloc ?_ _)); exact BK914.out⟩, ⟨by (with_reducible repeat (first | refine blk_drewN ?_ _ | refine blk_drew ?_ | refine blk_alloc ?_ _)); refine blk_put (cs := #[.int .i64 a0_0, .slice none 0 0]) ?_ 1 _ rfl; (with_reducible repeat (first | refine blk_drewN ?_ _ | refine blk_drew ?_ | refine blk_alloc ?_ _)); refine blk_put (cs := #[.int .i64 0, .slice none 0 0]) ?_ 0 _ rfl; (with_reducible repeat (first | refine blk_drewN ?_ _ | refine blk_drew ?_ | refine blk_alloc ?_ _)); exact BK915.out⟩, ⟨uH HB.out⟩⟩
 case round =>
  clear H'
  try clear c1
  try clear p2
  try clear c5
  try clear c8
  try clear c9
  try clear hcz10_0
  try clear hcz10_1
  try clear hcz6_0
  try clear hcz6_1
  try clear hfz10_0
  try clear hfz10_1
  try clear hfz6_0
  try clear hfz6_1
  obtain ⟨x6_1, x916001_1, u916001, rfl, HA, HK1, HO_916001, BK913, BK914, BK915, HB⟩ := hrel
  cases gk with
  | zero => exact absurd HA.out (by simp [impl_Moments_product.l0])
  | succ k1 =>
   have H := HA.out
   clear HA
   simp only [impl_Moments_product.l0] at H
   obtain ⟨ji11, hji11⟩ : ∃ j_ : Int, (mx (l1.length : Int) 1) = j_ := ⟨_, rfl⟩
   replace H : (if (wrap64 (x6_1 + (ji11))) ≤ (l0_1.length : Int) then (if 0 ≤ x6_1 then (if x6_1 ≤ (l0_1.length : Int) then ((impl_Moments_apply.f k1 a0_0 (l0_1.drop (x6_1 : Int).toNat) l1).bind fun t917 => (if x916001_1.length < 17592186044416 then (impl_Moments_product.l0 k1 l1 (wrap64 (x6_1 + 1)) a0_0 l0_1 a0_0 (x916001_1 ++ [t917])) else (none))) else (none)) else (none)) else (some (a0_0, x916001_1))) = some (r1, r2) := by first | (rw [hji11] at H; exact H) | (simp only [hji11] at H ⊢; exact H)
   have hji11_ : (if (l1.length : Int) < 1 then 1 else (l1.length : Int)) = ji11 := hji11
   by_cases c12 : (wrap64 (x6_1 + (ji11))) ≤ (l0_1.length : Int)
   ·rw [if_pos c12] at H
    have c12b0 : decide ((wrap64 (x6_1 + (ji11))) ≤ (l0_1.length : Int)) = true := decide_eq_true c12
    clear c12
    by_cases c13 : 0 ≤ x6_1
    ·rw [if_pos c13] at H
     have c13b0 := eq_true c13
     have c13b1 : decide (0 ≤ x6_1) = true := decide_eq_true c13
     clear c13
     by_cases c14 : x6_1 ≤ (l0_1.length : Int)
     ·rw [if_pos c14] at H
      have c14b0 := eq_true c14
      have c14b1 : decide (x6_1 ≤ (l0_1.length : Int)) = true := decide_eq_true c14
      clear c14
      replace H := Option.bind_eq_some_iff.mp H
      obtain ⟨t917, A150, H⟩ := H
      replace H : (if x916001_1.length < 17592186044416 then (impl_Moments_product.l0 k1 l1 (wrap64 (x6_1 + 1)) a0_0 l0_1 a0_0 (x916001_1 ++ [t917])) else (none)) = some (r1, r2) := H
      have A15 := zA A150
      clear A150
      by_cases c16 : x916001_1.length < 17592186044416
      ·rw [if_pos c16] at H
       have LMc16 := zA c16
       clear c16
       obtain ⟨y918, hy918⟩ : ∃ y_ : List Int, y_ = (x916001_1 ++ [t917]) := ⟨_, rfl⟩
       replace H : (impl_Moments_product.l0 k1 l1 (wrap64 (x6_1 + 1)) a0_0 l0_1 a0_0 y918) = some (r1, r2) := by first | (rw [hy918]; with_reducible exact H) | (have H2_ := (Option.bind_some _ _).symm.trans H; rw [hy918]; with_reducible exact H2_) | (have H2_ := (Option.bind_some _ _).symm.trans H; with_reducible exact H2_) | with_reducible exact H | (rw [hy918]; exact H) | exact H
       have Ny918 := zA hy918
       clear hy918
       have H' := zA H
       clear H
       have hnb17 := NB913_914.out; have hnc17 := NB914_913.out; have hnb18 := NB913_915.out; have hnc18 := NB915_913.out
       have hcz19_0 : wr.cell? ⟨gb913, 0, none⟩ = some (.int .i64 a0_0) := (blk_cell BK913.out 0).trans rfl
       have hcz19_1 : wr.cell? ⟨gb913, 1, none⟩ = some (.slice A0_1 l0_1.length c0_1) := (blk_cell BK913.out 1).trans rfl
       have hfz19_0 := blk_frozen BK913.out 0
       have hfz19_1 := blk_frozen BK913.out 1
       try go_wp2
       have n0_ := zA (Kd.R_drew HO_916001.out)
       have n1_ := zA (blk_drew BK913.out)
       have n2_ := zA (blk_drew BK914.out)
       have n3_ := zA (blk_drew BK915.out)
       have n4_ := zA (below_drew1 HB.out)
       clear HO_916001 BK913 BK914 BK915 HB
       have HO_916001 := n0_; have BK913 := n1_; have BK914 := n2_; have BK915 := n3_; have HB := n4_
       clear n0_ n1_ n2_ n3_ n4_
       obtain ⟨i021, hi021, _, hsz21, _⟩ := info_parts info2
       obtain ⟨A21, hcut21, hA21, hC21⟩ := print_drop_of (P := Try.prog) (Value.int .i64) 0 22 2 .i64 Try.underlying22 hi021 hsz21 A0_1 c0_1 l0_1 x6_1 (of_decide_eq_true (by first | (with_reducible assumption) | assumption)) (of_decide_eq_true (by first | (with_reducible assumption) | assumption)) HC0_1.out
       have HR916 := zA (Kd.C_of_reads (h1 := fun _ => rfl) (hA21 _ (Kd.reads_of_C HR0_1.out)))
       have HC916 := zA hC21
       clear hA21 hC21 hi021 hsz21
       refine start_ (n := 15) (S := fun w' => w'.cell? ⟨gb915, 0, none⟩ = some (.int .i64 a0_0) ∧ w'.cell? ⟨gb915, 1, none⟩ = some (u916001) ∧ w'.cell? ⟨gb913, 0, none⟩ = some (.int .i64 a0_0) ∧ w'.cell? ⟨gb913, 1, none⟩ = some (.slice A0_1 l0_1.length c0_1)) (ds := [14]) #[false, false, false, false, false, false, false, false, false, false, false, false, false, false, false] (by kernel_rfl) rfl rfl ⟨(blk_cell BK915.out 0).trans rfl, (blk_cell BK915.out 1).trans rfl, (blk_cell BK913.out 0).trans rfl, (blk_cell BK913.out 1).trans rfl⟩ (fun hHeld => ?_); refine with_tabW impl_Moments_product.tab5 impl_Moments_product.bits5 (fun HT_ HW_ => ?_)
       generalize wr.drew = w20 at HO_916001 BK913 BK914 BK915 HB HR916 hHeld ⊢
       refine pure_ (i := 0) (N := some 21) (v := ?_) (a' := ?_) #[true, false, false, false, false, false, false, false, false, false, false, false, false, false, false] rfl rfl (any_of HT_.out (by kernel_rfl)) (fun _ _ _ h => h) (Or.inl ⟨by rfl, ?_⟩) ?_ ?_
       rotate_left
       ·intro w'
        go_simp
        with_reducible rfl
       rotate_left
       ·simp only [Act.put, ls, lz, ln, i64_w, i32_w]
        rfl
       refine pure_ (i := 2) (N := some 23) (v := ?_) (a' := ?_) #[true, false, true, false, false, false, false, false, false, false, false, false, false, false, false] rfl rfl (any_of HT_.out (by kernel_rfl)) (fun _ _ _ h => h) (Or.inl ⟨by rfl, ?_⟩) ?_ ?_
       rotate_left
       ·intro w'
        go_simp
        with_reducible rfl
       rotate_left
       ·simp only [Act.put, ls, lz, ln, i64_w, i32_w]
        rfl
       refine pure_ (i := 4) (N := some 25) (v := ?_) (a' := ?_) #[true, false, true, false, true, false, false, false, false, false, false, false, false, false, false] rfl rfl (any_of HT_.out (by kernel_rfl)) (fun _ _ _ h => h) (Or.inl ⟨by rfl, ?_⟩) ?_ ?_
       rotate_left
       ·intro w'
        go_simp
        with_reducible rfl
       rotate_left
       ·simp only [Act.put, ls, lz, ln, i64_w, i32_w]
        rfl
       refine pure_ (i := 6) (N := some 27) (v := ?_) (a' := ?_) #[true, false, true, false, true, false, true, false, false, false, false, false, false, false, false] rfl rfl (any_of HT_.out (by kernel_rfl)) (fun _ _ _ h => h) (Or.inl ⟨by rfl, ?_⟩) ?_ ?_
       rotate_left
       ·intro w'
        go_simp
        with_reducible rfl
       rotate_left
       ·simp only [Act.put, ls, lz, ln, i64_w, i32_w]
        rfl
       refine pure_ (i := 9) (N := some 30) (v := ?_) (a' := ?_) #[true, false, true, false, true, false, true, false, false, true, false, false, false, false, false] rfl rfl (any_of HT_.out (by kernel_rfl)) (fun _ _ _ h => h) (Or.inl ⟨by rfl, ?_⟩) ?_ ?_
       rotate_left
       ·intro w'
        go_simp
        with_reducible rfl
       rotate_left
       ·simp only [Act.put, ls, lz, ln, i64_w, i32_w]
        rfl
       refine take_ (i := 1) (N := some 22) (v := ?_) (a' := ?_) #[true, true, true, false, true, false, true, false, false, true, false, false, false, false, false] rfl rfl (take_ofW HT_.out HW_.out (by kernel_rfl)) (fun _ _ _ h => h) (Or.inl ⟨by rfl, ?_⟩) hHeld ?_ ?_
       rotate_left
       ·rintro w' ⟨s0, s1, s2, s3⟩
        go_simp
        with_reducible rfl
       rotate_left
       ·simp only [Act.put, ls, lz, ln, i64_w, i32_w]
        rfl
       refine take_ (i := 3) (N := some 24) (v := ?_) (a' := ?_) #[true, true, true, true, true, false, true, false, false, true, false, false, false, false, false] rfl rfl (take_ofW HT_.out HW_.out (by kernel_rfl)) (fun _ _ _ h => h) (Or.inl ⟨by rfl, ?_⟩) hHeld ?_ ?_
       rotate_left
       ·rintro w' ⟨s0, s1, s2, s3⟩
        go_simp
        with_reducible rfl
       rotate_left
       ·simp only [Act.put, ls, lz, ln, i64_w, i32_w]
        rfl
       refine take_ (i := 5) (N := some 26) (v := ?_) (a' := ?_) #[true, true, true, true, true, true, true, false, false, true, false, false, false, false, false] rfl rfl (take_ofW HT_.out HW_.out (by kernel_rfl)) (fun _ _ _ h => h) (Or.inl ⟨by rfl, ?_⟩) hHeld ?_ ?_
       rotate_left
       ·rintro w' ⟨s0, s1, s2, s3⟩
        go_simp
        with_reducible rfl
       rotate_left
       ·simp only [Act.put, ls, lz, ln, i64_w, i32_w]
        rfl
       refine pure_ (i := 7) (N := some 28) (v := ?_) (a' := ?_) #[true, true, true, true, true, true, true, true, false, true, false, false, false, false, false] rfl rfl (any_of HT_.out (by kernel_rfl)) (fun _ _ _ h => h) (Or.inl ⟨by rfl, ?_⟩) ?_ ?_
       rotate_left
       ·intro w'
        go_simp
        with_reducible rfl
       rotate_left
       ·simp only [Act.put, ls, lz, ln, i64_w, i32_w]
        rfl
       refine pure_ (i := 8) (N := some 29) (v := ?_) (a' := ?_) #[true, true, true, true, true, true, true, true, true, true, false, false, false, false, false] rfl rfl (any_of HT_.out (by kernel_rfl)) (fun _ _ _ h => h) (Or.inl ⟨by rfl, ?_⟩) ?_ ?_
       rotate_left
       ·intro w'
        go_simp
        with_reducible rfl
       rotate_left
       ·simp only [Act.put, ls, lz, ln, i64_w, i32_w]
        rfl
       refine one_ (i := 10) (N := some 31) #[true, true, true, true, true, true, true, true, true, true, true, false, false, false, false] rfl rfl (one_of HT_.out (by kernel_rfl)) (by decide) (fun K hK => ?_)
       refine goes_ Try.func102 (by kernel_rfl) rfl #[.agg #[.int .i64 a0_0, .slice A21 (l0_1.drop (x6_1 : Int).toNat).length (c0_1 - x6_1.toNat)], .slice A1 l1.length c1] (by rfl) rfl rfl (by (try simp only [la, lb, lc]); first | done | (rw [show (l0_1.drop (x6_1 : Int).toNat).length = (l0_1.length - x6_1.toNat) from List.length_drop] <;> rfl) | rfl | (simp only [ld, le]; rfl)) ?_
       with_reducible refine (impl_Moments_apply.calls k1 a0_0 _ _ (l0_1.drop (x6_1 : Int).toNat) _ _ l1 t917 _ ?side1 ?side2 ?side3 ?side4 A15.out).mono ?_
       (case side1 => exact uC ((Kd.C_below HR916.out HB.out)))
       (case side2 => exact HC916.out)
       (case side3 => exact uC ((Kd.C_below HR1.out HB.out)))
       (case side4 => exact HC1.out)
       rintro e w22 ⟨rfl, hb⟩
       refine ⟨_, rfl, ?_⟩
       have n0_ := xR HO_916001 hb
       have n1_ := xB BK913 hb
       have n2_ := xB BK914 hb
       have n3_ := xB BK915 hb
       have n4_ := xH HB hb
       clear HO_916001 BK913 BK914 BK915 HB
       have HO_916001 := n0_; have BK913 := n1_; have BK914 := n2_; have BK915 := n3_; have HB := n4_
       clear n0_ n1_ n2_ n3_ n4_
       (try clear hb); (try clear hb2); (try clear hk); (try clear hi)
       refine hK.out _ _ ⟨(blk_cell BK915.out 0).trans rfl, (blk_cell BK915.out 1).trans rfl, (blk_cell BK913.out 0).trans rfl, (blk_cell BK913.out 1).trans rfl⟩ (fun hHeld => ?_)
       clear hK K
       refine norm_ (a' := ?_) ?_ ?_
       rotate_left
       ·show Act.put _ (some 31) _ = _
        simp only [Act.put, ls, lz, ln, i64_w, i32_w]
        rfl
       refine one_ (i := 11) (N := some 32) #[true, true, true, true, true, true, true, true, true, true, true, true, false, false, false] rfl rfl (one_of HT_.out (by kernel_rfl)) (by decide) (fun K hK => ?_)
       refine value_ (w1 := ?_) (v := ?_) (by rfl) rfl ?_ ?_
       rotate_left 2
       ·go_simp
        constructor
        ·rfl
        ·rfl
       refine hK.out _ _ ⟨(blk_cell (blk_alloc BK915.out _) 0).trans rfl, (blk_cell (blk_alloc BK915.out _) 1).trans rfl, (blk_cell (blk_alloc BK913.out _) 0).trans rfl, (blk_cell (blk_alloc BK913.out _) 1).trans rfl⟩ (fun hHeld => ?_)
       clear hK K
       refine norm_ (a' := ?_) ?_ ?_
       rotate_left
       ·show Act.put _ (some 32) _ = _
        simp only [Act.put, ls, lz, ln, i64_w, i32_w]
        rfl
       refine one_ (i := 12) (N := some 33) #[true, true, true, true, true, true, true, true, true, true, true, true, true, false, false] rfl rfl (one_of HT_.out (by kernel_rfl)) (by decide) (fun K hK => ?_)
       refine Kd.R_append_step (Kd.int .i64) (w0 := w) w.heap.size (by rfl) (.tmp 22) (.tmp 32) 22 2 (.int .i64 0) 8 rfl Try.underlying22 info2 rfl (by decide) (by omega) u916001 x916001_1 t917 [.int .i64 t917] (fun _ => True) (fun _ => False) rfl rfl ?aP (fun _ hk => hk.elim) ?aF ?aO ?aB ?aS ?aL ?_
       (case aP => exact rfl)
       (case aB => exact (uH HB.out))
       (case aF => exact (fun _ _ => trivial))
       (case aO => exact (uR HO_916001.out))
       (case aS => exact (below_size (uH HB.out)))
       (case aL => have := LMc16.out; omega)
       intro v919 w23 ho hb hg hat
       rw [← Ny918.out] at ho
       have n0_ := zA (blk_grown (g := gb913) (o := .cells #[.int .i64 a0_0, .slice A0_1 l0_1.length c0_1] 31 (0, 0)) (uB BK913.out) hg (Kd.R_ne HO_916001.out BK913.out (by decide)))
       have n1_ := zA (blk_grown (g := gb914) (o := .cells #[.int .i64 0, .slice none 0 0] 31 (0, 0)) (uB BK914.out) hg (Kd.R_ne HO_916001.out BK914.out (by decide)))
       have n2_ := zA (blk_grown (g := gb915) (o := .cells #[.int .i64 a0_0, u916001] 31 (0, 0)) (uB BK915.out) hg (Kd.R_ne HO_916001.out BK915.out (by decide)))
       have n3_ := zA (hb)
       have n4_ := zA (ho)
       clear BK913 BK914 BK915 HB HO_916001
       have BK913 := n0_; have BK914 := n1_; have BK915 := n2_; have HB := n3_; have HO920 := n4_
       clear n0_ n1_ n2_ n3_ n4_
       clear ho hb hg hat
       obtain ⟨Ao24, co24, eo24⟩ := Kd.R_slice HO920.out
       (first | subst eo24 | (injection eo24 with f1_ f2_ f3_; have f4_ := f1_.symm; have f5_ := f3_.symm; clear f1_ f2_ f3_; subst f4_; subst f5_))
       refine hK.out _ _ ⟨(blk_cell BK915.out 0).trans rfl, (blk_cell BK915.out 1).trans rfl, (blk_cell BK913.out 0).trans rfl, (blk_cell BK913.out 1).trans rfl⟩ (fun hHeld => ?_)
       clear hK K
       refine norm_ (a' := ?_) ?_ ?_
       rotate_left
       ·show Act.put _ (some 33) _ = _
        simp only [Act.put, ls, lz, ln, i64_w, i32_w]
        rfl
       refine pure_ (i := 13) (N := some 34) (v := ?_) (a' := ?_) #[true, true, true, true, true, true, true, true, true, true, true, true, true, true, false] rfl rfl (any_of HT_.out (by kernel_rfl)) (fun _ _ _ h => h) (Or.inl ⟨by rfl, ?_⟩) ?_ ?_
       rotate_left
       ·intro w'
        go_simp
        with_reducible rfl
       rotate_left
       ·simp only [Act.put, ls, lz, ln, i64_w, i32_w]
        rfl
       refine last_ (i := 14) (N := none) #[true, true, true, true, true, true, true, true, true, true, true, true, true, true, true] rfl rfl (one_of HT_.out (by kernel_rfl)) (by decide) (fun K hK => ?_)
       have hs25 : w23.cell? ⟨gb915, 1, none⟩ = some (u916001) := (blk_cell BK915.out 1).trans rfl
       have hfs25 := blk_frozen BK915.out 1
       have hns25_0 := NB913_915.out; have hns25_1 := NB914_915.out; have hms25_0 := NB915_913.out; have hms25_1 := NB915_914.out
       refine skip_ (w1 := ?_) (by rfl) rfl ?_ ?_
       rotate_left
       ·go_simp
        rfl
       refine hK.out _ _ ?_
       clear hK K
       refine done_ (done_of HT_.out (by kernel_rfl)) ?_
       try go_wp2
       go_roundg k1
       case measure => have := HK1.out; omega
       case rel => exact ⟨(wrap64 (x6_1 + 1)), (y918), (.slice Ao24 y918.length co24), (by first | rfl | (simp; done) | (simp [*]; done)), H', ⟨by have := HK1.out; omega⟩, ⟨uR (Kd.R_mono (Kd.R_far (p := ⟨gb915, 1, none⟩) (Kd.R_types HO920.out BK915.out (by decide)) (fun _ hk => hk.2) (.slice Ao24 y918.length co24)) (fun _ hk => trivial))⟩, ⟨by (with_reducible repeat (first | refine blk_drewN ?_ _ | refine blk_drew ?_ | refine blk_alloc ?_ _)); refine blk_far ?_ NB913_915.out _; (with_reducible repeat (first | refine blk_drewN ?_ _ | refine blk_drew ?_ | refine blk_alloc ?_ _)); exact BK913.out⟩, ⟨by (with_reducible repeat (first | refine blk_drewN ?_ _ | refine blk_drew ?_ | refine blk_alloc ?_ _)); refine blk_far ?_ NB914_915.out _; (with_reducible repeat (first | refine blk_drewN ?_ _ | refine blk_drew ?_ | refine blk_alloc ?_ _)); exact BK914.out⟩, ⟨by (with_reducible repeat (first | refine blk_drewN ?_ _ | refine blk_drew ?_ | refine blk_alloc ?_ _)); refine blk_put (cs := #[.int .i64 a0_0, u916001]) ?_ 1 _ rfl; (with_reducible repeat (first | refine blk_drewN ?_ _ | refine blk_drew ?_ | refine blk_alloc ?_ _)); exact BK915.out⟩, ⟨uH HB.out⟩⟩
      ·rw [if_neg c16] at H
       exact absurd H (by simp)
     ·rw [if_neg c14] at H
      exact absurd H (by simp)
    ·rw [if_neg c13] at H
     exact absurd H (by simp)
   ·rw [if_neg c12] at H
    have c12b0 : decide ((wrap64 (x6_1 + (ji11))) ≤ (l0_1.length : Int)) = false := decide_eq_false c12
    clear c12
    simp only [Option.some.injEq, Prod.mk.injEq] at H
    obtain ⟨rfl, rfl⟩ := H
    have hnb26 := NB913_914.out; have hnc26 := NB914_913.out; have hnb27 := NB913_915.out; have hnc27 := NB915_913.out
    have hcz28_0 : wr.cell? ⟨gb913, 0, none⟩ = some (.int .i64 a0_0) := (blk_cell BK913.out 0).trans rfl
    have hcz28_1 : wr.cell? ⟨gb913, 1, none⟩ = some (.slice A0_1 l0_1.length c0_1) := (blk_cell BK913.out 1).trans rfl
    have hfz28_0 := blk_frozen BK913.out 0
    have hfz28_1 := blk_frozen BK913.out 1
    have hnb29 := NB915_914.out; have hnc29 := NB914_915.out
    have hcz30_0 : wr.cell? ⟨gb915, 0, none⟩ = some (.int .i64 a0_0) := (blk_cell BK915.out 0).trans rfl
    have hcz30_1 : wr.cell? ⟨gb915, 1, none⟩ = some (u916001) := (blk_cell BK915.out 1).trans rfl
    have hfz30_0 := blk_frozen BK915.out 0
    have hfz30_1 := blk_frozen BK915.out 1
    have hcz31_0 : wr.cell? ⟨gb914, 0, none⟩ = some (.int .i64 0) := (blk_cell BK914.out 0).trans rfl
    have hcz31_1 : wr.cell? ⟨gb914, 1, none⟩ = some (.slice none 0 0) := (blk_cell BK914.out 1).trans rfl
    have hfz31_0 := blk_frozen BK914.out 0
    have hfz31_1 := blk_frozen BK914.out 1
    obtain ⟨Ao32, co32, eo32⟩ := Kd.R_slice HO_916001.out
    subst eo32
    go_wp2
    refine bodyPost_ret (results_cell_row rfl _ _ gb914 31 #[.int .i64 a0_0, .slice Ao32 x916001_1.length co32] (0, 0) _ rfl (by (with_reducible repeat (first | refine blk_drewN ?_ _ | refine blk_drew ?_ | refine blk_alloc ?_ _)); refine blk_put (cs := #[.int .i64 a0_0, .slice none 0 0]) ?_ 1 _ rfl; (with_reducible repeat (first | refine blk_drewN ?_ _ | refine blk_drew ?_ | refine blk_alloc ?_ _)); refine blk_put (cs := #[.int .i64 0, .slice none 0 0]) ?_ 0 _ rfl; (with_reducible repeat (first | refine blk_drewN ?_ _ | refine blk_drew ?_ | refine blk_alloc ?_ _)); exact BK914.out) Try.underlying31 rfl (by kernel_rfl)) rfl ?_
    exact ⟨_, by first | rfl | (simp [errW_none, errW_some] <;> rfl) | (simp only [← hji11]; first | rfl | (simp [errW_none, errW_some] <;> rfl)) | (simp [*, errW_none, errW_some] <;> rfl), uR (Kd.R_mono (Kd.R_far (p := ⟨gb914, 1, none⟩) (Kd.R_far (p := ⟨gb914, 0, none⟩) (Kd.R_types HO_916001.out BK914.out (by decide)) (fun _ hk => hk.2) (.int .i64 a0_0)) (fun _ hk => hk.2) (.slice Ao32 x916001_1.length co32)) (fun _ hk => trivial)), uH HB.out⟩

end Go.Proofs.Ytokkabgkjhpecaa.Pr
/- Printed by a program of this session out of the translation: what these functions of the program compute, under the conditions that each theorem names. -/
namespace Go.Proofs.Ytokkabgkjhpecaa.Pr
open Go.RowKit Go.Proofs.YtokkabgkjhpecaaW.PrintWords Go.Proofs.YtokkabgkjhpecaaW.PrintLast Go.Proofs.YtokkabgkjhpecaaW.PrintMore
attribute [local go_sem] max2_int min2_int max_two min_two max_three min_three max_four min_four   -- for this text's walks alone
set_option linter.unusedVariables false
set_option linter.unusedSimpArgs false

/-! ### impl_ProductMoments_1: function 94 -/
def impl_ProductMoments_1.f (a0_0 : Int) (l0_1 : List Int) (l1_0 : List Int) : Option (Bool) := (impl_Moments_isShort.f a0_0 l0_1 l1_0).bind fun t912 => (some t912)
set_option maxHeartbeats 8000000 in
set_option maxRecDepth 100000 in
theorem impl_ProductMoments_1.calls (gc0 : Nat) (a0_0 : Int) (A0_1 : Option Addr) (c0_1 : Nat) (l0_1 : List Int) (gc1 : Nat) (A1_0 : Option Addr) (c1_0 : Nat) (l1_0 : List Int) (r : Bool) (w : World) (hb0 : w.heap[gc0]? = some (.cells #[.int .i64 a0_0, .slice A0_1 l0_1.length c0_1] 31 (0, 0))) (hr0_1 : Kd.C (Kd.int .i64) w A0_1 l0_1.length l0_1) (hc0_1 : l0_1.length ≤ c0_1) (hb1 : w.heap[gc1]? = some (.cells #[.slice A1_0 l1_0.length c1_0] 22 (0, 0))) (hr1_0 : Kd.C (Kd.int .i64) w A1_0 l1_0.length l1_0) (hc1_0 : l1_0.length ≤ c1_0) (h : impl_ProductMoments_1.f a0_0 l0_1 l1_0 = some r) :
  Calls Try.prog 94 #[.pointer (some ⟨gc0, 0, none⟩), .pointer (some ⟨gc1, 0, none⟩)] w fun e w' => e = .returned (.bool r) ∧ Below w.heap.size w w' := by
 have hu31 := Try.underlying31
 have HR0_1 := zA hr0_1
 have HC0_1 := zA hc0_1
 clear hr0_1 hc0_1
 have HR1_0 := zA hr1_0
 have HC1_0 := zA hc1_0
 clear hr1_0 hc1_0
 have BK0 := zA hb0
 clear hb0
 have BK1 := zA hb1
 clear hb1
 have HB := zA (Below.refl w.heap.size w)
 have H : ((impl_Moments_isShort.f a0_0 l0_1 l1_0).bind fun t912 => (some t912)) = some r := h
 clear h
 replace H := Option.bind_eq_some_iff.mp H
 obtain ⟨t912, A30, H⟩ := H
 replace H : (some t912) = some r := H
 have A3 := zA A30
 clear A30
 obtain rfl := Option.some.inj H
 have hcz4_0 : w.cell? ⟨gc0, 0, none⟩ = some (.int .i64 a0_0) := (blk_cell BK0.out 0).trans rfl
 have hcz4_1 : w.cell? ⟨gc0, 1, none⟩ = some (.slice A0_1 l0_1.length c0_1) := (blk_cell BK0.out 1).trans rfl
 have hfz4_0 := blk_frozen BK0.out 0
 have hfz4_1 := blk_frozen BK0.out 1
 have hcz5_0 : w.cell? ⟨gc1, 0, none⟩ = some (.slice A1_0 l1_0.length c1_0) := (blk_cell BK1.out 0).trans rfl
 have hfz5_0 := blk_frozen BK1.out 0
 go_enter Try.func94, Try.ntmps94
 go_wp2_with (first | ((with_reducible refine gate_callee (f := 65) rfl ?_); refine goesL_ (some 5) rfl rfl Try.func65 (by kernel_rfl) rfl #[.agg #[.int .i64 a0_0, .slice A0_1 l0_1.length c0_1], .slice A1_0 l1_0.length c1_0] rfl (by (try simp only [la, lb, lc]); first | done | rfl | (simp only [ld, le]; rfl)) ?_; (with_reducible refine (impl_Moments_isShort.calls a0_0 _ _ l0_1 _ _ l1_0 t912 _ ?side1 ?side2 ?side3 ?side4 A3.out).mono ?_); (case side1 => exact uC HR0_1.out); (case side2 => exact HC0_1.out); (case side3 => exact uC HR1_0.out); (case side4 => exact HC1_0.out); rintro e w6 ⟨rfl, hb⟩; refine ⟨_, rfl, ?_⟩; have n0_ := xB BK0 hb; have n1_ := xB BK1 hb; have n2_ := xH HB hb; clear BK0 BK1 HB; have BK0 := n0_; have BK1 := n1_; have HB := n2_; clear n0_ n1_ n2_; (try clear hb); (try clear hb2); (try clear hk); (try clear hi)))
 go_ret
 exact ⟨by first | rfl | (simp [errW_none, errW_some] <;> rfl) | (simp [*, errW_none, errW_some] <;> rfl), uH HB.out⟩

end Go.Proofs.Ytokkabgkjhpecaa.Pr
/- Printed by a program of this session out of the translation: what these functions of the program compute, under the conditions that each theorem names. -/
namespace Go.Proofs.Ytokkabgkjhpecaa.Pr
open Go.RowKit Go.Proofs.YtokkabgkjhpecaaW.PrintWords Go.Proofs.YtokkabgkjhpecaaW.PrintLast Go.Proofs.YtokkabgkjhpecaaW.PrintMore
attribute [local go_sem] max2_int min2_int max_two min_two max_three min_three max_four min_four   -- for this text's walks alone
set_option linter.unusedVariables false
set_option linter.unusedSimpArgs false

/-! ### impl_ProductMoments: function 39 -/
def impl_ProductMoments.f (k : Nat) (a0_0 : Int) (l0_1 : List Int) (l1 : List Int) : Option (Int × List Int × Int) := (impl_ProductMoments_1.f a0_0 l0_1 l1).bind fun t924 => ((impl_momentsCode.f k a0_0 l0_1 t924 (([l1] : List (List Int)))).bind fun t928 => (if t928 = 0 then ((impl_Moments_product.f k a0_0 l0_1 l1).bind fun bt929 => (some (bt929.1, bt929.2, 0))) else (some (0, ([] : List Int), t928))))
theorem impl_ProductMoments.mono : ∀ a0 a1 a2 k, LeO (impl_ProductMoments.f k a0 a1 a2) (impl_ProductMoments.f (k + 1) a0 a1 a2) := by
 intro a0 a1 a2 k
 unfold impl_ProductMoments.f
 repeat' first
   | (with_reducible exact impl_Moments_product.mono _ _ _ _)
   | (with_reducible exact impl_momentsCode.mono _ _ _ _ _)
   | (with_reducible exact LeO.refl _)
   | (with_reducible exact LeO.none _)
   | (with_reducible refine LeO.ite ?_ ?_)
   | (with_reducible refine LeO.bind ?_ (fun _ => ?_))
   | exact impl_Moments_product.mono _ _ _ _
   | exact impl_momentsCode.mono _ _ _ _ _
   | exact LeO.none _
   | refine LeO.ite ?_ ?_
   | refine LeO.bind ?_ (fun _ => ?_)
set_option maxHeartbeats 8000000 in
set_option maxRecDepth 100000 in
theorem impl_ProductMoments.calls (k : Nat) (a0_0 : Int) (A0_1 : Option Addr) (c0_1 : Nat) (l0_1 : List Int) (P1_ : Nat → Prop) (A1 : Option Addr) (c1 : Nat) (l1 : List Int) (r1 : Int) (r2 : List Int) (r3 : Int) (w : World) (hr0_1 : Kd.C (Kd.int .i64) w A0_1 l0_1.length l0_1) (hc0_1 : l0_1.length ≤ c0_1) (hs1 : Kd.V (Kd.int .i64) 2 w w.heap.size (fun k_ => P1_ k_) (.slice A1 l1.length c1) l1) (h : impl_ProductMoments.f k a0_0 l0_1 l1 = some (r1, r2, r3)) :
  Calls Try.prog 39 #[.agg #[.int .i64 a0_0, .slice A0_1 l0_1.length c0_1], .slice A1 l1.length c1] w fun e w' => ∃ v1_ : Value, e = .returned (.tuple #[.agg #[.int .i64 r1, v1_], .int .i64 r3]) ∧ Kd.R (Kd.int .i64) 2 w' w.heap.size (fun k_ => (w.heap.size ≤ k_)) v1_ r2 ∧ Below w.heap.size w w' := by
 have hu31 := Try.underlying31
 have hmf : ∀ (fn_ : Fn) (first_ cap_ : Array Value) (w_ : World), (Instr.makeFunc fn_ first_ cap_).run Try.prog w_ = .ok (.func fn_ first_ cap_) w_ := fun _ _ _ _ => rfl
 have HR0_1 := zA hr0_1
 have HC0_1 := zA hc0_1
 clear hr0_1 hc0_1
 have HO1 := zA (show Kd.V (Kd.int .i64) 2 w w.heap.size (fun k_ => (P1_ k_ ∨ w.heap.size ≤ k_)) (.slice A1 l1.length c1) l1 from Kd.V_mono hs1 (fun k_ hk => .inl hk))
 have HB := zA (Below.refl w.heap.size w)
 have H : ((impl_ProductMoments_1.f a0_0 l0_1 l1).bind fun t924 => ((impl_momentsCode.f k a0_0 l0_1 t924 (([l1] : List (List Int)))).bind fun t928 => (if t928 = 0 then ((impl_Moments_product.f k a0_0 l0_1 l1).bind fun bt929 => (some (bt929.1, bt929.2, 0))) else (some (0, ([] : List Int), t928))))) = some (r1, r2, r3) := h
 clear h
 replace H := Option.bind_eq_some_iff.mp H
 obtain ⟨t924, A30, H⟩ := H
 replace H : ((impl_momentsCode.f k a0_0 l0_1 t924 (([l1] : List (List Int)))).bind fun t928 => (if t928 = 0 then ((impl_Moments_product.f k a0_0 l0_1 l1).bind fun bt929 => (some (bt929.1, bt929.2, 0))) else (some (0, ([] : List Int), t928)))) = some (r1, r2, r3) := H
 have A3 := zA A30
 clear A30
 obtain ⟨y925, hy925⟩ : ∃ y_ : List (List Int), y_ = (([l1] : List (List Int))) := ⟨_, rfl⟩
 replace H : ((impl_momentsCode.f k a0_0 l0_1 t924 y925).bind fun t928 => (if t928 = 0 then ((impl_Moments_product.f k a0_0 l0_1 l1).bind fun bt929 => (some (bt929.1, bt929.2, 0))) else (some (0, ([] : List Int), t928)))) = some (r1, r2, r3) := by first | (rw [hy925]; with_reducible exact H) | (have H2_ := (Option.bind_some _ _).symm.trans H; rw [hy925]; with_reducible exact H2_) | (have H2_ := (Option.bind_some _ _).symm.trans H; with_reducible exact H2_) | with_reducible exact H | (rw [hy925]; exact H) | exact H
 have Ny925 := zA hy925
 clear hy925
 replace H := Option.bind_eq_some_iff.mp H
 obtain ⟨t928, A40, H⟩ := H
 replace H : (if t928 = 0 then ((impl_Moments_product.f k a0_0 l0_1 l1).bind fun bt929 => (some (bt929.1, bt929.2, 0))) else (some (0, ([] : List Int), t928))) = some (r1, r2, r3) := H
 have A4 := zA A40
 clear A40
 by_cases c5 : t928 = 0
 ·rw [if_pos c5] at H
  have c5b0 : (t928 == 0) = true := beq_iff_eq.mpr c5
  have c5b1 : (t928 != 0) = false := bne_eq_false_iff_eq.mpr c5
  clear c5
  replace H := Option.bind_eq_some_iff.mp H
  obtain ⟨⟨t929, t930⟩, A60, H⟩ := H
  replace H : (some (t929, t930, 0)) = some (r1, r2, r3) := H
  have A6 := zA A60
  clear A60
  simp only [Option.some.injEq, Prod.mk.injEq] at H
  obtain ⟨rfl, rfl, rfl⟩ := H
  go_enter Try.func39, Try.ntmps39
  go_wp2_with (first | ((with_reducible refine gate_dst (N := 2) rfl ?_); refine box_event ?hg (N := 2) ?hd (cs := #[.int .i64 a0_0, .slice A0_1 l0_1.length c0_1]) (t := 31) ?hr ?_; (case hd => rfl); (case hg => rfl); (case hr => first | (go_simp; done) | (go_simp; rfl)); intro gb921 hg w7 hbox hb; have n0_ := zA (Kd.V_below (Kd.V_elderB (by (with_reducible repeat (first | apply Kd.V_alloc | apply Kd.V_drewN | apply Kd.V_drew)); exact HO1.out) gb921 (Nat.le_of_eq hg.symm)) hb); have n1_ := xH HB hb; have n2_ := zA (hbox); have n3_ := zA ((by rw [hg]; exact (below_size (uH HB.out)) : w.heap.size ≤ gb921)); have n4_ := zA ((by rw [hg]; exact (below_size (uH HB.out)) : w.heap.size ≤ gb921)); clear HO1 HB; have HO1 := n0_; have HB := n1_; have BK921 := n2_; have GW921 := n3_; have GE921 := n4_; have := geI GE921; clear n0_ n1_ n2_ n3_ n4_ hb hbox hg) | ((with_reducible refine gate_dst (N := 3) rfl ?_); refine box_event ?hg (N := 3) ?hd (cs := #[.slice A1 l1.length c1]) (t := 22) ?hr ?_; (case hd => rfl); (case hg => rfl); (case hr => first | (go_simp; done) | (go_simp; rfl)); intro gb922 hg w8 hbox hb; have n0_ := zA (Kd.V_below (Kd.V_elderB (by (with_reducible repeat (first | apply Kd.V_alloc | apply Kd.V_drewN | apply Kd.V_drew)); exact HO1.out) gb922 (Nat.le_of_eq hg.symm)) hb); have n1_ := xB BK921 hb; have n2_ := xH HB hb; have n3_ := zA (hbox); have n4_ := zA ((by rw [hg]; exact (below_size (uH HB.out)) : w.heap.size ≤ gb922)); have n5_ := zA ((by rw [hg]; exact (below_size (uH HB.out)) : w.heap.size ≤ gb922)); have n6_ := zA ((by rw [hg]; exact neL BK921 : gb921 ≠ gb922)); have n7_ := zA ((by rw [hg]; exact neG BK921 : gb922 ≠ gb921)); clear HO1 BK921 HB; have HO1 := n0_; have BK921 := n1_; have HB := n2_; have BK922 := n3_; have GW922 := n4_; have GE922 := n5_; have := geI GE922; have NB921_922 := n6_; have NB922_921 := n7_; clear n0_ n1_ n2_ n3_ n4_ n5_ n6_ n7_ hb hbox hg) | ((with_reducible refine gate_dst (N := 4) rfl ?_); refine box_event ?hg (N := 4) ?hd (cs := #[.int .i64 0, .slice none 0 0]) (t := 31) ?hr ?_; (case hd => rfl); (case hg => rfl); (case hr => first | (go_simp; done) | (go_simp; rfl)); intro gb923 hg w9 hbox hb; have n0_ := zA (Kd.V_below (Kd.V_elderB (by (with_reducible repeat (first | apply Kd.V_alloc | apply Kd.V_drewN | apply Kd.V_drew)); exact HO1.out) gb923 (Nat.le_of_eq hg.symm)) hb); have n1_ := xB BK921 hb; have n2_ := xB BK922 hb; have n3_ := xH HB hb; have n4_ := zA (hbox); have n5_ := zA ((by rw [hg]; exact (below_size (uH HB.out)) : w.heap.size ≤ gb923)); have n6_ := zA ((by rw [hg]; exact (below_size (uH HB.out)) : w.heap.size ≤ gb923)); have n7_ := zA ((by rw [hg]; exact neL BK921 : gb921 ≠ gb923)); have n8_ := zA ((by rw [hg]; exact neG BK921 : gb923 ≠ gb921)); have n9_ := zA ((by rw [hg]; exact neL BK922 : gb922 ≠ gb923)); have n10_ := zA ((by rw [hg]; exact neG BK922 : gb923 ≠ gb922)); clear HO1 BK921 BK922 HB; have HO1 := n0_; have BK921 := n1_; have BK922 := n2_; have HB := n3_; have BK923 := n4_; have GW923 := n5_; have GE923 := n6_; have := geI GE923; have NB921_923 := n7_; have NB923_921 := n8_; have NB922_923 := n9_; have NB923_922 := n10_; clear n0_ n1_ n2_ n3_ n4_ n5_ n6_ n7_ n8_ n9_ n10_ hb hbox hg; have hnb10 := NB921_922.out; have hnc10 := NB922_921.out; have hnb11 := NB921_923.out; have hnc11 := NB923_921.out; have hcz12_0 : w9.cell? ⟨gb921, 0, none⟩ = some (.int .i64 a0_0) := (blk_cell BK921.out 0).trans rfl; have hcz12_1 : w9.cell? ⟨gb921, 1, none⟩ = some (.slice A0_1 l0_1.length c0_1) := (blk_cell BK921.out 1).trans rfl; have hfz12_0 := blk_frozen BK921.out 0; have hfz12_1 := blk_frozen BK921.out 1; have hnb13 := NB922_923.out; have hnc13 := NB923_922.out; have hcz14_0 : w9.cell? ⟨gb922, 0, none⟩ = some (.slice A1 l1.length c1) := (blk_cell BK922.out 0).trans rfl; have hfz14_0 := blk_frozen BK922.out 0) | ((with_reducible refine gate_dst (N := 10) rfl ?_); refine Kd.N_lit (Kd.slice 2 (Kd.int .i64)) _ 22 ?hg (N' := 10) ?hd (xs := ([l1] : List (List Int))) (inner := [.slice A1 l1.length c1]) (ok := (fun k_ => (P1_ k_ ∨ w.heap.size ≤ k_) ∧ k_ ≠ gb921 ∧ k_ ≠ gb922 ∧ k_ ≠ gb923)) (okp := (fun k_ => (P1_ k_ ∨ w.heap.size ≤ k_) ∧ k_ ≠ gb921 ∧ k_ ≠ gb922 ∧ k_ ≠ gb923)) ?hr ?hp (fun _ hk => hk) ((show ∀ k_, w9.heap.size ≤ k_ → (fun k_ => (P1_ k_ ∨ w.heap.size ≤ k_) ∧ k_ ≠ gb921 ∧ k_ ≠ gb922 ∧ k_ ≠ gb923) k_ from fun k_ hk => ⟨(.inr (Nat.le_trans (below_size (uH HB.out)) hk)), Kd.freshB (g := gb921) (o := .cells #[.int .i64 a0_0, .slice A0_1 l0_1.length c0_1] 31 (0, 0)) (uB BK921.out) k_ hk, Kd.freshB (g := gb922) (o := .cells #[.slice A1 l1.length c1] 22 (0, 0)) (uB BK922.out) k_ hk, Kd.freshB (g := gb923) (o := .cells #[.int .i64 0, .slice none 0 0] 31 (0, 0)) (uB BK923.out) k_ hk⟩) _ (Nat.le_refl _)) (Below.refl _ _) (Nat.le_refl _) (by simp) ?_; (case hd => rfl); (case hg => rfl); (case hr => first | (go_simp; done) | (go_simp; rfl)); (case hp => exact (Reps.one (show Kd.FK (Kd.slice 2 (Kd.int .i64)) _ _ l1 [.slice A1 l1.length c1] from (Kd.FK_slice_mk (Kd.V_reads' (Kd.V_mono (ok' := (fun k_ => (P1_ k_ ∨ w.heap.size ≤ k_) ∧ k_ ≠ gb921 ∧ k_ ≠ gb922 ∧ k_ ≠ gb923)) (HO1.out) (fun k_ hk => ⟨hk.1.1.1, ⟨hk.1.1.2, ⟨hk.1.2, hk.2⟩⟩⟩))).2.1 (Kd.V_F (Kd.V_mono (ok' := (fun k_ => (P1_ k_ ∨ w.heap.size ≤ k_) ∧ k_ ≠ gb921 ∧ k_ ≠ gb922 ∧ k_ ≠ gb923)) (HO1.out) (fun k_ hk => ⟨hk.1.1.1, ⟨hk.1.1.2, ⟨hk.1.2, hk.2⟩⟩⟩))))) (Reps.none _ _))); intro v926 w15 ho16 hb hg_ hnew_; clear hg_ hnew_; (first | rw [← Ny925.out] at ho16 | (simp only [Int.reduceToNat] at ho16; rw [← Ny925.out] at ho16)); have n0_ := zA (Kd.V_elder' (by (with_reducible repeat (first | apply Kd.V_alloc | apply Kd.V_drewN | apply Kd.V_drew)); exact HO1.out) (Kd.N_base ho16) hb); have n1_ := zA (Kd.N_lower ho16 (below_size (uH HB.out))); have n2_ := xB BK921 hb; have n3_ := xB BK922 hb; have n4_ := xB BK923 hb; have n5_ := xH HB hb; clear HO1 BK921 BK922 BK923 HB; have HO1 := n0_; have HO927 := n1_; have BK921 := n2_; have BK922 := n3_; have BK923 := n4_; have HB := n5_; clear n0_ n1_ n2_ n3_ n4_ n5_ hb ho16; obtain ⟨Ao17, co17, eo17⟩ := Kd.N_slice HO927.out; subst eo17) | ((with_reducible refine gate_callee (f := 93) rfl ?_); refine goesL_ (some 11) rfl rfl Try.func93 (by kernel_rfl) rfl #[.agg #[.int .i64 a0_0, .slice A0_1 l0_1.length c0_1], (.func (.func 94) #[] #[.pointer (some ⟨gb921, 0, none⟩), .pointer (some ⟨gb922, 0, none⟩)]), .slice Ao17 y925.length co17] rfl (by (try simp only [la, lb, lc]); first | done | rfl | (simp only [ld, le]; rfl)) ?_; (with_reducible refine (impl_momentsCode.calls k a0_0 _ _ l0_1 _ t924 _ _ y925 t928 _ ?side1 ?side2 ?side3 ?side4 ?side5 A4.out).mono ?_); (case side1 => exact uC ((Kd.C_below HR0_1.out HB.out))); (case side2 => exact HC0_1.out); (case side3 => exact FnB.of Try.func94 (by kernel_rfl) rfl (fun W_ hW_ => calls_of_args (args' := #[.pointer (some ⟨gb921, 0, none⟩), .pointer (some ⟨gb922, 0, none⟩)]) (by simp) ((impl_ProductMoments_1.calls _ a0_0 _ _ l0_1 _ _ _ l1 _ W_ (blk_below (g := gb921) (o := .cells #[.int .i64 a0_0, .slice A0_1 l0_1.length c0_1] 31 (0, 0)) (uB BK921.out) hW_) (Kd.C_below (by exact uC ((Kd.C_below HR0_1.out HB.out))) hW_) (by exact HC0_1.out) (blk_below (g := gb922) (o := .cells #[.slice A1 l1.length c1] 22 (0, 0)) (uB BK922.out) hW_) (Kd.C_below (by exact uC ((Kd.V_reads' HO1.out).2.2)) hW_) (by exact (Kd.V_reads' HO1.out).2.1) A3.out).mono fun e_ W2_ h_ => ⟨h_.1, h_.2⟩))); (case side4 => exact uC ((Kd.N_reads' HO927.out).2.2)); (case side5 => exact (Kd.N_reads' HO927.out).2.1); rintro e w18 ⟨rfl, hb⟩; refine ⟨_, rfl, ?_⟩; have n0_ := zA (Kd.V_below (by (with_reducible repeat (first | apply Kd.V_alloc | apply Kd.V_drewN | apply Kd.V_drew)); exact HO1.out) hb); have n1_ := zA (Kd.N_below (by (with_reducible repeat (first | apply Kd.N_alloc | apply Kd.N_drewN | apply Kd.N_drew)); exact HO927.out) hb); have n2_ := xB BK921 hb; have n3_ := xB BK922 hb; have n4_ := xB BK923 hb; have n5_ := xH HB hb; clear HO1 HO927 BK921 BK922 BK923 HB; have HO1 := n0_; have HO927 := n1_; have BK921 := n2_; have BK922 := n3_; have BK923 := n4_; have HB := n5_; clear n0_ n1_ n2_ n3_ n4_ n5_; (try clear hb); (try clear hb2); (try clear hk); (try clear hi); have hcz19_0 : w18.cell? ⟨gb921, 0, none⟩ = some (.int .i64 a0_0) := (blk_cell BK921.out 0).trans rfl; have hcz19_1 : w18.cell? ⟨gb921, 1, none⟩ = some (.slice A0_1 l0_1.length c0_1) := (blk_cell BK921.out 1).trans rfl; have hfz19_0 := blk_frozen BK921.out 0; have hfz19_1 := blk_frozen BK921.out 1; have hcz20_0 : w18.cell? ⟨gb922, 0, none⟩ = some (.slice A1 l1.length c1) := (blk_cell BK922.out 0).trans rfl; have hfz20_0 := blk_frozen BK922.out 0) | ((with_reducible refine gate_callee (f := 95) rfl ?_); refine goesL_ (some 18) rfl rfl Try.func95 (by kernel_rfl) rfl #[.agg #[.int .i64 a0_0, .slice A0_1 l0_1.length c0_1], .slice A1 l1.length c1] rfl (by (try simp only [la, lb, lc]); first | done | rfl | (simp only [ld, le]; rfl)) ?_; (with_reducible refine (impl_Moments_product.calls k a0_0 _ _ l0_1 _ _ l1 t929 t930 _ ?side1 ?side2 ?side3 ?side4 A6.out).mono ?_); (case side1 => exact uC ((Kd.C_below HR0_1.out HB.out))); (case side2 => exact HC0_1.out); (case side3 => exact uC ((Kd.V_reads' HO1.out).2.2)); (case side4 => exact (Kd.V_reads' HO1.out).2.1); rintro e w21 ⟨v931, rfl, ho0, hb⟩; refine ⟨_, rfl, ?_⟩; have n0_ := zA (Kd.V_elder' (by (with_reducible repeat (first | apply Kd.V_alloc | apply Kd.V_drewN | apply Kd.V_drew)); exact HO1.out) (Kd.R_base ho0) hb); have n1_ := zA (Kd.N_elder' (by (with_reducible repeat (first | apply Kd.N_alloc | apply Kd.N_drewN | apply Kd.N_drew)); exact HO927.out) (Kd.R_base ho0) hb); have n2_ := zA (Kd.R_lower (Kd.R_newM (M := fun k_ => (w.heap.size ≤ k_)) ho0 (below_size (uH HB.out)) (fun k_ h_ => h_)) (below_size (uH HB.out))); have n3_ := xB BK921 hb; have n4_ := xB BK922 hb; have n5_ := xB BK923 hb; have n6_ := xH HB hb; clear HO1 HO927 BK921 BK922 BK923 HB; have HO1 := n0_; have HO927 := n1_; have HO932 := n2_; have BK921 := n3_; have BK922 := n4_; have BK923 := n5_; have HB := n6_; clear n0_ n1_ n2_ n3_ n4_ n5_ n6_; (try clear hb); (try clear hb2); (try clear hk); (try clear hi); (try clear ho0); have hcz22_0 : w21.cell? ⟨gb923, 0, none⟩ = some (.int .i64 0) := (blk_cell BK923.out 0).trans rfl; have hcz22_1 : w21.cell? ⟨gb923, 1, none⟩ = some (.slice none 0 0) := (blk_cell BK923.out 1).trans rfl; have hfz22_0 := blk_frozen BK923.out 0; have hfz22_1 := blk_frozen BK923.out 1; obtain ⟨Ao23, co23, eo23⟩ := Kd.R_slice HO932.out; subst eo23))
  refine bodyPost_ret (results_ct rfl _ _ gb923 31 #[.int .i64 t929, .slice Ao23 t930.length co23] (0, 0) _ rfl (by (with_reducible repeat (first | refine blk_drewN ?_ _ | refine blk_drew ?_ | refine blk_alloc ?_ _)); refine blk_put (cs := #[.int .i64 t929, .slice none 0 0]) ?_ 1 _ rfl; (with_reducible repeat (first | refine blk_drewN ?_ _ | refine blk_drew ?_ | refine blk_alloc ?_ _)); refine blk_put (cs := #[.int .i64 0, .slice none 0 0]) ?_ 0 _ rfl; (with_reducible repeat (first | refine blk_drewN ?_ _ | refine blk_drew ?_ | refine blk_alloc ?_ _)); exact BK923.out) Try.underlying31 rfl (by kernel_rfl)) rfl ?_
  exact ⟨_, by first | rfl | (simp [errW_none, errW_some] <;> rfl) | (simp [*, errW_none, errW_some] <;> rfl), uR (Kd.R_mono (Kd.R_far (p := ⟨gb923, 1, none⟩) (Kd.R_far (p := ⟨gb923, 0, none⟩) (Kd.R_types HO932.out BK923.out (by decide)) (fun _ hk => hk.2) (.int .i64 t929)) (fun _ hk => hk.2) (.slice Ao23 t930.length co23)) (fun _ hk => hk.1.1)), uH HB.out⟩
 ·rw [if_neg c5] at H
  have c5b0 : (t928 == 0) = false := beq_eq_false_iff_ne.mpr c5
  have c5b1 : (t928 != 0) = true := bne_iff_ne.mpr c5
  simp only [Option.some.injEq, Prod.mk.injEq] at H
  obtain ⟨rfl, rfl, rfl⟩ := H
  go_enter Try.func39, Try.ntmps39
  go_wp2_with (first | ((with_reducible refine gate_dst (N := 2) rfl ?_); refine box_event ?hg (N := 2) ?hd (cs := #[.int .i64 a0_0, .slice A0_1 l0_1.length c0_1]) (t := 31) ?hr ?_; (case hd => rfl); (case hg => rfl); (case hr => first | (go_simp; done) | (go_simp; rfl)); intro gb921 hg w24 hbox hb; have n0_ := zA (Kd.V_below (Kd.V_elderB (by (with_reducible repeat (first | apply Kd.V_alloc | apply Kd.V_drewN | apply Kd.V_drew)); exact HO1.out) gb921 (Nat.le_of_eq hg.symm)) hb); have n1_ := xH HB hb; have n2_ := zA (hbox); have n3_ := zA ((by rw [hg]; exact (below_size (uH HB.out)) : w.heap.size ≤ gb921)); have n4_ := zA ((by rw [hg]; exact (below_size (uH HB.out)) : w.heap.size ≤ gb921)); clear HO1 HB; have HO1 := n0_; have HB := n1_; have BK921 := n2_; have GW921 := n3_; have GE921 := n4_; have := geI GE921; clear n0_ n1_ n2_ n3_ n4_ hb hbox hg) | ((with_reducible refine gate_dst (N := 3) rfl ?_); refine box_event ?hg (N := 3) ?hd (cs := #[.slice A1 l1.length c1]) (t := 22) ?hr ?_; (case hd => rfl); (case hg => rfl); (case hr => first | (go_simp; done) | (go_simp; rfl)); intro gb922 hg w25 hbox hb; have n0_ := zA (Kd.V_below (Kd.V_elderB (by (with_reducible repeat (first | apply Kd.V_alloc | apply Kd.V_drewN | apply Kd.V_drew)); exact HO1.out) gb922 (Nat.le_of_eq hg.symm)) hb); have n1_ := xB BK921 hb; have n2_ := xH HB hb; have n3_ := zA (hbox); have n4_ := zA ((by rw [hg]; exact (below_size (uH HB.out)) : w.heap.size ≤ gb922)); have n5_ := zA ((by rw [hg]; exact (below_size (uH HB.out)) : w.heap.size ≤ gb922)); have n6_ := zA ((by rw [hg]; exact neL BK921 : gb921 ≠ gb922)); have n7_ := zA ((by rw [hg]; exact neG BK921 : gb922 ≠ gb921)); clear HO1 BK921 HB; have HO1 := n0_; have BK921 := n1_; have HB := n2_; have BK922 := n3_; have GW922 := n4_; have GE922 := n5_; have := geI GE922; have NB921_922 := n6_; have NB922_921 := n7_; clear n0_ n1_ n2_ n3_ n4_ n5_ n6_ n7_ hb hbox hg) | ((with_reducible refine gate_dst (N := 4) rfl ?_); refine box_event ?hg (N := 4) ?hd (cs := #[.int .i64 0, .slice none 0 0]) (t := 31) ?hr ?_; (case hd => rfl); (case hg => rfl); (case hr => first | (go_simp; done) | (go_simp; rfl)); intro gb923 hg w26 hbox hb; have n0_ := zA (Kd.V_below (Kd.V_elderB (by (with_reducible repeat (first | apply Kd.V_alloc | apply Kd.V_drewN | apply Kd.V_drew)); exact HO1.out) gb923 (Nat.le_of_eq hg.symm)) hb); have n1_ := xB BK921 hb; have n2_ := xB BK922 hb; have n3_ := xH HB hb; have n4_ := zA (hbox); have n5_ := zA ((by rw [hg]; exact (below_size (uH HB.out)) : w.heap.size ≤ gb923)); have n6_ := zA ((by rw [hg]; exact (below_size (uH HB.out)) : w.heap.size ≤ gb923)); have n7_ := zA ((by rw [hg]; exact neL BK921 : gb921 ≠ gb923)); have n8_ := zA ((by rw [hg]; exact neG BK921 : gb923 ≠ gb921)); have n9_ := zA ((by rw [hg]; exact neL BK922 : gb922 ≠ gb923)); have n10_ := zA ((by rw [hg]; exact neG BK922 : gb923 ≠ gb922)); clear HO1 BK921 BK922 HB; have HO1 := n0_; have BK921 := n1_; have BK922 := n2_; have HB := n3_; have BK923 := n4_; have GW923 := n5_; have GE923 := n6_; have := geI GE923; have NB921_923 := n7_; have NB923_921 := n8_; have NB922_923 := n9_; have NB923_922 := n10_; clear n0_ n1_ n2_ n3_ n4_ n5_ n6_ n7_ n8_ n9_ n10_ hb hbox hg; have hnb27 := NB921_922.out; have hnc27 := NB922_921.out; have hnb28 := NB921_923.out; have hnc28 := NB923_921.out; have hcz29_0 : w26.cell? ⟨gb921, 0, none⟩ = some (.int .i64 a0_0) := (blk_cell BK921.out 0).trans rfl; have hcz29_1 : w26.cell? ⟨gb921, 1, none⟩ = some (.slice A0_1 l0_1.length c0_1) := (blk_cell BK921.out 1).trans rfl; have hfz29_0 := blk_frozen BK921.out 0; have hfz29_1 := blk_frozen BK921.out 1; have hnb30 := NB922_923.out; have hnc30 := NB923_922.out; have hcz31_0 : w26.cell? ⟨gb922, 0, none⟩ = some (.slice A1 l1.length c1) := (blk_cell BK922.out 0).trans rfl; have hfz31_0 := blk_frozen BK922.out 0) | ((with_reducible refine gate_dst (N := 10) rfl ?_); refine Kd.N_lit (Kd.slice 2 (Kd.int .i64)) _ 22 ?hg (N' := 10) ?hd (xs := ([l1] : List (List Int))) (inner := [.slice A1 l1.length c1]) (ok := (fun k_ => (P1_ k_ ∨ w.heap.size ≤ k_) ∧ k_ ≠ gb921 ∧ k_ ≠ gb922 ∧ k_ ≠ gb923)) (okp := (fun k_ => (P1_ k_ ∨ w.heap.size ≤ k_) ∧ k_ ≠ gb921 ∧ k_ ≠ gb922 ∧ k_ ≠ gb923)) ?hr ?hp (fun _ hk => hk) ((show ∀ k_, w26.heap.size ≤ k_ → (fun k_ => (P1_ k_ ∨ w.heap.size ≤ k_) ∧ k_ ≠ gb921 ∧ k_ ≠ gb922 ∧ k_ ≠ gb923) k_ from fun k_ hk => ⟨(.inr (Nat.le_trans (below_size (uH HB.out)) hk)), Kd.freshB (g := gb921) (o := .cells #[.int .i64 a0_0, .slice A0_1 l0_1.length c0_1] 31 (0, 0)) (uB BK921.out) k_ hk, Kd.freshB (g := gb922) (o := .cells #[.slice A1 l1.length c1] 22 (0, 0)) (uB BK922.out) k_ hk, Kd.freshB (g := gb923) (o := .cells #[.int .i64 0, .slice none 0 0] 31 (0, 0)) (uB BK923.out) k_ hk⟩) _ (Nat.le_refl _)) (Below.refl _ _) (Nat.le_refl _) (by simp) ?_; (case hd => rfl); (case hg => rfl); (case hr => first | (go_simp; done) | (go_simp; rfl)); (case hp => exact (Reps.one (show Kd.FK (Kd.slice 2 (Kd.int .i64)) _ _ l1 [.slice A1 l1.length c1] from (Kd.FK_slice_mk (Kd.V_reads' (Kd.V_mono (ok' := (fun k_ => (P1_ k_ ∨ w.heap.size ≤ k_) ∧ k_ ≠ gb921 ∧ k_ ≠ gb922 ∧ k_ ≠ gb923)) (HO1.out) (fun k_ hk => ⟨hk.1.1.1, ⟨hk.1.1.2, ⟨hk.1.2, hk.2⟩⟩⟩))).2.1 (Kd.V_F (Kd.V_mono (ok' := (fun k_ => (P1_ k_ ∨ w.heap.size ≤ k_) ∧ k_ ≠ gb921 ∧ k_ ≠ gb922 ∧ k_ ≠ gb923)) (HO1.out) (fun k_ hk => ⟨hk.1.1.1, ⟨hk.1.1.2, ⟨hk.1.2, hk.2⟩⟩⟩))))) (Reps.none _ _))); intro v926 w32 ho33 hb hg_ hnew_; clear hg_ hnew_; (first | rw [← Ny925.out] at ho33 | (simp only [Int.reduceToNat] at ho33; rw [← Ny925.out] at ho33)); have n0_ := zA (Kd.V_elder' (by (with_reducible repeat (first | apply Kd.V_alloc | apply Kd.V_drewN | apply Kd.V_drew)); exact HO1.out) (Kd.N_base ho33) hb); have n1_ := zA (Kd.N_lower ho33 (below_size (uH HB.out))); have n2_ := xB BK921 hb; have n3_ := xB BK922 hb; have n4_ := xB BK923 hb; have n5_ := xH HB hb; clear HO1 BK921 BK922 BK923 HB; have HO1 := n0_; have HO927 := n1_; have BK921 := n2_; have BK922 := n3_; have BK923 := n4_; have HB := n5_; clear n0_ n1_ n2_ n3_ n4_ n5_ hb ho33; obtain ⟨Ao34, co34, eo34⟩ := Kd.N_slice HO927.out; subst eo34) | ((with_reducible refine gate_callee (f := 93) rfl ?_); refine goesL_ (some 11) rfl rfl Try.func93 (by kernel_rfl) rfl #[.agg #[.int .i64 a0_0, .slice A0_1 l0_1.length c0_1], (.func (.func 94) #[] #[.pointer (some ⟨gb921, 0, none⟩), .pointer (some ⟨gb922, 0, none⟩)]), .slice Ao34 y925.length co34] rfl (by (try simp only [la, lb, lc]); first | done | rfl | (simp only [ld, le]; rfl)) ?_; (with_reducible refine (impl_momentsCode.calls k a0_0 _ _ l0_1 _ t924 _ _ y925 t928 _ ?side1 ?side2 ?side3 ?side4 ?side5 A4.out).mono ?_); (case side1 => exact uC ((Kd.C_below HR0_1.out HB.out))); (case side2 => exact HC0_1.out); (case side3 => exact FnB.of Try.func94 (by kernel_rfl) rfl (fun W_ hW_ => calls_of_args (args' := #[.pointer (some ⟨gb921, 0, none⟩), .pointer (some ⟨gb922, 0, none⟩)]) (by simp) ((impl_ProductMoments_1.calls _ a0_0 _ _ l0_1 _ _ _ l1 _ W_ (blk_below (g := gb921) (o := .cells #[.int .i64 a0_0, .slice A0_1 l0_1.length c0_1] 31 (0, 0)) (uB BK921.out) hW_) (Kd.C_below (by exact uC ((Kd.C_below HR0_1.out HB.out))) hW_) (by exact HC0_1.out) (blk_below (g := gb922) (o := .cells #[.slice A1 l1.length c1] 22 (0, 0)) (uB BK922.out) hW_) (Kd.C_below (by exact uC ((Kd.V_reads' HO1.out).2.2)) hW_) (by exact (Kd.V_reads' HO1.out).2.1) A3.out).mono fun e_ W2_ h_ => ⟨h_.1, h_.2⟩))); (case side4 => exact uC ((Kd.N_reads' HO927.out).2.2)); (case side5 => exact (Kd.N_reads' HO927.out).2.1); rintro e w35 ⟨rfl, hb⟩; refine ⟨_, rfl, ?_⟩; have n0_ := zA (Kd.V_below (by (with_reducible repeat (first | apply Kd.V_alloc | apply Kd.V_drewN | apply Kd.V_drew)); exact HO1.out) hb); have n1_ := zA (Kd.N_below (by (with_reducible repeat (first | apply Kd.N_alloc | apply Kd.N_drewN | apply Kd.N_drew)); exact HO927.out) hb); have n2_ := xB BK921 hb; have n3_ := xB BK922 hb; have n4_ := xB BK923 hb; have n5_ := xH HB hb; clear HO1 HO927 BK921 BK922 BK923 HB; have HO1 := n0_; have HO927 := n1_; have BK921 := n2_; have BK922 := n3_; have BK923 := n4_; have HB := n5_; clear n0_ n1_ n2_ n3_ n4_ n5_; (try clear hb); (try clear hb2); (try clear hk); (try clear hi); have hcz36_0 : w35.cell? ⟨gb923, 0, none⟩ = some (.int .i64 0) := (blk_cell BK923.out 0).trans rfl; have hcz36_1 : w35.cell? ⟨gb923, 1, none⟩ = some (.slice none 0 0) := (blk_cell BK923.out 1).trans rfl; have hfz36_0 := blk_frozen BK923.out 0; have hfz36_1 := blk_frozen BK923.out 1))
  refine bodyPost_ret (results_ct rfl _ _ gb923 31 #[.int .i64 0, .slice none 0 0] (0, 0) _ rfl (by (with_reducible repeat (first | refine blk_drewN ?_ _ | refine blk_drew ?_ | refine blk_alloc ?_ _)); refine blk_put (cs := #[.int .i64 0, .slice none 0 0]) ?_ 1 _ rfl; (with_reducible repeat (first | refine blk_drewN ?_ _ | refine blk_drew ?_ | refine blk_alloc ?_ _)); refine blk_put (cs := #[.int .i64 0, .slice none 0 0]) ?_ 0 _ rfl; (with_reducible repeat (first | refine blk_drewN ?_ _ | refine blk_drew ?_ | refine blk_alloc ?_ _)); exact BK923.out) Try.underlying31 rfl (by kernel_rfl)) rfl ?_
  exact ⟨_, by first | rfl | (simp [errW_none, errW_some] <;> rfl) | (simp [*, errW_none, errW_some] <;> rfl), by first | exact Kd.R_nil _ _ _ _ _ | exact Kd.N_nil _ _ _ _ _ | exact Kd.V_nil _ _ _ _ _ | exact Kd.Q_nil _ _ _ _ _ | exact Kd.S_nil _ _ _ _ _, uH HB.out⟩

end Go.Proofs.Ytokkabgkjhpecaa.Pr
/- Printed by a program of this session out of the translation: what these functions of the program compute, under the conditions that each theorem names. -/
namespace Go.Proofs.Ytokkabgkjhpecaa.Pr
open Go.RowKit Go.Proofs.YtokkabgkjhpecaaW.PrintWords Go.Proofs.YtokkabgkjhpecaaW.PrintLast Go.Proofs.YtokkabgkjhpecaaW.PrintMore
attribute [local go_sem] max2_int min2_int max_two min_two max_three min_three max_four min_four   -- for this text's walks alone
set_option linter.unusedVariables false
set_option linter.unusedSimpArgs false

/-! ### spec_l02Code: function 91 -/
def spec_l02Code.j0 : Nat → List Int → Bool → Int → List Int → Option (Int)
 | 0, _, _, _, _ => none
 | k + 1, x1, x5, x887000, x887001 => if x5 = true then (some 1) else (if (x1.length : Int) > (x887001.length : Int) then (some 2) else (some 0))
def spec_l02Code.f (k : Nat) (a0_0 : Int) (l0_1 : List Int) (l1 : List Int) : Option (Int) := (spec_l02Are.f k a0_0 l0_1).bind fun t887 => (if t887 = true then ((spec_l01Poly.f k a0_0 l1).bind fun t888 => (spec_l02Code.j0 k l1 (!t888) a0_0 l0_1)) else (spec_l02Code.j0 k l1 true a0_0 l0_1))
theorem spec_l02Code.mono_l : ∀ k, (∀ y0 y1 y2 y3, LeO (spec_l02Code.j0 k y0 y1 y2 y3) (spec_l02Code.j0 (k + 1) y0 y1 y2 y3))
 | 0 => fun _ _ _ _ r h => by simp [spec_l02Code.j0] at h
 | k + 1 => by
  have ih0 := spec_l02Code.mono_l k
  ·intro y0 y1 y2 y3
   unfold spec_l02Code.j0
   repeat' first
   | (with_reducible exact ih0 _ _ _ _)
   | (with_reducible exact spec_l01Poly.mono _ _ _)
   | (with_reducible exact spec_l02Are.mono _ _ _)
   | (with_reducible exact LeO.refl _)
   | (with_reducible exact LeO.none _)
   | (with_reducible refine LeO.ite ?_ ?_)
   | (with_reducible refine LeO.bind ?_ (fun _ => ?_))
   | exact ih0 _ _ _ _
   | exact spec_l01Poly.mono _ _ _
   | exact spec_l02Are.mono _ _ _
   | exact LeO.none _
   | refine LeO.ite ?_ ?_
   | refine LeO.bind ?_ (fun _ => ?_)
theorem spec_l02Code.mono : ∀ a0 a1 a2 k, LeO (spec_l02Code.f k a0 a1 a2) (spec_l02Code.f (k + 1) a0 a1 a2) := by
 intro a0 a1 a2 k
 have ih0 := spec_l02Code.mono_l k
 unfold spec_l02Code.f
 repeat' first
   | (with_reducible exact ih0 _ _ _ _)
   | (with_reducible exact spec_l01Poly.mono _ _ _)
   | (with_reducible exact spec_l02Are.mono _ _ _)
   | (with_reducible exact LeO.refl _)
   | (with_reducible exact LeO.none _)
   | (with_reducible refine LeO.ite ?_ ?_)
   | (with_reducible refine LeO.bind ?_ (fun _ => ?_))
   | exact ih0 _ _ _ _
   | exact spec_l01Poly.mono _ _ _
   | exact spec_l02Are.mono _ _ _
   | exact LeO.none _
   | refine LeO.ite ?_ ?_
   | refine LeO.bind ?_ (fun _ => ?_)
set_option maxHeartbeats 8000000 in
set_option maxRecDepth 100000 in
theorem spec_l02Code.calls (k : Nat) (a0_0 : Int) (A0_1 : Option Addr) (c0_1 : Nat) (l0_1 : List Int) (A1 : Option Addr) (c1 : Nat) (l1 : List Int) (r : Int) (w : World) (hr0_1 : Kd.C (Kd.int .i64) w A0_1 l0_1.length l0_1) (hc0_1 : l0_1.length ≤ c0_1) (hr1 : Kd.C (Kd.int .i64) w A1 l1.length l1) (hc1 : l1.length ≤ c1) (h : spec_l02Code.f k a0_0 l0_1 l1 = some r) :
  Calls Try.prog 91 #[.agg #[.int .i64 a0_0, .slice A0_1 l0_1.length c0_1], .slice A1 l1.length c1] w fun e w' => e = .returned (.int .i64 r) ∧ Below w.heap.size w w' := by
 have hu31 := Try.underlying31
 have HR0_1 := zA hr0_1
 have HC0_1 := zA hc0_1
 clear hr0_1 hc0_1
 have HR1 := zA hr1
 have HC1 := zA hc1
 clear hr1 hc1
 have HB := zA (Below.refl w.heap.size w)
 have H : ((spec_l02Are.f k a0_0 l0_1).bind fun t887 => (if t887 = true then ((spec_l01Poly.f k a0_0 l1).bind fun t888 => (spec_l02Code.j0 k l1 (!t888) a0_0 l0_1)) else (spec_l02Code.j0 k l1 true a0_0 l0_1))) = some r := h
 clear h
 have HC3 := zA H
 clear H
 go_enter Try.func91, Try.ntmps91
 go_upto_region 1 with (first | ((with_reducible refine gate_dst (N := 2) rfl ?_); refine box_event ?hg (N := 2) ?hd (cs := #[.int .i64 a0_0, .slice A0_1 l0_1.length c0_1]) (t := 31) ?hr ?_; (case hd => rfl); (case hg => rfl); (case hr => first | (go_simp; done) | (go_simp; rfl)); intro gb886 hg w4 hbox hb; have n0_ := xH HB hb; have n1_ := zA (hbox); have n2_ := zA ((by rw [hg]; exact (below_size (uH HB.out)) : w.heap.size ≤ gb886)); have n3_ := zA ((by rw [hg]; exact (below_size (uH HB.out)) : w.heap.size ≤ gb886)); clear HB; have HB := n0_; have BK886 := n1_; have GW886 := n2_; have GE886 := n3_; have := geI GE886; clear n0_ n1_ n2_ n3_ hb hbox hg))
 (try simp only [Act.put, ls, lz, ln])
 go_cut [5] (fun v5 wc => ∃ (kq : Nat) (x5_2 : Bool), v5 = .bool x5_2 ∧ Aside0 (spec_l02Code.j0 kq l1 x5_2 a0_0 l0_1 = some r) ∧ Aside0 (kq ≤ k) ∧ Aside0 (wc.heap[gb886]? = some (.cells #[.int .i64 a0_0, (.slice A0_1 l0_1.length c0_1)] 31 (0, 0))) ∧ Aside0 (Below w.heap.size w wc))
 case first =>
  have H := HC3.out
  clear HC3
  replace H := Option.bind_eq_some_iff.mp H
  obtain ⟨t887, A50, H⟩ := H
  replace H : (if t887 = true then ((spec_l01Poly.f k a0_0 l1).bind fun t888 => (spec_l02Code.j0 k l1 (!t888) a0_0 l0_1)) else (spec_l02Code.j0 k l1 true a0_0 l0_1)) = some r := H
  have A5 := zA A50
  clear A50
  by_cases c6 : t887 = true
  ·subst c6
   have H1 : ((spec_l01Poly.f k a0_0 l1).bind fun t888 => (spec_l02Code.j0 k l1 (!t888) a0_0 l0_1)) = some r := by rw [if_pos rfl] at H; exact H
   clear H
   have H := H1
   clear H1
   replace H := Option.bind_eq_some_iff.mp H
   obtain ⟨t888, A70, H⟩ := H
   replace H : (spec_l02Code.j0 k l1 (!t888) a0_0 l0_1) = some r := H
   have A7 := zA A70
   clear A70
   have H' := zA H
   clear H
   have hcz8_0 : w4.cell? ⟨gb886, 0, none⟩ = some (.int .i64 a0_0) := (blk_cell BK886.out 0).trans rfl
   have hcz8_1 : w4.cell? ⟨gb886, 1, none⟩ = some (.slice A0_1 l0_1.length c0_1) := (blk_cell BK886.out 1).trans rfl
   have hfz8_0 := blk_frozen BK886.out 0
   have hfz8_1 := blk_frozen BK886.out 1
   go_wp2_with (first | ((with_reducible refine gate_callee (f := 57) rfl ?_); refine goesL_ (some 7) rfl rfl Try.func57 (by kernel_rfl) rfl #[.agg #[.int .i64 a0_0, .slice A0_1 l0_1.length c0_1]] rfl (by (try simp only [la, lb, lc]); first | done | rfl | (simp only [ld, le]; rfl)) ?_; (with_reducible refine (spec_l02Are.calls k a0_0 _ _ l0_1 true _ ?side1 ?side2 A5.out).mono ?_); (case side1 => exact uC ((Kd.C_below HR0_1.out HB.out))); (case side2 => exact HC0_1.out); rintro e w9 ⟨rfl, hb⟩; refine ⟨_, rfl, ?_⟩; have n0_ := xB BK886 hb; have n1_ := xH HB hb; clear BK886 HB; have BK886 := n0_; have HB := n1_; clear n0_ n1_; (try clear hb); (try clear hb2); (try clear hk); (try clear hi); have hcz10_0 : w9.cell? ⟨gb886, 0, none⟩ = some (.int .i64 a0_0) := (blk_cell BK886.out 0).trans rfl; have hcz10_1 : w9.cell? ⟨gb886, 1, none⟩ = some (.slice A0_1 l0_1.length c0_1) := (blk_cell BK886.out 1).trans rfl; have hfz10_0 := blk_frozen BK886.out 0; have hfz10_1 := blk_frozen BK886.out 1) | (go_at_call 59; (with_reducible refine (spec_l01Poly.calls k a0_0 _ _ l1 t888 _ ?side1 ?side2 A7.out).mono ?_); (case side1 => exact uC ((Kd.C_below HR1.out HB.out))); (case side2 => exact HC1.out); rintro e w' ⟨rfl, ⟨nd, rfl⟩⟩))
   go_meet
   case rel => exact ⟨_, (!t888), (by first | rfl | (simp; done) | (simp [*]; done)), H', ⟨by first | omega | exact Nat.le_refl _⟩, ⟨uB BK886.out⟩, ⟨uH HB.out⟩⟩
  ·replace c6 := Bool.eq_false_iff.mpr c6
   subst c6
   have H1 : (spec_l02Code.j0 k l1 true a0_0 l0_1) = some r := by rw [if_neg (show ¬ (false = true) by decide)] at H; exact H
   clear H
   have H := H1
   clear H1
   have H' := zA H
   clear H
   have hcz11_0 : w4.cell? ⟨gb886, 0, none⟩ = some (.int .i64 a0_0) := (blk_cell BK886.out 0).trans rfl
   have hcz11_1 : w4.cell? ⟨gb886, 1, none⟩ = some (.slice A0_1 l0_1.length c0_1) := (blk_cell BK886.out 1).trans rfl
   have hfz11_0 := blk_frozen BK886.out 0
   have hfz11_1 := blk_frozen BK886.out 1
   go_wp2_with (first | ((with_reducible refine gate_callee (f := 57) rfl ?_); refine goesL_ (some 7) rfl rfl Try.func57 (by kernel_rfl) rfl #[.agg #[.int .i64 a0_0, .slice A0_1 l0_1.length c0_1]] rfl (by (try simp only [la, lb, lc]); first | done | rfl | (simp only [ld, le]; rfl)) ?_; (with_reducible refine (spec_l02Are.calls k a0_0 _ _ l0_1 false _ ?side1 ?side2 A5.out).mono ?_); (case side1 => exact uC ((Kd.C_below HR0_1.out HB.out))); (case side2 => exact HC0_1.out); rintro e w12 ⟨rfl, hb⟩; refine ⟨_, rfl, ?_⟩; have n0_ := xB BK886 hb; have n1_ := xH HB hb; clear BK886 HB; have BK886 := n0_; have HB := n1_; clear n0_ n1_; (try clear hb); (try clear hb2); (try clear hk); (try clear hi)))
   go_meet
   case rel => exact ⟨_, (true), (by first | rfl | (simp; done) | (simp [*]; done)), H', ⟨by first | omega | exact Nat.le_refl _⟩, ⟨uB BK886.out⟩, ⟨uH HB.out⟩⟩
 case rest =>
  clear HC3
  try clear c1
  try clear p2
  try clear c5
  try clear c6
  try clear c9
  try clear hcz10_0
  try clear hcz10_1
  try clear hcz11_0
  try clear hcz11_1
  try clear hcz8_0
  try clear hcz8_1
  try clear hfz10_0
  try clear hfz10_1
  try clear hfz11_0
  try clear hfz11_1
  try clear hfz8_0
  try clear hfz8_1
  obtain ⟨kq, x5_2, rfl, HA, HJ2, BK886, HB⟩ := hcut
  cases kq with
  | zero => exact absurd HA.out (by simp [spec_l02Code.j0])
  | succ kj2 =>
   have H := HA.out
   clear HA
   simp only [spec_l02Code.j0] at H
   by_cases c13 : x5_2 = true
   ·subst c13
    have H1 : (some 1) = some r := by rw [if_pos rfl] at H; exact H
    clear H
    have H := H1
    clear H1
    obtain rfl := Option.some.inj H
    go_wp2
    go_ret
    exact ⟨by first | rfl | (simp [errW_none, errW_some] <;> rfl) | (simp [*, errW_none, errW_some] <;> rfl), uH HB.out⟩
   ·replace c13 := Bool.eq_false_iff.mpr c13
    subst c13
    have H1 : (if (l1.length : Int) > (l0_1.length : Int) then (some 2) else (some 0)) = some r := by rw [if_neg (show ¬ (false = true) by decide)] at H; exact H
    clear H
    have H := H1
    clear H1
    by_cases c14 : (l1.length : Int) > (l0_1.length : Int)
    ·rw [if_pos c14] at H
     have c14b0 : decide ((l0_1.length : Int) < (l1.length : Int)) = true := decide_eq_true c14
     have c14b1 : decide (l0_1.length < l1.length) = true := decide_eq_true (Int.ofNat_lt.mp c14)
     clear c14
     obtain rfl := Option.some.inj H
     have hcz15_0 : wc.cell? ⟨gb886, 0, none⟩ = some (.int .i64 a0_0) := (blk_cell BK886.out 0).trans rfl
     have hcz15_1 : wc.cell? ⟨gb886, 1, none⟩ = some (.slice A0_1 l0_1.length c0_1) := (blk_cell BK886.out 1).trans rfl
     have hfz15_0 := blk_frozen BK886.out 0
     have hfz15_1 := blk_frozen BK886.out 1
     go_wp2
     go_ret
     exact ⟨by first | rfl | (simp [errW_none, errW_some] <;> rfl) | (simp [*, errW_none, errW_some] <;> rfl), uH HB.out⟩
    ·rw [if_neg c14] at H
     have c14b0 : decide ((l0_1.length : Int) < (l1.length : Int)) = false := decide_eq_false c14
     have c14b1 : decide (l0_1.length < l1.length) = false := decide_eq_false (fun h => c14 (Int.ofNat_lt.mpr h))
     clear c14
     obtain rfl := Option.some.inj H
     have hcz16_0 : wc.cell? ⟨gb886, 0, none⟩ = some (.int .i64 a0_0) := (blk_cell BK886.out 0).trans rfl
     have hcz16_1 : wc.cell? ⟨gb886, 1, none⟩ = some (.slice A0_1 l0_1.length c0_1) := (blk_cell BK886.out 1).trans rfl
     have hfz16_0 := blk_frozen BK886.out 0
     have hfz16_1 := blk_frozen BK886.out 1
     go_wp2
     go_ret
     exact ⟨by first | rfl | (simp [errW_none, errW_some] <;> rfl) | (simp [*, errW_none, errW_some] <;> rfl), uH HB.out⟩

end Go.Proofs.Ytokkabgkjhpecaa.Pr
