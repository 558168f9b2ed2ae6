/- Texts of this session in one: what functions of the program compute, and plain facts of it, under the conditions that each theorem names. -/
import Derived.Test.YtokkabgkjhpecaaKC01
import Derived.Test.YtokkabgkjhpecaaKC03
import Derived.Test.YtokkabgkjhpecaaKC05
import Derived.Test.YtokkabgkjhpecaaKC21
import Derived.Test.YtokkabgkjhpecaaKProductMoments1
/- Printed by a program of this session out of the translation: what these functions of the program compute, under the conditions that each theorem names. -/
namespace Go.Proofs.Ytokkabgkjhpecaa.Pr
open Go.RowKit Go.Proofs.YtokkabgkjhpecaaW.PrintWords Go.Proofs.YtokkabgkjhpecaaW.PrintLast Go.Proofs.YtokkabgkjhpecaaW.PrintMore
attribute [local go_sem] max2_int min2_int max_two min_two max_three min_three max_four min_four   -- for this text's walks alone
set_option linter.unusedVariables false
set_option linter.unusedSimpArgs false

/-! ### spec_l02Product: function 92 -/
def spec_l02Product.l0 : Nat → List Int → Int → Int → List Int → Int → List Int → Option (Int × List Int)
 | 0, _, _, _, _, _, _ => none
 | k + 1, x1, x6, x893000, x893001, x898000, x898001 => if (wrap64 (x6 + (mx (x1.length : Int) 1))) ≤ (x893001.length : Int) then ((spec_l02Apply.f k x893000 x893001 x1 x6).bind fun t898 => (if x898001.length < 17592186044416 then (spec_l02Product.l0 k x1 (wrap64 (x6 + 1)) x893000 x893001 x898000 (x898001 ++ [t898])) else (none))) else (some (x898000, x898001))
def spec_l02Product.f (k : Nat) (a0_0 : Int) (l0_1 : List Int) (l1 : List Int) : Option (Int × List Int) := spec_l02Product.l0 k l1 0 a0_0 l0_1 a0_0 (([] : List Int))
theorem spec_l02Product.mono_l : ∀ k, (∀ y0 y1 y2 y3 y4 y5, LeO (spec_l02Product.l0 k y0 y1 y2 y3 y4 y5) (spec_l02Product.l0 (k + 1) y0 y1 y2 y3 y4 y5))
 | 0 => fun _ _ _ _ _ _ r h => by simp [spec_l02Product.l0] at h
 | k + 1 => by
  have ih0 := spec_l02Product.mono_l k
  ·intro y0 y1 y2 y3 y4 y5
   unfold spec_l02Product.l0
   repeat' first
   | (with_reducible exact ih0 _ _ _ _ _ _)
   | (with_reducible exact spec_l02Apply.mono _ _ _ _ _)
   | (with_reducible exact LeO.refl _)
   | (with_reducible exact LeO.none _)
   | (with_reducible refine LeO.ite ?_ ?_)
   | (with_reducible refine LeO.bind ?_ (fun _ => ?_))
   | exact ih0 _ _ _ _ _ _
   | exact spec_l02Apply.mono _ _ _ _ _
   | exact LeO.none _
   | refine LeO.ite ?_ ?_
   | refine LeO.bind ?_ (fun _ => ?_)
theorem spec_l02Product.mono : ∀ a0 a1 a2 k, LeO (spec_l02Product.f k a0 a1 a2) (spec_l02Product.f (k + 1) a0 a1 a2) := by
 intro a0 a1 a2 k
 have ih0 := spec_l02Product.mono_l k
 unfold spec_l02Product.f
 repeat' first
   | (with_reducible exact ih0 _ _ _ _ _ _)
   | (with_reducible exact spec_l02Apply.mono _ _ _ _ _)
   | (with_reducible exact LeO.refl _)
   | (with_reducible exact LeO.none _)
   | (with_reducible refine LeO.ite ?_ ?_)
   | (with_reducible refine LeO.bind ?_ (fun _ => ?_))
   | exact ih0 _ _ _ _ _ _
   | exact spec_l02Apply.mono _ _ _ _ _
   | exact LeO.none _
   | refine LeO.ite ?_ ?_
   | refine LeO.bind ?_ (fun _ => ?_)
def spec_l02Product.T5 : Bool × List (List Nat × List Nat) := (true, [([], []), ([0], [0]), ([], []), ([], []), ([], []), ([2, 3, 4], [2, 3, 4]), ([5], [5]), ([1, 6, 5], [1, 6]), ([0, 1, 2, 3, 4, 5, 6, 7], []), ([8, 7, 7, 0, 1, 2, 3, 4, 5, 6, 7], [7, 8])])
def spec_l02Product.B5 : List Nat := [0, 1, 0, 0, 0, 28, 60, 127, 255, 511]
theorem spec_l02Product.tab5 : rtab .any (opsOf Try.f92 5) = spec_l02Product.T5 := by kernel_rfl
theorem spec_l02Product.bits5 : waitsOk spec_l02Product.T5.2 spec_l02Product.B5 = true := by kernel_rfl
set_option maxHeartbeats 8000000 in
set_option maxRecDepth 100000 in
theorem spec_l02Product.calls (k : Nat) (a0_0 : Int) (A0_1 : Option Addr) (c0_1 : Nat) (l0_1 : List Int) (A1 : Option Addr) (c1 : Nat) (l1 : List Int) (r1 : Int) (r2 : List Int) (w : World) (hr0_1 : Kd.C (Kd.int .i64) w A0_1 l0_1.length l0_1) (hc0_1 : l0_1.length ≤ c0_1) (hr1 : Kd.C (Kd.int .i64) w A1 l1.length l1) (hc1 : l1.length ≤ c1) (h : spec_l02Product.f k a0_0 l0_1 l1 = some (r1, r2)) :
  Calls Try.prog 92 #[.agg #[.int .i64 a0_0, .slice A0_1 l0_1.length c0_1], .slice A1 l1.length c1] w fun e w' => ∃ v1_ : Value, e = .returned (.agg #[.int .i64 r1, v1_]) ∧ Kd.R (Kd.int .i64) 2 w' w.heap.size (fun _ => True) v1_ r2 ∧ Below w.heap.size w w' := by
 have hu31 := Try.underlying31
 have HR0_1 := zA hr0_1
 have HC0_1 := zA hc0_1
 clear hr0_1 hc0_1
 have HR1 := zA hr1
 have HC1 := zA hc1
 clear hr1 hc1
 have HB := zA (Below.refl w.heap.size w)
 have H : (spec_l02Product.l0 k l1 0 a0_0 l0_1 a0_0 (([] : List Int))) = some (r1, r2) := h
 clear h
 obtain ⟨y894, hy894⟩ : ∃ y_ : List Int, y_ = (([] : List Int)) := ⟨_, rfl⟩
 replace H : (spec_l02Product.l0 k l1 0 a0_0 l0_1 a0_0 y894) = some (r1, r2) := by first | (rw [hy894]; with_reducible exact H) | (have H2_ := (Option.bind_some _ _).symm.trans H; rw [hy894]; with_reducible exact H2_) | (have H2_ := (Option.bind_some _ _).symm.trans H; with_reducible exact H2_) | with_reducible exact H | (rw [hy894]; exact H) | exact H
 have Ny894 := zA hy894
 clear hy894
 have H' := zA H
 clear H
 go_enter Try.func92, Try.ntmps92
 go_wp2_with (first | ((with_reducible refine gate_dst (N := 2) rfl ?_); refine box_event ?hg (N := 2) ?hd (cs := #[.int .i64 a0_0, .slice A0_1 l0_1.length c0_1]) (t := 31) ?hr ?_; (case hd => rfl); (case hg => rfl); (case hr => first | (go_simp; done) | (go_simp; rfl)); intro gb892 hg w3 hbox hb; have n0_ := xH HB hb; have n1_ := zA (hbox); have n2_ := zA ((by rw [hg]; exact (below_size (uH HB.out)) : w.heap.size ≤ gb892)); have n3_ := zA ((by rw [hg]; exact (below_size (uH HB.out)) : w.heap.size ≤ gb892)); clear HB; have HB := n0_; have BK892 := n1_; have GW892 := n2_; have GE892 := n3_; have := geI GE892; clear n0_ n1_ n2_ n3_ hb hbox hg) | ((with_reducible refine gate_dst (N := 4) rfl ?_); refine box_event ?hg (N := 4) ?hd (cs := #[.int .i64 0, .slice none 0 0]) (t := 31) ?hr ?_; (case hd => rfl); (case hg => rfl); (case hr => first | (go_simp; done) | (go_simp; rfl)); intro gb893 hg w4 hbox hb; have n0_ := xB BK892 hb; have n1_ := xH HB hb; have n2_ := zA (hbox); have n3_ := zA ((by rw [hg]; exact (below_size (uH HB.out)) : w.heap.size ≤ gb893)); have n4_ := zA ((by rw [hg]; exact (below_size (uH HB.out)) : w.heap.size ≤ gb893)); have n5_ := zA ((by rw [hg]; exact neL BK892 : gb892 ≠ gb893)); have n6_ := zA ((by rw [hg]; exact neG BK892 : gb893 ≠ gb892)); clear BK892 HB; have BK892 := n0_; have HB := n1_; have BK893 := n2_; have GW893 := n3_; have GE893 := n4_; have := geI GE893; have NB892_893 := n5_; have NB893_892 := n6_; clear n0_ n1_ n2_ n3_ n4_ n5_ n6_ hb hbox hg; have hnb5 := NB892_893.out; have hnc5 := NB893_892.out; have hcz6_0 : w4.cell? ⟨gb892, 0, none⟩ = some (.int .i64 a0_0) := (blk_cell BK892.out 0).trans rfl; have hcz6_1 : w4.cell? ⟨gb892, 1, none⟩ = some (.slice A0_1 l0_1.length c0_1) := (blk_cell BK892.out 1).trans rfl; have hfz6_0 := blk_frozen BK892.out 0; have hfz6_1 := blk_frozen BK892.out 1) | ((with_reducible refine gate_dst (N := 9) rfl ?_); refine Kd.R_lit (Kd.int .i64) _ 2 ?hg (N := 9) ?hd (xs := ([] : List Int)) (inner := []) (ok := fun _ => True) (okp := fun _ => True) ?hr ?hp (fun _ hk => hk) trivial (Below.refl _ _) (Nat.le_refl _) (by simp) ?_; (case hd => rfl); (case hg => rfl); (case hr => first | (go_simp; done) | (go_simp; rfl)); (case hp => exact (Reps.none _ _)); intro v895 w7 ho8 hb hg_ hnew_; clear hg_ hnew_; (first | rw [← Ny894.out] at ho8 | (simp only [Int.reduceToNat] at ho8; rw [← Ny894.out] at ho8)); have n0_ := zA (Kd.R_lower ho8 (below_size (uH HB.out))); have n1_ := xB BK892 hb; have n2_ := xB BK893 hb; have n3_ := xH HB hb; clear BK892 BK893 HB; have HO896 := n0_; have BK892 := n1_; have BK893 := n2_; have HB := n3_; clear n0_ n1_ n2_ n3_ hb ho8; obtain ⟨Ao9, co9, eo9⟩ := Kd.R_slice HO896.out; subst eo9) | ((with_reducible refine gate_dst (N := 5) rfl ?_); refine box_event ?hg (N := 5) ?hd (cs := #[.int .i64 0, .slice none 0 0]) (t := 31) ?hr ?_; (case hd => rfl); (case hg => rfl); (case hr => first | (go_simp; done) | (go_simp; rfl)); intro gb897 hg w10 hbox hb; have n0_ := xR HO896 hb; have n1_ := xB BK892 hb; have n2_ := xB BK893 hb; have n3_ := xH HB hb; have n4_ := zA (hbox); have n5_ := zA ((by rw [hg]; exact (below_size (uH HB.out)) : w.heap.size ≤ gb897)); have n6_ := zA ((by rw [hg]; exact (below_size (uH HB.out)) : w.heap.size ≤ gb897)); have n7_ := zA ((by rw [hg]; exact neL BK892 : gb892 ≠ gb897)); have n8_ := zA ((by rw [hg]; exact neG BK892 : gb897 ≠ gb892)); have n9_ := zA ((by rw [hg]; exact neL BK893 : gb893 ≠ gb897)); have n10_ := zA ((by rw [hg]; exact neG BK893 : gb897 ≠ gb893)); clear HO896 BK892 BK893 HB; have HO896 := n0_; have BK892 := n1_; have BK893 := n2_; have HB := n3_; have BK897 := n4_; have GW897 := n5_; have GE897 := n6_; have := geI GE897; have NB892_897 := n7_; have NB897_892 := n8_; have NB893_897 := n9_; have NB897_893 := n10_; clear n0_ n1_ n2_ n3_ n4_ n5_ n6_ n7_ n8_ n9_ n10_ hb hbox hg; have hnb11 := NB897_892.out; have hnc11 := NB892_897.out; have hnb12 := NB897_893.out; have hnc12 := NB893_897.out; have hcz13_0 : w10.cell? ⟨gb897, 0, none⟩ = some (.int .i64 0) := (blk_cell BK897.out 0).trans rfl; have hcz13_1 : w10.cell? ⟨gb897, 1, none⟩ = some (.slice none 0 0) := (blk_cell BK897.out 1).trans rfl; have hfz13_0 := blk_frozen BK897.out 0; have hfz13_1 := blk_frozen BK897.out 1))
 go_loopg [6] k (fun kq v6 w' => ∃ (x6_1 : Int) (x898001_1 : List Int) (u898001 : Value), v6 = .int .i64 x6_1 ∧ Aside0 (spec_l02Product.l0 kq l1 x6_1 a0_0 l0_1 a0_0 x898001_1 = some (r1, r2)) ∧ Aside0 (kq ≤ k) ∧ Aside0 (Kd.R (Kd.int .i64) 2 w' w.heap.size (fun _ => True) u898001 x898001_1) ∧ Aside0 (w'.heap[gb892]? = some (.cells #[.int .i64 a0_0, (.slice A0_1 l0_1.length c0_1)] 31 (0, 0))) ∧ Aside0 (w'.heap[gb893]? = some (.cells #[.int .i64 0, (.slice none 0 0)] 31 (0, 0))) ∧ Aside0 (w'.heap[gb897]? = some (.cells #[.int .i64 a0_0, u898001] 31 (0, 0))) ∧ Aside0 (Below w.heap.size w w'))
 case atStart => exact ⟨(0), (y894), (.slice Ao9 y894.length co9), (by first | rfl | (simp; done) | (simp [*]; done)), H', ⟨Nat.le_refl _⟩, ⟨uR (Kd.R_mono (Kd.R_far (p := ⟨gb897, 1, none⟩) (Kd.R_far (p := ⟨gb897, 0, none⟩) (Kd.R_types HO896.out BK897.out (by decide)) (fun _ hk => hk.2) (.int .i64 a0_0)) (fun _ hk => hk.2) (.slice Ao9 y894.length co9)) (fun _ hk => trivial))⟩, ⟨by (with_reducible repeat (first | refine blk_drewN ?_ _ | refine blk_drew ?_ | refine blk_alloc ?_ _)); refine blk_far ?_ NB892_897.out _; (with_reducible repeat (first | refine blk_drewN ?_ _ | refine blk_drew ?_ | refine blk_alloc ?_ _)); refine blk_far ?_ NB892_897.out _; (with_reducible repeat (first | refine blk_drewN ?_ _ | refine blk_drew ?_ | refine blk_alloc ?_ _)); exact BK892.out⟩, ⟨by (with_reducible repeat (first | refine blk_drewN ?_ _ | refine blk_drew ?_ | refine blk_alloc ?_ _)); refine blk_far ?_ NB893_897.out _; (with_reducible repeat (first | refine blk_drewN ?_ _ | refine blk_drew ?_ | refine blk_alloc ?_ _)); refine blk_far ?_ NB893_897.out _; (with_reducible repeat (first | refine blk_drewN ?_ _ | refine blk_drew ?_ | refine blk_alloc ?_ _)); exact BK893.out⟩, ⟨by (with_reducible repeat (first | refine blk_drewN ?_ _ | refine blk_drew ?_ | refine blk_alloc ?_ _)); refine blk_put (cs := #[.int .i64 a0_0, .slice none 0 0]) ?_ 1 _ rfl; (with_reducible repeat (first | refine blk_drewN ?_ _ | refine blk_drew ?_ | refine blk_alloc ?_ _)); refine blk_put (cs := #[.int .i64 0, .slice none 0 0]) ?_ 0 _ rfl; (with_reducible repeat (first | refine blk_drewN ?_ _ | refine blk_drew ?_ | refine blk_alloc ?_ _)); exact BK897.out⟩, ⟨uH HB.out⟩⟩
 case round =>
  clear H'
  try clear c1
  try clear p2
  try clear c5
  try clear c9
  try clear c11
  try clear c12
  try clear hcz13_0
  try clear hcz13_1
  try clear hcz6_0
  try clear hcz6_1
  try clear hfz13_0
  try clear hfz13_1
  try clear hfz6_0
  try clear hfz6_1
  obtain ⟨x6_1, x898001_1, u898001, rfl, HA, HK1, HO_898001, BK892, BK893, BK897, HB⟩ := hrel
  cases gk with
  | zero => exact absurd HA.out (by simp [spec_l02Product.l0])
  | succ k1 =>
   have H := HA.out
   clear HA
   simp only [spec_l02Product.l0] at H
   obtain ⟨ji14, hji14⟩ : ∃ j_ : Int, (mx (l1.length : Int) 1) = j_ := ⟨_, rfl⟩
   replace H : (if (wrap64 (x6_1 + (ji14))) ≤ (l0_1.length : Int) then ((spec_l02Apply.f k1 a0_0 l0_1 l1 x6_1).bind fun t898 => (if x898001_1.length < 17592186044416 then (spec_l02Product.l0 k1 l1 (wrap64 (x6_1 + 1)) a0_0 l0_1 a0_0 (x898001_1 ++ [t898])) else (none))) else (some (a0_0, x898001_1))) = some (r1, r2) := by first | (rw [hji14] at H; exact H) | (simp only [hji14] at H ⊢; exact H)
   have hji14_ : (if (l1.length : Int) < 1 then 1 else (l1.length : Int)) = ji14 := hji14
   by_cases c15 : (wrap64 (x6_1 + (ji14))) ≤ (l0_1.length : Int)
   ·rw [if_pos c15] at H
    have c15b0 : decide ((wrap64 (x6_1 + (ji14))) ≤ (l0_1.length : Int)) = true := decide_eq_true c15
    clear c15
    replace H := Option.bind_eq_some_iff.mp H
    obtain ⟨t898, A160, H⟩ := H
    replace H : (if x898001_1.length < 17592186044416 then (spec_l02Product.l0 k1 l1 (wrap64 (x6_1 + 1)) a0_0 l0_1 a0_0 (x898001_1 ++ [t898])) else (none)) = some (r1, r2) := H
    have A16 := zA A160
    clear A160
    by_cases c17 : x898001_1.length < 17592186044416
    ·rw [if_pos c17] at H
     have LMc17 := zA c17
     clear c17
     obtain ⟨y899, hy899⟩ : ∃ y_ : List Int, y_ = (x898001_1 ++ [t898]) := ⟨_, rfl⟩
     replace H : (spec_l02Product.l0 k1 l1 (wrap64 (x6_1 + 1)) a0_0 l0_1 a0_0 y899) = some (r1, r2) := by first | (rw [hy899]; with_reducible exact H) | (have H2_ := (Option.bind_some _ _).symm.trans H; rw [hy899]; with_reducible exact H2_) | (have H2_ := (Option.bind_some _ _).symm.trans H; with_reducible exact H2_) | with_reducible exact H | (rw [hy899]; exact H) | exact H
     have Ny899 := zA hy899
     clear hy899
     have H' := zA H
     clear H
     have hnb18 := NB892_893.out; have hnc18 := NB893_892.out; have hnb19 := NB892_897.out; have hnc19 := NB897_892.out
     have hcz20_0 : wr.cell? ⟨gb892, 0, none⟩ = some (.int .i64 a0_0) := (blk_cell BK892.out 0).trans rfl
     have hcz20_1 : wr.cell? ⟨gb892, 1, none⟩ = some (.slice A0_1 l0_1.length c0_1) := (blk_cell BK892.out 1).trans rfl
     have hfz20_0 := blk_frozen BK892.out 0
     have hfz20_1 := blk_frozen BK892.out 1
     try go_wp2
     have n0_ := zA (Kd.R_drew HO_898001.out)
     have n1_ := zA (blk_drew BK892.out)
     have n2_ := zA (blk_drew BK893.out)
     have n3_ := zA (blk_drew BK897.out)
     have n4_ := zA (below_drew1 HB.out)
     clear HO_898001 BK892 BK893 BK897 HB
     have HO_898001 := n0_; have BK892 := n1_; have BK893 := n2_; have BK897 := n3_; have HB := n4_
     clear n0_ n1_ n2_ n3_ n4_
     refine start_ (n := 10) (S := fun w' => w'.cell? ⟨gb897, 0, none⟩ = some (.int .i64 a0_0) ∧ w'.cell? ⟨gb897, 1, none⟩ = some (u898001) ∧ w'.cell? ⟨gb892, 0, none⟩ = some (.int .i64 a0_0) ∧ w'.cell? ⟨gb892, 1, none⟩ = some (.slice A0_1 l0_1.length c0_1)) (ds := [9]) #[false, false, false, false, false, false, false, false, false, false] (by kernel_rfl) rfl rfl ⟨(blk_cell BK897.out 0).trans rfl, (blk_cell BK897.out 1).trans rfl, (blk_cell BK892.out 0).trans rfl, (blk_cell BK892.out 1).trans rfl⟩ (fun hHeld => ?_); refine with_tabW spec_l02Product.tab5 spec_l02Product.bits5 (fun HT_ HW_ => ?_)
     generalize wr.drew = w21 at HO_898001 BK892 BK893 BK897 HB hHeld ⊢
     refine pure_ (i := 0) (N := some 22) (v := ?_) (a' := ?_) #[true, false, false, false, false, false, false, false, false, false] rfl rfl (any_of HT_.out (by kernel_rfl)) (fun _ _ _ h => h) (Or.inl ⟨by rfl, ?_⟩) ?_ ?_
     rotate_left
     ·intro w'
      go_simp
      with_reducible rfl
     rotate_left
     ·simp only [Act.put, ls, lz, ln, i64_w, i32_w]
      rfl
     refine pure_ (i := 3) (N := some 25) (v := ?_) (a' := ?_) #[true, false, false, true, false, false, false, false, false, false] rfl rfl (any_of HT_.out (by kernel_rfl)) (fun _ _ _ h => h) (Or.inl ⟨by rfl, ?_⟩) ?_ ?_
     rotate_left
     ·intro w'
      go_simp
      with_reducible rfl
     rotate_left
     ·simp only [Act.put, ls, lz, ln, i64_w, i32_w]
      rfl
     refine pure_ (i := 4) (N := some 26) (v := ?_) (a' := ?_) #[true, false, false, true, true, false, false, false, false, false] rfl rfl (any_of HT_.out (by kernel_rfl)) (fun _ _ _ h => h) (Or.inl ⟨by rfl, ?_⟩) ?_ ?_
     rotate_left
     ·intro w'
      go_simp
      with_reducible rfl
     rotate_left
     ·simp only [Act.put, ls, lz, ln, i64_w, i32_w]
      rfl
     refine take_ (i := 1) (N := some 23) (v := ?_) (a' := ?_) #[true, true, false, true, true, false, false, false, false, false] rfl rfl (take_ofW HT_.out HW_.out (by kernel_rfl)) (fun _ _ _ h => h) (Or.inl ⟨by rfl, ?_⟩) hHeld ?_ ?_
     rotate_left
     ·rintro w' ⟨s0, s1, s2, s3⟩
      go_simp
      with_reducible rfl
     rotate_left
     ·simp only [Act.put, ls, lz, ln, i64_w, i32_w]
      rfl
     refine take_ (i := 2) (N := some 24) (v := ?_) (a' := ?_) #[true, true, true, true, true, false, false, false, false, false] rfl rfl (take_ofW HT_.out HW_.out (by kernel_rfl)) (fun _ _ _ h => h) (Or.inl ⟨by rfl, ?_⟩) hHeld ?_ ?_
     rotate_left
     ·rintro w' ⟨s0, s1, s2, s3⟩
      go_simp
      with_reducible rfl
     rotate_left
     ·simp only [Act.put, ls, lz, ln, i64_w, i32_w]
      rfl
     refine one_ (i := 5) (N := some 27) #[true, true, true, true, true, true, false, false, false, false] rfl rfl (one_of HT_.out (by kernel_rfl)) (by decide) (fun K hK => ?_)
     refine goes_ Try.func97 (by kernel_rfl) rfl #[.agg #[.int .i64 a0_0, .slice A0_1 l0_1.length c0_1], .slice A1 l1.length c1, .int .i64 x6_1] (by rfl) rfl rfl (by (try simp only [la, lb, lc]); first | done | rfl | (simp only [ld, le]; rfl)) ?_
     with_reducible refine (spec_l02Apply.calls k1 a0_0 _ _ l0_1 _ _ l1 x6_1 t898 _ ?side1 ?side2 ?side3 ?side4 A16.out).mono ?_
     (case side1 => exact uC ((Kd.C_below HR0_1.out HB.out)))
     (case side2 => exact HC0_1.out)
     (case side3 => exact uC ((Kd.C_below HR1.out HB.out)))
     (case side4 => exact HC1.out)
     rintro e w22 ⟨rfl, hb⟩
     refine ⟨_, rfl, ?_⟩
     have n0_ := xR HO_898001 hb
     have n1_ := xB BK892 hb
     have n2_ := xB BK893 hb
     have n3_ := xB BK897 hb
     have n4_ := xH HB hb
     clear HO_898001 BK892 BK893 BK897 HB
     have HO_898001 := n0_; have BK892 := n1_; have BK893 := n2_; have BK897 := n3_; have HB := n4_
     clear n0_ n1_ n2_ n3_ n4_
     (try clear hb); (try clear hb2); (try clear hk); (try clear hi)
     refine hK.out _ _ ⟨(blk_cell BK897.out 0).trans rfl, (blk_cell BK897.out 1).trans rfl, (blk_cell BK892.out 0).trans rfl, (blk_cell BK892.out 1).trans rfl⟩ (fun hHeld => ?_)
     clear hK K
     refine norm_ (a' := ?_) ?_ ?_
     rotate_left
     ·show Act.put _ (some 27) _ = _
      simp only [Act.put, ls, lz, ln, i64_w, i32_w]
      rfl
     refine one_ (i := 6) (N := some 28) #[true, true, true, true, true, true, true, false, false, false] rfl rfl (one_of HT_.out (by kernel_rfl)) (by decide) (fun K hK => ?_)
     refine value_ (w1 := ?_) (v := ?_) (by rfl) rfl ?_ ?_
     rotate_left 2
     ·go_simp
      constructor
      ·rfl
      ·rfl
     refine hK.out _ _ ⟨(blk_cell (blk_alloc BK897.out _) 0).trans rfl, (blk_cell (blk_alloc BK897.out _) 1).trans rfl, (blk_cell (blk_alloc BK892.out _) 0).trans rfl, (blk_cell (blk_alloc BK892.out _) 1).trans rfl⟩ (fun hHeld => ?_)
     clear hK K
     refine norm_ (a' := ?_) ?_ ?_
     rotate_left
     ·show Act.put _ (some 28) _ = _
      simp only [Act.put, ls, lz, ln, i64_w, i32_w]
      rfl
     refine one_ (i := 7) (N := some 29) #[true, true, true, true, true, true, true, true, false, false] rfl rfl (one_of HT_.out (by kernel_rfl)) (by decide) (fun K hK => ?_)
     refine Kd.R_append_step (Kd.int .i64) (w0 := w) w.heap.size (by rfl) (.tmp 23) (.tmp 28) 22 2 (.int .i64 0) 8 rfl Try.underlying22 info2 rfl (by decide) (by omega) u898001 x898001_1 t898 [.int .i64 t898] (fun _ => True) (fun _ => False) rfl rfl ?aP (fun _ hk => hk.elim) ?aF ?aO ?aB ?aS ?aL ?_
     (case aP => exact rfl)
     (case aB => exact (uH HB.out))
     (case aF => exact (fun _ _ => trivial))
     (case aO => exact (uR HO_898001.out))
     (case aS => exact (below_size (uH HB.out)))
     (case aL => have := LMc17.out; omega)
     intro v900 w23 ho hb hg hat
     rw [← Ny899.out] at ho
     have n0_ := zA (blk_grown (g := gb892) (o := .cells #[.int .i64 a0_0, .slice A0_1 l0_1.length c0_1] 31 (0, 0)) (uB BK892.out) hg (Kd.R_ne HO_898001.out BK892.out (by decide)))
     have n1_ := zA (blk_grown (g := gb893) (o := .cells #[.int .i64 0, .slice none 0 0] 31 (0, 0)) (uB BK893.out) hg (Kd.R_ne HO_898001.out BK893.out (by decide)))
     have n2_ := zA (blk_grown (g := gb897) (o := .cells #[.int .i64 a0_0, u898001] 31 (0, 0)) (uB BK897.out) hg (Kd.R_ne HO_898001.out BK897.out (by decide)))
     have n3_ := zA (hb)
     have n4_ := zA (ho)
     clear BK892 BK893 BK897 HB HO_898001
     have BK892 := n0_; have BK893 := n1_; have BK897 := n2_; have HB := n3_; have HO901 := n4_
     clear n0_ n1_ n2_ n3_ n4_
     clear ho hb hg hat
     obtain ⟨Ao24, co24, eo24⟩ := Kd.R_slice HO901.out
     (first | subst eo24 | (injection eo24 with f1_ f2_ f3_; have f4_ := f1_.symm; have f5_ := f3_.symm; clear f1_ f2_ f3_; subst f4_; subst f5_))
     refine hK.out _ _ ⟨(blk_cell BK897.out 0).trans rfl, (blk_cell BK897.out 1).trans rfl, (blk_cell BK892.out 0).trans rfl, (blk_cell BK892.out 1).trans rfl⟩ (fun hHeld => ?_)
     clear hK K
     refine norm_ (a' := ?_) ?_ ?_
     rotate_left
     ·show Act.put _ (some 29) _ = _
      simp only [Act.put, ls, lz, ln, i64_w, i32_w]
      rfl
     refine pure_ (i := 8) (N := some 30) (v := ?_) (a' := ?_) #[true, true, true, true, true, true, true, true, true, false] rfl rfl (any_of HT_.out (by kernel_rfl)) (fun _ _ _ h => h) (Or.inl ⟨by rfl, ?_⟩) ?_ ?_
     rotate_left
     ·intro w'
      go_simp
      with_reducible rfl
     rotate_left
     ·simp only [Act.put, ls, lz, ln, i64_w, i32_w]
      rfl
     refine last_ (i := 9) (N := none) #[true, true, true, true, true, true, true, true, true, true] rfl rfl (one_of HT_.out (by kernel_rfl)) (by decide) (fun K hK => ?_)
     have hs25 : w23.cell? ⟨gb897, 1, none⟩ = some (u898001) := (blk_cell BK897.out 1).trans rfl
     have hfs25 := blk_frozen BK897.out 1
     have hns25_0 := NB892_897.out; have hns25_1 := NB893_897.out; have hms25_0 := NB897_892.out; have hms25_1 := NB897_893.out
     refine skip_ (w1 := ?_) (by rfl) rfl ?_ ?_
     rotate_left
     ·go_simp
      rfl
     refine hK.out _ _ ?_
     clear hK K
     refine done_ (done_of HT_.out (by kernel_rfl)) ?_
     try go_wp2
     go_roundg k1
     case measure => have := HK1.out; omega
     case rel => exact ⟨(wrap64 (x6_1 + 1)), (y899), (.slice Ao24 y899.length co24), (by first | rfl | (simp; done) | (simp [*]; done)), H', ⟨by have := HK1.out; omega⟩, ⟨uR (Kd.R_mono (Kd.R_far (p := ⟨gb897, 1, none⟩) (Kd.R_types HO901.out BK897.out (by decide)) (fun _ hk => hk.2) (.slice Ao24 y899.length co24)) (fun _ hk => trivial))⟩, ⟨by (with_reducible repeat (first | refine blk_drewN ?_ _ | refine blk_drew ?_ | refine blk_alloc ?_ _)); refine blk_far ?_ NB892_897.out _; (with_reducible repeat (first | refine blk_drewN ?_ _ | refine blk_drew ?_ | refine blk_alloc ?_ _)); exact BK892.out⟩, ⟨by (with_reducible repeat (first | refine blk_drewN ?_ _ | refine blk_drew ?_ | refine blk_alloc ?_ _)); refine blk_far ?_ NB893_897.out _; (with_reducible repeat (first | refine blk_drewN ?_ _ | refine blk_drew ?_ | refine blk_alloc ?_ _)); exact BK893.out⟩, ⟨by (with_reducible repeat (first | refine blk_drewN ?_ _ | refine blk_drew ?_ | refine blk_alloc ?_ _)); refine blk_put (cs := #[.int .i64 a0_0, u898001]) ?_ 1 _ rfl; (with_reducible repeat (first | refine blk_drewN ?_ _ | refine blk_drew ?_ | refine blk_alloc ?_ _)); exact BK897.out⟩, ⟨uH HB.out⟩⟩
    ·rw [if_neg c17] at H
     exact absurd H (by simp)
   ·rw [if_neg c15] at H
    have c15b0 : decide ((wrap64 (x6_1 + (ji14))) ≤ (l0_1.length : Int)) = false := decide_eq_false c15
    clear c15
    simp only [Option.some.injEq, Prod.mk.injEq] at H
    obtain ⟨rfl, rfl⟩ := H
    have hnb26 := NB892_893.out; have hnc26 := NB893_892.out; have hnb27 := NB892_897.out; have hnc27 := NB897_892.out
    have hcz28_0 : wr.cell? ⟨gb892, 0, none⟩ = some (.int .i64 a0_0) := (blk_cell BK892.out 0).trans rfl
    have hcz28_1 : wr.cell? ⟨gb892, 1, none⟩ = some (.slice A0_1 l0_1.length c0_1) := (blk_cell BK892.out 1).trans rfl
    have hfz28_0 := blk_frozen BK892.out 0
    have hfz28_1 := blk_frozen BK892.out 1
    have hnb29 := NB897_893.out; have hnc29 := NB893_897.out
    have hcz30_0 : wr.cell? ⟨gb897, 0, none⟩ = some (.int .i64 a0_0) := (blk_cell BK897.out 0).trans rfl
    have hcz30_1 : wr.cell? ⟨gb897, 1, none⟩ = some (u898001) := (blk_cell BK897.out 1).trans rfl
    have hfz30_0 := blk_frozen BK897.out 0
    have hfz30_1 := blk_frozen BK897.out 1
    have hcz31_0 : wr.cell? ⟨gb893, 0, none⟩ = some (.int .i64 0) := (blk_cell BK893.out 0).trans rfl
    have hcz31_1 : wr.cell? ⟨gb893, 1, none⟩ = some (.slice none 0 0) := (blk_cell BK893.out 1).trans rfl
    have hfz31_0 := blk_frozen BK893.out 0
    have hfz31_1 := blk_frozen BK893.out 1
    obtain ⟨Ao32, co32, eo32⟩ := Kd.R_slice HO_898001.out
    subst eo32
    go_wp2
    refine bodyPost_ret (results_cell_row rfl _ _ gb893 31 #[.int .i64 a0_0, .slice Ao32 x898001_1.length co32] (0, 0) _ rfl (by (with_reducible repeat (first | refine blk_drewN ?_ _ | refine blk_drew ?_ | refine blk_alloc ?_ _)); refine blk_put (cs := #[.int .i64 a0_0, .slice none 0 0]) ?_ 1 _ rfl; (with_reducible repeat (first | refine blk_drewN ?_ _ | refine blk_drew ?_ | refine blk_alloc ?_ _)); refine blk_put (cs := #[.int .i64 0, .slice none 0 0]) ?_ 0 _ rfl; (with_reducible repeat (first | refine blk_drewN ?_ _ | refine blk_drew ?_ | refine blk_alloc ?_ _)); exact BK893.out) Try.underlying31 rfl (by kernel_rfl)) rfl ?_
    exact ⟨_, by first | rfl | (simp [errW_none, errW_some] <;> rfl) | (simp only [← hji14]; first | rfl | (simp [errW_none, errW_some] <;> rfl)) | (simp [*, errW_none, errW_some] <;> rfl), uR (Kd.R_mono (Kd.R_far (p := ⟨gb893, 1, none⟩) (Kd.R_far (p := ⟨gb893, 0, none⟩) (Kd.R_types HO_898001.out BK893.out (by decide)) (fun _ hk => hk.2) (.int .i64 a0_0)) (fun _ hk => hk.2) (.slice Ao32 x898001_1.length co32)) (fun _ hk => trivial)), uH HB.out⟩

end Go.Proofs.Ytokkabgkjhpecaa.Pr
/- Printed by a program of this session out of the translation: what these functions of the program compute, under the conditions that each theorem names. -/
namespace Go.Proofs.Ytokkabgkjhpecaa.Pr
open Go.RowKit Go.Proofs.YtokkabgkjhpecaaW.PrintWords Go.Proofs.YtokkabgkjhpecaaW.PrintLast Go.Proofs.YtokkabgkjhpecaaW.PrintMore
attribute [local go_sem] max2_int min2_int max_two min_two max_three min_three max_four min_four   -- for this text's walks alone
set_option linter.unusedVariables false
set_option linter.unusedSimpArgs false

/-! ### spec_ProductMoments: function 38 -/
def spec_ProductMoments.f (k : Nat) (a0_0 : Int) (l0_1 : List Int) (l1 : List Int) : Option (Int × List Int × Int) := (spec_l02Code.f k a0_0 l0_1 l1).bind fun t904 => (if t904 = 0 then ((spec_l02Product.f k a0_0 l0_1 l1).bind fun bt905 => (some (bt905.1, bt905.2, 0))) else (some (0, ([] : List Int), t904)))
theorem spec_ProductMoments.mono : ∀ a0 a1 a2 k, LeO (spec_ProductMoments.f k a0 a1 a2) (spec_ProductMoments.f (k + 1) a0 a1 a2) := by
 intro a0 a1 a2 k
 unfold spec_ProductMoments.f
 repeat' first
   | (with_reducible exact spec_l02Code.mono _ _ _ _)
   | (with_reducible exact spec_l02Product.mono _ _ _ _)
   | (with_reducible exact LeO.refl _)
   | (with_reducible exact LeO.none _)
   | (with_reducible refine LeO.ite ?_ ?_)
   | (with_reducible refine LeO.bind ?_ (fun _ => ?_))
   | exact spec_l02Code.mono _ _ _ _
   | exact spec_l02Product.mono _ _ _ _
   | exact LeO.none _
   | refine LeO.ite ?_ ?_
   | refine LeO.bind ?_ (fun _ => ?_)
set_option maxHeartbeats 8000000 in
set_option maxRecDepth 100000 in
theorem spec_ProductMoments.calls (k : Nat) (a0_0 : Int) (A0_1 : Option Addr) (c0_1 : Nat) (l0_1 : List Int) (A1 : Option Addr) (c1 : Nat) (l1 : List Int) (r1 : Int) (r2 : List Int) (r3 : Int) (w : World) (hr0_1 : Kd.C (Kd.int .i64) w A0_1 l0_1.length l0_1) (hc0_1 : l0_1.length ≤ c0_1) (hr1 : Kd.C (Kd.int .i64) w A1 l1.length l1) (hc1 : l1.length ≤ c1) (h : spec_ProductMoments.f k a0_0 l0_1 l1 = some (r1, r2, r3)) :
  Calls Try.prog 38 #[.agg #[.int .i64 a0_0, .slice A0_1 l0_1.length c0_1], .slice A1 l1.length c1] w fun e w' => ∃ v1_ : Value, e = .returned (.tuple #[.agg #[.int .i64 r1, v1_], .int .i64 r3]) ∧ Kd.R (Kd.int .i64) 2 w' w.heap.size (fun _ => True) v1_ r2 ∧ Below w.heap.size w w' := by
 have hu31 := Try.underlying31
 have HR0_1 := zA hr0_1
 have HC0_1 := zA hc0_1
 clear hr0_1 hc0_1
 have HR1 := zA hr1
 have HC1 := zA hc1
 clear hr1 hc1
 have HB := zA (Below.refl w.heap.size w)
 have H : ((spec_l02Code.f k a0_0 l0_1 l1).bind fun t904 => (if t904 = 0 then ((spec_l02Product.f k a0_0 l0_1 l1).bind fun bt905 => (some (bt905.1, bt905.2, 0))) else (some (0, ([] : List Int), t904)))) = some (r1, r2, r3) := h
 clear h
 replace H := Option.bind_eq_some_iff.mp H
 obtain ⟨t904, A30, H⟩ := H
 replace H : (if t904 = 0 then ((spec_l02Product.f k a0_0 l0_1 l1).bind fun bt905 => (some (bt905.1, bt905.2, 0))) else (some (0, ([] : List Int), t904))) = some (r1, r2, r3) := H
 have A3 := zA A30
 clear A30
 by_cases c4 : t904 = 0
 ·rw [if_pos c4] at H
  have c4b0 : (t904 == 0) = true := beq_iff_eq.mpr c4
  have c4b1 : (t904 != 0) = false := bne_eq_false_iff_eq.mpr c4
  clear c4
  replace H := Option.bind_eq_some_iff.mp H
  obtain ⟨⟨t905, t906⟩, A50, H⟩ := H
  replace H : (some (t905, t906, 0)) = some (r1, r2, r3) := H
  have A5 := zA A50
  clear A50
  simp only [Option.some.injEq, Prod.mk.injEq] at H
  obtain ⟨rfl, rfl, rfl⟩ := H
  go_enter Try.func38, Try.ntmps38
  go_wp2_with (first | ((with_reducible refine gate_dst (N := 2) rfl ?_); refine box_event ?hg (N := 2) ?hd (cs := #[.int .i64 a0_0, .slice A0_1 l0_1.length c0_1]) (t := 31) ?hr ?_; (case hd => rfl); (case hg => rfl); (case hr => first | (go_simp; done) | (go_simp; rfl)); intro gb902 hg w6 hbox hb; have n0_ := xH HB hb; have n1_ := zA (hbox); have n2_ := zA ((by rw [hg]; exact (below_size (uH HB.out)) : w.heap.size ≤ gb902)); have n3_ := zA ((by rw [hg]; exact (below_size (uH HB.out)) : w.heap.size ≤ gb902)); clear HB; have HB := n0_; have BK902 := n1_; have GW902 := n2_; have GE902 := n3_; have := geI GE902; clear n0_ n1_ n2_ n3_ hb hbox hg) | ((with_reducible refine gate_dst (N := 4) rfl ?_); refine box_event ?hg (N := 4) ?hd (cs := #[.int .i64 0, .slice none 0 0]) (t := 31) ?hr ?_; (case hd => rfl); (case hg => rfl); (case hr => first | (go_simp; done) | (go_simp; rfl)); intro gb903 hg w7 hbox hb; have n0_ := xB BK902 hb; have n1_ := xH HB hb; have n2_ := zA (hbox); have n3_ := zA ((by rw [hg]; exact (below_size (uH HB.out)) : w.heap.size ≤ gb903)); have n4_ := zA ((by rw [hg]; exact (below_size (uH HB.out)) : w.heap.size ≤ gb903)); have n5_ := zA ((by rw [hg]; exact neL BK902 : gb902 ≠ gb903)); have n6_ := zA ((by rw [hg]; exact neG BK902 : gb903 ≠ gb902)); clear BK902 HB; have BK902 := n0_; have HB := n1_; have BK903 := n2_; have GW903 := n3_; have GE903 := n4_; have := geI GE903; have NB902_903 := n5_; have NB903_902 := n6_; clear n0_ n1_ n2_ n3_ n4_ n5_ n6_ hb hbox hg; have hnb8 := NB902_903.out; have hnc8 := NB903_902.out; have hcz9_0 : w7.cell? ⟨gb902, 0, none⟩ = some (.int .i64 a0_0) := (blk_cell BK902.out 0).trans rfl; have hcz9_1 : w7.cell? ⟨gb902, 1, none⟩ = some (.slice A0_1 l0_1.length c0_1) := (blk_cell BK902.out 1).trans rfl; have hfz9_0 := blk_frozen BK902.out 0; have hfz9_1 := blk_frozen BK902.out 1) | ((with_reducible refine gate_callee (f := 91) rfl ?_); refine goesL_ (some 9) rfl rfl Try.func91 (by kernel_rfl) rfl #[.agg #[.int .i64 a0_0, .slice A0_1 l0_1.length c0_1], .slice A1 l1.length c1] rfl (by (try simp only [la, lb, lc]); first | done | rfl | (simp only [ld, le]; rfl)) ?_; (with_reducible refine (spec_l02Code.calls k a0_0 _ _ l0_1 _ _ l1 t904 _ ?side1 ?side2 ?side3 ?side4 A3.out).mono ?_); (case side1 => exact uC ((Kd.C_below HR0_1.out HB.out))); (case side2 => exact HC0_1.out); (case side3 => exact uC ((Kd.C_below HR1.out HB.out))); (case side4 => exact HC1.out); rintro e w10 ⟨rfl, hb⟩; refine ⟨_, rfl, ?_⟩; have n0_ := xB BK902 hb; have n1_ := xB BK903 hb; have n2_ := xH HB hb; clear BK902 BK903 HB; have BK902 := n0_; have BK903 := n1_; have HB := n2_; clear n0_ n1_ n2_; (try clear hb); (try clear hb2); (try clear hk); (try clear hi); have hcz11_0 : w10.cell? ⟨gb902, 0, none⟩ = some (.int .i64 a0_0) := (blk_cell BK902.out 0).trans rfl; have hcz11_1 : w10.cell? ⟨gb902, 1, none⟩ = some (.slice A0_1 l0_1.length c0_1) := (blk_cell BK902.out 1).trans rfl; have hfz11_0 := blk_frozen BK902.out 0; have hfz11_1 := blk_frozen BK902.out 1) | ((with_reducible refine gate_callee (f := 92) rfl ?_); refine goesL_ (some 16) rfl rfl Try.func92 (by kernel_rfl) rfl #[.agg #[.int .i64 a0_0, .slice A0_1 l0_1.length c0_1], .slice A1 l1.length c1] rfl (by (try simp only [la, lb, lc]); first | done | rfl | (simp only [ld, le]; rfl)) ?_; (with_reducible refine (spec_l02Product.calls k a0_0 _ _ l0_1 _ _ l1 t905 t906 _ ?side1 ?side2 ?side3 ?side4 A5.out).mono ?_); (case side1 => exact uC ((Kd.C_below HR0_1.out HB.out))); (case side2 => exact HC0_1.out); (case side3 => exact uC ((Kd.C_below HR1.out HB.out))); (case side4 => exact HC1.out); rintro e w12 ⟨v907, rfl, ho0, hb⟩; refine ⟨_, rfl, ?_⟩; have n0_ := zA (Kd.R_lower ho0 (below_size (uH HB.out))); have n1_ := xB BK902 hb; have n2_ := xB BK903 hb; have n3_ := xH HB hb; clear BK902 BK903 HB; have HO908 := n0_; have BK902 := n1_; have BK903 := n2_; have HB := n3_; clear n0_ n1_ n2_ n3_; (try clear hb); (try clear hb2); (try clear hk); (try clear hi); (try clear ho0); have hcz13_0 : w12.cell? ⟨gb903, 0, none⟩ = some (.int .i64 0) := (blk_cell BK903.out 0).trans rfl; have hcz13_1 : w12.cell? ⟨gb903, 1, none⟩ = some (.slice none 0 0) := (blk_cell BK903.out 1).trans rfl; have hfz13_0 := blk_frozen BK903.out 0; have hfz13_1 := blk_frozen BK903.out 1; obtain ⟨Ao14, co14, eo14⟩ := Kd.R_slice HO908.out; subst eo14))
  refine bodyPost_ret (results_ct rfl _ _ gb903 31 #[.int .i64 t905, .slice Ao14 t906.length co14] (0, 0) _ rfl (by (with_reducible repeat (first | refine blk_drewN ?_ _ | refine blk_drew ?_ | refine blk_alloc ?_ _)); refine blk_put (cs := #[.int .i64 t905, .slice none 0 0]) ?_ 1 _ rfl; (with_reducible repeat (first | refine blk_drewN ?_ _ | refine blk_drew ?_ | refine blk_alloc ?_ _)); refine blk_put (cs := #[.int .i64 0, .slice none 0 0]) ?_ 0 _ rfl; (with_reducible repeat (first | refine blk_drewN ?_ _ | refine blk_drew ?_ | refine blk_alloc ?_ _)); exact BK903.out) Try.underlying31 rfl (by kernel_rfl)) rfl ?_
  exact ⟨_, by first | rfl | (simp [errW_none, errW_some] <;> rfl) | (simp [*, errW_none, errW_some] <;> rfl), uR (Kd.R_mono (Kd.R_far (p := ⟨gb903, 1, none⟩) (Kd.R_far (p := ⟨gb903, 0, none⟩) (Kd.R_types HO908.out BK903.out (by decide)) (fun _ hk => hk.2) (.int .i64 t905)) (fun _ hk => hk.2) (.slice Ao14 t906.length co14)) (fun _ hk => trivial)), uH HB.out⟩
 ·rw [if_neg c4] at H
  have c4b0 : (t904 == 0) = false := beq_eq_false_iff_ne.mpr c4
  have c4b1 : (t904 != 0) = true := bne_iff_ne.mpr c4
  simp only [Option.some.injEq, Prod.mk.injEq] at H
  obtain ⟨rfl, rfl, rfl⟩ := H
  go_enter Try.func38, Try.ntmps38
  go_wp2_with (first | ((with_reducible refine gate_dst (N := 2) rfl ?_); refine box_event ?hg (N := 2) ?hd (cs := #[.int .i64 a0_0, .slice A0_1 l0_1.length c0_1]) (t := 31) ?hr ?_; (case hd => rfl); (case hg => rfl); (case hr => first | (go_simp; done) | (go_simp; rfl)); intro gb902 hg w15 hbox hb; have n0_ := xH HB hb; have n1_ := zA (hbox); have n2_ := zA ((by rw [hg]; exact (below_size (uH HB.out)) : w.heap.size ≤ gb902)); have n3_ := zA ((by rw [hg]; exact (below_size (uH HB.out)) : w.heap.size ≤ gb902)); clear HB; have HB := n0_; have BK902 := n1_; have GW902 := n2_; have GE902 := n3_; have := geI GE902; clear n0_ n1_ n2_ n3_ hb hbox hg) | ((with_reducible refine gate_dst (N := 4) rfl ?_); refine box_event ?hg (N := 4) ?hd (cs := #[.int .i64 0, .slice none 0 0]) (t := 31) ?hr ?_; (case hd => rfl); (case hg => rfl); (case hr => first | (go_simp; done) | (go_simp; rfl)); intro gb903 hg w16 hbox hb; have n0_ := xB BK902 hb; have n1_ := xH HB hb; have n2_ := zA (hbox); have n3_ := zA ((by rw [hg]; exact (below_size (uH HB.out)) : w.heap.size ≤ gb903)); have n4_ := zA ((by rw [hg]; exact (below_size (uH HB.out)) : w.heap.size ≤ gb903)); have n5_ := zA ((by rw [hg]; exact neL BK902 : gb902 ≠ gb903)); have n6_ := zA ((by rw [hg]; exact neG BK902 : gb903 ≠ gb902)); clear BK902 HB; have BK902 := n0_; have HB := n1_; have BK903 := n2_; have GW903 := n3_; have GE903 := n4_; have := geI GE903; have NB902_903 := n5_; have NB903_902 := n6_; clear n0_ n1_ n2_ n3_ n4_ n5_ n6_ hb hbox hg; have hnb17 := NB902_903.out; have hnc17 := NB903_902.out; have hcz18_0 : w16.cell? ⟨gb902, 0, none⟩ = some (.int .i64 a0_0) := (blk_cell BK902.out 0).trans rfl; have hcz18_1 : w16.cell? ⟨gb902, 1, none⟩ = some (.slice A0_1 l0_1.length c0_1) := (blk_cell BK902.out 1).trans rfl; have hfz18_0 := blk_frozen BK902.out 0; have hfz18_1 := blk_frozen BK902.out 1) | ((with_reducible refine gate_callee (f := 91) rfl ?_); refine goesL_ (some 9) rfl rfl Try.func91 (by kernel_rfl) rfl #[.agg #[.int .i64 a0_0, .slice A0_1 l0_1.length c0_1], .slice A1 l1.length c1] rfl (by (try simp only [la, lb, lc]); first | done | rfl | (simp only [ld, le]; rfl)) ?_; (with_reducible refine (spec_l02Code.calls k a0_0 _ _ l0_1 _ _ l1 t904 _ ?side1 ?side2 ?side3 ?side4 A3.out).mono ?_); (case side1 => exact uC ((Kd.C_below HR0_1.out HB.out))); (case side2 => exact HC0_1.out); (case side3 => exact uC ((Kd.C_below HR1.out HB.out))); (case side4 => exact HC1.out); rintro e w19 ⟨rfl, hb⟩; refine ⟨_, rfl, ?_⟩; have n0_ := xB BK902 hb; have n1_ := xB BK903 hb; have n2_ := xH HB hb; clear BK902 BK903 HB; have BK902 := n0_; have BK903 := n1_; have HB := n2_; clear n0_ n1_ n2_; (try clear hb); (try clear hb2); (try clear hk); (try clear hi); have hcz20_0 : w19.cell? ⟨gb903, 0, none⟩ = some (.int .i64 0) := (blk_cell BK903.out 0).trans rfl; have hcz20_1 : w19.cell? ⟨gb903, 1, none⟩ = some (.slice none 0 0) := (blk_cell BK903.out 1).trans rfl; have hfz20_0 := blk_frozen BK903.out 0; have hfz20_1 := blk_frozen BK903.out 1))
  refine bodyPost_ret (results_ct rfl _ _ gb903 31 #[.int .i64 0, .slice none 0 0] (0, 0) _ rfl (by (with_reducible repeat (first | refine blk_drewN ?_ _ | refine blk_drew ?_ | refine blk_alloc ?_ _)); refine blk_put (cs := #[.int .i64 0, .slice none 0 0]) ?_ 1 _ rfl; (with_reducible repeat (first | refine blk_drewN ?_ _ | refine blk_drew ?_ | refine blk_alloc ?_ _)); refine blk_put (cs := #[.int .i64 0, .slice none 0 0]) ?_ 0 _ rfl; (with_reducible repeat (first | refine blk_drewN ?_ _ | refine blk_drew ?_ | refine blk_alloc ?_ _)); exact BK903.out) Try.underlying31 rfl (by kernel_rfl)) rfl ?_
  exact ⟨_, by first | rfl | (simp [errW_none, errW_some] <;> rfl) | (simp [*, errW_none, errW_some] <;> rfl), by first | exact Kd.R_nil _ _ _ _ _ | exact Kd.N_nil _ _ _ _ _ | exact Kd.V_nil _ _ _ _ _ | exact Kd.Q_nil _ _ _ _ _ | exact Kd.S_nil _ _ _ _ _, uH HB.out⟩

end Go.Proofs.Ytokkabgkjhpecaa.Pr
/- The reference's code of moments and a polynomial; no condition. -/
namespace Go.Proofs.Ytokkabgkjhpecaa.Pr
open Go.RowKit Go.Proofs.YtokkabgkjhpecaaW.PrintWords Go.Proofs.YtokkabgkjhpecaaW.PrintLast Go.Proofs.YtokkabgkjhpecaaW.PrintMore

theorem specCode_ev (p : Int) (l f : List Int) (hl : Sm l.length) (hf : Sm f.length) :
    Ev (fun k => spec_l02Code.f k p l f) (if momB p l && polyB p f then (if f.length > l.length then 2 else 0) else 1) := by
  unfold spec_l02Code.f
  refine Ev.bind (specAre_ev p l hl) ?_
  by_cases h : momB p l = true
  · refine Ev.pos h (Ev.bind (specPoly_ev p f hf) ?_)
    rw [h, Bool.true_and]
    by_cases hp : polyB p f = true
    · rw [hp]
      refine Ev.step (fun k => by rw [spec_l02Code.j0]) ?_
      refine Ev.neg (by decide) ?_
      by_cases hg : f.length > l.length
      · exact Ev.pos (by omega) (Ev.some' (by simp [hg]))
      · exact Ev.neg (by omega) (Ev.some' (by simp [hg]))
    · rw [Bool.eq_false_iff.2 hp]
      refine Ev.step (fun k => by rw [spec_l02Code.j0]) ?_
      exact Ev.pos rfl (Ev.some' rfl)
  · refine Ev.neg h ?_
    rw [Bool.eq_false_iff.2 h]
    refine Ev.step (fun k => by rw [spec_l02Code.j0]) ?_
    exact Ev.pos rfl (Ev.some' rfl)

end Go.Proofs.Ytokkabgkjhpecaa.Pr
/- ProductMoments: for all arguments the program and the reference come to one value; no condition. -/
namespace Go.Proofs.Ytokkabgkjhpecaa.Pr
open Go.RowKit Go.Proofs.YtokkabgkjhpecaaW.PrintWords Go.Proofs.YtokkabgkjhpecaaW.PrintLast Go.Proofs.YtokkabgkjhpecaaW.PrintMore

def prodL (p : Int) (l f : List Int) (n : Nat) : List Int := (List.range n).map fun k => applyM p l f k
theorem prodL_len (p : Int) (l f : List Int) (n : Nat) : (prodL p l f n).length = n := by simp [prodL]
theorem prodL_succ (p : Int) (l f : List Int) (n : Nat) : prodL p l f (n + 1) = prodL p l f n ++ [applyM p l f n] := by simp [prodL, List.range_succ]
theorem mx_one (n : Nat) : mx (n : Int) 1 = ((max n 1 : Nat) : Int) := by unfold mx; split <;> omega
theorem specProd_l0 {p : Int} (hp : Pm p) (l f : List Int) (nl : Nm p l) (nf : Nm p f) (h24 : l.length ≤ 24) (hfl : max f.length 1 ≤ l.length) (d : Nat) : ∀ i : Nat, i + d + max f.length 1 = l.length + 1 →
    Ev (fun k => spec_l02Product.l0 k f (i : Int) p l p (prodL p l f i)) (p, prodL p l f (l.length + 1 - max f.length 1)) := by
  induction d with
  | zero =>
    intro i hi
    refine Ev.step (fun k => by rw [spec_l02Product.l0]) ?_
    rw [mx_one, wrap_id (by omega) (by omega)]
    refine Ev.neg (by omega) (Ev.some' ?_)
    rw [show i = l.length + 1 - max f.length 1 from by omega]
  | succ d ih =>
    intro i hi
    refine Ev.step (fun k => by rw [spec_l02Product.l0]) ?_
    rw [mx_one, wrap_id (by omega) (by omega)]
    refine Ev.pos (by omega) (Ev.bind (specApply_ev hp l f nl nf i (.inl (by omega)) (by unfold Sm; omega) (by unfold Sm; omega)) (Ev.pos (by rw [prodL_len]; omega) ?_))
    rw [← prodL_succ, wsucc (i := i) (n := l.length) (by omega) (by omega)]
    exact ih (i + 1) (by omega)
theorem implProd_l0 {p : Int} (hp : Pm p) (l f : List Int) (nl : Nm p l) (nf : Nm p f) (h24 : l.length ≤ 24) (hfl : max f.length 1 ≤ l.length) (d : Nat) : ∀ i : Nat, i + d + max f.length 1 = l.length + 1 →
    Ev (fun k => impl_Moments_product.l0 k f (i : Int) p l p (prodL p l f i)) (p, prodL p l f (l.length + 1 - max f.length 1)) := by
  induction d with
  | zero =>
    intro i hi
    refine Ev.step (fun k => by rw [impl_Moments_product.l0]) ?_
    rw [mx_one, wrap_id (by omega) (by omega)]
    refine Ev.neg (by omega) (Ev.some' ?_)
    rw [show i = l.length + 1 - max f.length 1 from by omega]
  | succ d ih =>
    intro i hi
    have ha := implApply_ev hp (l.drop i) f (nl.drop i) nf (by rw [List.length_drop]; omega) (by unfold Sm; omega)
    rw [applyM_drop, Nat.zero_add] at ha
    refine Ev.step (fun k => by rw [impl_Moments_product.l0]) ?_
    rw [mx_one, wrap_id (by omega) (by omega), toNat_nat]
    refine Ev.pos (by omega) (Ev.pos (by omega) (Ev.pos (by omega) (Ev.bind ha (Ev.pos (by rw [prodL_len]; omega) ?_))))
    rw [← prodL_succ, wsucc (i := i) (n := l.length) (by omega) (by omega)]
    exact ih (i + 1) (by omega)
theorem ProductMoments_both (p : Int) (l f : List Int) (hl : Sm l.length) (hf : Sm f.length) :
    ∃ v : Int × List Int × Int, Ev (fun k => spec_ProductMoments.f k p l f) v ∧ Ev (fun k => impl_ProductMoments.f k p l f) v ∧ Sm v.2.1.length := by
  have hs := specCode_ev p l f hl hf
  have h1 : impl_ProductMoments_1.f p l f = some (decide ((f.length : Int) ≤ (l.length : Int))) := rfl
  have hc := fun b => momentsCode_ev p l hl b [f] (by simp [Sm]) (fun g h => by rw [List.mem_singleton.1 h]; exact hf)
  simp only [one_all] at hc
  by_cases h : (momB p l && polyB p f) = true
  · have hm : momB p l = true := by simp only [Bool.and_eq_true] at h; exact h.1
    have hq : polyB p f = true := by simp only [Bool.and_eq_true] at h; exact h.2
    have hp := momB.pm hm
    have hll := momB.len hm
    by_cases hg : f.length ≤ l.length
    · refine ⟨(p, prodL p l f (l.length + 1 - max f.length 1), 0), ?_, ?_, ?_⟩
      · unfold spec_ProductMoments.f spec_l02Product.f
        rw [if_pos h, if_neg (by omega)] at hs
        exact Ev.bind hs (Ev.pos rfl (Ev.bind (specProd_l0 hp l f (momB.nm hm) (polyB.nm hq) hll.2 (by omega) (l.length + 1 - max f.length 1) 0 (by omega)) (Ev.now _)))
      · unfold impl_ProductMoments.f impl_Moments_product.f
        have hc := hc true
        rw [if_pos h] at hc
        rw [decide_eq_true (by omega)] at h1
        exact Ev.bindE h1 (Ev.bind hc (Ev.pos rfl (Ev.bind (implProd_l0 hp l f (momB.nm hm) (polyB.nm hq) hll.2 (by omega) (l.length + 1 - max f.length 1) 0 (by omega)) (Ev.now _))))
      · dsimp only
        rw [prodL_len]
        unfold Sm
        omega
    · refine ⟨(0, [], 2), ?_, ?_, Sm0⟩
      · unfold spec_ProductMoments.f
        rw [if_pos h, if_pos (by omega)] at hs
        exact Ev.bind hs (Ev.neg (by decide) (Ev.now _))
      · unfold impl_ProductMoments.f
        have hc := hc false
        rw [if_pos h] at hc
        rw [decide_eq_false (by omega)] at h1
        exact Ev.bindE h1 (Ev.bind hc (Ev.neg (by simp) (Ev.now _)))
  · refine ⟨(0, [], 1), ?_, ?_, Sm0⟩
    · unfold spec_ProductMoments.f
      rw [if_neg h] at hs
      exact Ev.bind hs (Ev.neg (by decide) (Ev.now _))
    · unfold impl_ProductMoments.f
      have hc := hc (decide ((f.length : Int) ≤ (l.length : Int)))
      rw [if_neg h] at hc
      exact Ev.bindE h1 (Ev.bind hc (Ev.neg (by simp) (Ev.now _)))
end Go.Proofs.Ytokkabgkjhpecaa.Pr
