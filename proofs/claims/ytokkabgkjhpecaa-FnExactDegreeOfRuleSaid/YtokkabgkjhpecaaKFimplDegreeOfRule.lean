/- Printed by a program of this session out of the translation: what these functions of the program compute, under the conditions that each theorem names. -/
import Derived.Test.YtokkabgkjhpecaaKC01
import Derived.Test.YtokkabgkjhpecaaKC06
import Derived.Test.YtokkabgkjhpecaaKC07
import Derived.Test.YtokkabgkjhpecaaKC08
import Derived.Test.YtokkabgkjhpecaaKDegreeOfRule1
namespace Go.Proofs.Ytokkabgkjhpecaa.Pr
open Go.RowKit Go.Proofs.YtokkabgkjhpecaaW.PrintWords Go.Proofs.YtokkabgkjhpecaaW.PrintLast Go.Proofs.YtokkabgkjhpecaaW.PrintMore
attribute [local go_sem] max2_int min2_int max_two min_two max_three min_three max_four min_four   -- for this text's walks alone
set_option linter.unusedVariables false
set_option linter.unusedSimpArgs false

/-! ### impl_DegreeOfRule: function 26 -/
def impl_DegreeOfRule.l0 : Nat → Int → Int → Int → Int → List Int → Int → List Int → List Int → Option (Int × Int)
 | 0, _, _, _, _, _, _, _, _ => none
 | k + 1, x7, x17, x18, x319000, x319001, x320000, x320001, x320002 => if x18 < x17 then (if 0 ≤ x18 then (if (x18 : Int).toNat ≤ 35184372088832 then ((some (List.replicate (x18 : Int).toNat 0 : List Int)).bind fun y321 => ((some (([1] : List Int) : List Int)).bind fun y324 => (if y321.length + y324.length < 17592186044416 then ((impl_Moments_errorFor.f k x319000 x319001 x320000 x320001 x320002 (y321 ++ y324)).bind fun t330 => (if t330 = 0 then (impl_DegreeOfRule.l0 k x18 x17 (wrap64 (x18 + 1)) x319000 x319001 x320000 x320001 x320002) else (some (x7, 0)))) else (none)))) else (none)) else (none)) else (some (x7, 0))
def impl_DegreeOfRule.f (k : Nat) (a0_0 : Int) (l0_1 : List Int) (a1_0 : Int) (l1_1 : List Int) (l1_2 : List Int) : Option (Int × Int) := (impl_bothCode.f k a0_0 l0_1 a1_0 l1_1 l1_2 (impl_always.f.getD false) ([] : List (List Int))).bind fun t320 => (if t320 = 0 then (impl_DegreeOfRule.l0 k (-1) (l0_1.length : Int) 0 a0_0 l0_1 a1_0 l1_1 l1_2) else (some (0, t320)))
theorem impl_DegreeOfRule.mono_l : ∀ k, (∀ y0 y1 y2 y3 y4 y5 y6 y7, LeO (impl_DegreeOfRule.l0 k y0 y1 y2 y3 y4 y5 y6 y7) (impl_DegreeOfRule.l0 (k + 1) y0 y1 y2 y3 y4 y5 y6 y7))
 | 0 => fun _ _ _ _ _ _ _ _ r h => by simp [impl_DegreeOfRule.l0] at h
 | k + 1 => by
  have ih0 := impl_DegreeOfRule.mono_l k
  ·intro y0 y1 y2 y3 y4 y5 y6 y7
   unfold impl_DegreeOfRule.l0
   repeat' first
   | (with_reducible exact ih0 _ _ _ _ _ _ _ _)
   | (with_reducible exact impl_Moments_errorFor.mono _ _ _ _ _ _ _)
   | (with_reducible exact impl_bothCode.mono _ _ _ _ _ _ _ _)
   | (with_reducible exact LeO.refl _)
   | (with_reducible exact LeO.none _)
   | (with_reducible refine LeO.ite ?_ ?_)
   | (with_reducible refine LeO.bind ?_ (fun _ => ?_))
   | exact ih0 _ _ _ _ _ _ _ _
   | exact impl_Moments_errorFor.mono _ _ _ _ _ _ _
   | exact impl_bothCode.mono _ _ _ _ _ _ _ _
   | exact LeO.none _
   | refine LeO.ite ?_ ?_
   | refine LeO.bind ?_ (fun _ => ?_)
theorem impl_DegreeOfRule.mono : ∀ a0 a1 a2 a3 a4 k, LeO (impl_DegreeOfRule.f k a0 a1 a2 a3 a4) (impl_DegreeOfRule.f (k + 1) a0 a1 a2 a3 a4) := by
 intro a0 a1 a2 a3 a4 k
 have ih0 := impl_DegreeOfRule.mono_l k
 unfold impl_DegreeOfRule.f
 repeat' first
   | (with_reducible exact ih0 _ _ _ _ _ _ _ _)
   | (with_reducible exact impl_Moments_errorFor.mono _ _ _ _ _ _ _)
   | (with_reducible exact impl_bothCode.mono _ _ _ _ _ _ _ _)
   | (with_reducible exact LeO.refl _)
   | (with_reducible exact LeO.none _)
   | (with_reducible refine LeO.ite ?_ ?_)
   | (with_reducible refine LeO.bind ?_ (fun _ => ?_))
   | exact ih0 _ _ _ _ _ _ _ _
   | exact impl_Moments_errorFor.mono _ _ _ _ _ _ _
   | exact impl_bothCode.mono _ _ _ _ _ _ _ _
   | exact LeO.none _
   | refine LeO.ite ?_ ?_
   | refine LeO.bind ?_ (fun _ => ?_)
def impl_DegreeOfRule.T8 : Bool × List (List Nat × List Nat) := (true, [([], []), ([], []), ([], []), ([2, 2], [2]), ([], []), ([3, 4], [3, 4]), ([0, 1, 5, 5], [0, 1, 5]), ([6], [6])])
def impl_DegreeOfRule.B8 : List Nat := [0, 0, 0, 4, 0, 28, 63, 127]
theorem impl_DegreeOfRule.tab8 : rtab .any (opsOf Try.f26 8) = impl_DegreeOfRule.T8 := by kernel_rfl
theorem impl_DegreeOfRule.bits8 : waitsOk impl_DegreeOfRule.T8.2 impl_DegreeOfRule.B8 = true := by kernel_rfl
set_option maxHeartbeats 8000000 in
set_option maxRecDepth 100000 in
theorem impl_DegreeOfRule.calls (k : Nat) (a0_0 : Int) (A0_1 : Option Addr) (c0_1 : Nat) (l0_1 : List Int) (a1_0 : Int) (A1_1 : Option Addr) (c1_1 : Nat) (l1_1 : List Int) (A1_2 : Option Addr) (c1_2 : Nat) (l1_2 : List Int) (r1 : Int) (r2 : Int) (w : World) (hr0_1 : Kd.C (Kd.int .i64) w A0_1 l0_1.length l0_1) (hc0_1 : l0_1.length ≤ c0_1) (hr1_1 : Kd.C (Kd.int .i64) w A1_1 l1_1.length l1_1) (hc1_1 : l1_1.length ≤ c1_1) (hr1_2 : Kd.C (Kd.int .i64) w A1_2 l1_2.length l1_2) (hc1_2 : l1_2.length ≤ c1_2) (h : impl_DegreeOfRule.f k a0_0 l0_1 a1_0 l1_1 l1_2 = some (r1, r2)) :
  Calls Try.prog 26 #[.agg #[.int .i64 a0_0, .slice A0_1 l0_1.length c0_1], .agg #[.int .i64 a1_0, .slice A1_1 l1_1.length c1_1, .slice A1_2 l1_2.length c1_2]] w fun e w' => e = .returned (.tuple #[.int .i64 r1, .int .i64 r2]) ∧ Below w.heap.size w w' := by
 have hu31 := Try.underlying31
 have hu33 := Try.underlying33
 have HR0_1 := zA hr0_1
 have HC0_1 := zA hc0_1
 clear hr0_1 hc0_1
 have HR1_1 := zA hr1_1
 have HC1_1 := zA hc1_1
 clear hr1_1 hc1_1
 have HR1_2 := zA hr1_2
 have HC1_2 := zA hc1_2
 clear hr1_2 hc1_2
 have HB := zA (Below.refl w.heap.size w)
 have H : ((impl_bothCode.f k a0_0 l0_1 a1_0 l1_1 l1_2 (impl_always.f.getD false) ([] : List (List Int))).bind fun t320 => (if t320 = 0 then (impl_DegreeOfRule.l0 k (-1) (l0_1.length : Int) 0 a0_0 l0_1 a1_0 l1_1 l1_2) else (some (0, t320)))) = some (r1, r2) := h
 clear h
 replace H := Option.bind_eq_some_iff.mp H
 obtain ⟨t320, A30, H⟩ := H
 replace H : (if t320 = 0 then (impl_DegreeOfRule.l0 k (-1) (l0_1.length : Int) 0 a0_0 l0_1 a1_0 l1_1 l1_2) else (some (0, t320))) = some (r1, r2) := H
 have A3 := zA A30
 clear A30
 by_cases c4 : t320 = 0
 ·rw [if_pos c4] at H
  have c4b0 : (t320 == 0) = true := beq_iff_eq.mpr c4
  have c4b1 : (t320 != 0) = false := bne_eq_false_iff_eq.mpr c4
  clear c4
  have H' := zA H
  clear H
  go_enter Try.func26, Try.ntmps26
  go_wp2_with (first | ((with_reducible refine gate_dst (N := 2) rfl ?_); refine box_event ?hg (N := 2) ?hd (cs := #[.int .i64 a0_0, .slice A0_1 l0_1.length c0_1]) (t := 31) ?hr ?_; (case hd => rfl); (case hg => rfl); (case hr => first | (go_simp; done) | (go_simp; rfl)); intro gb318 hg w5 hbox hb; have n0_ := xH HB hb; have n1_ := zA (hbox); have n2_ := zA ((by rw [hg]; exact (below_size (uH HB.out)) : w.heap.size ≤ gb318)); have n3_ := zA ((by rw [hg]; exact (below_size (uH HB.out)) : w.heap.size ≤ gb318)); clear HB; have HB := n0_; have BK318 := n1_; have GW318 := n2_; have GE318 := n3_; have := geI GE318; clear n0_ n1_ n2_ n3_ hb hbox hg) | ((with_reducible refine gate_dst (N := 3) rfl ?_); refine box_event ?hg (N := 3) ?hd (cs := #[.int .i64 a1_0, .slice A1_1 l1_1.length c1_1, .slice A1_2 l1_2.length c1_2]) (t := 33) ?hr ?_; (case hd => rfl); (case hg => rfl); (case hr => first | (go_simp; done) | (go_simp; rfl)); intro gb319 hg w6 hbox hb; have n0_ := xB BK318 hb; have n1_ := xH HB hb; have n2_ := zA (hbox); have n3_ := zA ((by rw [hg]; exact (below_size (uH HB.out)) : w.heap.size ≤ gb319)); have n4_ := zA ((by rw [hg]; exact (below_size (uH HB.out)) : w.heap.size ≤ gb319)); have n5_ := zA ((by rw [hg]; exact neL BK318 : gb318 ≠ gb319)); have n6_ := zA ((by rw [hg]; exact neG BK318 : gb319 ≠ gb318)); clear BK318 HB; have BK318 := n0_; have HB := n1_; have BK319 := n2_; have GW319 := n3_; have GE319 := n4_; have := geI GE319; have NB318_319 := n5_; have NB319_318 := n6_; clear n0_ n1_ n2_ n3_ n4_ n5_ n6_ hb hbox hg; have hnb7 := NB318_319.out; have hnc7 := NB319_318.out; have hcz8_0 : w6.cell? ⟨gb318, 0, none⟩ = some (.int .i64 a0_0) := (blk_cell BK318.out 0).trans rfl; have hcz8_1 : w6.cell? ⟨gb318, 1, none⟩ = some (.slice A0_1 l0_1.length c0_1) := (blk_cell BK318.out 1).trans rfl; have hfz8_0 := blk_frozen BK318.out 0; have hfz8_1 := blk_frozen BK318.out 1; have hcz9_0 : w6.cell? ⟨gb319, 0, none⟩ = some (.int .i64 a1_0) := (blk_cell BK319.out 0).trans rfl; have hcz9_1 : w6.cell? ⟨gb319, 1, none⟩ = some (.slice A1_1 l1_1.length c1_1) := (blk_cell BK319.out 1).trans rfl; have hcz9_2 : w6.cell? ⟨gb319, 2, none⟩ = some (.slice A1_2 l1_2.length c1_2) := (blk_cell BK319.out 2).trans rfl; have hfz9_0 := blk_frozen BK319.out 0; have hfz9_1 := blk_frozen BK319.out 1; have hfz9_2 := blk_frozen BK319.out 2) | ((with_reducible refine gate_callee (f := 63) rfl ?_); refine goesL_ (some 11) rfl rfl Try.func63 (by kernel_rfl) rfl #[.agg #[.int .i64 a0_0, .slice A0_1 l0_1.length c0_1], .agg #[.int .i64 a1_0, .slice A1_1 l1_1.length c1_1, .slice A1_2 l1_2.length c1_2], (.func (.func 68) #[] #[]), .slice none 0 0] rfl (by (try simp only [la, lb, lc]); first | done | rfl | (simp only [ld, le]; rfl)) ?_; (refine (impl_bothCode.calls k a0_0 _ _ l0_1 a1_0 _ _ l1_1 _ _ l1_2 _ (impl_always.f.getD false) _ _ ([] : List (List Int)) t320 _ ?side1 ?side2 ?side3 ?side4 ?side5 ?side6 ?side7 ?side8 ?side9 A3.out).mono ?_); (case side1 => exact uC ((Kd.C_below HR0_1.out HB.out))); (case side2 => exact HC0_1.out); (case side3 => exact uC ((Kd.C_below HR1_1.out HB.out))); (case side4 => exact HC1_1.out); (case side5 => exact uC ((Kd.C_below HR1_2.out HB.out))); (case side6 => exact HC1_2.out); (case side7 => exact FnB.of Try.func68 (by kernel_rfl) rfl (fun W_ hW_ => calls_of_args (args' := #[]) (by simp) ((impl_always.calls  _ W_  rfl).mono fun e_ W2_ h_ => ⟨h_.1, h_.2.below⟩))); (case side8 => exact Kd.C_nil _ _); (case side9 => exact Nat.le_refl _); rintro e w10 ⟨rfl, hb⟩; refine ⟨_, rfl, ?_⟩; have n0_ := xB BK318 hb; have n1_ := xB BK319 hb; have n2_ := xH HB hb; clear BK318 BK319 HB; have BK318 := n0_; have BK319 := n1_; have HB := n2_; clear n0_ n1_ n2_; (try clear hb); (try clear hb2); (try clear hk); (try clear hi); have hcz11_0 : w10.cell? ⟨gb318, 0, none⟩ = some (.int .i64 a0_0) := (blk_cell BK318.out 0).trans rfl; have hcz11_1 : w10.cell? ⟨gb318, 1, none⟩ = some (.slice A0_1 l0_1.length c0_1) := (blk_cell BK318.out 1).trans rfl; have hfz11_0 := blk_frozen BK318.out 0; have hfz11_1 := blk_frozen BK318.out 1))
  go_loopg [7, 18] k (fun kq v7 v18 w' => ∃ (x7_1 : Int) (x18_1 : Int), v7 = .int .i64 x7_1 ∧ v18 = .int .i64 x18_1 ∧ Aside0 (impl_DegreeOfRule.l0 kq x7_1 (l0_1.length : Int) x18_1 a0_0 l0_1 a1_0 l1_1 l1_2 = some (r1, r2)) ∧ Aside0 (kq ≤ k) ∧ Aside0 (w'.heap[gb318]? = some (.cells #[.int .i64 a0_0, (.slice A0_1 l0_1.length c0_1)] 31 (0, 0))) ∧ Aside0 (w'.heap[gb319]? = some (.cells #[.int .i64 a1_0, (.slice A1_1 l1_1.length c1_1), (.slice A1_2 l1_2.length c1_2)] 33 (0, 0))) ∧ Aside0 (Below w.heap.size w w'))
  case atStart => exact ⟨((-1)), (0), (by first | rfl | (simp; done) | (simp [*]; done)), (by first | rfl | (simp; done) | (simp [*]; done)), H', ⟨Nat.le_refl _⟩, ⟨uB BK318.out⟩, ⟨uB BK319.out⟩, ⟨uH HB.out⟩⟩
  case round =>
   clear H'
   try clear c1
   try clear c2
   try clear p2
   try clear c4
   try clear c4b0
   try clear c4b1
   try clear c6
   try clear c7
   try clear hcz11_0
   try clear hcz11_1
   try clear hcz8_0
   try clear hcz8_1
   try clear hcz9_0
   try clear hcz9_1
   try clear hcz9_2
   try clear hfz11_0
   try clear hfz11_1
   try clear hfz8_0
   try clear hfz8_1
   try clear hfz9_0
   try clear hfz9_1
   try clear hfz9_2
   obtain ⟨x7_1, x18_1, rfl, rfl, HA, HK1, BK318, BK319, HB⟩ := hrel
   cases gk with
   | zero => exact absurd HA.out (by simp [impl_DegreeOfRule.l0])
   | succ k1 =>
    have H := HA.out
    clear HA
    simp only [impl_DegreeOfRule.l0] at H
    by_cases c12 : x18_1 < (l0_1.length : Int)
    ·rw [if_pos c12] at H
     have c12b0 : decide (x18_1 < (l0_1.length : Int)) = true := decide_eq_true c12
     clear c12
     by_cases c13 : 0 ≤ x18_1
     ·rw [if_pos c13] at H
      have c13b0 := eq_true c13
      have c13b1 : decide (0 ≤ x18_1) = true := decide_eq_true c13
      clear c13
      by_cases c14 : (x18_1 : Int).toNat ≤ 35184372088832
      ·rw [if_pos c14] at H
       have c14b0 := eq_true c14
       have c14b1 : decide ((x18_1 : Int).toNat ≤ 35184372088832) = true := decide_eq_true c14
       clear c14
       obtain ⟨y321, hy321⟩ : ∃ y_ : List Int, y_ = (List.replicate (x18_1 : Int).toNat 0) := ⟨_, rfl⟩
       replace H : ((some (([1] : List Int) : List Int)).bind fun y324 => (if y321.length + y324.length < 17592186044416 then ((impl_Moments_errorFor.f k1 a0_0 l0_1 a1_0 l1_1 l1_2 (y321 ++ y324)).bind fun t330 => (if t330 = 0 then (impl_DegreeOfRule.l0 k1 x18_1 (l0_1.length : Int) (wrap64 (x18_1 + 1)) a0_0 l0_1 a1_0 l1_1 l1_2) else (some (x7_1, 0)))) else (none))) = some (r1, r2) := by first | (rw [hy321]; with_reducible exact H) | (have H2_ := (Option.bind_some _ _).symm.trans H; rw [hy321]; with_reducible exact H2_) | (have H2_ := (Option.bind_some _ _).symm.trans H; with_reducible exact H2_) | with_reducible exact H | (rw [hy321]; exact H) | exact H
       have Ny321 := zA hy321
       clear hy321
       obtain ⟨y324, hy324⟩ : ∃ y_ : List Int, y_ = (([1] : List Int)) := ⟨_, rfl⟩
       replace H : (if y321.length + y324.length < 17592186044416 then ((impl_Moments_errorFor.f k1 a0_0 l0_1 a1_0 l1_1 l1_2 (y321 ++ y324)).bind fun t330 => (if t330 = 0 then (impl_DegreeOfRule.l0 k1 x18_1 (l0_1.length : Int) (wrap64 (x18_1 + 1)) a0_0 l0_1 a1_0 l1_1 l1_2) else (some (x7_1, 0)))) else (none)) = some (r1, r2) := by first | (rw [hy324]; with_reducible exact H) | (have H2_ := (Option.bind_some _ _).symm.trans H; rw [hy324]; with_reducible exact H2_) | (have H2_ := (Option.bind_some _ _).symm.trans H; with_reducible exact H2_) | with_reducible exact H | (rw [hy324]; exact H) | exact H
       have Ny324 := zA hy324
       clear hy324
       by_cases c15 : y321.length + y324.length < 17592186044416
       ·rw [if_pos c15] at H
        have LMc15 := zA c15
        clear c15
        obtain ⟨y327, hy327⟩ : ∃ y_ : List Int, y_ = (y321 ++ y324) := ⟨_, rfl⟩
        replace H : ((impl_Moments_errorFor.f k1 a0_0 l0_1 a1_0 l1_1 l1_2 y327).bind fun t330 => (if t330 = 0 then (impl_DegreeOfRule.l0 k1 x18_1 (l0_1.length : Int) (wrap64 (x18_1 + 1)) a0_0 l0_1 a1_0 l1_1 l1_2) else (some (x7_1, 0)))) = some (r1, r2) := by first | (rw [hy327]; with_reducible exact H) | (have H2_ := (Option.bind_some _ _).symm.trans H; rw [hy327]; with_reducible exact H2_) | (have H2_ := (Option.bind_some _ _).symm.trans H; with_reducible exact H2_) | with_reducible exact H | (rw [hy327]; exact H) | exact H
        have Ny327 := zA hy327
        clear hy327
        replace H := Option.bind_eq_some_iff.mp H
        obtain ⟨t330, A160, H⟩ := H
        replace H : (if t330 = 0 then (impl_DegreeOfRule.l0 k1 x18_1 (l0_1.length : Int) (wrap64 (x18_1 + 1)) a0_0 l0_1 a1_0 l1_1 l1_2) else (some (x7_1, 0))) = some (r1, r2) := H
        have A16 := zA A160
        clear A160
        by_cases c17 : t330 = 0
        ·rw [if_pos c17] at H
         have c17b0 : (t330 == 0) = true := beq_iff_eq.mpr c17
         have c17b1 : (t330 != 0) = false := bne_eq_false_iff_eq.mpr c17
         clear c17
         have H' := zA H
         clear H
         try go_wp2
         have n0_ := zA (blk_drew BK318.out)
         have n1_ := zA (blk_drew BK319.out)
         have n2_ := zA (below_drew1 HB.out)
         clear BK318 BK319 HB
         have BK318 := n0_; have BK319 := n1_; have HB := n2_
         clear n0_ n1_ n2_
         refine start_ (n := 8) (S := fun w' => w'.cell? ⟨gb318, 0, none⟩ = some (.int .i64 a0_0) ∧ w'.cell? ⟨gb318, 1, none⟩ = some (.slice A0_1 l0_1.length c0_1) ∧ w'.cell? ⟨gb319, 0, none⟩ = some (.int .i64 a1_0) ∧ w'.cell? ⟨gb319, 1, none⟩ = some (.slice A1_1 l1_1.length c1_1) ∧ w'.cell? ⟨gb319, 2, none⟩ = some (.slice A1_2 l1_2.length c1_2)) (ds := []) #[false, false, false, false, false, false, false, false] (by kernel_rfl) rfl rfl ⟨(blk_cell BK318.out 0).trans rfl, (blk_cell BK318.out 1).trans rfl, (blk_cell BK319.out 0).trans rfl, (blk_cell BK319.out 1).trans rfl, (blk_cell BK319.out 2).trans rfl⟩ (fun hHeld => ?_); refine with_tabW impl_DegreeOfRule.tab8 impl_DegreeOfRule.bits8 (fun HT_ HW_ => ?_)
         generalize wr.drew = w18 at BK318 BK319 HB hHeld ⊢
         refine pu_ 2 23 (bl 8 4) HT_ ?_
         refine ta_ 0 21 (bl 8 5) HT_ HW_ hHeld ?_
         refine ta_ 1 22 (bl 8 7) HT_ HW_ hHeld ?_
         refine join_ (σ := Value × Value) 3 (bl 8 31) (fun s_ => [(24, s_.1), (25, s_.2)]) (fun s_ w' => (w'.cell? ⟨gb318, 0, none⟩ = some (.int .i64 a0_0) ∧ w'.cell? ⟨gb318, 1, none⟩ = some (.slice A0_1 l0_1.length c0_1) ∧ w'.cell? ⟨gb319, 0, none⟩ = some (.int .i64 a1_0) ∧ w'.cell? ⟨gb319, 1, none⟩ = some (.slice A1_1 l1_1.length c1_1) ∧ w'.cell? ⟨gb319, 2, none⟩ = some (.slice A1_2 l1_2.length c1_2)) ∧ (Kd.R (Kd.int .i64) 2 w' w.heap.size (fun k_ => some k_ ≠ (s_.2 : Value).ownBlock) s_.1 y321) ∧ (Kd.R (Kd.int .i64) 2 w' w.heap.size (fun k_ => some k_ ≠ (s_.1 : Value).ownBlock) s_.2 y324) ∧ (w'.heap[gb318]? = some (.cells #[.int .i64 a0_0, .slice A0_1 l0_1.length c0_1] 31 (0, 0))) ∧ (w'.heap[gb319]? = some (.cells #[.int .i64 a1_0, .slice A1_1 l1_1.length c1_1, .slice A1_2 l1_2.length c1_2] 33 (0, 0))) ∧ (Below w.heap.size w w')) ?_ ?_
         rotate_left
         ·intro hCont
          refine two_ (i := 3) (j := 4) (Ni := some 24) (Nj := some 25) (bl 8 15) (bl 8 23) rfl rfl rfl rfl (two_of HT_.out (by kernel_rfl)) (by decide) (by decide) (fun K hK => ?_) (fun K hK => ?_)
          ·skip
           refine Kd.R_make_step (Kd.int .i64) _ 2 (by rfl) (N := 24) rfl 22 _ _ rfl x18_1 rfl rfl Try.underlying22 (.int .i64 0) 8 info2 rfl (by decide) (by omega) 0 (ok := fun _ => True) (okp := fun _ => True) rfl (fun _ hk => hk) trivial (of_decide_eq_true (by first | (with_reducible assumption) | assumption)) (Nat.le_trans (Nat.mul_le_mul_right _ (of_decide_eq_true (by first | (with_reducible assumption) | assumption) : x18_1.toNat ≤ 35184372088832)) (by omega)) (Below.refl _ _) (Nat.le_refl _) ?_
           intro v322 w19 ho20 hb hg_ hnew_
           clear hg_ hnew_
           (first | rw [← Ny321.out] at ho20 | (simp only [Int.reduceToNat] at ho20; rw [← Ny321.out] at ho20))
           have n0_ := zA (Kd.R_lower ho20 (below_size (uH HB.out)))
           have n1_ := xB BK318 hb
           have n2_ := xB BK319 hb
           have n3_ := xH HB hb
           clear BK318 BK319 HB
           have HO323 := n0_; have BK318 := n1_; have BK319 := n2_; have HB := n3_
           clear n0_ n1_ n2_ n3_
           clear hb ho20
           refine hK.out _ _ ⟨(blk_cell BK318.out 0).trans rfl, (blk_cell BK318.out 1).trans rfl, (blk_cell BK319.out 0).trans rfl, (blk_cell BK319.out 1).trans rfl, (blk_cell BK319.out 2).trans rfl⟩ (fun hHeld => ?_)
           clear hK K
           refine no_ 24 ?_
           refine on_ 4 (some 25) (bl 8 31) HT_ (fun K hK => ?_)
           refine Kd.R_lit_step (Kd.int .i64) _ 2 ?hg (N := 25) ?hd (xs := ([1] : List Int)) (inner := [.int .i64 1]) (ok := fun _ => True) (okp := fun _ => True) ?hr ?hp (fun _ hk => hk) trivial (Below.refl _ _) (Nat.le_refl _) (by simp) ?_; (case hd => rfl); (case hg => rfl); (case hr => first | (go_simp; done) | (go_simp; rfl)); (case hp => exact (Reps.one (show Kd.M (Kd.int .i64) _ _ _ 1 [.int .i64 1] from rfl) (Reps.none _ _)))
           intro v325 w21 ho22 hb hg_ hnew_
           clear hg_ hnew_
           (first | rw [← Ny324.out] at ho22 | (simp only [Int.reduceToNat] at ho22; rw [← Ny324.out] at ho22))
           have n0_ := zA (Kd.R_elder' (uR HO323.out) (Kd.R_base ho22) hb)
           have n1_ := zA (Kd.R_lower (Kd.R_new' ho22 (Kd.R_lt (uR HO323.out))) (below_size (uH HB.out)))
           have n2_ := xB BK318 hb
           have n3_ := xB BK319 hb
           have n4_ := xH HB hb
           clear HO323 BK318 BK319 HB
           have HO323 := n0_; have HO326 := n1_; have BK318 := n2_; have BK319 := n3_; have HB := n4_
           clear n0_ n1_ n2_ n3_ n4_
           clear hb ho22
           refine hK.out _ _ ⟨(blk_cell BK318.out 0).trans rfl, (blk_cell BK318.out 1).trans rfl, (blk_cell BK319.out 0).trans rfl, (blk_cell BK319.out 1).trans rfl, (blk_cell BK319.out 2).trans rfl⟩ (fun hHeld => ?_)
           clear hK K
           refine no_ 25 ?_
           exact norm_ (by simp only [putAll, Act.put, ls, lz, ln]) (hCont (v322, v325) _ ⟨hHeld, (uR (Kd.R_mono HO323.out (fun _ hk => hk.2))), (uR (Kd.R_mono HO326.out (fun _ hk => hk.2))), (uB BK318.out), (uB BK319.out), (uH HB.out)⟩)
          ·skip
           refine Kd.R_lit_step (Kd.int .i64) _ 2 ?hg (N := 25) ?hd (xs := ([1] : List Int)) (inner := [.int .i64 1]) (ok := fun _ => True) (okp := fun _ => True) ?hr ?hp (fun _ hk => hk) trivial (Below.refl _ _) (Nat.le_refl _) (by simp) ?_; (case hd => rfl); (case hg => rfl); (case hr => first | (go_simp; done) | (go_simp; rfl)); (case hp => exact (Reps.one (show Kd.M (Kd.int .i64) _ _ _ 1 [.int .i64 1] from rfl) (Reps.none _ _)))
           intro v325 w19 ho20 hb hg_ hnew_
           clear hg_ hnew_
           (first | rw [← Ny324.out] at ho20 | (simp only [Int.reduceToNat] at ho20; rw [← Ny324.out] at ho20))
           have n0_ := zA (Kd.R_lower ho20 (below_size (uH HB.out)))
           have n1_ := xB BK318 hb
           have n2_ := xB BK319 hb
           have n3_ := xH HB hb
           clear BK318 BK319 HB
           have HO326 := n0_; have BK318 := n1_; have BK319 := n2_; have HB := n3_
           clear n0_ n1_ n2_ n3_
           clear hb ho20
           refine hK.out _ _ ⟨(blk_cell BK318.out 0).trans rfl, (blk_cell BK318.out 1).trans rfl, (blk_cell BK319.out 0).trans rfl, (blk_cell BK319.out 1).trans rfl, (blk_cell BK319.out 2).trans rfl⟩ (fun hHeld => ?_)
           clear hK K
           refine no_ 25 ?_
           refine on_ 3 (some 24) (bl 8 31) HT_ (fun K hK => ?_)
           refine Kd.R_make_step (Kd.int .i64) _ 2 (by rfl) (N := 24) rfl 22 _ _ rfl x18_1 rfl rfl Try.underlying22 (.int .i64 0) 8 info2 rfl (by decide) (by omega) 0 (ok := fun _ => True) (okp := fun _ => True) rfl (fun _ hk => hk) trivial (of_decide_eq_true (by first | (with_reducible assumption) | assumption)) (Nat.le_trans (Nat.mul_le_mul_right _ (of_decide_eq_true (by first | (with_reducible assumption) | assumption) : x18_1.toNat ≤ 35184372088832)) (by omega)) (Below.refl _ _) (Nat.le_refl _) ?_
           intro v322 w21 ho22 hb hg_ hnew_
           clear hg_ hnew_
           (first | rw [← Ny321.out] at ho22 | (simp only [Int.reduceToNat] at ho22; rw [← Ny321.out] at ho22))
           have n0_ := zA (Kd.R_elder' (uR HO326.out) (Kd.R_base ho22) hb)
           have n1_ := zA (Kd.R_lower (Kd.R_new' ho22 (Kd.R_lt (uR HO326.out))) (below_size (uH HB.out)))
           have n2_ := xB BK318 hb
           have n3_ := xB BK319 hb
           have n4_ := xH HB hb
           clear HO326 BK318 BK319 HB
           have HO326 := n0_; have HO323 := n1_; have BK318 := n2_; have BK319 := n3_; have HB := n4_
           clear n0_ n1_ n2_ n3_ n4_
           clear hb ho22
           refine hK.out _ _ ⟨(blk_cell BK318.out 0).trans rfl, (blk_cell BK318.out 1).trans rfl, (blk_cell BK319.out 0).trans rfl, (blk_cell BK319.out 1).trans rfl, (blk_cell BK319.out 2).trans rfl⟩ (fun hHeld => ?_)
           clear hK K
           refine no_ 24 ?_
           exact norm_ (by simp only [putAll, Act.put, ls, lz, ln]) (hCont (v322, v325) _ ⟨hHeld, (uR (Kd.R_mono HO323.out (fun _ hk => hk.2))), (uR (Kd.R_mono HO326.out (fun _ hk => hk.2))), (uB BK318.out), (uB BK319.out), (uH HB.out)⟩)
         rintro ⟨v322, v325⟩ w23 ⟨hS_, h0_, h1_, h2_, h3_, h4_⟩
         have n0_ : Aside0 (Kd.R (Kd.int .i64) 2 w23 w.heap.size (fun k_ => some k_ ≠ (v325 : Value).ownBlock) v322 y321) := ⟨h0_⟩
         have n1_ : Aside0 (Kd.R (Kd.int .i64) 2 w23 w.heap.size (fun k_ => some k_ ≠ (v322 : Value).ownBlock) v325 y324) := ⟨h1_⟩
         have n2_ : Aside0 (w23.heap[gb318]? = some (.cells #[.int .i64 a0_0, .slice A0_1 l0_1.length c0_1] 31 (0, 0))) := ⟨h2_⟩
         have n3_ : Aside0 (w23.heap[gb319]? = some (.cells #[.int .i64 a1_0, .slice A1_1 l1_1.length c1_1, .slice A1_2 l1_2.length c1_2] 33 (0, 0))) := ⟨h3_⟩
         have n4_ : Aside0 (Below w.heap.size w w23) := ⟨h4_⟩
         clear BK318 BK319 HB
         clear h0_ h1_ h2_ h3_ h4_
         have HO323 := n0_; have HO326 := n1_; have BK318 := n2_; have BK319 := n3_; have HB := n4_
         clear n0_ n1_ n2_ n3_ n4_
         have hHeld : w23.cell? ⟨gb318, 0, none⟩ = some (.int .i64 a0_0) ∧ w23.cell? ⟨gb318, 1, none⟩ = some (.slice A0_1 l0_1.length c0_1) ∧ w23.cell? ⟨gb319, 0, none⟩ = some (.int .i64 a1_0) ∧ w23.cell? ⟨gb319, 1, none⟩ = some (.slice A1_1 l1_1.length c1_1) ∧ w23.cell? ⟨gb319, 2, none⟩ = some (.slice A1_2 l1_2.length c1_2) := hS_
         obtain ⟨Ao25, co25, eo25⟩ := Kd.R_slice HO326.out
         (first | subst eo25 | (injection eo25 with f1_ f2_ f3_; have f4_ := f1_.symm; have f5_ := f3_.symm; clear f1_ f2_ f3_; subst f4_; subst f5_))
         refine norm_ (a' := ?_) ?_ ?_
         rotate_left
         ·simp only [putAll, Act.put, ls, lz, ln]
          rfl
         refine on_ 5 (some 26) (bl 8 63) HT_ (fun K hK => ?_)
         refine Kd.R_append_rows_step (Kd.int .i64) (w0 := w) w.heap.size (by rfl) (.tmp 24) (.tmp 25) 22 2 (.int .i64 0) 8 rfl Try.underlying22 info2 rfl (by decide) (by omega) v322 y321 y324 _ _ _ (fun k_ => some k_ ≠ (.slice Ao25 y324.length co25 : Value).ownBlock) (fun _ => False) rfl rfl ?aO ?aR (fun _ _ h => h) (fun _ h => h.elim) ?aF ?aB ?aS ?aL ?_
         (case aR => exact uC ((Kd.R_reads' HO326.out).2.2))
         (case aB => exact (uH HB.out))
         (case aF => exact (fun k_ hk => Kd.fresh' (Kd.R_lt (uR HO326.out)) k_ hk))
         (case aO => exact (uR HO323.out))
         (case aS => exact (below_size (uH HB.out)))
         (case aL => have := LMc15.out; omega)
         intro v328 w24 ho hb hg hat
         rw [← Ny327.out] at ho
         have n0_ := zA (blk_grown (g := gb318) (o := .cells #[.int .i64 a0_0, .slice A0_1 l0_1.length c0_1] 31 (0, 0)) (uB BK318.out) hg (Kd.R_ne HO323.out BK318.out (by decide)))
         have n1_ := zA (blk_grown (g := gb319) (o := .cells #[.int .i64 a1_0, .slice A1_1 l1_1.length c1_1, .slice A1_2 l1_2.length c1_2] 33 (0, 0)) (uB BK319.out) hg (Kd.R_ne HO323.out BK319.out (by decide)))
         have n2_ := zA (Kd.R_after (ok := (fun _ => True)) (uR (Kd.R_mono HO326.out (fun _ hk => ⟨trivial, hk⟩))) hg hat)
         have n3_ := zA (hb)
         have n4_ := zA (ho)
         clear BK318 BK319 HO326 HB HO323
         have BK318 := n0_; have BK319 := n1_; have HO326 := n2_; have HB := n3_; have HO329 := n4_
         clear n0_ n1_ n2_ n3_ n4_
         clear ho hb hg hat
         obtain ⟨Ao26, co26, eo26⟩ := Kd.R_slice HO329.out
         (first | subst eo26 | (injection eo26 with f1_ f2_ f3_; have f4_ := f1_.symm; have f5_ := f3_.symm; clear f1_ f2_ f3_; subst f4_; subst f5_))
         refine hK.out _ _ ⟨(blk_cell BK318.out 0).trans rfl, (blk_cell BK318.out 1).trans rfl, (blk_cell BK319.out 0).trans rfl, (blk_cell BK319.out 1).trans rfl, (blk_cell BK319.out 2).trans rfl⟩ (fun hHeld => ?_)
         clear hK K
         refine no_ 26 ?_
         refine on_ 6 (some 27) (bl 8 127) HT_ (fun K hK => ?_)
         refine goes_ Try.func66 (by kernel_rfl) rfl #[.agg #[.int .i64 a0_0, .slice A0_1 l0_1.length c0_1], .agg #[.int .i64 a1_0, .slice A1_1 l1_1.length c1_1, .slice A1_2 l1_2.length c1_2], .slice Ao26 y327.length co26] (by rfl) rfl rfl (by (try simp only [la, lb, lc]); first | done | rfl | (simp only [ld, le]; rfl)) ?_
         with_reducible refine (impl_Moments_errorFor.calls k1 a0_0 _ _ l0_1 a1_0 _ _ l1_1 _ _ l1_2 _ _ y327 t330 _ ?side1 ?side2 ?side3 ?side4 ?side5 ?side6 ?side7 ?side8 A16.out).mono ?_
         (case side1 => exact uC ((Kd.C_below HR0_1.out HB.out)))
         (case side2 => exact HC0_1.out)
         (case side3 => exact uC ((Kd.C_below HR1_1.out HB.out)))
         (case side4 => exact HC1_1.out)
         (case side5 => exact uC ((Kd.C_below HR1_2.out HB.out)))
         (case side6 => exact HC1_2.out)
         (case side7 => exact uC ((Kd.R_reads' HO329.out).2.2))
         (case side8 => exact (Kd.R_reads' HO329.out).2.1)
         rintro e w27 ⟨rfl, hb⟩
         refine ⟨_, rfl, ?_⟩
         have n0_ := xR HO326 hb
         have n1_ := xR HO329 hb
         have n2_ := xB BK318 hb
         have n3_ := xB BK319 hb
         have n4_ := xH HB hb
         clear HO326 HO329 BK318 BK319 HB
         have HO326 := n0_; have HO329 := n1_; have BK318 := n2_; have BK319 := n3_; have HB := n4_
         clear n0_ n1_ n2_ n3_ n4_
         (try clear hb); (try clear hb2); (try clear hk); (try clear hi)
         refine hK.out _ _ ⟨(blk_cell BK318.out 0).trans rfl, (blk_cell BK318.out 1).trans rfl, (blk_cell BK319.out 0).trans rfl, (blk_cell BK319.out 1).trans rfl, (blk_cell BK319.out 2).trans rfl⟩ (fun hHeld => ?_)
         clear hK K
         refine no_ 27 ?_
         refine pu_ 7 28 (bl 8 255) HT_ ?_
         refine done_ (done_of HT_.out (by kernel_rfl)) ?_
         try go_wp2
         go_roundg k1
         case measure => have := HK1.out; omega
         case rel => exact ⟨(x18_1), (wrap64 (x18_1 + 1)), (by first | rfl | (simp; done) | (simp [*]; done)), (by first | rfl | (simp; done) | (simp [*]; done)), H', ⟨by have := HK1.out; omega⟩, ⟨uB BK318.out⟩, ⟨uB BK319.out⟩, ⟨uH HB.out⟩⟩
        ·rw [if_neg c17] at H
         have c17b0 : (t330 == 0) = false := beq_eq_false_iff_ne.mpr c17
         have c17b1 : (t330 != 0) = true := bne_iff_ne.mpr c17
         simp only [Option.some.injEq, Prod.mk.injEq] at H
         obtain ⟨rfl, rfl⟩ := H
         try go_wp2
         have n0_ := zA (blk_drew BK318.out)
         have n1_ := zA (blk_drew BK319.out)
         have n2_ := zA (below_drew1 HB.out)
         clear BK318 BK319 HB
         have BK318 := n0_; have BK319 := n1_; have HB := n2_
         clear n0_ n1_ n2_
         refine start_ (n := 8) (S := fun w' => w'.cell? ⟨gb318, 0, none⟩ = some (.int .i64 a0_0) ∧ w'.cell? ⟨gb318, 1, none⟩ = some (.slice A0_1 l0_1.length c0_1) ∧ w'.cell? ⟨gb319, 0, none⟩ = some (.int .i64 a1_0) ∧ w'.cell? ⟨gb319, 1, none⟩ = some (.slice A1_1 l1_1.length c1_1) ∧ w'.cell? ⟨gb319, 2, none⟩ = some (.slice A1_2 l1_2.length c1_2)) (ds := []) #[false, false, false, false, false, false, false, false] (by kernel_rfl) rfl rfl ⟨(blk_cell BK318.out 0).trans rfl, (blk_cell BK318.out 1).trans rfl, (blk_cell BK319.out 0).trans rfl, (blk_cell BK319.out 1).trans rfl, (blk_cell BK319.out 2).trans rfl⟩ (fun hHeld => ?_); refine with_tabW impl_DegreeOfRule.tab8 impl_DegreeOfRule.bits8 (fun HT_ HW_ => ?_)
         generalize wr.drew = w28 at BK318 BK319 HB hHeld ⊢
         refine pu_ 2 23 (bl 8 4) HT_ ?_
         refine ta_ 0 21 (bl 8 5) HT_ HW_ hHeld ?_
         refine ta_ 1 22 (bl 8 7) HT_ HW_ hHeld ?_
         refine join_ (σ := Value × Value) 3 (bl 8 31) (fun s_ => [(24, s_.1), (25, s_.2)]) (fun s_ w' => (w'.cell? ⟨gb318, 0, none⟩ = some (.int .i64 a0_0) ∧ w'.cell? ⟨gb318, 1, none⟩ = some (.slice A0_1 l0_1.length c0_1) ∧ w'.cell? ⟨gb319, 0, none⟩ = some (.int .i64 a1_0) ∧ w'.cell? ⟨gb319, 1, none⟩ = some (.slice A1_1 l1_1.length c1_1) ∧ w'.cell? ⟨gb319, 2, none⟩ = some (.slice A1_2 l1_2.length c1_2)) ∧ (Kd.R (Kd.int .i64) 2 w' w.heap.size (fun k_ => some k_ ≠ (s_.2 : Value).ownBlock) s_.1 y321) ∧ (Kd.R (Kd.int .i64) 2 w' w.heap.size (fun k_ => some k_ ≠ (s_.1 : Value).ownBlock) s_.2 y324) ∧ (w'.heap[gb318]? = some (.cells #[.int .i64 a0_0, .slice A0_1 l0_1.length c0_1] 31 (0, 0))) ∧ (w'.heap[gb319]? = some (.cells #[.int .i64 a1_0, .slice A1_1 l1_1.length c1_1, .slice A1_2 l1_2.length c1_2] 33 (0, 0))) ∧ (Below w.heap.size w w')) ?_ ?_
         rotate_left
         ·intro hCont
          refine two_ (i := 3) (j := 4) (Ni := some 24) (Nj := some 25) (bl 8 15) (bl 8 23) rfl rfl rfl rfl (two_of HT_.out (by kernel_rfl)) (by decide) (by decide) (fun K hK => ?_) (fun K hK => ?_)
          ·skip
           refine Kd.R_make_step (Kd.int .i64) _ 2 (by rfl) (N := 24) rfl 22 _ _ rfl x18_1 rfl rfl Try.underlying22 (.int .i64 0) 8 info2 rfl (by decide) (by omega) 0 (ok := fun _ => True) (okp := fun _ => True) rfl (fun _ hk => hk) trivial (of_decide_eq_true (by first | (with_reducible assumption) | assumption)) (Nat.le_trans (Nat.mul_le_mul_right _ (of_decide_eq_true (by first | (with_reducible assumption) | assumption) : x18_1.toNat ≤ 35184372088832)) (by omega)) (Below.refl _ _) (Nat.le_refl _) ?_
           intro v322 w29 ho30 hb hg_ hnew_
           clear hg_ hnew_
           (first | rw [← Ny321.out] at ho30 | (simp only [Int.reduceToNat] at ho30; rw [← Ny321.out] at ho30))
           have n0_ := zA (Kd.R_lower ho30 (below_size (uH HB.out)))
           have n1_ := xB BK318 hb
           have n2_ := xB BK319 hb
           have n3_ := xH HB hb
           clear BK318 BK319 HB
           have HO323 := n0_; have BK318 := n1_; have BK319 := n2_; have HB := n3_
           clear n0_ n1_ n2_ n3_
           clear hb ho30
           refine hK.out _ _ ⟨(blk_cell BK318.out 0).trans rfl, (blk_cell BK318.out 1).trans rfl, (blk_cell BK319.out 0).trans rfl, (blk_cell BK319.out 1).trans rfl, (blk_cell BK319.out 2).trans rfl⟩ (fun hHeld => ?_)
           clear hK K
           refine no_ 24 ?_
           refine on_ 4 (some 25) (bl 8 31) HT_ (fun K hK => ?_)
           refine Kd.R_lit_step (Kd.int .i64) _ 2 ?hg (N := 25) ?hd (xs := ([1] : List Int)) (inner := [.int .i64 1]) (ok := fun _ => True) (okp := fun _ => True) ?hr ?hp (fun _ hk => hk) trivial (Below.refl _ _) (Nat.le_refl _) (by simp) ?_; (case hd => rfl); (case hg => rfl); (case hr => first | (go_simp; done) | (go_simp; rfl)); (case hp => exact (Reps.one (show Kd.M (Kd.int .i64) _ _ _ 1 [.int .i64 1] from rfl) (Reps.none _ _)))
           intro v325 w31 ho32 hb hg_ hnew_
           clear hg_ hnew_
           (first | rw [← Ny324.out] at ho32 | (simp only [Int.reduceToNat] at ho32; rw [← Ny324.out] at ho32))
           have n0_ := zA (Kd.R_elder' (uR HO323.out) (Kd.R_base ho32) hb)
           have n1_ := zA (Kd.R_lower (Kd.R_new' ho32 (Kd.R_lt (uR HO323.out))) (below_size (uH HB.out)))
           have n2_ := xB BK318 hb
           have n3_ := xB BK319 hb
           have n4_ := xH HB hb
           clear HO323 BK318 BK319 HB
           have HO323 := n0_; have HO326 := n1_; have BK318 := n2_; have BK319 := n3_; have HB := n4_
           clear n0_ n1_ n2_ n3_ n4_
           clear hb ho32
           refine hK.out _ _ ⟨(blk_cell BK318.out 0).trans rfl, (blk_cell BK318.out 1).trans rfl, (blk_cell BK319.out 0).trans rfl, (blk_cell BK319.out 1).trans rfl, (blk_cell BK319.out 2).trans rfl⟩ (fun hHeld => ?_)
           clear hK K
           refine no_ 25 ?_
           exact norm_ (by simp only [putAll, Act.put, ls, lz, ln]) (hCont (v322, v325) _ ⟨hHeld, (uR (Kd.R_mono HO323.out (fun _ hk => hk.2))), (uR (Kd.R_mono HO326.out (fun _ hk => hk.2))), (uB BK318.out), (uB BK319.out), (uH HB.out)⟩)
          ·skip
           refine Kd.R_lit_step (Kd.int .i64) _ 2 ?hg (N := 25) ?hd (xs := ([1] : List Int)) (inner := [.int .i64 1]) (ok := fun _ => True) (okp := fun _ => True) ?hr ?hp (fun _ hk => hk) trivial (Below.refl _ _) (Nat.le_refl _) (by simp) ?_; (case hd => rfl); (case hg => rfl); (case hr => first | (go_simp; done) | (go_simp; rfl)); (case hp => exact (Reps.one (show Kd.M (Kd.int .i64) _ _ _ 1 [.int .i64 1] from rfl) (Reps.none _ _)))
           intro v325 w29 ho30 hb hg_ hnew_
           clear hg_ hnew_
           (first | rw [← Ny324.out] at ho30 | (simp only [Int.reduceToNat] at ho30; rw [← Ny324.out] at ho30))
           have n0_ := zA (Kd.R_lower ho30 (below_size (uH HB.out)))
           have n1_ := xB BK318 hb
           have n2_ := xB BK319 hb
           have n3_ := xH HB hb
           clear BK318 BK319 HB
           have HO326 := n0_; have BK318 := n1_; have BK319 := n2_; have HB := n3_
           clear n0_ n1_ n2_ n3_
           clear hb ho30
           refine hK.out _ _ ⟨(blk_cell BK318.out 0).trans rfl, (blk_cell BK318.out 1).trans rfl, (blk_cell BK319.out 0).trans rfl, (blk_cell BK319.out 1).trans rfl, (blk_cell BK319.out 2).trans rfl⟩ (fun hHeld => ?_)
           clear hK K
           refine no_ 25 ?_
           refine on_ 3 (some 24) (bl 8 31) HT_ (fun K hK => ?_)
           refine Kd.R_make_step (Kd.int .i64) _ 2 (by rfl) (N := 24) rfl 22 _ _ rfl x18_1 rfl rfl Try.underlying22 (.int .i64 0) 8 info2 rfl (by decide) (by omega) 0 (ok := fun _ => True) (okp := fun _ => True) rfl (fun _ hk => hk) trivial (of_decide_eq_true (by first | (with_reducible assumption) | assumption)) (Nat.le_trans (Nat.mul_le_mul_right _ (of_decide_eq_true (by first | (with_reducible assumption) | assumption) : x18_1.toNat ≤ 35184372088832)) (by omega)) (Below.refl _ _) (Nat.le_refl _) ?_
           intro v322 w31 ho32 hb hg_ hnew_
           clear hg_ hnew_
           (first | rw [← Ny321.out] at ho32 | (simp only [Int.reduceToNat] at ho32; rw [← Ny321.out] at ho32))
           have n0_ := zA (Kd.R_elder' (uR HO326.out) (Kd.R_base ho32) hb)
           have n1_ := zA (Kd.R_lower (Kd.R_new' ho32 (Kd.R_lt (uR HO326.out))) (below_size (uH HB.out)))
           have n2_ := xB BK318 hb
           have n3_ := xB BK319 hb
           have n4_ := xH HB hb
           clear HO326 BK318 BK319 HB
           have HO326 := n0_; have HO323 := n1_; have BK318 := n2_; have BK319 := n3_; have HB := n4_
           clear n0_ n1_ n2_ n3_ n4_
           clear hb ho32
           refine hK.out _ _ ⟨(blk_cell BK318.out 0).trans rfl, (blk_cell BK318.out 1).trans rfl, (blk_cell BK319.out 0).trans rfl, (blk_cell BK319.out 1).trans rfl, (blk_cell BK319.out 2).trans rfl⟩ (fun hHeld => ?_)
           clear hK K
           refine no_ 24 ?_
           exact norm_ (by simp only [putAll, Act.put, ls, lz, ln]) (hCont (v322, v325) _ ⟨hHeld, (uR (Kd.R_mono HO323.out (fun _ hk => hk.2))), (uR (Kd.R_mono HO326.out (fun _ hk => hk.2))), (uB BK318.out), (uB BK319.out), (uH HB.out)⟩)
         rintro ⟨v322, v325⟩ w33 ⟨hS_, h0_, h1_, h2_, h3_, h4_⟩
         have n0_ : Aside0 (Kd.R (Kd.int .i64) 2 w33 w.heap.size (fun k_ => some k_ ≠ (v325 : Value).ownBlock) v322 y321) := ⟨h0_⟩
         have n1_ : Aside0 (Kd.R (Kd.int .i64) 2 w33 w.heap.size (fun k_ => some k_ ≠ (v322 : Value).ownBlock) v325 y324) := ⟨h1_⟩
         have n2_ : Aside0 (w33.heap[gb318]? = some (.cells #[.int .i64 a0_0, .slice A0_1 l0_1.length c0_1] 31 (0, 0))) := ⟨h2_⟩
         have n3_ : Aside0 (w33.heap[gb319]? = some (.cells #[.int .i64 a1_0, .slice A1_1 l1_1.length c1_1, .slice A1_2 l1_2.length c1_2] 33 (0, 0))) := ⟨h3_⟩
         have n4_ : Aside0 (Below w.heap.size w w33) := ⟨h4_⟩
         clear BK318 BK319 HB
         clear h0_ h1_ h2_ h3_ h4_
         have HO323 := n0_; have HO326 := n1_; have BK318 := n2_; have BK319 := n3_; have HB := n4_
         clear n0_ n1_ n2_ n3_ n4_
         have hHeld : w33.cell? ⟨gb318, 0, none⟩ = some (.int .i64 a0_0) ∧ w33.cell? ⟨gb318, 1, none⟩ = some (.slice A0_1 l0_1.length c0_1) ∧ w33.cell? ⟨gb319, 0, none⟩ = some (.int .i64 a1_0) ∧ w33.cell? ⟨gb319, 1, none⟩ = some (.slice A1_1 l1_1.length c1_1) ∧ w33.cell? ⟨gb319, 2, none⟩ = some (.slice A1_2 l1_2.length c1_2) := hS_
         obtain ⟨Ao35, co35, eo35⟩ := Kd.R_slice HO326.out
         (first | subst eo35 | (injection eo35 with f1_ f2_ f3_; have f4_ := f1_.symm; have f5_ := f3_.symm; clear f1_ f2_ f3_; subst f4_; subst f5_))
         refine norm_ (a' := ?_) ?_ ?_
         rotate_left
         ·simp only [putAll, Act.put, ls, lz, ln]
          rfl
         refine on_ 5 (some 26) (bl 8 63) HT_ (fun K hK => ?_)
         refine Kd.R_append_rows_step (Kd.int .i64) (w0 := w) w.heap.size (by rfl) (.tmp 24) (.tmp 25) 22 2 (.int .i64 0) 8 rfl Try.underlying22 info2 rfl (by decide) (by omega) v322 y321 y324 _ _ _ (fun k_ => some k_ ≠ (.slice Ao35 y324.length co35 : Value).ownBlock) (fun _ => False) rfl rfl ?aO ?aR (fun _ _ h => h) (fun _ h => h.elim) ?aF ?aB ?aS ?aL ?_
         (case aR => exact uC ((Kd.R_reads' HO326.out).2.2))
         (case aB => exact (uH HB.out))
         (case aF => exact (fun k_ hk => Kd.fresh' (Kd.R_lt (uR HO326.out)) k_ hk))
         (case aO => exact (uR HO323.out))
         (case aS => exact (below_size (uH HB.out)))
         (case aL => have := LMc15.out; omega)
         intro v328 w34 ho hb hg hat
         rw [← Ny327.out] at ho
         have n0_ := zA (blk_grown (g := gb318) (o := .cells #[.int .i64 a0_0, .slice A0_1 l0_1.length c0_1] 31 (0, 0)) (uB BK318.out) hg (Kd.R_ne HO323.out BK318.out (by decide)))
         have n1_ := zA (blk_grown (g := gb319) (o := .cells #[.int .i64 a1_0, .slice A1_1 l1_1.length c1_1, .slice A1_2 l1_2.length c1_2] 33 (0, 0)) (uB BK319.out) hg (Kd.R_ne HO323.out BK319.out (by decide)))
         have n2_ := zA (Kd.R_after (ok := (fun _ => True)) (uR (Kd.R_mono HO326.out (fun _ hk => ⟨trivial, hk⟩))) hg hat)
         have n3_ := zA (hb)
         have n4_ := zA (ho)
         clear BK318 BK319 HO326 HB HO323
         have BK318 := n0_; have BK319 := n1_; have HO326 := n2_; have HB := n3_; have HO329 := n4_
         clear n0_ n1_ n2_ n3_ n4_
         clear ho hb hg hat
         obtain ⟨Ao36, co36, eo36⟩ := Kd.R_slice HO329.out
         (first | subst eo36 | (injection eo36 with f1_ f2_ f3_; have f4_ := f1_.symm; have f5_ := f3_.symm; clear f1_ f2_ f3_; subst f4_; subst f5_))
         refine hK.out _ _ ⟨(blk_cell BK318.out 0).trans rfl, (blk_cell BK318.out 1).trans rfl, (blk_cell BK319.out 0).trans rfl, (blk_cell BK319.out 1).trans rfl, (blk_cell BK319.out 2).trans rfl⟩ (fun hHeld => ?_)
         clear hK K
         refine no_ 26 ?_
         refine on_ 6 (some 27) (bl 8 127) HT_ (fun K hK => ?_)
         refine goes_ Try.func66 (by kernel_rfl) rfl #[.agg #[.int .i64 a0_0, .slice A0_1 l0_1.length c0_1], .agg #[.int .i64 a1_0, .slice A1_1 l1_1.length c1_1, .slice A1_2 l1_2.length c1_2], .slice Ao36 y327.length co36] (by rfl) rfl rfl (by (try simp only [la, lb, lc]); first | done | rfl | (simp only [ld, le]; rfl)) ?_
         with_reducible refine (impl_Moments_errorFor.calls k1 a0_0 _ _ l0_1 a1_0 _ _ l1_1 _ _ l1_2 _ _ y327 t330 _ ?side1 ?side2 ?side3 ?side4 ?side5 ?side6 ?side7 ?side8 A16.out).mono ?_
         (case side1 => exact uC ((Kd.C_below HR0_1.out HB.out)))
         (case side2 => exact HC0_1.out)
         (case side3 => exact uC ((Kd.C_below HR1_1.out HB.out)))
         (case side4 => exact HC1_1.out)
         (case side5 => exact uC ((Kd.C_below HR1_2.out HB.out)))
         (case side6 => exact HC1_2.out)
         (case side7 => exact uC ((Kd.R_reads' HO329.out).2.2))
         (case side8 => exact (Kd.R_reads' HO329.out).2.1)
         rintro e w37 ⟨rfl, hb⟩
         refine ⟨_, rfl, ?_⟩
         have n0_ := xR HO326 hb
         have n1_ := xR HO329 hb
         have n2_ := xB BK318 hb
         have n3_ := xB BK319 hb
         have n4_ := xH HB hb
         clear HO326 HO329 BK318 BK319 HB
         have HO326 := n0_; have HO329 := n1_; have BK318 := n2_; have BK319 := n3_; have HB := n4_
         clear n0_ n1_ n2_ n3_ n4_
         (try clear hb); (try clear hb2); (try clear hk); (try clear hi)
         refine hK.out _ _ ⟨(blk_cell BK318.out 0).trans rfl, (blk_cell BK318.out 1).trans rfl, (blk_cell BK319.out 0).trans rfl, (blk_cell BK319.out 1).trans rfl, (blk_cell BK319.out 2).trans rfl⟩ (fun hHeld => ?_)
         clear hK K
         refine no_ 27 ?_
         refine pu_ 7 28 (bl 8 255) HT_ ?_
         refine done_ (done_of HT_.out (by kernel_rfl)) ?_
         try go_wp2
         go_ret2
         exact ⟨by first | rfl | (simp [errW_none, errW_some] <;> rfl) | (simp [*, errW_none, errW_some] <;> rfl), uH HB.out⟩
       ·rw [if_neg c15] at H
        exact absurd H (by simp)
      ·rw [if_neg c14] at H
       exact absurd H (by simp)
     ·rw [if_neg c13] at H
      exact absurd H (by simp)
    ·rw [if_neg c12] at H
     have c12b0 : decide (x18_1 < (l0_1.length : Int)) = false := decide_eq_false c12
     clear c12
     simp only [Option.some.injEq, Prod.mk.injEq] at H
     obtain ⟨rfl, rfl⟩ := H
     go_wp2
     go_ret2
     exact ⟨by first | rfl | (simp [errW_none, errW_some] <;> rfl) | (simp [*, errW_none, errW_some] <;> rfl), uH HB.out⟩
 ·rw [if_neg c4] at H
  have c4b0 : (t320 == 0) = false := beq_eq_false_iff_ne.mpr c4
  have c4b1 : (t320 != 0) = true := bne_iff_ne.mpr c4
  simp only [Option.some.injEq, Prod.mk.injEq] at H
  obtain ⟨rfl, rfl⟩ := H
  go_enter Try.func26, Try.ntmps26
  go_wp2_with (first | ((with_reducible refine gate_dst (N := 2) rfl ?_); refine box_event ?hg (N := 2) ?hd (cs := #[.int .i64 a0_0, .slice A0_1 l0_1.length c0_1]) (t := 31) ?hr ?_; (case hd => rfl); (case hg => rfl); (case hr => first | (go_simp; done) | (go_simp; rfl)); intro gb318 hg w38 hbox hb; have n0_ := xH HB hb; have n1_ := zA (hbox); have n2_ := zA ((by rw [hg]; exact (below_size (uH HB.out)) : w.heap.size ≤ gb318)); have n3_ := zA ((by rw [hg]; exact (below_size (uH HB.out)) : w.heap.size ≤ gb318)); clear HB; have HB := n0_; have BK318 := n1_; have GW318 := n2_; have GE318 := n3_; have := geI GE318; clear n0_ n1_ n2_ n3_ hb hbox hg) | ((with_reducible refine gate_dst (N := 3) rfl ?_); refine box_event ?hg (N := 3) ?hd (cs := #[.int .i64 a1_0, .slice A1_1 l1_1.length c1_1, .slice A1_2 l1_2.length c1_2]) (t := 33) ?hr ?_; (case hd => rfl); (case hg => rfl); (case hr => first | (go_simp; done) | (go_simp; rfl)); intro gb319 hg w39 hbox hb; have n0_ := xB BK318 hb; have n1_ := xH HB hb; have n2_ := zA (hbox); have n3_ := zA ((by rw [hg]; exact (below_size (uH HB.out)) : w.heap.size ≤ gb319)); have n4_ := zA ((by rw [hg]; exact (below_size (uH HB.out)) : w.heap.size ≤ gb319)); have n5_ := zA ((by rw [hg]; exact neL BK318 : gb318 ≠ gb319)); have n6_ := zA ((by rw [hg]; exact neG BK318 : gb319 ≠ gb318)); clear BK318 HB; have BK318 := n0_; have HB := n1_; have BK319 := n2_; have GW319 := n3_; have GE319 := n4_; have := geI GE319; have NB318_319 := n5_; have NB319_318 := n6_; clear n0_ n1_ n2_ n3_ n4_ n5_ n6_ hb hbox hg; have hnb40 := NB318_319.out; have hnc40 := NB319_318.out; have hcz41_0 : w39.cell? ⟨gb318, 0, none⟩ = some (.int .i64 a0_0) := (blk_cell BK318.out 0).trans rfl; have hcz41_1 : w39.cell? ⟨gb318, 1, none⟩ = some (.slice A0_1 l0_1.length c0_1) := (blk_cell BK318.out 1).trans rfl; have hfz41_0 := blk_frozen BK318.out 0; have hfz41_1 := blk_frozen BK318.out 1; have hcz42_0 : w39.cell? ⟨gb319, 0, none⟩ = some (.int .i64 a1_0) := (blk_cell BK319.out 0).trans rfl; have hcz42_1 : w39.cell? ⟨gb319, 1, none⟩ = some (.slice A1_1 l1_1.length c1_1) := (blk_cell BK319.out 1).trans rfl; have hcz42_2 : w39.cell? ⟨gb319, 2, none⟩ = some (.slice A1_2 l1_2.length c1_2) := (blk_cell BK319.out 2).trans rfl; have hfz42_0 := blk_frozen BK319.out 0; have hfz42_1 := blk_frozen BK319.out 1; have hfz42_2 := blk_frozen BK319.out 2) | ((with_reducible refine gate_callee (f := 63) rfl ?_); refine goesL_ (some 11) rfl rfl Try.func63 (by kernel_rfl) rfl #[.agg #[.int .i64 a0_0, .slice A0_1 l0_1.length c0_1], .agg #[.int .i64 a1_0, .slice A1_1 l1_1.length c1_1, .slice A1_2 l1_2.length c1_2], (.func (.func 68) #[] #[]), .slice none 0 0] rfl (by (try simp only [la, lb, lc]); first | done | rfl | (simp only [ld, le]; rfl)) ?_; (refine (impl_bothCode.calls k a0_0 _ _ l0_1 a1_0 _ _ l1_1 _ _ l1_2 _ (impl_always.f.getD false) _ _ ([] : List (List Int)) t320 _ ?side1 ?side2 ?side3 ?side4 ?side5 ?side6 ?side7 ?side8 ?side9 A3.out).mono ?_); (case side1 => exact uC ((Kd.C_below HR0_1.out HB.out))); (case side2 => exact HC0_1.out); (case side3 => exact uC ((Kd.C_below HR1_1.out HB.out))); (case side4 => exact HC1_1.out); (case side5 => exact uC ((Kd.C_below HR1_2.out HB.out))); (case side6 => exact HC1_2.out); (case side7 => exact FnB.of Try.func68 (by kernel_rfl) rfl (fun W_ hW_ => calls_of_args (args' := #[]) (by simp) ((impl_always.calls  _ W_  rfl).mono fun e_ W2_ h_ => ⟨h_.1, h_.2.below⟩))); (case side8 => exact Kd.C_nil _ _); (case side9 => exact Nat.le_refl _); rintro e w43 ⟨rfl, hb⟩; refine ⟨_, rfl, ?_⟩; have n0_ := xB BK318 hb; have n1_ := xB BK319 hb; have n2_ := xH HB hb; clear BK318 BK319 HB; have BK318 := n0_; have BK319 := n1_; have HB := n2_; clear n0_ n1_ n2_; (try clear hb); (try clear hb2); (try clear hk); (try clear hi)))
  go_ret2
  exact ⟨by first | rfl | (simp [errW_none, errW_some] <;> rfl) | (simp [*, errW_none, errW_some] <;> rfl), uH HB.out⟩

end Go.Proofs.Ytokkabgkjhpecaa.Pr
