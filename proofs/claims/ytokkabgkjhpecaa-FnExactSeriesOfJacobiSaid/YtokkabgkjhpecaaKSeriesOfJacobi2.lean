/- Texts of this session in one: what functions of the program compute, and plain facts of it, under the conditions that each theorem names. -/
import Derived.Test.YtokkabgkjhpecaaKC01
import Derived.Test.YtokkabgkjhpecaaKC04
import Derived.Test.YtokkabgkjhpecaaKC05
import Derived.Test.YtokkabgkjhpecaaKC06
import Derived.Test.YtokkabgkjhpecaaKC07
import Derived.Test.YtokkabgkjhpecaaKC08
import Derived.Test.YtokkabgkjhpecaaKSeriesOfJacobi1
namespace Go.Proofs.Ytokkabgkjhpecaa.Pr
open Go.RowKit Go.Proofs.YtokkabgkjhpecaaW.PrintWords Go.Proofs.YtokkabgkjhpecaaW.PrintLast Go.Proofs.YtokkabgkjhpecaaW.PrintMore
attribute [local go_sem] max2_int min2_int max_two min_two max_three min_three max_four min_four   -- for this text's walks alone
set_option linter.unusedVariables false
set_option linter.unusedSimpArgs false
/-! ### spec_l05Series: function 106 -/
mutual
def spec_l05Series.l0 : Nat → Int → List Int → List Int → Int → List Int → Int → Int → Option (List Int)
 | 0, _, _, _, _, _, _, _ => none
 | k + 1, x0, x1, x2, x3, x9, x10, x11 => if x11 < x3 then (if x11 < (x1.length : Int) then (if 0 ≤ x11 then (spec_l05Series.j1 k x0 x1 x2 x3 x9 x10 x11 (rd x1 x11)) else (none)) else (spec_l05Series.j1 k x0 x1 x2 x3 x9 x10 x11 0)) else (some x9)
def spec_l05Series.j1 : Nat → Int → List Int → List Int → Int → List Int → Int → Int → Int → Option (List Int)
 | 0, _, _, _, _, _, _, _, _ => none
 | k + 1, x0, x1, x2, x3, x9, x10, x11, x12 => spec_l05Series.l1 k x0 x1 x2 x3 x9 x10 x11 x12 1
def spec_l05Series.l1 : Nat → Int → List Int → List Int → Int → List Int → Int → Int → Int → Int → Option (List Int)
 | 0, _, _, _, _, _, _, _, _, _ => none
 | k + 1, x0, x1, x2, x3, x9, x10, x11, x12, x13 => if x13 ≤ x11 then (if x13 < (x2.length : Int) then (if 0 ≤ x13 then (if 0 ≤ (wrap64 (x11 - x13)) then (if (wrap64 (x11 - x13)) < (x9.length : Int) then ((spec_l01Mod.f x0 (wrap64 (x12 - (wrap64 ((rd x2 x13) * (rd x9 (wrap64 (x11 - x13)))))))).bind fun t1108 => (spec_l05Series.l1 k x0 x1 x2 x3 x9 x10 x11 t1108 (wrap64 (x13 + 1)))) else (none)) else (none)) else (none)) else (if x0 = 0 then (none) else (if x9.length < 17592186044416 then (spec_l05Series.l0 k x0 x1 x2 x3 (x9 ++ [Int.tmod (wrap64 (x12 * x10)) x0]) x10 (wrap64 (x11 + 1))) else (none)))) else (if x0 = 0 then (none) else (if x9.length < 17592186044416 then (spec_l05Series.l0 k x0 x1 x2 x3 (x9 ++ [Int.tmod (wrap64 (x12 * x10)) x0]) x10 (wrap64 (x11 + 1))) else (none)))
end
def spec_l05Series.f (k : Nat) (a0 : Int) (l1 : List Int) (l2 : List Int) (a3 : Int) : Option (List Int) := if 0 < (l2.length : Int) then ((spec_l01Inverse.f k a0 (rd l2 0)).bind fun t1104 => (spec_l05Series.l0 k a0 l1 l2 a3 (([] : List Int)) t1104 0)) else (none)
theorem spec_l05Series.mono_l : ∀ k, (∀ y0 y1 y2 y3 y4 y5 y6, LeO (spec_l05Series.l0 k y0 y1 y2 y3 y4 y5 y6) (spec_l05Series.l0 (k + 1) y0 y1 y2 y3 y4 y5 y6)) ∧ (∀ y0 y1 y2 y3 y4 y5 y6 y7, LeO (spec_l05Series.j1 k y0 y1 y2 y3 y4 y5 y6 y7) (spec_l05Series.j1 (k + 1) y0 y1 y2 y3 y4 y5 y6 y7)) ∧ (∀ y0 y1 y2 y3 y4 y5 y6 y7 y8, LeO (spec_l05Series.l1 k y0 y1 y2 y3 y4 y5 y6 y7 y8) (spec_l05Series.l1 (k + 1) y0 y1 y2 y3 y4 y5 y6 y7 y8))
 | 0 => ⟨fun _ _ _ _ _ _ _ r h => by simp [spec_l05Series.l0] at h, fun _ _ _ _ _ _ _ _ r h => by simp [spec_l05Series.j1] at h, fun _ _ _ _ _ _ _ _ _ r h => by simp [spec_l05Series.l1] at h⟩
 | k + 1 => by
  obtain ⟨ih0, ih1, ih2⟩ := spec_l05Series.mono_l k
  refine ⟨?_, ?_, ?_⟩
  ·intro y0 y1 y2 y3 y4 y5 y6
   unfold spec_l05Series.l0
   repeat' first
   | (with_reducible exact ih0 _ _ _ _ _ _ _)
   | (with_reducible exact ih1 _ _ _ _ _ _ _ _)
   | (with_reducible exact ih2 _ _ _ _ _ _ _ _ _)
   | (with_reducible exact spec_l01Inverse.mono _ _ _)
   | (with_reducible exact LeO.refl _)
   | (with_reducible exact LeO.none _)
   | (with_reducible refine LeO.ite ?_ ?_)
   | (with_reducible refine LeO.bind ?_ (fun _ => ?_))
   | exact ih0 _ _ _ _ _ _ _
   | exact ih1 _ _ _ _ _ _ _ _
   | exact ih2 _ _ _ _ _ _ _ _ _
   | exact spec_l01Inverse.mono _ _ _
   | exact LeO.none _
   | refine LeO.ite ?_ ?_
   | refine LeO.bind ?_ (fun _ => ?_)
  ·intro y0 y1 y2 y3 y4 y5 y6 y7
   unfold spec_l05Series.j1
   repeat' first
   | (with_reducible exact ih0 _ _ _ _ _ _ _)
   | (with_reducible exact ih1 _ _ _ _ _ _ _ _)
   | (with_reducible exact ih2 _ _ _ _ _ _ _ _ _)
   | (with_reducible exact spec_l01Inverse.mono _ _ _)
   | (with_reducible exact LeO.refl _)
   | (with_reducible exact LeO.none _)
   | (with_reducible refine LeO.ite ?_ ?_)
   | (with_reducible refine LeO.bind ?_ (fun _ => ?_))
   | exact ih0 _ _ _ _ _ _ _
   | exact ih1 _ _ _ _ _ _ _ _
   | exact ih2 _ _ _ _ _ _ _ _ _
   | exact spec_l01Inverse.mono _ _ _
   | exact LeO.none _
   | refine LeO.ite ?_ ?_
   | refine LeO.bind ?_ (fun _ => ?_)
  ·intro y0 y1 y2 y3 y4 y5 y6 y7 y8
   unfold spec_l05Series.l1
   repeat' first
   | (with_reducible exact ih0 _ _ _ _ _ _ _)
   | (with_reducible exact ih1 _ _ _ _ _ _ _ _)
   | (with_reducible exact ih2 _ _ _ _ _ _ _ _ _)
   | (with_reducible exact spec_l01Inverse.mono _ _ _)
   | (with_reducible exact LeO.refl _)
   | (with_reducible exact LeO.none _)
   | (with_reducible refine LeO.ite ?_ ?_)
   | (with_reducible refine LeO.bind ?_ (fun _ => ?_))
   | exact ih0 _ _ _ _ _ _ _
   | exact ih1 _ _ _ _ _ _ _ _
   | exact ih2 _ _ _ _ _ _ _ _ _
   | exact spec_l01Inverse.mono _ _ _
   | exact LeO.none _
   | refine LeO.ite ?_ ?_
   | refine LeO.bind ?_ (fun _ => ?_)
theorem spec_l05Series.mono : ∀ a0 a1 a2 a3 k, LeO (spec_l05Series.f k a0 a1 a2 a3) (spec_l05Series.f (k + 1) a0 a1 a2 a3) := by
 intro a0 a1 a2 a3 k
 obtain ⟨ih0, ih1, ih2⟩ := spec_l05Series.mono_l k
 unfold spec_l05Series.f
 repeat' first
   | (with_reducible exact ih0 _ _ _ _ _ _ _)
   | (with_reducible exact ih1 _ _ _ _ _ _ _ _)
   | (with_reducible exact ih2 _ _ _ _ _ _ _ _ _)
   | (with_reducible exact spec_l01Inverse.mono _ _ _)
   | (with_reducible exact LeO.refl _)
   | (with_reducible exact LeO.none _)
   | (with_reducible refine LeO.ite ?_ ?_)
   | (with_reducible refine LeO.bind ?_ (fun _ => ?_))
   | exact ih0 _ _ _ _ _ _ _
   | exact ih1 _ _ _ _ _ _ _ _
   | exact ih2 _ _ _ _ _ _ _ _ _
   | exact spec_l01Inverse.mono _ _ _
   | exact LeO.none _
   | refine LeO.ite ?_ ?_
   | refine LeO.bind ?_ (fun _ => ?_)
def spec_l05Series.T11 : Bool × List (List Nat × List Nat) := (true, [([], []), ([], []), ([], []), ([], []), ([2, 3], [2, 3]), ([4], [4]), ([], []), ([], []), ([], []), ([7, 8], [7, 8]), ([6, 9], [6, 9]), ([10], [10]), ([5, 11], [5, 11]), ([1, 12], [1, 12]), ([0, 13], [0, 13]), ([14, 14, 0, 1, 2, 3, 4, 5, 6, 7, 8, 9, 10, 11, 12, 13, 14], [1, 14])])
def spec_l05Series.B11 : List Nat := [0, 0, 0, 0, 12, 28, 0, 0, 0, 384, 960, 1984, 4092, 8190, 16383, 32767]
theorem spec_l05Series.tab11 : rtab .any (opsOf Try.f106 11) = spec_l05Series.T11 := by kernel_rfl
theorem spec_l05Series.bits11 : waitsOk spec_l05Series.T11.2 spec_l05Series.B11 = true := by kernel_rfl
set_option maxHeartbeats 8000000 in
set_option maxRecDepth 100000 in
theorem spec_l05Series.calls (k : Nat) (a0 : Int) (A1 : Option Addr) (c1 : Nat) (l1 : List Int) (A2 : Option Addr) (c2 : Nat) (l2 : List Int) (a3 : Int) (r : List Int) (w : World) (hr1 : Kd.C (Kd.int .i64) w A1 l1.length l1) (hc1 : l1.length ≤ c1) (hr2 : Kd.C (Kd.int .i64) w A2 l2.length l2) (hc2 : l2.length ≤ c2) (h : spec_l05Series.f k a0 l1 l2 a3 = some r) :
  Calls Try.prog 106 #[.int .i64 a0, .slice A1 l1.length c1, .slice A2 l2.length c2, .int .i64 a3] w fun e w' => ∃ v0_ : Value, e = .returned (v0_) ∧ Kd.R (Kd.int .i64) 2 w' w.heap.size (fun _ => True) v0_ r ∧ Below w.heap.size w w' := by
 have HR1 := zA hr1
 have HC1 := zA hc1
 clear hr1 hc1
 have HR2 := zA hr2
 have HC2 := zA hc2
 clear hr2 hc2
 have HB := zA (Below.refl w.heap.size w)
 have H : (if 0 < (l2.length : Int) then ((spec_l01Inverse.f k a0 (rd l2 0)).bind fun t1104 => (spec_l05Series.l0 k a0 l1 l2 a3 (([] : List Int)) t1104 0)) else (none)) = some r := h
 clear h
 obtain ⟨y1100, hy1100⟩ : ∃ y_ : List Int, y_ = (([] : List Int)) := ⟨_, rfl⟩
 replace H : (if 0 < (l2.length : Int) then ((spec_l01Inverse.f k a0 (rd l2 0)).bind fun t1104 => (spec_l05Series.l0 k a0 l1 l2 a3 y1100 t1104 0)) else (none)) = some r := by first | (rw [hy1100]; exact H) | exact H
 have Ny1100 := zA hy1100
 clear hy1100
 by_cases c5 : 0 < (l2.length : Int)
 rotate_left
 ·rw [if_neg c5] at H
  exact absurd H (by simp)

 rw [if_pos c5] at H
 have c5b0 : decide (0 < (l2.length : Int)) = true := decide_eq_true c5
 have c5b1 : decide (0 < l2.length) = true := decide_eq_true (by omega)
 clear c5
 replace H := Option.bind_eq_some_iff.mp H
 obtain ⟨t1104, A60, H⟩ := H
 replace H : (spec_l05Series.l0 k a0 l1 l2 a3 y1100 t1104 0) = some r := H
 have A6 := zA A60
 clear A60
 have H' := zA H
 clear H
 go_enter Try.func106, Try.ntmps106
 go_wp2_with (first | ((with_reducible refine gate_dst (N := 14) rfl ?_); (try (refine gate_guard (by rfl) ?_; dsimp only)); refine Kd.R_lit (Kd.int .i64) _ 2 ?hg (N := 14) ?hd (xs := ([] : List Int)) (inner := []) (ok := fun _ => True) (okp := fun _ => True) ?hr ?hp (fun _ hk => hk) trivial (Below.refl _ _) (Nat.le_refl _) (by simp) ?_; (case hd => rfl); (case hg => rfl); (case hr => first | (go_simp; done) | (go_simp; rfl)); (case hp => exact (Reps.none _ _)); intro v1101 w7 ho8 hb hg_ hnew_; clear hg_ hnew_; (first | rw [← Ny1100.out] at ho8 | (simp only [Int.reduceToNat] at ho8; rw [← Ny1100.out] at ho8)); have HO1102 := zA (Kd.R_lower ho8 (below_size (uH HB.out))); replace HB := xH HB hb; clear hb ho8; have p1103 : 0 ≤ (0 : Int) := (by omega); have q1103 : 0 < (l2.length : Int) := of_decide_eq_true (by first | (with_reducible assumption) | assumption); obtain ⟨ad1103, e1103, hx1103_0⟩ := Kd.at_int HR2.out 0 p1103 q1103; cases e1103; have qi1103 : (0 < l2.length) = True := eq_true (by omega); (try rw [show ((0 : Int)).toNat = 0 from rfl] at hx1103_0); (try rw [Addr.add_zero'] at hx1103_0); replace hx1103_0 := hc HB hx1103_0; replace p1103 := eq_true p1103; replace q1103 := eq_true q1103) | ((with_reducible refine gate_callee (f := 86) rfl ?_); refine gL (some 19) Try.func86 #[.int .i64 a0, .int .i64 (rd l2 0)] ?_; (with_reducible refine (spec_l01Inverse.calls k a0 (rd l2 0) t1104 _ A6.out).mono ?_); rintro e w' ⟨rfl, ⟨nd, rfl⟩⟩; refine ⟨_, rfl, ?_⟩))
 go_loopg [9, 11] k (fun kq v9 v11 w' => ∃ (x9_1 : List Int) (x11_1 : Int), v11 = .int .i64 x11_1 ∧ Aside0 (spec_l05Series.l0 kq a0 l1 l2 a3 x9_1 t1104 x11_1 = some r) ∧ Aside0 (kq ≤ k) ∧ Aside0 (Kd.R (Kd.int .i64) 2 w' w.heap.size (fun _ => True) v9 x9_1) ∧ Aside0 (Below w.heap.size w w'))
 case atStart => exact ⟨(y1100), (0), (by first | rfl | (simp; done) | (simp [*]; done)), H', ⟨Nat.le_refl _⟩, ⟨uR HO1102.out⟩, ⟨uH HB.out⟩⟩
 case round =>
  clear H'
  (try clear c1);(try clear p1);(try clear q1);(try clear hx1);(try clear qi1);(try clear c2);(try clear p2);(try clear c5);(try clear c5b0);(try clear c5b1);(try clear c8);(try clear hx1103_0);(try clear p1103);(try clear q1103)
  obtain ⟨x9_1, x11_1, rfl, HA, HK1, HO_9, HB⟩ := hrel
  cases gk with
  | zero => exact absurd HA.out (by simp [spec_l05Series.l0])
  | succ k1 =>
   have H := HA.out
   clear HA
   simp only [spec_l05Series.l0] at H
   by_cases c9 : x11_1 < a3
   rotate_left
   ·rw [if_neg c9] at H
    have c9b0 : decide (x11_1 < a3) = false := decide_eq_false c9
    clear c9
    obtain rfl := Option.some.inj H
    go_wp2
    go_ret
    exact ⟨_, by first | rfl | (simp [errW_none, errW_some] <;> rfl) | (simp [*, errW_none, errW_some] <;> rfl), uR HO_9.out, uH HB.out⟩
   rw [if_pos c9] at H
   have c9b0 : decide (x11_1 < a3) = true := decide_eq_true c9
   clear c9
   have HC10 := zA H
   clear H
   go_upto_if 28 with (fail)
   go_cut [12] (fun v12 wc => ∃ (kq : Nat) (x12_9 : Int), v12 = .int .i64 x12_9 ∧ Aside0 (spec_l05Series.j1 kq a0 l1 l2 a3 x9_1 t1104 x11_1 x12_9 = some r) ∧ Aside0 (kq ≤ k1) ∧ Aside0 (Kd.R (Kd.int .i64) 2 wc w.heap.size (fun _ => True) u9 x9_1) ∧ Aside0 (Below w.heap.size w wc))
   case first =>
    have H := HC10.out
    clear HC10
    by_cases c11 : x11_1 < (l1.length : Int)
    rotate_left
    ·rw [if_neg c11] at H
     have c11b0 : decide (x11_1 < (l1.length : Int)) = false := decide_eq_false c11
     clear c11
     (first | rw [c11b0] | (simp only [i64_w, i32_w]; rw [c11b0]) | skip)
     have H' := zA H
     clear H
     go_wp2
     go_meet
     case rel => exact ⟨_, (0), (by first | rfl | (simp; done) | (simp [*]; done)), H', ⟨by have := HK1.out; first | omega | exact Nat.le_refl _⟩, ⟨uR HO_9.out⟩, ⟨uH HB.out⟩⟩
    rw [if_pos c11] at H
    have c11b0 : decide (x11_1 < (l1.length : Int)) = true := decide_eq_true c11
    clear c11
    (first | rw [c11b0] | (simp only [i64_w, i32_w]; rw [c11b0]) | skip)
    by_cases c12 : 0 ≤ x11_1
    rotate_left
    ·rw [if_neg c12] at H
     exact absurd H (by simp)
    rw [if_pos c12] at H
    have c12b0 : decide (0 ≤ x11_1) = true := decide_eq_true c12
    clear c12
    have H' := zA H
    clear H
    have p1105 : 0 ≤ (x11_1 : Int) := of_decide_eq_true (by first | (with_reducible assumption) | assumption)
    have q1105 : x11_1 < (l1.length : Int) := of_decide_eq_true (by first | (with_reducible assumption) | assumption)
    obtain ⟨ad1105, e1105, hx1105_0⟩ := Kd.at_int HR1.out x11_1 p1105 q1105
    cases e1105
    replace hx1105_0 := hc HB hx1105_0
    replace p1105 := eq_true p1105
    replace q1105 := eq_true q1105
    go_wp2
    go_meet
    case rel => exact ⟨_, (rd l1 x11_1), (by first | rfl | (simp; done) | (simp [*]; done)), H', ⟨by have := HK1.out; first | omega | exact Nat.le_refl _⟩, ⟨uR HO_9.out⟩, ⟨uH HB.out⟩⟩
   case rest =>
    clear HC10
    (try clear c1);(try clear p1);(try clear q1);(try clear hx1);(try clear qi1);(try clear c2);(try clear p2);(try clear c5);(try clear c5b0);(try clear c5b1);(try clear c8);(try clear c9);(try clear c9b0);(try clear c10);(try clear c11);(try clear c11b0);(try clear p11);(try clear q11);(try clear hx11);(try clear qi11);(try clear c12);(try clear c12b0);(try clear hx1103_0);(try clear hx1105_0);(try clear p1)
    (try clear p1103);(try clear p1105);(try clear p2);(try clear q1);(try clear q1103);(try clear q1105)
    obtain ⟨kq, x12_9, rfl, HA, HJ9, HO_9, HB⟩ := hcut
    cases kq with
    | zero => exact absurd HA.out (by simp [spec_l05Series.j1])
    | succ kj9 =>
     have H := HA.out
     clear HA
     simp only [spec_l05Series.j1] at H
     have H' := zA H
     clear H
     go_wp2
     go_loopg [12, 13] kj9 (fun kq v12 v13 w' => ∃ (x12_3 : Int) (x13_3 : Int), v12 = .int .i64 x12_3 ∧ v13 = .int .i64 x13_3 ∧ Aside0 (spec_l05Series.l1 kq a0 l1 l2 a3 x9_1 t1104 x11_1 x12_3 x13_3 = some r) ∧ Aside0 (kq ≤ kj9) ∧ Aside0 (Kd.R (Kd.int .i64) 2 w' w.heap.size (fun _ => True) u9 x9_1) ∧ Aside0 (Below w.heap.size w w'))
     case atStart => exact ⟨(x12_9), (1), (by first | rfl | (simp; done) | (simp [*]; done)), (by first | rfl | (simp; done) | (simp [*]; done)), H', ⟨Nat.le_refl _⟩, ⟨uR HO_9.out⟩, ⟨uH HB.out⟩⟩
     case round =>
      clear H'
      (try clear c1);(try clear p1);(try clear q1);(try clear hx1);(try clear qi1);(try clear c2);(try clear p2);(try clear c5);(try clear c5b0);(try clear c5b1);(try clear c8);(try clear c9);(try clear c9b0);(try clear c10);(try clear c11);(try clear c11b0);(try clear p11);(try clear q11);(try clear hx11);(try clear qi11);(try clear c12);(try clear c12b0);(try clear hx1103_0);(try clear hx1105_0)
      (try clear p1);(try clear p11);(try clear p1103);(try clear p1105);(try clear p2);(try clear q1);(try clear q11);(try clear q1103);(try clear q1105)
      obtain ⟨x12_3, x13_3, rfl, rfl, HA, HK3, HO_9, HB⟩ := hrel
      cases gk with
      | zero => exact absurd HA.out (by simp [spec_l05Series.l1])
      | succ k3 =>
       have H := HA.out
       clear HA
       simp only [spec_l05Series.l1] at H
       by_cases c13 : x13_3 ≤ x11_1
       rotate_left
       ·rw [if_neg c13] at H
        have c13b0 : decide (x13_3 ≤ x11_1) = false := decide_eq_false c13
        clear c13
        by_cases c25 : a0 = 0
        rotate_left
        ·rw [if_neg c25] at H
         have c25b0 : (a0 == 0) = false := beq_eq_false_iff_ne.mpr c25
         have c25b1 : (a0 != 0) = true := bne_iff_ne.mpr c25
         by_cases c26 : x9_1.length < 17592186044416
         rotate_left
         ·rw [if_neg c26] at H
          exact absurd H (by simp)
         rw [if_pos c26] at H
         have LMc26 := zA c26
         clear c26
         obtain ⟨y1112, hy1112⟩ : ∃ y_ : List Int, y_ = (x9_1 ++ [Int.tmod (wrap64 (x12_3 * t1104)) a0]) := ⟨_, rfl⟩
         replace H : (spec_l05Series.l0 k3 a0 l1 l2 a3 y1112 t1104 (wrap64 (x11_1 + 1))) = some r := by first | (rw [hy1112]; exact H) | exact H
         have Ny1112 := zA hy1112
         clear hy1112
         have H' := zA H
         clear H
         go_wp2_with (first | ((with_reducible refine gate_builtin (b := .append) (xs := #[.tmp 59, .tmp 65]) rfl ?_); (try (refine gate_guard (by rfl) ?_; dsimp only)); at_builtin; refine Kd.R_append (Kd.int .i64) (w0 := w) w.heap.size rfl (.tmp 59) (.tmp 65) 22 2 (.int .i64 0) 8 rfl Try.underlying22 info2 rfl (by decide) (by omega) u9 x9_1 (Int.tmod (wrap64 (x12_3 * t1104)) a0) [.int .i64 (Int.tmod (wrap64 (x12_3 * t1104)) a0)] (fun _ => True) (fun _ => False) rfl rfl ?aP (fun _ hk => hk.elim) ?aF ?aO ?aB ?aS ?aL ?_; (case aP => exact rfl); (case aB => exact (uH HB.out)); (case aF => exact (fun _ _ => trivial)); (case aO => exact (uR HO_9.out)); (case aS => exact (below_size (uH HB.out))); (case aL => have := LMc26.out; omega); intro v1113 w27 ho hb hg hat; rw [← Ny1112.out] at ho; replace HB := zA (hb); have HO1114 := zA (ho); clear HO_9 ho hb hg hat))
         go_roundg k3
         case measure => have := HK1.out; have := HJ9.out; have := HK3.out; omega
         case rel => exact ⟨(y1112), (wrap64 (x11_1 + 1)), (by first | rfl | (simp; done) | (simp [*]; done)), H', ⟨by have := HK1.out; have := HJ9.out; have := HK3.out; omega⟩, ⟨uR HO1114.out⟩, ⟨uH HB.out⟩⟩
        rw [if_pos c25] at H
        exact absurd H (by simp)
       rw [if_pos c13] at H
       have c13b0 : decide (x13_3 ≤ x11_1) = true := decide_eq_true c13
       clear c13
       by_cases c14 : x13_3 < (l2.length : Int)
       rotate_left
       ·rw [if_neg c14] at H
        have c14b0 : decide (x13_3 < (l2.length : Int)) = false := decide_eq_false c14
        clear c14
        by_cases c22 : a0 = 0
        rotate_left
        ·rw [if_neg c22] at H
         have c22b0 : (a0 == 0) = false := beq_eq_false_iff_ne.mpr c22
         have c22b1 : (a0 != 0) = true := bne_iff_ne.mpr c22
         by_cases c23 : x9_1.length < 17592186044416
         rotate_left
         ·rw [if_neg c23] at H
          exact absurd H (by simp)
         rw [if_pos c23] at H
         have LMc23 := zA c23
         clear c23
         obtain ⟨y1109, hy1109⟩ : ∃ y_ : List Int, y_ = (x9_1 ++ [Int.tmod (wrap64 (x12_3 * t1104)) a0]) := ⟨_, rfl⟩
         replace H : (spec_l05Series.l0 k3 a0 l1 l2 a3 y1109 t1104 (wrap64 (x11_1 + 1))) = some r := by first | (rw [hy1109]; exact H) | exact H
         have Ny1109 := zA hy1109
         clear hy1109
         have H' := zA H
         clear H
         go_wp2_with (first | ((with_reducible refine gate_builtin (b := .append) (xs := #[.tmp 59, .tmp 65]) rfl ?_); (try (refine gate_guard (by rfl) ?_; dsimp only)); at_builtin; refine Kd.R_append (Kd.int .i64) (w0 := w) w.heap.size rfl (.tmp 59) (.tmp 65) 22 2 (.int .i64 0) 8 rfl Try.underlying22 info2 rfl (by decide) (by omega) u9 x9_1 (Int.tmod (wrap64 (x12_3 * t1104)) a0) [.int .i64 (Int.tmod (wrap64 (x12_3 * t1104)) a0)] (fun _ => True) (fun _ => False) rfl rfl ?aP (fun _ hk => hk.elim) ?aF ?aO ?aB ?aS ?aL ?_; (case aP => exact rfl); (case aB => exact (uH HB.out)); (case aF => exact (fun _ _ => trivial)); (case aO => exact (uR HO_9.out)); (case aS => exact (below_size (uH HB.out))); (case aL => have := LMc23.out; omega); intro v1110 w24 ho hb hg hat; rw [← Ny1109.out] at ho; replace HB := zA (hb); have HO1111 := zA (ho); clear HO_9 ho hb hg hat))
         go_roundg k3
         case measure => have := HK1.out; have := HJ9.out; have := HK3.out; omega
         case rel => exact ⟨(y1109), (wrap64 (x11_1 + 1)), (by first | rfl | (simp; done) | (simp [*]; done)), H', ⟨by have := HK1.out; have := HJ9.out; have := HK3.out; omega⟩, ⟨uR HO1111.out⟩, ⟨uH HB.out⟩⟩
        rw [if_pos c22] at H
        exact absurd H (by simp)
       rw [if_pos c14] at H
       have c14b0 : decide (x13_3 < (l2.length : Int)) = true := decide_eq_true c14
       clear c14
       by_cases c15 : 0 ≤ x13_3
       rotate_left
       ·rw [if_neg c15] at H
        exact absurd H (by simp)
       rw [if_pos c15] at H
       have c15b0 : decide (0 ≤ x13_3) = true := decide_eq_true c15
       clear c15
       obtain ⟨ji16, hji16⟩ : ∃ j_ : Int, (wrap64 (x11_1 - x13_3)) = j_ := ⟨_, rfl⟩
       replace H : (if 0 ≤ (ji16) then (if (ji16) < (x9_1.length : Int) then ((spec_l01Mod.f a0 (wrap64 (x12_3 - (wrap64 ((rd l2 x13_3) * (rd x9_1 (ji16))))))).bind fun t1108 => (spec_l05Series.l1 k3 a0 l1 l2 a3 x9_1 t1104 x11_1 t1108 (wrap64 (x13_3 + 1)))) else (none)) else (none)) = some r := by first | (rw [hji16] at H; exact H) | (simp only [hji16] at H ⊢; exact H)
       have hji16w : (IntKind.i64.wrap (x11_1 - x13_3)) = ji16 := (i64_w _).trans hji16
       by_cases c17 : 0 ≤ (ji16)
       rotate_left
       ·rw [if_neg c17] at H
        exact absurd H (by simp)
       rw [if_pos c17] at H
       have c17b0 : decide (0 ≤ (ji16)) = true := decide_eq_true c17
       clear c17
       by_cases c18 : (ji16) < (x9_1.length : Int)
       rotate_left
       ·rw [if_neg c18] at H
        exact absurd H (by simp)
       rw [if_pos c18] at H
       have c18b0 : decide ((ji16) < (x9_1.length : Int)) = true := decide_eq_true c18
       clear c18
       replace H := Option.bind_eq_some_iff.mp H
       obtain ⟨t1108, A190, H⟩ := H
       replace H : (spec_l05Series.l1 k3 a0 l1 l2 a3 x9_1 t1104 x11_1 t1108 (wrap64 (x13_3 + 1))) = some r := H
       have A19 := zA A190
       clear A190
       have H' := zA H
       clear H
       try go_wp2
       replace HO_9 := zA (Kd.R_drew HO_9.out)
       replace HB := zA (below_drew1 HB.out)
       have p1106 : 0 ≤ (x13_3 : Int) := of_decide_eq_true (by first | (with_reducible assumption) | assumption)
       have q1106 : x13_3 < (l2.length : Int) := of_decide_eq_true (by first | (with_reducible assumption) | assumption)
       obtain ⟨ad1106, e1106, hx1106_0⟩ := Kd.at_int HR2.out x13_3 p1106 q1106
       have hw1106_0 := hx1106_0
       obtain rfl : ad1103 = ad1106 := (by injection e1106)
       replace hx1106_0 := hc HB hx1106_0
       replace p1106 := eq_true p1106
       replace q1106 := eq_true q1106
       obtain ⟨Ao21, co21, eo21⟩ := Kd.R_slice HO_9.out
       (first | subst eo21 | (injection eo21 with f1_ f2_ f3_; have f4_ := f1_.symm; have f5_ := f3_.symm; clear f1_ f2_ f3_; subst f4_; subst f5_))
       have p1107 : 0 ≤ ((ji16) : Int) := of_decide_eq_true (by first | (with_reducible assumption) | assumption)
       have q1107 : (ji16) < (x9_1.length : Int) := of_decide_eq_true (by first | (with_reducible assumption) | assumption)
       obtain ⟨ad1107, e1107, hx1107_0⟩ := Kd.at_int (Kd.R_reads' HO_9.out).2.2 (ji16) p1107 q1107
       cases e1107
       replace p1107 := eq_true p1107
       replace q1107 := eq_true q1107
       refine start_ (n := 16) (S := fun w' => w'.cell? (ad1103.add (x13_3).toNat) = some (.int .i64 (rd l2 x13_3)) ∧ w'.cell? (ad1107.add ((ji16)).toNat) = some (.int .i64 (rd x9_1 (ji16)))) (ds := []) #[false, false, false, false, false, false, false, false, false, false, false, false, false, false, false, false] (by kernel_rfl) rfl rfl ⟨(hcu HB hw1106_0), hx1107_0⟩ (fun hHeld => ?_); refine with_tabW spec_l05Series.tab11 spec_l05Series.bits11 (fun HT_ HW_ => ?_)
       generalize wr.drew = w20 at HO_9 HB hx1106_0 hx1107_0 hHeld ⊢
       refine pu_ 0 44 (bl 16 1) HT_ ?_
       refine pu_ 1 45 (bl 16 3) HT_ ?_
       refine pu_ 2 46 (bl 16 7) HT_ ?_
       refine pu_ 3 47 (bl 16 15) HT_ ?_
       refine pu_ 4 48 (bl 16 31) HT_ ?_
       refine pu_ 6 50 (bl 16 95) HT_ ?_
       refine pu_ 7 51 (bl 16 223) HT_ ?_
       refine pu_ 8 52 (bl 16 479) HT_ ?_
       refine pu_ 9 53 (bl 16 991) HT_ ?_
       refine pu_ 10 54 (bl 16 2015) HT_ ?_
       refine ta_ 5 49 (bl 16 2047) HT_ HW_ hHeld ?_
       refine ta_ 11 55 (bl 16 4095) HT_ HW_ hHeld ?_
       refine pu_ 12 56 (bl 16 8191) HT_ ?_
       refine pu_ 13 57 (bl 16 16383) HT_ ?_
       refine on_ 14 (some 58) (bl 16 32767) HT_ (fun K hK => ?_)
       refine goes_ Try.func60 (by kernel_rfl) rfl #[.int .i64 a0, .int .i64 (wrap64 (x12_3 - (wrap64 ((rd l2 x13_3) * (rd x9_1 (ji16))))))] (by rfl) rfl rfl (by (try simp only [la, lb, lc]); first | done | (simp only [hji16]; rfl) | rfl | (simp only [ld, le]; rfl)) ?_
       with_reducible refine (spec_l01Mod.calls a0 (wrap64 (x12_3 - (wrap64 ((rd l2 x13_3) * (rd x9_1 (ji16)))))) t1108 _ A19.out).mono ?_
       rintro e w' ⟨rfl, ⟨nd, rfl⟩⟩
       refine ⟨_, rfl, ?_⟩
       refine hK.out _ _ ⟨(hcu HB hw1106_0), hHeld.2⟩ (fun hHeld => ?_)
       clear hK K
       refine no_ 58 ?_
       refine pu_ 15 12 (bl 16 65535) HT_ ?_
       refine done_ (done_of HT_.out (by kernel_rfl)) ?_
       try go_wp2
       go_roundg k3
       case measure => have := HK1.out; have := HJ9.out; have := HK3.out; omega
       case rel => exact ⟨(t1108), (wrap64 (x13_3 + 1)), (by first | rfl | (simp; done) | (simp [*]; done)), (by first | rfl | (simp; done) | (simp [*]; done)), H', ⟨by have := HK1.out; have := HJ9.out; have := HK3.out; omega⟩, ⟨uR HO_9.out⟩, ⟨uH HB.out⟩⟩
/-! ### spec_SeriesOfJacobi: function 45 -/
def spec_SeriesOfJacobi.f (k : Nat) (a0_0 : Int) (l0_1 : List Int) (l0_2 : List Int) (a1 : Int) : Option (List Int × Int) := (spec_l03Code.f k a0_0 l0_1 l0_2 a1 0 24).bind fun t1123 => (if t1123 = 0 then ((spec_l03Second.f k a0_0 l0_1 l0_2 (l0_1.length : Int)).bind fun t1127 => (if 0 < (l0_2.length : Int) then ((spec_l01Add.f k a0_0 (([] : List Int)) t1127 (rd l0_2 0)).bind fun t1131 => ((spec_l05Reverse.f k t1131).bind fun t1134 => ((spec_l03Poly.f k a0_0 l0_1 l0_2 (l0_1.length : Int)).bind fun t1137 => ((spec_l05Reverse.f k t1137).bind fun t1140 => ((spec_l05Series.f k a0_0 t1134 t1140 a1).bind fun t1143 => (some (t1143, 0))))))) else (none))) else (some (([] : List Int), t1123)))
theorem spec_SeriesOfJacobi.mono : ∀ a0 a1 a2 a3 k, LeO (spec_SeriesOfJacobi.f k a0 a1 a2 a3) (spec_SeriesOfJacobi.f (k + 1) a0 a1 a2 a3) := by
 intro a0 a1 a2 a3 k
 unfold spec_SeriesOfJacobi.f
 repeat' first
   | (with_reducible exact spec_l01Add.mono _ _ _ _ _)
   | (with_reducible exact spec_l03Code.mono _ _ _ _ _ _ _)
   | (with_reducible exact spec_l03Poly.mono _ _ _ _ _)
   | (with_reducible exact spec_l03Second.mono _ _ _ _ _)
   | (with_reducible exact spec_l05Reverse.mono _ _)
   | (with_reducible exact spec_l05Series.mono _ _ _ _ _)
   | (with_reducible exact LeO.refl _)
   | (with_reducible exact LeO.none _)
   | (with_reducible refine LeO.ite ?_ ?_)
   | (with_reducible refine LeO.bind ?_ (fun _ => ?_))
   | exact spec_l01Add.mono _ _ _ _ _
   | exact spec_l03Code.mono _ _ _ _ _ _ _
   | exact spec_l03Poly.mono _ _ _ _ _
   | exact spec_l03Second.mono _ _ _ _ _
   | exact spec_l05Reverse.mono _ _
   | exact spec_l05Series.mono _ _ _ _ _
   | exact LeO.none _
   | refine LeO.ite ?_ ?_
   | refine LeO.bind ?_ (fun _ => ?_)
def spec_SeriesOfJacobi.T5 : Bool × List (List Nat × List Nat) := (true, [([], []), ([0], [0]), ([], []), ([], []), ([], []), ([3, 4], [3, 4]), ([], []), ([6], [6]), ([7], [7]), ([8], [8]), ([1, 2, 5, 9, 5], [1, 2, 5, 9]), ([10, 10, 0, 1, 2, 3, 4, 5, 6, 7, 8, 9, 10], [10])])
def spec_SeriesOfJacobi.B5 : List Nat := [0, 1, 0, 0, 0, 24, 0, 64, 192, 448, 1023, 2047]
theorem spec_SeriesOfJacobi.tab5 : rtab .any (opsOf Try.f45 5) = spec_SeriesOfJacobi.T5 := by kernel_rfl
theorem spec_SeriesOfJacobi.bits5 : waitsOk spec_SeriesOfJacobi.T5.2 spec_SeriesOfJacobi.B5 = true := by kernel_rfl
def spec_SeriesOfJacobi.T6 : Bool × List (List Nat × List Nat) := (true, [([], []), ([0], [0]), ([], []), ([2], [2]), ([], []), ([], []), ([4, 5, 3], [4, 5]), ([6, 6], [6]), ([], []), ([1, 3, 7, 8, 7], [1, 3, 7, 8]), ([9, 9, 0, 1, 2, 3, 4, 5, 6, 7, 8, 9], [9]), ([10, 0, 1, 2, 3, 4, 5, 6, 7, 8, 9, 10], [])])
def spec_SeriesOfJacobi.B6 : List Nat := [0, 1, 0, 4, 0, 0, 60, 124, 0, 511, 1023, 2047]
theorem spec_SeriesOfJacobi.tab6 : rtab .any (opsOf Try.f45 6) = spec_SeriesOfJacobi.T6 := by kernel_rfl
theorem spec_SeriesOfJacobi.bits6 : waitsOk spec_SeriesOfJacobi.T6.2 spec_SeriesOfJacobi.B6 = true := by kernel_rfl
set_option maxHeartbeats 8000000 in
set_option maxRecDepth 100000 in
theorem spec_SeriesOfJacobi.calls (k : Nat) (a0_0 : Int) (A0_1 : Option Addr) (c0_1 : Nat) (l0_1 : List Int) (A0_2 : Option Addr) (c0_2 : Nat) (l0_2 : List Int) (a1 : Int) (r1 : List Int) (r2 : Int) (w : World) (hr0_1 : Kd.C (Kd.int .i64) w A0_1 l0_1.length l0_1) (hc0_1 : l0_1.length ≤ c0_1) (hr0_2 : Kd.C (Kd.int .i64) w A0_2 l0_2.length l0_2) (hc0_2 : l0_2.length ≤ c0_2) (h : spec_SeriesOfJacobi.f k a0_0 l0_1 l0_2 a1 = some (r1, r2)) :
  Calls Try.prog 45 #[.agg #[.int .i64 a0_0, .slice A0_1 l0_1.length c0_1, .slice A0_2 l0_2.length c0_2], .int .i64 a1] w fun e w' => ∃ v0_ : Value, e = .returned (.tuple #[v0_, .int .i64 r2]) ∧ Kd.R (Kd.int .i64) 2 w' w.heap.size (fun _ => True) v0_ r1 ∧ Below w.heap.size w w' := by
 have hu46 := Try.underlying46
 have HR0_1 := zA hr0_1
 have HC0_1 := zA hc0_1
 clear hr0_1 hc0_1
 have HR0_2 := zA hr0_2
 have HC0_2 := zA hc0_2
 clear hr0_2 hc0_2
 have HB := zA (Below.refl w.heap.size w)
 have H : ((spec_l03Code.f k a0_0 l0_1 l0_2 a1 0 24).bind fun t1123 => (if t1123 = 0 then ((spec_l03Second.f k a0_0 l0_1 l0_2 (l0_1.length : Int)).bind fun t1127 => (if 0 < (l0_2.length : Int) then ((spec_l01Add.f k a0_0 (([] : List Int)) t1127 (rd l0_2 0)).bind fun t1131 => ((spec_l05Reverse.f k t1131).bind fun t1134 => ((spec_l03Poly.f k a0_0 l0_1 l0_2 (l0_1.length : Int)).bind fun t1137 => ((spec_l05Reverse.f k t1137).bind fun t1140 => ((spec_l05Series.f k a0_0 t1134 t1140 a1).bind fun t1143 => (some (t1143, 0))))))) else (none))) else (some (([] : List Int), t1123)))) = some (r1, r2) := h
 clear h
 replace H := Option.bind_eq_some_iff.mp H
 obtain ⟨t1123, A30, H⟩ := H
 replace H : (if t1123 = 0 then ((spec_l03Second.f k a0_0 l0_1 l0_2 (l0_1.length : Int)).bind fun t1127 => (if 0 < (l0_2.length : Int) then ((spec_l01Add.f k a0_0 (([] : List Int)) t1127 (rd l0_2 0)).bind fun t1131 => ((spec_l05Reverse.f k t1131).bind fun t1134 => ((spec_l03Poly.f k a0_0 l0_1 l0_2 (l0_1.length : Int)).bind fun t1137 => ((spec_l05Reverse.f k t1137).bind fun t1140 => ((spec_l05Series.f k a0_0 t1134 t1140 a1).bind fun t1143 => (some (t1143, 0))))))) else (none))) else (some (([] : List Int), t1123))) = some (r1, r2) := H
 have A3 := zA A30
 clear A30
 by_cases c4 : t1123 = 0
 rotate_left
 ·rw [if_neg c4] at H
  have c4b0 : (t1123 == 0) = false := beq_eq_false_iff_ne.mpr c4
  have c4b1 : (t1123 != 0) = true := bne_iff_ne.mpr c4
  simp only [Option.some.injEq, Prod.mk.injEq] at H
  obtain ⟨rfl, rfl⟩ := H
  go_enter Try.func45, Try.ntmps45
  go_wp2_with (first | ((with_reducible refine gate_dst (N := 2) rfl ?_); refine bx 2 #[.int .i64 a0_0, .slice A0_1 l0_1.length c0_1, .slice A0_2 l0_2.length c0_2] 46 ?_; intro gb1122 hg w33 hbox hb; have BK1122 := zA (hbox); have GW1122 := gq HB hg; have GE1122 := gq HB hg; replace HB := xH HB hb; have := geI GE1122; clear hb hbox hg; have hcz34_0 := bc BK1122 0; have hcz34_1 := bc BK1122 1; have hcz34_2 := bc BK1122 2; have hfz34_0 := bf BK1122 0; have hfz34_1 := bf BK1122 1; have hfz34_2 := bf BK1122 2) | ((with_reducible refine gate_callee (f := 69) rfl ?_); refine gL (some 11) Try.func69 #[.agg #[.int .i64 a0_0, .slice A0_1 l0_1.length c0_1, .slice A0_2 l0_2.length c0_2], .int .i64 a1, .int .i64 0, .int .i64 24] ?_; (with_reducible refine (spec_l03Code.calls k a0_0 _ _ l0_1 _ _ l0_2 a1 0 24 t1123 _ ?side1 ?side2 ?side3 ?side4 A3.out).mono ?_); (case side1 => exact uC ((Kd.C_below HR0_1.out HB.out))); (case side2 => exact HC0_1.out); (case side3 => exact uC ((Kd.C_below HR0_2.out HB.out))); (case side4 => exact HC0_2.out); rintro e w35 ⟨rfl, hb⟩; refine ⟨_, rfl, ?_⟩; replace BK1122 := xB BK1122 hb; replace HB := xH HB hb; (try clear hb); (try clear hb2); (try clear hk); (try clear hi)))
  go_ret2
  exact ⟨_, by first | rfl | (simp [errW_none, errW_some] <;> rfl) | (simp [*, errW_none, errW_some] <;> rfl), by first | exact Kd.R_nil _ _ _ _ _ | exact Kd.N_nil _ _ _ _ _ | exact Kd.V_nil _ _ _ _ _ | exact Kd.Q_nil _ _ _ _ _ | exact Kd.S_nil _ _ _ _ _, uH HB.out⟩

 rw [if_pos c4] at H
 have c4b0 : (t1123 == 0) = true := beq_iff_eq.mpr c4
 have c4b1 : (t1123 != 0) = false := bne_eq_false_iff_eq.mpr c4
 clear c4
 obtain ⟨y1124, hy1124⟩ : ∃ y_ : List Int, y_ = (([] : List Int)) := ⟨_, rfl⟩
 replace H : ((spec_l03Second.f k a0_0 l0_1 l0_2 (l0_1.length : Int)).bind fun t1127 => (if 0 < (l0_2.length : Int) then ((spec_l01Add.f k a0_0 y1124 t1127 (rd l0_2 0)).bind fun t1131 => ((spec_l05Reverse.f k t1131).bind fun t1134 => ((spec_l03Poly.f k a0_0 l0_1 l0_2 (l0_1.length : Int)).bind fun t1137 => ((spec_l05Reverse.f k t1137).bind fun t1140 => ((spec_l05Series.f k a0_0 t1134 t1140 a1).bind fun t1143 => (some (t1143, 0))))))) else (none))) = some (r1, r2) := by first | (rw [hy1124]; exact H) | exact H
 have Ny1124 := zA hy1124
 clear hy1124
 replace H := Option.bind_eq_some_iff.mp H
 obtain ⟨t1127, A50, H⟩ := H
 replace H : (if 0 < (l0_2.length : Int) then ((spec_l01Add.f k a0_0 y1124 t1127 (rd l0_2 0)).bind fun t1131 => ((spec_l05Reverse.f k t1131).bind fun t1134 => ((spec_l03Poly.f k a0_0 l0_1 l0_2 (l0_1.length : Int)).bind fun t1137 => ((spec_l05Reverse.f k t1137).bind fun t1140 => ((spec_l05Series.f k a0_0 t1134 t1140 a1).bind fun t1143 => (some (t1143, 0))))))) else (none)) = some (r1, r2) := H
 have A5 := zA A50
 clear A50
 by_cases c6 : 0 < (l0_2.length : Int)
 rotate_left
 ·rw [if_neg c6] at H
  exact absurd H (by simp)
 rw [if_pos c6] at H
 have c6b0 : decide (0 < (l0_2.length : Int)) = true := decide_eq_true c6
 have c6b1 : decide (0 < l0_2.length) = true := decide_eq_true (by omega)
 clear c6
 replace H := Option.bind_eq_some_iff.mp H
 obtain ⟨t1131, A70, H⟩ := H
 replace H : ((spec_l05Reverse.f k t1131).bind fun t1134 => ((spec_l03Poly.f k a0_0 l0_1 l0_2 (l0_1.length : Int)).bind fun t1137 => ((spec_l05Reverse.f k t1137).bind fun t1140 => ((spec_l05Series.f k a0_0 t1134 t1140 a1).bind fun t1143 => (some (t1143, 0)))))) = some (r1, r2) := H
 have A7 := zA A70
 clear A70
 replace H := Option.bind_eq_some_iff.mp H
 obtain ⟨t1134, A80, H⟩ := H
 replace H : ((spec_l03Poly.f k a0_0 l0_1 l0_2 (l0_1.length : Int)).bind fun t1137 => ((spec_l05Reverse.f k t1137).bind fun t1140 => ((spec_l05Series.f k a0_0 t1134 t1140 a1).bind fun t1143 => (some (t1143, 0))))) = some (r1, r2) := H
 have A8 := zA A80
 clear A80
 replace H := Option.bind_eq_some_iff.mp H
 obtain ⟨t1137, A90, H⟩ := H
 replace H : ((spec_l05Reverse.f k t1137).bind fun t1140 => ((spec_l05Series.f k a0_0 t1134 t1140 a1).bind fun t1143 => (some (t1143, 0)))) = some (r1, r2) := H
 have A9 := zA A90
 clear A90
 replace H := Option.bind_eq_some_iff.mp H
 obtain ⟨t1140, A100, H⟩ := H
 replace H : ((spec_l05Series.f k a0_0 t1134 t1140 a1).bind fun t1143 => (some (t1143, 0))) = some (r1, r2) := H
 have A10 := zA A100
 clear A100
 replace H := Option.bind_eq_some_iff.mp H
 obtain ⟨t1143, A110, H⟩ := H
 replace H : (some (t1143, 0)) = some (r1, r2) := H
 have A11 := zA A110
 clear A110
 simp only [Option.some.injEq, Prod.mk.injEq] at H
 obtain ⟨rfl, rfl⟩ := H
 go_enter Try.func45, Try.ntmps45
 try go_wp2_with (first | ((with_reducible refine gate_dst (N := 2) rfl ?_); refine bx 2 #[.int .i64 a0_0, .slice A0_1 l0_1.length c0_1, .slice A0_2 l0_2.length c0_2] 46 ?_; intro gb1122 hg w12 hbox hb; have BK1122 := zA (hbox); have GW1122 := gq HB hg; have GE1122 := gq HB hg; replace HB := xH HB hb; have := geI GE1122; clear hb hbox hg; have hcz13_0 := bc BK1122 0; have hcz13_1 := bc BK1122 1; have hcz13_2 := bc BK1122 2; have hfz13_0 := bf BK1122 0; have hfz13_1 := bf BK1122 1; have hfz13_2 := bf BK1122 2) | ((with_reducible refine gate_callee (f := 69) rfl ?_); refine gL (some 11) Try.func69 #[.agg #[.int .i64 a0_0, .slice A0_1 l0_1.length c0_1, .slice A0_2 l0_2.length c0_2], .int .i64 a1, .int .i64 0, .int .i64 24] ?_; (with_reducible refine (spec_l03Code.calls k a0_0 _ _ l0_1 _ _ l0_2 a1 0 24 t1123 _ ?side1 ?side2 ?side3 ?side4 A3.out).mono ?_); (case side1 => exact uC ((Kd.C_below HR0_1.out HB.out))); (case side2 => exact HC0_1.out); (case side3 => exact uC ((Kd.C_below HR0_2.out HB.out))); (case side4 => exact HC0_2.out); rintro e w14 ⟨rfl, hb⟩; refine ⟨_, rfl, ?_⟩; replace BK1122 := xB BK1122 hb; replace HB := xH HB hb; (try clear hb); (try clear hb2); (try clear hk); (try clear hi); have hcz15_0 := bc BK1122 0; have hcz15_1 := bc BK1122 1; have hcz15_2 := bc BK1122 2; have hfz15_0 := bf BK1122 0; have hfz15_1 := bf BK1122 1; have hfz15_2 := bf BK1122 2))
 replace BK1122 := zA (blk_drew BK1122.out)
 replace HB := zA (below_drew1 HB.out)
 have p1130 : 0 ≤ (0 : Int) := (by omega)
 have q1130 : 0 < (l0_2.length : Int) := of_decide_eq_true (by first | (with_reducible assumption) | assumption)
 obtain ⟨ad1130, e1130, hx1130_0⟩ := Kd.at_int HR0_2.out 0 p1130 q1130
 have hw1130_0 := hx1130_0
 (try rw [show ((0 : Int)).toNat = 0 from rfl] at hw1130_0)
 (try rw [show 0 * 1 = 0 from rfl] at hw1130_0)
 (try rw [Addr.add_zero'] at hw1130_0)
 cases e1130
 have qi1130 : (0 < l0_2.length) = True := eq_true (by omega)
 (try rw [show ((0 : Int)).toNat = 0 from rfl] at hx1130_0)
 (try rw [Addr.add_zero'] at hx1130_0)
 replace hx1130_0 := hc HB hx1130_0
 replace p1130 := eq_true p1130
 replace q1130 := eq_true q1130
 refine start_ (n := 12) (S := fun w' => True) (ds := []) #[false, false, false, false, false, false, false, false, false, false, false, false] (by kernel_rfl) rfl rfl trivial (fun hHeld => ?_); refine with_tabW spec_SeriesOfJacobi.tab5 spec_SeriesOfJacobi.bits5 (fun HT_ HW_ => ?_)
 generalize w14.drew = w16 at BK1122 HB hx1130_0 hHeld ⊢
 refine pu_ 0 18 (bl 12 1) HT_ ?_
 refine pu_ 4 22 (bl 12 17) HT_ ?_
 refine pu_ 6 24 (bl 12 81) HT_ ?_
 refine inv_at [1, 2, 3, 5, 7, 8, 9, 10, 11] (fun a0_ b a w' => ∃ (v1125 : Value) (v1128 : Value) (v1132 : Value) (m11_ : Value), a = putSel a0_ b [(1, 19, .int .i64 a0_0), (2, 20, v1125), (3, 21, .agg #[.int .i64 a0_0, .slice A0_1 l0_1.length c0_1, .slice (some ad1130) l0_2.length c0_2]), (5, 23, v1128), (7, 25, .slice (some ad1130) l0_2.length c0_2), (8, 26, .pointer (some ad1130)), (9, 27, .int .i64 (rd l0_2 0)), (10, 28, v1132), (11, 8, m11_)] ∧ (w'.heap[gb1122]? = some (.cells #[.int .i64 a0_0, .slice A0_1 l0_1.length c0_1, .slice (some ad1130) l0_2.length c0_2] 46 (0, 0))) ∧ (Below w.heap.size w w') ∧ (b 2 = true → Kd.R (Kd.int .i64) 2 w' w.heap.size (fun _ => True) v1125 y1124) ∧ (b 5 = true → Kd.R (Kd.int .i64) 2 w' w.heap.size (fun _ => True) v1128 t1127) ∧ (b 10 = true → Kd.R (Kd.int .i64) 2 w' w.heap.size (fun _ => True) v1132 t1131) ∧ (b 11 = true → (m11_ : Value) = v1132)) HT_.out HW_.out (by kernel_rfl) (by kernel_rfl) ?_ ?_ ?_
 ·exact ⟨.bool false, .bool false, .bool false, .bool false, by simp only [putSel, Bool.false_eq_true, if_false], BK1122.out, HB.out, fun h_ => absurd h_ (by decide), fun h_ => absurd h_ (by decide), fun h_ => absurd h_ (by decide), fun h_ => absurd h_ (by decide)⟩
 ·skip
  clear BK1122 HB
  refine steps_cons ?_ ?_
  ·rintro b a w' ⟨v1125, v1128, v1132, m11_, ha, Q_BK1122, Q_HB, Q_HO1126, Q_HO1129, Q_HO1133, Q_X11_⟩ hb_ hon hoff
   refine ⟨_, rfl, fun K hK => ?_⟩
   have e18 : a.tmps[18]? = some (.pointer (some ⟨gb1122, 0, none⟩)) := by rw [ha]; exact (putSel_off rfl).trans rfl
   replace ha := zA ha
   have BK1122 := zA Q_BK1122
   have HB := zA Q_HB
   have hc0_ : w'.cell? ⟨gb1122, 0, none⟩ = some (.int .i64 a0_0) := (blk_cell BK1122.out 0).trans rfl
   have hc1_ : w'.cell? ⟨gb1122, 1, none⟩ = some (.slice A0_1 l0_1.length c0_1) := (blk_cell BK1122.out 1).trans rfl
   have hc2_ : w'.cell? ⟨gb1122, 2, none⟩ = some (.slice (some ad1130) l0_2.length c0_2) := (blk_cell BK1122.out 2).trans rfl
   refine value_ (w1 := w') (v := .int .i64 a0_0) (by rfl) rfl ?_ ?_
   ·go_simp
    (try simp only [i64_w])
    try rfl
   refine hK.out _ _ ⟨v1125, v1128, v1132, m11_, (by rw [ha.out]; exact putSel_upk 0 hb_ rfl rfl rfl), Q_BK1122, Q_HB, Q_HO1126, Q_HO1129, fun h0_ => absurd ((hoff 10 (by kernel_rfl)).symm.trans h0_) (by decide), fun h0_ => absurd ((hoff 11 (by kernel_rfl)).symm.trans h0_) (by decide)⟩
  refine steps_cons ?_ ?_
  ·rintro b a w' ⟨v1125, v1128, v1132, m11_, ha, Q_BK1122, Q_HB, Q_HO1126, Q_HO1129, Q_HO1133, Q_X11_⟩ hb_ hon hoff
   refine ⟨_, rfl, fun K hK => ?_⟩
   replace ha := zA ha
   have BK1122 := zA Q_BK1122
   have HB := zA Q_HB
   refine Kd.R_lit_step (Kd.int .i64) _ 2 ?hg (N := 20) ?hd (xs := ([] : List Int)) (inner := []) (ok := fun _ => True) (okp := fun _ => True) ?hr ?hp (fun _ hk => hk) trivial (Below.refl _ _) (Nat.le_refl _) (by simp) ?_; (case hd => rfl); (case hg => rfl); (case hr => first | (go_simp; done) | (go_simp; rfl)); (case hp => exact (Reps.none _ _))
   intro v1125 w17 ho18 hb hg_ hnew_
   clear hg_ hnew_
   (first | rw [← Ny1124.out] at ho18 | (simp only [Int.reduceToNat] at ho18; rw [← Ny1124.out] at ho18))
   have n0_ := zA (Kd.R_lower ho18 (below_size (uH HB.out)))
   have n1_ := xB BK1122 hb
   have n2_ := xH HB hb
   have z_HO1129 := fun (h0_ : b 5 = true) => (show Kd.R (Kd.int .i64) 2 w17 w.heap.size (fun _ => True) v1128 t1127 from by first | exact (Kd.R_elder' (uR ((Q_HO1129 h0_))) (Kd.R_base ho18) hb) | exact Kd.R_mono (Kd.R_elder' (uR ((Q_HO1129 h0_))) (Kd.R_base ho18) hb) (fun _ h_ => by first | trivial | exact h_ | exact h_.1))
   clear BK1122 HB
   have HO1126 := n0_
   have BK1122 := n1_
   have HB := n2_
   clear n0_ n1_ n2_
   clear hb ho18
   refine hK.out _ _ ⟨v1125, v1128, v1132, m11_, (by rw [ha.out]; exact putSel_upk 1 hb_ rfl rfl rfl), (uB BK1122.out), (uH HB.out), fun _ => (uR HO1126.out), z_HO1129, fun h0_ => absurd ((hoff 10 (by kernel_rfl)).symm.trans h0_) (by decide), fun h0_ => absurd ((hoff 11 (by kernel_rfl)).symm.trans h0_) (by decide)⟩
  refine steps_cons ?_ ?_
  ·rintro b a w' ⟨v1125, v1128, v1132, m11_, ha, Q_BK1122, Q_HB, Q_HO1126, Q_HO1129, Q_HO1133, Q_X11_⟩ hb_ hon hoff
   refine ⟨_, rfl, fun K hK => ?_⟩
   have e2 : a.tmps[2]? = some (.pointer (some ⟨gb1122, 0, none⟩)) := by rw [ha]; exact (putSel_off rfl).trans rfl
   replace ha := zA ha
   have BK1122 := zA Q_BK1122
   have HB := zA Q_HB
   have hc0_ : w'.cell? ⟨gb1122, 0, none⟩ = some (.int .i64 a0_0) := (blk_cell BK1122.out 0).trans rfl
   have hc1_ : w'.cell? ⟨gb1122, 1, none⟩ = some (.slice A0_1 l0_1.length c0_1) := (blk_cell BK1122.out 1).trans rfl
   have hc2_ : w'.cell? ⟨gb1122, 2, none⟩ = some (.slice (some ad1130) l0_2.length c0_2) := (blk_cell BK1122.out 2).trans rfl
   refine value_ (w1 := w') (v := .agg #[.int .i64 a0_0, .slice A0_1 l0_1.length c0_1, .slice (some ad1130) l0_2.length c0_2]) (by rfl) rfl ?_ ?_
   ·go_simp
    (try simp only [i64_w])
    try rfl
   refine hK.out _ _ ⟨v1125, v1128, v1132, m11_, (by rw [ha.out]; exact putSel_upk 2 hb_ rfl rfl rfl), Q_BK1122, Q_HB, Q_HO1126, fun h0_ => absurd ((hoff 5 (by kernel_rfl)).symm.trans h0_) (by decide), fun h0_ => absurd ((hoff 10 (by kernel_rfl)).symm.trans h0_) (by decide), fun h0_ => absurd ((hoff 11 (by kernel_rfl)).symm.trans h0_) (by decide)⟩
  refine steps_cons ?_ ?_
  ·rintro b a w' ⟨v1125, v1128, v1132, m11_, ha, Q_BK1122, Q_HB, Q_HO1126, Q_HO1129, Q_HO1133, Q_X11_⟩ hb_ hon hoff
   refine ⟨_, rfl, fun K hK => ?_⟩
   have e21 : a.tmps[21]? = some (.agg #[.int .i64 a0_0, .slice A0_1 l0_1.length c0_1, .slice (some ad1130) l0_2.length c0_2]) := by rw [ha]; exact putSel_on (e := (3, 21, .agg #[.int .i64 a0_0, .slice A0_1 l0_1.length c0_1, .slice (some ad1130) l0_2.length c0_2])) 2 rfl rfl (hon 3 (by kernel_rfl)) rfl
   have e22 : a.tmps[22]? = some (.int .i64 (l0_1.length : Int)) := by rw [ha]; exact (putSel_off rfl).trans rfl
   replace ha := zA ha
   have BK1122 := zA Q_BK1122
   have HB := zA Q_HB
   refine goes_ Try.func105 (by kernel_rfl) rfl #[.agg #[.int .i64 a0_0, .slice A0_1 l0_1.length c0_1, .slice (some ad1130) l0_2.length c0_2], .int .i64 (l0_1.length : Int)] (by rfl) rfl rfl (by first | (simp only [List.map_toArray, List.map_cons, List.map_nil, Act.eval, Array.getD_eq_getD_getElem?, Option.getD_some, e21, e22]; done) | (simp only [List.map_toArray, List.map_cons, List.map_nil, Act.eval, Array.getD_eq_getD_getElem?, Option.getD_some, e21, e22]; rfl)) ?_
   with_reducible refine (spec_l03Second.calls k a0_0 _ _ l0_1 _ _ l0_2 (l0_1.length : Int) t1127 _ ?side1 ?side2 ?side3 ?side4 A5.out).mono ?_
   (case side1 => exact uC ((Kd.C_below HR0_1.out HB.out)))
   (case side2 => exact HC0_1.out)
   (case side3 => exact uC ((Kd.C_below HR0_2.out HB.out)))
   (case side4 => exact HC0_2.out)
   rintro e w17 ⟨v1128, rfl, ho0, hb⟩
   refine ⟨_, rfl, ?_⟩
   have n0_ := zA (Kd.R_lower ho0 (below_size (uH HB.out)))
   have n1_ := xB BK1122 hb
   have n2_ := xH HB hb
   have z_HO1126 := fun (h0_ : b 2 = true) => (show Kd.R (Kd.int .i64) 2 w17 w.heap.size (fun _ => True) v1125 y1124 from by first | exact (Kd.R_elder' (uR ((Q_HO1126 h0_))) (Kd.R_base ho0) hb) | exact Kd.R_mono (Kd.R_elder' (uR ((Q_HO1126 h0_))) (Kd.R_base ho0) hb) (fun _ h_ => by first | trivial | exact h_ | exact h_.1))
   clear BK1122 HB
   have HO1129 := n0_
   have BK1122 := n1_
   have HB := n2_
   clear n0_ n1_ n2_
   (try clear hb); (try clear hb2); (try clear hk); (try clear hi); (try clear ho0)
   refine hK.out _ _ ⟨v1125, v1128, v1132, m11_, (by rw [ha.out]; exact putSel_upk 3 hb_ rfl rfl rfl), (uB BK1122.out), (uH HB.out), z_HO1126, fun _ => (uR HO1129.out), fun h0_ => absurd ((hoff 10 (by kernel_rfl)).symm.trans h0_) (by decide), fun h0_ => absurd ((hoff 11 (by kernel_rfl)).symm.trans h0_) (by decide)⟩
  refine steps_cons ?_ ?_
  ·rintro b a w' ⟨v1125, v1128, v1132, m11_, ha, Q_BK1122, Q_HB, Q_HO1126, Q_HO1129, Q_HO1133, Q_X11_⟩ hb_ hon hoff
   refine ⟨_, rfl, fun K hK => ?_⟩
   have e24 : a.tmps[24]? = some (.pointer (some ⟨gb1122, 2, none⟩)) := by rw [ha]; exact (putSel_off rfl).trans rfl
   replace ha := zA ha
   have BK1122 := zA Q_BK1122
   have HB := zA Q_HB
   have hc0_ : w'.cell? ⟨gb1122, 0, none⟩ = some (.int .i64 a0_0) := (blk_cell BK1122.out 0).trans rfl
   have hc1_ : w'.cell? ⟨gb1122, 1, none⟩ = some (.slice A0_1 l0_1.length c0_1) := (blk_cell BK1122.out 1).trans rfl
   have hc2_ : w'.cell? ⟨gb1122, 2, none⟩ = some (.slice (some ad1130) l0_2.length c0_2) := (blk_cell BK1122.out 2).trans rfl
   refine value_ (w1 := w') (v := .slice (some ad1130) l0_2.length c0_2) (by rfl) rfl ?_ ?_
   ·go_simp
    (try simp only [i64_w])
    try rfl
   refine hK.out _ _ ⟨v1125, v1128, v1132, m11_, (by rw [ha.out]; exact putSel_upk 4 hb_ rfl rfl rfl), Q_BK1122, Q_HB, Q_HO1126, Q_HO1129, fun h0_ => absurd ((hoff 10 (by kernel_rfl)).symm.trans h0_) (by decide), fun h0_ => absurd ((hoff 11 (by kernel_rfl)).symm.trans h0_) (by decide)⟩
  refine steps_cons ?_ ?_
  ·rintro b a w' ⟨v1125, v1128, v1132, m11_, ha, Q_BK1122, Q_HB, Q_HO1126, Q_HO1129, Q_HO1133, Q_X11_⟩ hb_ hon hoff
   refine ⟨_, rfl, fun K hK => ?_⟩
   have e25 : a.tmps[25]? = some (.slice (some ad1130) l0_2.length c0_2) := by rw [ha]; exact putSel_on (e := (7, 25, .slice (some ad1130) l0_2.length c0_2)) 4 rfl rfl (hon 7 (by kernel_rfl)) rfl
   replace ha := zA ha
   have BK1122 := zA Q_BK1122
   have HB := zA Q_HB
   have hs0_ : w'.cell? ad1130 = some (.int .i64 (rd l0_2 0)) := (hcu HB hw1130_0)
   refine value_ (w1 := w') (v := .pointer (some ad1130)) (by rfl) rfl ?_ ?_
   ·go_simp
    (try simp only [i64_w])
    try rfl
   refine hK.out _ _ ⟨v1125, v1128, v1132, m11_, (by rw [ha.out]; exact putSel_upk 5 hb_ rfl rfl rfl), Q_BK1122, Q_HB, Q_HO1126, Q_HO1129, fun h0_ => absurd ((hoff 10 (by kernel_rfl)).symm.trans h0_) (by decide), fun h0_ => absurd ((hoff 11 (by kernel_rfl)).symm.trans h0_) (by decide)⟩
  refine steps_cons ?_ ?_
  ·rintro b a w' ⟨v1125, v1128, v1132, m11_, ha, Q_BK1122, Q_HB, Q_HO1126, Q_HO1129, Q_HO1133, Q_X11_⟩ hb_ hon hoff
   refine ⟨_, rfl, fun K hK => ?_⟩
   have e26 : a.tmps[26]? = some (.pointer (some ad1130)) := by rw [ha]; exact putSel_on (e := (8, 26, .pointer (some ad1130))) 5 rfl rfl (hon 8 (by kernel_rfl)) rfl
   replace ha := zA ha
   have BK1122 := zA Q_BK1122
   have HB := zA Q_HB
   have hs0_ : w'.cell? ad1130 = some (.int .i64 (rd l0_2 0)) := (hcu HB hw1130_0)
   refine value_ (w1 := w') (v := .int .i64 (rd l0_2 0)) (by rfl) rfl ?_ ?_
   ·go_simp
    (try simp only [i64_w])
    try rfl
   refine hK.out _ _ ⟨v1125, v1128, v1132, m11_, (by rw [ha.out]; exact putSel_upk 6 hb_ rfl rfl rfl), Q_BK1122, Q_HB, Q_HO1126, Q_HO1129, fun h0_ => absurd ((hoff 10 (by kernel_rfl)).symm.trans h0_) (by decide), fun h0_ => absurd ((hoff 11 (by kernel_rfl)).symm.trans h0_) (by decide)⟩
  refine steps_cons ?_ ?_
  ·rintro b a w' ⟨v1125, v1128, v1132, m11_, ha, Q_BK1122, Q_HB, Q_HO1126, Q_HO1129, Q_HO1133, Q_X11_⟩ hb_ hon hoff
   refine ⟨_, rfl, fun K hK => ?_⟩
   have e19 : a.tmps[19]? = some (.int .i64 a0_0) := by rw [ha]; exact putSel_on (e := (1, 19, .int .i64 a0_0)) 0 rfl rfl (hon 1 (by kernel_rfl)) rfl
   have e20 : a.tmps[20]? = some (v1125) := by rw [ha]; exact putSel_on (e := (2, 20, v1125)) 1 rfl rfl (hon 2 (by kernel_rfl)) rfl
   have e23 : a.tmps[23]? = some (v1128) := by rw [ha]; exact putSel_on (e := (5, 23, v1128)) 3 rfl rfl (hon 5 (by kernel_rfl)) rfl
   have e27 : a.tmps[27]? = some (.int .i64 (rd l0_2 0)) := by rw [ha]; exact putSel_on (e := (9, 27, .int .i64 (rd l0_2 0))) 6 rfl rfl (hon 9 (by kernel_rfl)) rfl
   replace ha := zA ha
   have BK1122 := zA Q_BK1122
   have HB := zA Q_HB
   have HO1126 := zA (Q_HO1126 (hon 2 (by kernel_rfl)))
   have HO1129 := zA (Q_HO1129 (hon 5 (by kernel_rfl)))
   obtain ⟨Ao21, co21, eo21⟩ := Kd.R_slice HO1126.out
   (first | subst eo21 | (injection eo21 with f1_ f2_ f3_; have f4_ := f1_.symm; have f5_ := f3_.symm; clear f1_ f2_ f3_; subst f4_; subst f5_))
   obtain ⟨Ao22, co22, eo22⟩ := Kd.R_slice HO1129.out
   (first | subst eo22 | (injection eo22 with f1_ f2_ f3_; have f4_ := f1_.symm; have f5_ := f3_.symm; clear f1_ f2_ f3_; subst f4_; subst f5_))
   refine goes_ Try.func104 (by kernel_rfl) rfl #[.int .i64 a0_0, .slice Ao21 y1124.length co21, .slice Ao22 t1127.length co22, .int .i64 (rd l0_2 0)] (by rfl) rfl rfl (by first | (simp only [List.map_toArray, List.map_cons, List.map_nil, Act.eval, Array.getD_eq_getD_getElem?, Option.getD_some, e19, e20, e23, e27]; done) | (simp only [List.map_toArray, List.map_cons, List.map_nil, Act.eval, Array.getD_eq_getD_getElem?, Option.getD_some, e19, e20, e23, e27]; rfl)) ?_
   with_reducible refine (spec_l01Add.calls k a0_0 _ _ y1124 _ _ t1127 (rd l0_2 0) t1131 _ ?side1 ?side2 ?side3 ?side4 A7.out).mono ?_
   (case side1 => exact uC ((Kd.R_reads' HO1126.out).2.2))
   (case side2 => exact (Kd.R_reads' HO1126.out).2.1)
   (case side3 => exact uC ((Kd.R_reads' HO1129.out).2.2))
   (case side4 => exact (Kd.R_reads' HO1129.out).2.1)
   rintro e w23 ⟨v1132, rfl, ho0, hb⟩
   refine ⟨_, rfl, ?_⟩
   have HO1133 := zA (Kd.R_lower (Kd.R_new' (Kd.R_new' ho0 (Kd.R_lt (uR HO1126.out))) (Kd.R_lt (uR HO1129.out))) (below_size (uH HB.out)))
   replace HO1126 := zA (Kd.R_elder' (uR HO1126.out) (Kd.R_base ho0) hb)
   replace HO1129 := zA (Kd.R_elder' (uR HO1129.out) (Kd.R_base ho0) hb)
   replace BK1122 := xB BK1122 hb
   replace HB := xH HB hb
   (try clear hb); (try clear hb2); (try clear hk); (try clear hi); (try clear ho0)
   refine hK.out _ _ ⟨.slice Ao21 y1124.length co21, .slice Ao22 t1127.length co22, v1132, m11_, (by rw [ha.out]; exact putSel_upk 7 hb_ rfl rfl rfl), (uB BK1122.out), (uH HB.out), fun _ => (uR (Kd.R_mono HO1126.out (fun _ hk => by first | trivial | exact hk | simp_all))), fun _ => (uR (Kd.R_mono HO1129.out (fun _ hk => by first | trivial | exact hk | simp_all))), fun _ => (uR (Kd.R_mono HO1133.out (fun _ hk => by first | trivial | exact hk | simp_all))), fun h0_ => absurd ((hoff 11 (by kernel_rfl)).symm.trans h0_) (by decide)⟩
  refine steps_cons ?_ ?_
  ·rintro b a w' ⟨v1125, v1128, v1132, m11_, ha, Q_BK1122, Q_HB, Q_HO1126, Q_HO1129, Q_HO1133, Q_X11_⟩ hb_ hon hoff
   refine ⟨_, rfl, fun K hK => ?_⟩
   have e28 : a.tmps[28]? = some (v1132) := by rw [ha]; exact putSel_on (e := (10, 28, v1132)) 7 rfl rfl (hon 10 (by kernel_rfl)) rfl
   replace ha := zA ha
   have BK1122 := zA Q_BK1122
   have HB := zA Q_HB
   have HO1126 := zA (Q_HO1126 (hon 2 (by kernel_rfl)))
   have HO1129 := zA (Q_HO1129 (hon 5 (by kernel_rfl)))
   have HO1133 := zA (Q_HO1133 (hon 10 (by kernel_rfl)))
   refine value_ (w1 := w') (v := v1132) (by rfl) rfl ?_ ?_
   ·go_simp
    (try simp only [i64_w])
    try rfl
   refine hK.out _ _ ⟨v1125, v1128, v1132, (v1132), (by rw [ha.out]; exact putSel_upk 8 hb_ rfl rfl rfl), Q_BK1122, Q_HB, Q_HO1126, Q_HO1129, Q_HO1133, fun _ => rfl⟩
  exact steps_nil
 rintro b a w23 hall ⟨v1125, v1128, v1132, m11_, ha, Q_BK1122, Q_HB, Q_HO1126, Q_HO1129, Q_HO1133, Q_X11_⟩
 clear BK1122 HB
 have hb1_ := hall 1 (by kernel_rfl)
 have hb2_ := hall 2 (by kernel_rfl)
 have hb3_ := hall 3 (by kernel_rfl)
 have hb5_ := hall 5 (by kernel_rfl)
 have hb7_ := hall 7 (by kernel_rfl)
 have hb8_ := hall 8 (by kernel_rfl)
 have hb9_ := hall 9 (by kernel_rfl)
 have hb10_ := hall 10 (by kernel_rfl)
 have hb11_ := hall 11 (by kernel_rfl)
 subst ha
 obtain rfl := Q_X11_ hb11_
 simp only [putSel, hb1_, hb2_, hb3_, hb5_, hb7_, hb8_, hb9_, hb10_, hb11_, if_true, Act.put, ls, lz, ln]
 have BK1122 := zA Q_BK1122
 clear Q_BK1122
 have HB := zA Q_HB
 clear Q_HB
 have HO1126 := zA (Q_HO1126 hb2_)
 clear Q_HO1126
 have HO1129 := zA (Q_HO1129 hb5_)
 clear Q_HO1129
 have HO1133 := zA (Q_HO1133 hb10_)
 clear Q_HO1133
 clear hall hb1_ hb2_ hb3_ hb5_ hb7_ hb8_ hb9_ hb10_ hb11_
 try go_wp2
 replace HO1126 := zA (Kd.R_drew HO1126.out)
 replace HO1129 := zA (Kd.R_drew HO1129.out)
 replace HO1133 := zA (Kd.R_drew HO1133.out)
 replace BK1122 := zA (blk_drew BK1122.out)
 replace HB := zA (below_drew1 HB.out)
 obtain ⟨Ao25, co25, eo25⟩ := Kd.R_slice HO1133.out
 (first | subst eo25 | (injection eo25 with f1_ f2_ f3_; have f4_ := f1_.symm; have f5_ := f3_.symm; clear f1_ f2_ f3_; subst f4_; subst f5_))
 refine start_ (n := 12) (S := fun w' => w'.cell? ⟨gb1122, 0, none⟩ = some (.int .i64 a0_0) ∧ w'.cell? ⟨gb1122, 1, none⟩ = some (.slice A0_1 l0_1.length c0_1) ∧ w'.cell? ⟨gb1122, 2, none⟩ = some (.slice (some ad1130) l0_2.length c0_2)) (ds := []) #[false, false, false, false, false, false, false, false, false, false, false, false] (by kernel_rfl) rfl rfl ⟨bcu BK1122 0, bcu BK1122 1, bcu BK1122 2⟩ (fun hHeld => ?_); refine with_tabW spec_SeriesOfJacobi.tab6 spec_SeriesOfJacobi.bits6 (fun HT_ HW_ => ?_)
 generalize w23.drew = w24 at HO1126 HO1129 HO1133 BK1122 HB hHeld ⊢
 refine pu_ 0 29 (bl 12 1) HT_ ?_
 refine pu_ 2 31 (bl 12 5) HT_ ?_
 refine pu_ 5 34 (bl 12 37) HT_ ?_
 refine pu_ 8 37 (bl 12 293) HT_ ?_
 refine ta_ 1 30 (bl 12 295) HT_ HW_ hHeld ?_
 refine ta_ 4 33 (bl 12 311) HT_ HW_ hHeld ?_
 refine on_ 3 (some 32) (bl 12 319) HT_ (fun K hK => ?_)
 refine gS Try.func107 #[.slice Ao25 t1131.length co25] ?_
 with_reducible refine (spec_l05Reverse.calls k _ _ t1131 t1134 _ ?side1 ?side2 A8.out).mono ?_
 (case side1 => exact uC ((Kd.R_reads' HO1133.out).2.2))
 (case side2 => exact (Kd.R_reads' HO1133.out).2.1)
 rintro e w26 ⟨v1135, rfl, ho0, hb⟩
 refine ⟨_, rfl, ?_⟩
 have HO1136 := zA (Kd.R_lower (Kd.R_new' (Kd.R_new' (Kd.R_new' ho0 (Kd.R_lt (uR HO1126.out))) (Kd.R_lt (uR HO1129.out))) (Kd.R_lt (uR HO1133.out))) (below_size (uH HB.out)))
 replace HO1126 := zA (Kd.R_elder' (uR HO1126.out) (Kd.R_base ho0) hb)
 replace HO1129 := zA (Kd.R_elder' (uR HO1129.out) (Kd.R_base ho0) hb)
 replace HO1133 := zA (Kd.R_elder' (uR HO1133.out) (Kd.R_base ho0) hb)
 replace BK1122 := xB BK1122 hb
 replace HB := xH HB hb
 (try clear hb); (try clear hb2); (try clear hk); (try clear hi); (try clear ho0)
 refine hK.out _ _ ⟨bcu BK1122 0, bcu BK1122 1, bcu BK1122 2⟩ (fun hHeld => ?_)
 clear hK K
 refine no_ 32 ?_
 refine on_ 6 (some 35) (bl 12 383) HT_ (fun K hK => ?_)
 refine gS Try.func72 #[.agg #[.int .i64 a0_0, .slice A0_1 l0_1.length c0_1, .slice (some ad1130) l0_2.length c0_2], .int .i64 (l0_1.length : Int)] ?_
 with_reducible refine (spec_l03Poly.calls k a0_0 _ _ l0_1 _ _ l0_2 (l0_1.length : Int) t1137 _ ?side1 ?side2 ?side3 ?side4 A9.out).mono ?_
 (case side1 => exact uC ((Kd.C_below HR0_1.out HB.out)))
 (case side2 => exact HC0_1.out)
 (case side3 => exact uC ((Kd.C_below HR0_2.out HB.out)))
 (case side4 => exact HC0_2.out)
 rintro e w27 ⟨v1138, rfl, ho0, hb⟩
 refine ⟨_, rfl, ?_⟩
 have HO1139 := zA (Kd.R_lower (Kd.R_new' (Kd.R_new' (Kd.R_new' (Kd.R_new' ho0 (Kd.R_lt (uR HO1126.out))) (Kd.R_lt (uR HO1129.out))) (Kd.R_lt (uR HO1133.out))) (Kd.R_lt (uR HO1136.out))) (below_size (uH HB.out)))
 replace HO1126 := zA (Kd.R_elder' (uR HO1126.out) (Kd.R_base ho0) hb)
 replace HO1129 := zA (Kd.R_elder' (uR HO1129.out) (Kd.R_base ho0) hb)
 replace HO1133 := zA (Kd.R_elder' (uR HO1133.out) (Kd.R_base ho0) hb)
 replace HO1136 := zA (Kd.R_elder' (uR HO1136.out) (Kd.R_base ho0) hb)
 replace BK1122 := xB BK1122 hb
 replace HB := xH HB hb
 (try clear hb); (try clear hb2); (try clear hk); (try clear hi); (try clear ho0)
 obtain ⟨Ao28, co28, eo28⟩ := Kd.R_slice HO1139.out
 (first | subst eo28 | (injection eo28 with f1_ f2_ f3_; have f4_ := f1_.symm; have f5_ := f3_.symm; clear f1_ f2_ f3_; subst f4_; subst f5_))
 refine hK.out _ _ ⟨bcu BK1122 0, bcu BK1122 1, bcu BK1122 2⟩ (fun hHeld => ?_)
 clear hK K
 refine no_ 35 ?_
 refine on_ 7 (some 36) (bl 12 511) HT_ (fun K hK => ?_)
 refine gS Try.func107 #[.slice Ao28 t1137.length co28] ?_
 with_reducible refine (spec_l05Reverse.calls k _ _ t1137 t1140 _ ?side1 ?side2 A10.out).mono ?_
 (case side1 => exact uC ((Kd.R_reads' HO1139.out).2.2))
 (case side2 => exact (Kd.R_reads' HO1139.out).2.1)
 rintro e w29 ⟨v1141, rfl, ho0, hb⟩
 refine ⟨_, rfl, ?_⟩
 have HO1142 := zA (Kd.R_lower (Kd.R_new' (Kd.R_new' (Kd.R_new' (Kd.R_new' (Kd.R_new' ho0 (Kd.R_lt (uR HO1126.out))) (Kd.R_lt (uR HO1129.out))) (Kd.R_lt (uR HO1133.out))) (Kd.R_lt (uR HO1136.out))) (Kd.R_lt (uR HO1139.out))) (below_size (uH HB.out)))
 replace HO1126 := zA (Kd.R_elder' (uR HO1126.out) (Kd.R_base ho0) hb)
 replace HO1129 := zA (Kd.R_elder' (uR HO1129.out) (Kd.R_base ho0) hb)
 replace HO1133 := zA (Kd.R_elder' (uR HO1133.out) (Kd.R_base ho0) hb)
 replace HO1136 := zA (Kd.R_elder' (uR HO1136.out) (Kd.R_base ho0) hb)
 replace HO1139 := zA (Kd.R_elder' (uR HO1139.out) (Kd.R_base ho0) hb)
 replace BK1122 := xB BK1122 hb
 replace HB := xH HB hb
 (try clear hb); (try clear hb2); (try clear hk); (try clear hi); (try clear ho0)
 obtain ⟨Ao30, co30, eo30⟩ := Kd.R_slice HO1136.out
 (first | subst eo30 | (injection eo30 with f1_ f2_ f3_; have f4_ := f1_.symm; have f5_ := f3_.symm; clear f1_ f2_ f3_; subst f4_; subst f5_))
 obtain ⟨Ao31, co31, eo31⟩ := Kd.R_slice HO1142.out
 (first | subst eo31 | (injection eo31 with f1_ f2_ f3_; have f4_ := f1_.symm; have f5_ := f3_.symm; clear f1_ f2_ f3_; subst f4_; subst f5_))
 refine hK.out _ _ ⟨bcu BK1122 0, bcu BK1122 1, bcu BK1122 2⟩ (fun hHeld => ?_)
 clear hK K
 refine no_ 36 ?_
 refine on_ 9 (some 38) (bl 12 1023) HT_ (fun K hK => ?_)
 refine gS Try.func106 #[.int .i64 a0_0, .slice Ao30 t1134.length co30, .slice Ao31 t1140.length co31, .int .i64 a1] ?_
 with_reducible refine (spec_l05Series.calls k a0_0 _ _ t1134 _ _ t1140 a1 t1143 _ ?side1 ?side2 ?side3 ?side4 A11.out).mono ?_
 (case side1 => exact uC ((Kd.R_reads' HO1136.out).2.2))
 (case side2 => exact (Kd.R_reads' HO1136.out).2.1)
 (case side3 => exact uC ((Kd.R_reads' HO1142.out).2.2))
 (case side4 => exact (Kd.R_reads' HO1142.out).2.1)
 rintro e w32 ⟨v1144, rfl, ho0, hb⟩
 refine ⟨_, rfl, ?_⟩
 have HO1145 := zA (Kd.R_lower (Kd.R_new' (Kd.R_new' (Kd.R_new' (Kd.R_new' (Kd.R_new' (Kd.R_new' ho0 (Kd.R_lt (uR HO1126.out))) (Kd.R_lt (uR HO1129.out))) (Kd.R_lt (uR HO1133.out))) (Kd.R_lt (uR HO1136.out))) (Kd.R_lt (uR HO1139.out))) (Kd.R_lt (uR HO1142.out))) (below_size (uH HB.out)))
 replace HO1126 := zA (Kd.R_elder' (uR HO1126.out) (Kd.R_base ho0) hb)
 replace HO1129 := zA (Kd.R_elder' (uR HO1129.out) (Kd.R_base ho0) hb)
 replace HO1133 := zA (Kd.R_elder' (uR HO1133.out) (Kd.R_base ho0) hb)
 replace HO1136 := zA (Kd.R_elder' (uR HO1136.out) (Kd.R_base ho0) hb)
 replace HO1139 := zA (Kd.R_elder' (uR HO1139.out) (Kd.R_base ho0) hb)
 replace HO1142 := zA (Kd.R_elder' (uR HO1142.out) (Kd.R_base ho0) hb)
 replace BK1122 := xB BK1122 hb
 replace HB := xH HB hb
 (try clear hb); (try clear hb2); (try clear hk); (try clear hi); (try clear ho0)
 refine hK.out _ _ ⟨bcu BK1122 0, bcu BK1122 1, bcu BK1122 2⟩ (fun hHeld => ?_)
 clear hK K
 refine no_ 38 ?_
 refine pu_ 10 4 (bl 12 2047) HT_ ?_
 refine pu_ 11 5 (bl 12 4095) HT_ ?_
 refine done_ (done_of HT_.out (by kernel_rfl)) ?_
 try go_wp2
 go_ret2
 exact ⟨_, by first | rfl | (simp [errW_none, errW_some] <;> rfl) | (simp [*, errW_none, errW_some] <;> rfl), uR (Kd.R_mono HO1145.out (fun _ hk => trivial)), uH HB.out⟩
/- The polynomials of data are monic of their degree; no condition. -/
theorem getD_set_ne {l : List Int} {i j : Nat} {x : Int} (h : i ≠ j) : (l.set i x).getD j 0 = l.getD j 0 := by
  rw [List.getD_eq_getElem?_getD, List.getElem?_set_ne h, List.getD_eq_getElem?_getD]
theorem getD_set_eq {l : List Int} {i : Nat} {x : Int} (h : i < l.length) : (l.set i x).getD i 0 = x := by
  rw [List.getD_eq_getElem?_getD, List.getElem?_set_self h]; rfl
theorem mulIn_last (p c : Int) (g : List Int) (i d : Nat) : ∀ (j : Nat) (o : List Int), i + j + d < o.length →
    (mulIn p c g i (d + 1) j o).getD (i + j + d) 0 = (o.getD (i + j + d) 0 + c * g.getD (j + d) 0) % p := by
  induction d with
  | zero =>
    intro j o h
    rw [mulIn, mulIn, Nat.add_zero, Nat.add_zero, getD_set_eq (by omega)]
  | succ d ih =>
    intro j o h
    have := ih (j + 1) (o.set (i + j) ((o.getD (i + j) 0 + c * g.getD j 0) % p)) (by rw [List.length_set]; omega)
    rw [mulIn, show i + j + (d + 1) = i + (j + 1) + d from by omega, this, getD_set_ne (by omega), show j + 1 + d = j + (d + 1) from by omega]
theorem mulIn_out (p c : Int) (g : List Int) (i d : Nat) : ∀ (j t : Nat) (o : List Int), i + j + d ≤ t → (mulIn p c g i d j o).getD t 0 = o.getD t 0 := by
  induction d with
  | zero => intro j t o h; rfl
  | succ d ih => intro j t o h; rw [mulIn, ih (j + 1) t _ (by omega), getD_set_ne (by omega)]
theorem addGo_out (p k : Int) (g : List Int) (d : Nat) : ∀ (i t : Nat) (o : List Int), i + d ≤ t → (addGo p k g d i o).getD t 0 = o.getD t 0 := by
  induction d with
  | zero => intro i t o h; rfl
  | succ d ih => intro i t o h; rw [addGo, ih (i + 1) t _ (by omega), getD_set_ne (by omega)]
theorem trim_id {l : List Int} {n : Nat} (hl : l.length = n + 1) (h : l.getD n 0 ≠ 0) : trim l = l := by
  have hne : l ≠ [] := by intro e; rw [e] at hl; simp at hl
  have e := List.dropLast_concat_getLast hne
  have hlast : l.getLast hne = l.getD n 0 := by
    rw [List.getLast_eq_getElem, List.getD_eq_getElem?_getD, List.getElem?_eq_getElem (by omega)]
    simp [hl]
  rw [← e, trim_snoc _ (by rw [hlast]; exact h)]
/-- Monic of degree k. -/
def Mon (f : List Int) (k : Nat) : Prop := f.length = k + 1 ∧ f.getD k 0 = 1
theorem pnext_mon {p : Int} (hp : Pm p) (a b : Int) (f g : List Int) (k : Nat) (hf : Mon f k) (hg : g.length ≤ k + 1) : Mon (pnext p a b f g) (k + 1) := by
  have h2 := hp.two
  have e1 : (1 : Int) % p = 1 := Int.emod_eq_of_lt (by omega) (by omega)
  have hz : (List.replicate (2 + (k + 1) - 1) (0 : Int)).length = k + 2 := by rw [List.length_replicate]; omega
  have ho : (mulIn p ((-a) % p) f 0 (k + 1) 0 (List.replicate (2 + (k + 1) - 1) 0)).length = k + 2 := by rw [mulIn_len]; exact hz
  have hz0 : (List.replicate (2 + (k + 1) - 1) (0 : Int)).getD (k + 1) 0 = 0 := by
    rw [List.getD_eq_getElem?_getD, List.getElem?_replicate]; split <;> rfl
  have hm : pmul p [(-a) % p, 1] f = mulIn p 1 f 1 (k + 1) 0 (mulIn p ((-a) % p) f 0 (k + 1) 0 (List.replicate (2 + (k + 1) - 1) 0)) ∧
      (pmul p [(-a) % p, 1] f).length = k + 2 ∧ (pmul p [(-a) % p, 1] f).getD (k + 1) 0 = 1 := by
    have hl : (mulIn p 1 f 1 (k + 1) 0 (mulIn p ((-a) % p) f 0 (k + 1) 0 (List.replicate (2 + (k + 1) - 1) 0))).length = k + 2 := by rw [mulIn_len]; exact ho
    have ht : (mulIn p 1 f 1 (k + 1) 0 (mulIn p ((-a) % p) f 0 (k + 1) 0 (List.replicate (2 + (k + 1) - 1) 0))).getD (k + 1) 0 = 1 := by
      have := mulIn_last p 1 f 1 k 0 (mulIn p ((-a) % p) f 0 (k + 1) 0 (List.replicate (2 + (k + 1) - 1) 0)) (by rw [ho]; omega)
      rw [show 1 + 0 + k = k + 1 from by omega, mulIn_out p _ f 0 (k + 1) 0 (k + 1) _ (by omega), hz0, Nat.zero_add, hf.2, Int.one_mul, Int.zero_add, e1] at this
      exact this
    have he : pmul p [(-a) % p, 1] f = mulIn p 1 f 1 (k + 1) 0 (mulIn p ((-a) % p) f 0 (k + 1) 0 (List.replicate (2 + (k + 1) - 1) 0)) := by
      unfold pmul
      rw [if_neg (by rw [hf.1]; simp), hf.1]
      show trim (mulOut p [(-a) % p, 1] f 2 0 (List.replicate (2 + (k + 1) - 1) 0)) = _
      rw [mulOut, mulOut, mulOut, hf.1]
      have hq := trim_id hl (by rw [ht]; decide)
      exact hq
    rw [he]
    exact ⟨rfl, hl, ht⟩
  have hmx : max (pmul p [(-a) % p, 1] f).length g.length = k + 2 := by rw [hm.2.1]; omega
  have hl2 : (addGo p ((-b) % p) g g.length 0 (addOf (pmul p [(-a) % p, 1] f) (k + 2))).length = k + 2 := by rw [addGo_len, addOf_len _ (by rw [hm.2.1]; omega)]
  have ht2 : (addGo p ((-b) % p) g g.length 0 (addOf (pmul p [(-a) % p, 1] f) (k + 2))).getD (k + 1) 0 = 1 := by
    rw [addGo_out _ _ _ _ _ _ _ (by omega), addOf, hm.2.1, Nat.sub_self, List.replicate_zero, List.append_nil, hm.2.2]
  unfold pnext padd
  rw [hmx, trim_id hl2 (by rw [ht2]; decide)]
  exact ⟨hl2, ht2⟩
theorem pPair_mon {p : Int} (hp : Pm p) (a b : List Int) (k : Nat) : Mon (pPair p a b k).2 k := by
  induction k with
  | zero => exact ⟨rfl, rfl⟩
  | succ k ih => exact pnext_mon hp _ _ _ _ k ih (pPair_ok hp a b k).2.1
/- Lists in the reverse order; no condition. -/
theorem rev_get (l : List Int) {i : Nat} (h : i < l.length) : l.reverse.getD i 0 = l.getD (l.length - 1 - i) 0 := by
  rw [List.getD_eq_getElem?_getD, List.getElem?_reverse h, List.getD_eq_getElem?_getD]
theorem take_snoc (l : List Int) {i : Nat} (h : i < l.length) : l.take (i + 1) = l.take i ++ [l.getD i 0] := by
  rw [List.take_add_one, List.getElem?_eq_getElem h, List.getD_eq_getElem?_getD, List.getElem?_eq_getElem h]; rfl
theorem specRev_l0 (l : List Int) (hs : Sm l.length) (d : Nat) : ∀ j, j + d = l.length →
    Ev (fun k => spec_l05Reverse.l0 k l (l.reverse.take j) ((l.length : Int) - 1 - (j : Int))) l.reverse := by
  induction d with
  | zero =>
    intro j hj
    refine Ev.step (fun k => by rw [spec_l05Reverse.l0]) ?_
    refine Ev.neg (by omega) (Ev.some' ?_)
    rw [List.take_of_length_le (by rw [List.length_reverse]; omega)]
  | succ d ih =>
    intro j hj
    unfold Sm at hs
    have hl : (l.reverse.take j).length = j := by rw [List.length_take, List.length_reverse]; omega
    have er : rd l ((l.length : Int) - 1 - (j : Int)) = l.reverse.getD j 0 := by
      rw [show (l.length : Int) - 1 - (j : Int) = ((l.length - 1 - j : Nat) : Int) from by omega, rd_nat, rev_get l (by omega)]
    have ew : wrap64 ((l.length : Int) - 1 - (j : Int) - 1) = (l.length : Int) - 1 - ((j + 1 : Nat) : Int) := by rw [wrap_id (by omega) (by omega)]; omega
    refine Ev.step (fun k => by rw [spec_l05Reverse.l0]) ?_
    rw [er, ew]
    refine Ev.pos (by omega) (Ev.pos (by omega) (Ev.pos (by omega) (Ev.pos (by rw [hl]; omega) ?_)))
    rw [← take_snoc l.reverse (by rw [List.length_reverse]; omega)]
    exact ih (j + 1) (by omega)
theorem specRev_ev (l : List Int) (hs : Sm l.length) : Ev (fun k => spec_l05Reverse.f k l) l.reverse := by
  have h := specRev_l0 l hs l.length 0 (by omega)
  unfold spec_l05Reverse.f
  unfold Sm at hs
  rw [wrap_id (by omega) (by omega)]
  rw [List.take_zero, show (l.length : Int) - 1 - ((0 : Nat) : Int) = (l.length : Int) - 1 from by omega] at h
  exact h
/-- The i outermost numbers on each side have changed their places. -/
def revL (l : List Int) (i : Nat) : List Int := (List.range l.length).map fun t => if t < i ∨ l.length ≤ t + i then l.getD (l.length - 1 - t) 0 else l.getD t 0
theorem revL_len (l : List Int) (i : Nat) : (revL l i).length = l.length := by simp [revL]
theorem revL_get (l : List Int) (i : Nat) {t : Nat} (h : t < l.length) : (revL l i).getD t 0 = if t < i ∨ l.length ≤ t + i then l.getD (l.length - 1 - t) 0 else l.getD t 0 := by
  rw [revL, List.getD_eq_getElem?_getD, List.getElem?_map, List.getElem?_range h]; rfl
theorem list_ext {l m : List Int} (h : l.length = m.length) (he : ∀ t, t < l.length → l.getD t 0 = m.getD t 0) : l = m := by
  apply List.ext_getElem h
  intro t h1 h2
  have := he t h1
  rwa [List.getD_eq_getElem?_getD, List.getD_eq_getElem?_getD, List.getElem?_eq_getElem h1, List.getElem?_eq_getElem h2] at this
theorem revL_zero (l : List Int) : revL l 0 = l := by
  refine list_ext (revL_len l 0) (fun t ht => ?_)
  rw [revL_len] at ht
  rw [revL_get l 0 ht, if_neg (by omega)]
theorem revL_end (l : List Int) (i : Nat) (h : l.length ≤ 2 * i + 1) : revL l i = l.reverse := by
  refine list_ext (by rw [revL_len, List.length_reverse]) (fun t ht => ?_)
  rw [revL_len] at ht
  rw [revL_get l i ht, rev_get l ht]
  by_cases g : t < i ∨ l.length ≤ t + i
  · rw [if_pos g]
  · rw [if_neg g, show l.length - 1 - t = t from by omega]
theorem revL_succ (l : List Int) (i : Nat) (h : 2 * i + 1 < l.length) :
    ((revL l i).set i ((revL l i).getD (l.length - 1 - i) 0)).set (l.length - 1 - i) ((revL l i).getD i 0) = revL l (i + 1) := by
  refine list_ext (by rw [List.length_set, List.length_set, revL_len, revL_len]) (fun t ht => ?_)
  rw [List.length_set, List.length_set, revL_len] at ht
  rw [revL_get l (i + 1) ht, revL_get l i (t := i) (by omega), revL_get l i (t := l.length - 1 - i) (by omega), if_neg (by omega), if_neg (by omega)]
  rw [List.getD_eq_getElem?_getD]
  by_cases e1 : t = l.length - 1 - i
  · subst e1
    rw [List.getElem?_set_self (by rw [List.length_set, revL_len]; omega), if_pos (by omega), Option.getD_some, show l.length - 1 - (l.length - 1 - i) = i from by omega]
  · rw [List.getElem?_set_ne (by omega)]
    by_cases e2 : t = i
    · subst e2
      rw [List.getElem?_set_self (by rw [revL_len]; omega), if_pos (by omega), Option.getD_some]
    · rw [List.getElem?_set_ne (by omega), ← List.getD_eq_getElem?_getD, revL_get l i ht]
      by_cases g : t < i ∨ l.length ≤ t + i
      · rw [if_pos g, if_pos (by omega)]
      · rw [if_neg g, if_neg (by omega)]
theorem goRev_l0 (l : List Int) (hs : Sm l.length) (d : Nat) : ∀ i, l.length ≤ 2 * i + 1 + d → 2 * i ≤ l.length + 1 →
    Ev (fun k => slices_Reverse_ints.l0 k (revL l i) (i : Int) ((l.length : Int) - 1 - (i : Int))) l.reverse := by
  induction d with
  | zero =>
    intro i hi _
    refine Ev.step (fun k => by rw [slices_Reverse_ints.l0]) ?_
    exact Ev.neg (by omega) (Ev.some' (revL_end l i (by omega)))
  | succ d ih =>
    intro i hi hi2
    unfold Sm at hs
    refine Ev.step (fun k => by rw [slices_Reverse_ints.l0]) ?_
    by_cases g : l.length ≤ 2 * i + 1
    · exact Ev.neg (by omega) (Ev.some' (revL_end l i g))
    · have ej : (l.length : Int) - 1 - (i : Int) = ((l.length - 1 - i : Nat) : Int) := by omega
      have ew : wrap64 (((l.length - 1 - i : Nat) : Int) - 1) = (l.length : Int) - 1 - ((i + 1 : Nat) : Int) := by rw [wrap_id (by omega) (by omega)]; omega
      rw [ej, revL_len, rd_nat, rd_nat, toNat_nat, toNat_nat, revL_succ l i (by omega), wsucc (i := i) (n := l.length) (by omega) (by omega), ew]
      exact Ev.pos (by omega) (Ev.pos (by omega) (Ev.pos (by omega) (Ev.pos (by omega) (Ev.pos (by omega) (ih (i + 1) (by omega) (by omega))))))
theorem goRev_ev (l : List Int) (hs : Sm l.length) : Ev (fun k => slices_Reverse_ints.f k l) l.reverse := by
  have h := goRev_l0 l hs l.length 0 (by omega) (by omega)
  unfold slices_Reverse_ints.f
  unfold Sm at hs
  rw [wrap_id (by omega) (by omega)]
  rw [revL_zero, show (l.length : Int) - 1 - ((0 : Nat) : Int) = (l.length : Int) - 1 from by omega] at h
  exact h
theorem implRev_ev (l : List Int) (hs : Sm l.length) : Ev (fun k => impl_reversed.f k l) l.reverse := by
  unfold impl_reversed.f
  exact Ev.bindE (clone_eq l hs) (Ev.bind (goRev_ev l hs) (Ev.now _))
end Go.Proofs.Ytokkabgkjhpecaa.Pr
