/- Texts of this session in one: what functions of the program compute, and plain facts of it, under the conditions that each theorem names. -/
import Derived.Test.YtokkabgkjhpecaaKC01
import Derived.Test.YtokkabgkjhpecaaKC02
namespace Go.Proofs.Ytokkabgkjhpecaa.Pr
open Go.RowKit Go.Proofs.YtokkabgkjhpecaaW.PrintWords Go.Proofs.YtokkabgkjhpecaaW.PrintLast Go.Proofs.YtokkabgkjhpecaaW.PrintMore
attribute [local go_sem] max2_int min2_int max_two min_two max_three min_three max_four min_four   -- for this text's walks alone
set_option linter.unusedVariables false
set_option linter.unusedSimpArgs false
/-! ### impl_field_series: function 108 -/
mutual
def impl_field_series.l0 : Nat → Int → List Int → List Int → List Int → Int → Int → Int → Option (List Int)
 | 0, _, _, _, _, _, _, _ => none
 | k + 1, x0, x1, x2, x9, x10, x22, x23 => if x23 < x22 then (if x23 < (x1.length : Int) then (if 0 ≤ x23 then (impl_field_series.j1 k x0 x1 x2 x9 x10 x23 (rd x1 x23) x22 x23) else (none)) else (impl_field_series.j1 k x0 x1 x2 x9 x10 x23 0 x22 x23)) else (some x9)
def impl_field_series.j1 : Nat → Int → List Int → List Int → List Int → Int → Int → Int → Int → Int → Option (List Int)
 | 0, _, _, _, _, _, _, _, _, _ => none
 | k + 1, x0, x1, x2, x9, x10, x11, x12, x22, x23 => impl_field_series.l1 k x0 x1 x2 x9 x10 x11 x12 1 x22 x23
def impl_field_series.l1 : Nat → Int → List Int → List Int → List Int → Int → Int → Int → Int → Int → Int → Option (List Int)
 | 0, _, _, _, _, _, _, _, _, _, _ => none
 | k + 1, x0, x1, x2, x9, x10, x11, x12, x13, x22, x23 => if x13 ≤ x11 then (if x13 < (x2.length : Int) then (if 0 ≤ x13 then (if 0 ≤ (wrap64 (x11 - x13)) then (if (wrap64 (x11 - x13)) < (x9.length : Int) then ((impl_field_mod.f x0 (wrap64 (x12 - (wrap64 ((rd x2 x13) * (rd x9 (wrap64 (x11 - x13)))))))).bind fun t1154 => (impl_field_series.l1 k x0 x1 x2 x9 x10 x11 t1154 (wrap64 (x13 + 1)) x22 x23)) else (none)) else (none)) else (none)) else ((impl_field_mul.f x0 x12 x10).bind fun t1155 => (if 0 ≤ x11 then (if x11 < (x9.length : Int) then (impl_field_series.l0 k x0 x1 x2 (x9.set (x11 : Int).toNat t1155) x10 x22 (wrap64 (x23 + 1))) else (none)) else (none)))) else ((impl_field_mul.f x0 x12 x10).bind fun t1157 => (if 0 ≤ x11 then (if x11 < (x9.length : Int) then (impl_field_series.l0 k x0 x1 x2 (x9.set (x11 : Int).toNat t1157) x10 x22 (wrap64 (x23 + 1))) else (none)) else (none)))
end
def impl_field_series.f (k : Nat) (a0 : Int) (l1 : List Int) (l2 : List Int) (a3 : Int) : Option (List Int) := if 0 ≤ a3 then (if (a3 : Int).toNat ≤ 35184372088832 then ((some (List.replicate (a3 : Int).toNat 0 : List Int)).bind fun y1146 => (if 0 < (l2.length : Int) then ((impl_field_inverse.f k a0 (rd l2 0)).bind fun t1150 => (impl_field_series.l0 k a0 l1 l2 y1146 t1150 (y1146.length : Int) 0)) else (none))) else (none)) else (none)
theorem impl_field_series.mono_l : ∀ k, (∀ y0 y1 y2 y3 y4 y5 y6, LeO (impl_field_series.l0 k y0 y1 y2 y3 y4 y5 y6) (impl_field_series.l0 (k + 1) y0 y1 y2 y3 y4 y5 y6)) ∧ (∀ y0 y1 y2 y3 y4 y5 y6 y7 y8, LeO (impl_field_series.j1 k y0 y1 y2 y3 y4 y5 y6 y7 y8) (impl_field_series.j1 (k + 1) y0 y1 y2 y3 y4 y5 y6 y7 y8)) ∧ (∀ y0 y1 y2 y3 y4 y5 y6 y7 y8 y9, LeO (impl_field_series.l1 k y0 y1 y2 y3 y4 y5 y6 y7 y8 y9) (impl_field_series.l1 (k + 1) y0 y1 y2 y3 y4 y5 y6 y7 y8 y9))
 | 0 => ⟨fun _ _ _ _ _ _ _ r h => by simp [impl_field_series.l0] at h, fun _ _ _ _ _ _ _ _ _ r h => by simp [impl_field_series.j1] at h, fun _ _ _ _ _ _ _ _ _ _ r h => by simp [impl_field_series.l1] at h⟩
 | k + 1 => by
  obtain ⟨ih0, ih1, ih2⟩ := impl_field_series.mono_l k
  refine ⟨?_, ?_, ?_⟩
  ·intro y0 y1 y2 y3 y4 y5 y6
   unfold impl_field_series.l0
   repeat' first
   | (with_reducible exact ih0 _ _ _ _ _ _ _)
   | (with_reducible exact ih1 _ _ _ _ _ _ _ _ _)
   | (with_reducible exact ih2 _ _ _ _ _ _ _ _ _ _)
   | (with_reducible exact impl_field_inverse.mono _ _ _)
   | (with_reducible exact LeO.refl _)
   | (with_reducible exact LeO.none _)
   | (with_reducible refine LeO.ite ?_ ?_)
   | (with_reducible refine LeO.bind ?_ (fun _ => ?_))
   | exact ih0 _ _ _ _ _ _ _
   | exact ih1 _ _ _ _ _ _ _ _ _
   | exact ih2 _ _ _ _ _ _ _ _ _ _
   | exact impl_field_inverse.mono _ _ _
   | exact LeO.none _
   | refine LeO.ite ?_ ?_
   | refine LeO.bind ?_ (fun _ => ?_)
  ·intro y0 y1 y2 y3 y4 y5 y6 y7 y8
   unfold impl_field_series.j1
   repeat' first
   | (with_reducible exact ih0 _ _ _ _ _ _ _)
   | (with_reducible exact ih1 _ _ _ _ _ _ _ _ _)
   | (with_reducible exact ih2 _ _ _ _ _ _ _ _ _ _)
   | (with_reducible exact impl_field_inverse.mono _ _ _)
   | (with_reducible exact LeO.refl _)
   | (with_reducible exact LeO.none _)
   | (with_reducible refine LeO.ite ?_ ?_)
   | (with_reducible refine LeO.bind ?_ (fun _ => ?_))
   | exact ih0 _ _ _ _ _ _ _
   | exact ih1 _ _ _ _ _ _ _ _ _
   | exact ih2 _ _ _ _ _ _ _ _ _ _
   | exact impl_field_inverse.mono _ _ _
   | exact LeO.none _
   | refine LeO.ite ?_ ?_
   | refine LeO.bind ?_ (fun _ => ?_)
  ·intro y0 y1 y2 y3 y4 y5 y6 y7 y8 y9
   unfold impl_field_series.l1
   repeat' first
   | (with_reducible exact ih0 _ _ _ _ _ _ _)
   | (with_reducible exact ih1 _ _ _ _ _ _ _ _ _)
   | (with_reducible exact ih2 _ _ _ _ _ _ _ _ _ _)
   | (with_reducible exact impl_field_inverse.mono _ _ _)
   | (with_reducible exact LeO.refl _)
   | (with_reducible exact LeO.none _)
   | (with_reducible refine LeO.ite ?_ ?_)
   | (with_reducible refine LeO.bind ?_ (fun _ => ?_))
   | exact ih0 _ _ _ _ _ _ _
   | exact ih1 _ _ _ _ _ _ _ _ _
   | exact ih2 _ _ _ _ _ _ _ _ _ _
   | exact impl_field_inverse.mono _ _ _
   | exact LeO.none _
   | refine LeO.ite ?_ ?_
   | refine LeO.bind ?_ (fun _ => ?_)
theorem impl_field_series.mono : ∀ a0 a1 a2 a3 k, LeO (impl_field_series.f k a0 a1 a2 a3) (impl_field_series.f (k + 1) a0 a1 a2 a3) := by
 intro a0 a1 a2 a3 k
 obtain ⟨ih0, ih1, ih2⟩ := impl_field_series.mono_l k
 unfold impl_field_series.f
 repeat' first
   | (with_reducible exact ih0 _ _ _ _ _ _ _)
   | (with_reducible exact ih1 _ _ _ _ _ _ _ _ _)
   | (with_reducible exact ih2 _ _ _ _ _ _ _ _ _ _)
   | (with_reducible exact impl_field_inverse.mono _ _ _)
   | (with_reducible exact LeO.refl _)
   | (with_reducible exact LeO.none _)
   | (with_reducible refine LeO.ite ?_ ?_)
   | (with_reducible refine LeO.bind ?_ (fun _ => ?_))
   | exact ih0 _ _ _ _ _ _ _
   | exact ih1 _ _ _ _ _ _ _ _ _
   | exact ih2 _ _ _ _ _ _ _ _ _ _
   | exact impl_field_inverse.mono _ _ _
   | exact LeO.none _
   | refine LeO.ite ?_ ?_
   | refine LeO.bind ?_ (fun _ => ?_)
def impl_field_series.T12 : Bool × List (List Nat × List Nat) := (true, [([], []), ([], []), ([], []), ([], []), ([2, 3], [2, 3]), ([4], [4]), ([], []), ([], []), ([], []), ([7, 8], [7, 8]), ([6, 9], [6, 9]), ([10], [10]), ([5, 11], [5, 11]), ([1, 12], [1, 12]), ([0, 13], [0, 13]), ([14, 14, 0, 1, 2, 3, 4, 5, 6, 7, 8, 9, 10, 11, 12, 13, 14], [1, 14])])
def impl_field_series.B12 : List Nat := [0, 0, 0, 0, 12, 28, 0, 0, 0, 384, 960, 1984, 4092, 8190, 16383, 32767]
theorem impl_field_series.tab12 : rtab .any (opsOf Try.f108 12) = impl_field_series.T12 := by kernel_rfl
theorem impl_field_series.bits12 : waitsOk impl_field_series.T12.2 impl_field_series.B12 = true := by kernel_rfl
set_option maxHeartbeats 8000000 in
set_option maxRecDepth 100000 in
theorem impl_field_series.calls (k : Nat) (a0 : Int) (A1 : Option Addr) (c1 : Nat) (l1 : List Int) (A2 : Option Addr) (c2 : Nat) (l2 : List Int) (a3 : Int) (r : List Int) (w : World) (hr1 : Kd.C (Kd.int .i64) w A1 l1.length l1) (hc1 : l1.length ≤ c1) (hr2 : Kd.C (Kd.int .i64) w A2 l2.length l2) (hc2 : l2.length ≤ c2) (h : impl_field_series.f k a0 l1 l2 a3 = some r) :
  Calls Try.prog 108 #[.int .i64 a0, .slice A1 l1.length c1, .slice A2 l2.length c2, .int .i64 a3] w fun e w' => ∃ v0_ : Value, e = .returned (v0_) ∧ Kd.R (Kd.int .i64) 2 w' w.heap.size (fun _ => True) v0_ r ∧ Below w.heap.size w w' := by
 have HR1 := zA hr1
 have HC1 := zA hc1
 clear hr1 hc1
 have HR2 := zA hr2
 have HC2 := zA hc2
 clear hr2 hc2
 have HB := zA (Below.refl w.heap.size w)
 have H : (if 0 ≤ a3 then (if (a3 : Int).toNat ≤ 35184372088832 then ((some (List.replicate (a3 : Int).toNat 0 : List Int)).bind fun y1146 => (if 0 < (l2.length : Int) then ((impl_field_inverse.f k a0 (rd l2 0)).bind fun t1150 => (impl_field_series.l0 k a0 l1 l2 y1146 t1150 (y1146.length : Int) 0)) else (none))) else (none)) else (none)) = some r := h
 clear h
 by_cases c5 : 0 ≤ a3
 rotate_left
 ·rw [if_neg c5] at H
  exact absurd H (by simp)

 rw [if_pos c5] at H
 have c5b0 := eq_true c5
 have c5b1 : decide (0 ≤ a3) = true := decide_eq_true c5
 clear c5
 by_cases c6 : (a3 : Int).toNat ≤ 35184372088832
 rotate_left
 ·rw [if_neg c6] at H
  exact absurd H (by simp)
 rw [if_pos c6] at H
 have c6b0 := eq_true c6
 have c6b1 : decide ((a3 : Int).toNat ≤ 35184372088832) = true := decide_eq_true c6
 clear c6
 obtain ⟨y1146, hy1146⟩ : ∃ y_ : List Int, y_ = (List.replicate (a3 : Int).toNat 0) := ⟨_, rfl⟩
 replace H : (if 0 < (l2.length : Int) then ((impl_field_inverse.f k a0 (rd l2 0)).bind fun t1150 => (impl_field_series.l0 k a0 l1 l2 y1146 t1150 (y1146.length : Int) 0)) else (none)) = some r := by first | (rw [hy1146]; exact H) | exact H
 have Ny1146 := zA hy1146
 clear hy1146
 by_cases c7 : 0 < (l2.length : Int)
 rotate_left
 ·rw [if_neg c7] at H
  exact absurd H (by simp)
 rw [if_pos c7] at H
 have c7b0 : decide (0 < (l2.length : Int)) = true := decide_eq_true c7
 have c7b1 : decide (0 < l2.length) = true := decide_eq_true (by omega)
 clear c7
 replace H := Option.bind_eq_some_iff.mp H
 obtain ⟨t1150, A80, H⟩ := H
 replace H : (impl_field_series.l0 k a0 l1 l2 y1146 t1150 (y1146.length : Int) 0) = some r := H
 have A8 := zA A80
 clear A80
 have H' := zA H
 clear H
 go_enter Try.func108, Try.ntmps108
 go_wp2_with (first | ((with_reducible refine gate_dst (N := 15) rfl ?_); (try (refine gate_guard (by rfl) ?_; dsimp only)); refine Kd.R_make (Kd.int .i64) _ 2 rfl (N := 15) rfl 22 _ _ rfl a3 rfl rfl Try.underlying22 (.int .i64 0) 8 info2 rfl (by decide) (by omega) 0 (ok := fun _ => True) (okp := fun _ => True) rfl (fun _ hk => hk) trivial (of_decide_eq_true (by first | (with_reducible assumption) | assumption)) (Nat.le_trans (Nat.mul_le_mul_right _ (of_decide_eq_true (by first | (with_reducible assumption) | assumption) : a3.toNat ≤ 35184372088832)) (by omega)) (Below.refl _ _) (Nat.le_refl _) ?_; intro v1147 w9 ho10 hb hg_ hnew_; clear hg_ hnew_; (first | rw [← Ny1146.out] at ho10 | (simp only [Int.reduceToNat] at ho10; rw [← Ny1146.out] at ho10)); have HO1148 := zA (Kd.R_lower ho10 (below_size (uH HB.out))); replace HB := xH HB hb; clear hb ho10; have p1149 : 0 ≤ (0 : Int) := (by omega); have q1149 : 0 < (l2.length : Int) := of_decide_eq_true (by first | (with_reducible assumption) | assumption); obtain ⟨ad1149, e1149, hx1149_0⟩ := Kd.at_int HR2.out 0 p1149 q1149; cases e1149; have qi1149 : (0 < l2.length) = True := eq_true (by omega); (try rw [show ((0 : Int)).toNat = 0 from rfl] at hx1149_0); (try rw [Addr.add_zero'] at hx1149_0); replace hx1149_0 := hc HB hx1149_0; replace p1149 := eq_true p1149; replace q1149 := eq_true q1149) | ((with_reducible refine gate_callee (f := 141) rfl ?_); refine gL (some 20) Try.func141 #[.int .i64 a0, .int .i64 (rd l2 0)] ?_; (with_reducible refine (impl_field_inverse.calls k a0 (rd l2 0) t1150 _ A8.out).mono ?_); rintro e w' ⟨rfl, ⟨nd, rfl⟩⟩; refine ⟨_, rfl, ?_⟩; obtain ⟨Ao11, co11, eo11⟩ := Kd.R_slice HO1148.out; subst eo11))
 go_loopg [23] k (fun kq v23 w' => ∃ (x9_1 : List Int) (x23_1 : Int), v23 = .int .i64 x23_1 ∧ Aside0 (impl_field_series.l0 kq a0 l1 l2 x9_1 t1150 (y1146.length : Int) x23_1 = some r) ∧ Aside0 (kq ≤ k) ∧ Aside0 (Kd.R (Kd.int .i64) 2 w' w.heap.size (fun _ => True) (.slice Ao11 y1146.length co11) x9_1) ∧ Aside0 (Below w.heap.size w w'))
 case atStart => exact ⟨(y1146), (0), (by first | rfl | (simp; done) | (simp [*]; done)), H', ⟨Nat.le_refl _⟩, ⟨uR HO1148.out⟩, ⟨uH HB.out⟩⟩
 case round =>
  clear H'
  (try clear c1);(try clear p1);(try clear q1);(try clear hx1);(try clear qi1);(try clear c2);(try clear p2);(try clear c5);(try clear c5b0);(try clear c5b1);(try clear c6);(try clear c6b0);(try clear c6b1);(try clear c7);(try clear c7b0);(try clear c7b1);(try clear c10);(try clear p11);(try clear q11);(try clear hx11);(try clear qi11);(try clear hx1149_0);(try clear p1149);(try clear q1149)
  obtain ⟨x9_1, x23_1, rfl, HA, HK1, HO_9, HB⟩ := hrel
  have hl9_1 := (Kd.R_reads' HO_9.out).1
  rw [hl9_1] at HO_9
  (try simp only [hl9_1])
  cases gk with
  | zero => exact absurd HA.out (by simp [impl_field_series.l0])
  | succ k1 =>
   have H := HA.out
   clear HA
   simp only [impl_field_series.l0] at H
   by_cases c12 : x23_1 < (y1146.length : Int)
   rotate_left
   ·rw [if_neg c12] at H
    have c12b0 : decide (x23_1 < (y1146.length : Int)) = false := decide_eq_false c12
    (try simp only [hl9_1] at c12b0)
    clear c12
    obtain rfl := Option.some.inj H
    go_wp2
    go_ret
    exact ⟨_, by first | rfl | (simp [errW_none, errW_some] <;> rfl) | (simp [*, errW_none, errW_some] <;> rfl), uR HO_9.out, uH HB.out⟩
   rw [if_pos c12] at H
   have c12b0 : decide (x23_1 < (y1146.length : Int)) = true := decide_eq_true c12
   (try simp only [hl9_1] at c12b0)
   clear c12
   have HC13 := zA H
   clear H
   go_upto_if 29 with (fail)
   go_cut [12] (fun v12 wc => ∃ (kq : Nat) (x12_12 : Int), v12 = .int .i64 x12_12 ∧ Aside0 (impl_field_series.j1 kq a0 l1 l2 x9_1 t1150 x23_1 x12_12 (y1146.length : Int) x23_1 = some r) ∧ Aside0 (kq ≤ k1) ∧ Aside0 (Kd.R (Kd.int .i64) 2 wc w.heap.size (fun _ => True) (.slice Ao11 x9_1.length co11) x9_1) ∧ Aside0 (Below w.heap.size w wc))
   case first =>
    have H := HC13.out
    clear HC13
    by_cases c14 : x23_1 < (l1.length : Int)
    rotate_left
    ·rw [if_neg c14] at H
     have c14b0 : decide (x23_1 < (l1.length : Int)) = false := decide_eq_false c14
     clear c14
     (first | rw [c14b0] | (simp only [i64_w, i32_w]; rw [c14b0]) | skip)
     have H' := zA H
     clear H
     go_wp2
     go_meet
     case rel => exact ⟨_, (0), (by first | rfl | (simp; done) | (simp [*]; done)), H', ⟨by have := HK1.out; first | omega | exact Nat.le_refl _⟩, ⟨by (try simp only [hl9_1]); (with_reducible repeat (first | apply Kd.R_alloc | apply Kd.R_drewN | apply Kd.R_drew)); exact HO_9.out⟩, ⟨uH HB.out⟩⟩
    rw [if_pos c14] at H
    have c14b0 : decide (x23_1 < (l1.length : Int)) = true := decide_eq_true c14
    clear c14
    (first | rw [c14b0] | (simp only [i64_w, i32_w]; rw [c14b0]) | skip)
    by_cases c15 : 0 ≤ x23_1
    rotate_left
    ·rw [if_neg c15] at H
     exact absurd H (by simp)
    rw [if_pos c15] at H
    have c15b0 : decide (0 ≤ x23_1) = true := decide_eq_true c15
    clear c15
    have H' := zA H
    clear H
    have p1151 : 0 ≤ (x23_1 : Int) := of_decide_eq_true (by first | (with_reducible assumption) | assumption)
    have q1151 : x23_1 < (l1.length : Int) := of_decide_eq_true (by first | (with_reducible assumption) | assumption)
    obtain ⟨ad1151, e1151, hx1151_0⟩ := Kd.at_int HR1.out x23_1 p1151 q1151
    cases e1151
    replace hx1151_0 := hc HB hx1151_0
    replace p1151 := eq_true p1151
    replace q1151 := eq_true q1151
    go_wp2
    go_meet
    case rel => exact ⟨_, (rd l1 x23_1), (by first | rfl | (simp; done) | (simp [*]; done)), H', ⟨by have := HK1.out; first | omega | exact Nat.le_refl _⟩, ⟨by (try simp only [hl9_1]); (with_reducible repeat (first | apply Kd.R_alloc | apply Kd.R_drewN | apply Kd.R_drew)); exact HO_9.out⟩, ⟨uH HB.out⟩⟩
   case rest =>
    clear HC13
    (try clear c1);(try clear p1);(try clear q1);(try clear hx1);(try clear qi1);(try clear c2);(try clear p2);(try clear c5);(try clear c5b0);(try clear c5b1);(try clear c6);(try clear c6b0);(try clear c6b1);(try clear c7);(try clear c7b0);(try clear c7b1);(try clear c10);(try clear p11);(try clear q11);(try clear hx11);(try clear qi11);(try clear c12);(try clear c12b0);(try clear c14);(try clear c14b0)
    (try clear c15);(try clear c15b0);(try clear hx1149_0);(try clear hx1151_0);(try clear p1);(try clear p11);(try clear p1149);(try clear p1151);(try clear p2);(try clear q1);(try clear q11);(try clear q1149);(try clear q1151)
    obtain ⟨kq, x12_12, rfl, HA, HJ12, HO_9, HB⟩ := hcut
    cases kq with
    | zero => exact absurd HA.out (by simp [impl_field_series.j1])
    | succ kj12 =>
     have H := HA.out
     clear HA
     simp only [impl_field_series.j1] at H
     have H' := zA H
     clear H
     go_wp2
     go_loopg [12, 13] kj12 (fun kq v12 v13 w' => ∃ (x12_3 : Int) (x13_3 : Int), v12 = .int .i64 x12_3 ∧ v13 = .int .i64 x13_3 ∧ Aside0 (impl_field_series.l1 kq a0 l1 l2 x9_1 t1150 x23_1 x12_3 x13_3 (y1146.length : Int) x23_1 = some r) ∧ Aside0 (kq ≤ kj12) ∧ Aside0 (Kd.R (Kd.int .i64) 2 w' w.heap.size (fun _ => True) (.slice Ao11 x9_1.length co11) x9_1) ∧ Aside0 (Below w.heap.size w w'))
     case atStart => exact ⟨(x12_12), (1), (by first | rfl | (simp; done) | (simp [*]; done)), (by first | rfl | (simp; done) | (simp [*]; done)), H', ⟨Nat.le_refl _⟩, ⟨by (try simp only [hl9_1]); (with_reducible repeat (first | apply Kd.R_alloc | apply Kd.R_drewN | apply Kd.R_drew)); exact HO_9.out⟩, ⟨uH HB.out⟩⟩
     case round =>
      clear H'
      (try clear c1);(try clear p1);(try clear q1);(try clear hx1);(try clear qi1);(try clear c2);(try clear p2);(try clear c5);(try clear c5b0);(try clear c5b1);(try clear c6);(try clear c6b0);(try clear c6b1);(try clear c7);(try clear c7b0);(try clear c7b1);(try clear c10);(try clear p11);(try clear q11);(try clear hx11);(try clear qi11);(try clear c12);(try clear c12b0);(try clear c14);(try clear c14b0)
      (try clear c15);(try clear c15b0);(try clear hx1149_0);(try clear hx1151_0);(try clear p1);(try clear p11);(try clear p1149);(try clear p1151);(try clear p2);(try clear q1);(try clear q11);(try clear q1149);(try clear q1151)
      obtain ⟨x12_3, x13_3, rfl, rfl, HA, HK3, HO_9, HB⟩ := hrel
      cases gk with
      | zero => exact absurd HA.out (by simp [impl_field_series.l1])
      | succ k3 =>
       have H := HA.out
       clear HA
       simp only [impl_field_series.l1] at H
       by_cases c16 : x13_3 ≤ x23_1
       rotate_left
       ·rw [if_neg c16] at H
        have c16b0 : decide (x13_3 ≤ x23_1) = false := decide_eq_false c16
        clear c16
        replace H := Option.bind_eq_some_iff.mp H
        obtain ⟨t1157, A300, H⟩ := H
        replace H : (if 0 ≤ x23_1 then (if x23_1 < (x9_1.length : Int) then (impl_field_series.l0 k3 a0 l1 l2 (x9_1.set (x23_1 : Int).toNat t1157) t1150 (y1146.length : Int) (wrap64 (x23_1 + 1))) else (none)) else (none)) = some r := H
        have A30 := zA A300
        clear A300
        by_cases c31 : 0 ≤ x23_1
        rotate_left
        ·rw [if_neg c31] at H
         exact absurd H (by simp)
        rw [if_pos c31] at H
        have c31b0 : decide (0 ≤ x23_1) = true := decide_eq_true c31
        clear c31
        by_cases c32 : x23_1 < (x9_1.length : Int)
        rotate_left
        ·rw [if_neg c32] at H
         exact absurd H (by simp)
        rw [if_pos c32] at H
        have c32b0 : decide (x23_1 < (x9_1.length : Int)) = true := decide_eq_true c32
        clear c32
        obtain ⟨y1158, hy1158⟩ : ∃ y_ : List Int, y_ = (x9_1.set (x23_1 : Int).toNat t1157) := ⟨_, rfl⟩
        replace H : (impl_field_series.l0 k3 a0 l1 l2 y1158 t1150 (y1146.length : Int) (wrap64 (x23_1 + 1))) = some r := by first | (rw [hy1158]; exact H) | exact H
        have Ny1158 := zA hy1158
        clear hy1158
        have H' := zA H
        clear H
        go_wp2_with (first | ((with_reducible refine gate_callee (f := 89) rfl ?_); refine gL (some 65) Try.func89 #[.int .i64 a0, .int .i64 x12_3, .int .i64 t1150] ?_; (with_reducible refine (impl_field_mul.calls a0 x12_3 t1150 t1157 _ A30.out).mono ?_); rintro e w' ⟨rfl, ⟨nd, rfl⟩⟩; refine ⟨_, rfl, ?_⟩; (try (rw [drewN_self wr]; generalize hq_ : World.drewN wr _ = wr; have n0_ : Aside0 (Kd.R (Kd.int .i64) 2 wr w.heap.size (fun _ => True) (.slice Ao11 x9_1.length co11) x9_1) := ⟨by rw [← hq_]; exact (uR HO_9.out)⟩; have n1_ : Aside0 (Below w.heap.size w wr) := ⟨by rw [← hq_]; exact (uH HB.out)⟩; clear HO_9 HB hq_; have HO_9 := n0_; have HB := n1_; clear n0_ n1_)); have p33 : 0 ≤ (x23_1 : Int) := of_decide_eq_true (by first | (with_reducible assumption) | assumption); have q33 : (x23_1 : Int) < ((x9_1.length : Int) : Int) := of_decide_eq_true (by first | (with_reducible assumption) | assumption); obtain ⟨go33, co33, eo33, gb33, gl33, cl33, HG33⟩ := Kd.R_form HO_9.out (by omega); (first | cases eo33 | (injection eo33 with ea_ en_ ec_; (first | subst ea_ | (injection ea_ with ea_; subst ea_)); subst ec_; clear en_)); have GB33 := zA gb33; have := geI GB33; have GG33 := zA HG33; clear gb33 gl33 HG33; obtain ⟨hx33_0, hf33_0⟩ := Kd.R_celln 0 HO_9.out (x23_1 : Int) p33 q33; replace p33 := eq_true p33; replace q33 := eq_true q33; obtain ⟨hy34_, hz34_⟩ := Kd.R_celln 0 HO_9.out (x23_1 : Int) (of_decide_eq_true (by first | (with_reducible assumption) | assumption)) (of_decide_eq_true (by first | (with_reducible assumption) | assumption)); have HP34 := Kd.R_putg HO_9.out (x23_1 : Int) t1157) | ((with_reducible refine gate_store (t := 2) (p := 66) rfl ?_); refine store_event (t := 2) (p := 66) (v := ?vo_w35) (w1 := (wr.setCell ⟨go33, (x23_1 : Int).toNat, none⟩ (.int .i64 t1157))) ?hg ?ho ?hn ?hr ?_; (case ho => rfl); (case hg => rfl); (case hn => rfl); (case hr => first | (go_simp; done) | (go_simp; rfl)); intro w35 hw; have hg : wr.grownBy w35 (some go33) := (by rw [hw]; exact HP34.2); have hp_ : Kd.R (Kd.int .i64) 2 w35 w.heap.size (fun _ => True) (.slice (some ⟨go33, 0, none⟩) x9_1.length co11) y1158 := (by rw [hw, Ny1158.out]; exact HP34.1); clear HP34; replace HO_9 := zA (hp_); replace HB := zA ((by rw [hw]; exact below_set (HB.out) GB33.out : Below w.heap.size w w35)); clear hg hw hp_))
        (try simp only [← hl9_1])
        go_roundg k3
        case measure => have := HK1.out; have := HJ12.out; have := HK3.out; omega
        case rel => exact ⟨(y1158), (wrap64 (x23_1 + 1)), (by first | rfl | (simp; done) | (simp [*]; done)), H', ⟨by have := HK1.out; have := HJ12.out; have := HK3.out; omega⟩, ⟨by (try simp only [hl9_1]); (with_reducible repeat (first | apply Kd.R_alloc | apply Kd.R_drewN | apply Kd.R_drew)); exact HO_9.out⟩, ⟨uH HB.out⟩⟩
       rw [if_pos c16] at H
       have c16b0 : decide (x13_3 ≤ x23_1) = true := decide_eq_true c16
       clear c16
       by_cases c17 : x13_3 < (l2.length : Int)
       rotate_left
       ·rw [if_neg c17] at H
        have c17b0 : decide (x13_3 < (l2.length : Int)) = false := decide_eq_false c17
        clear c17
        replace H := Option.bind_eq_some_iff.mp H
        obtain ⟨t1155, A240, H⟩ := H
        replace H : (if 0 ≤ x23_1 then (if x23_1 < (x9_1.length : Int) then (impl_field_series.l0 k3 a0 l1 l2 (x9_1.set (x23_1 : Int).toNat t1155) t1150 (y1146.length : Int) (wrap64 (x23_1 + 1))) else (none)) else (none)) = some r := H
        have A24 := zA A240
        clear A240
        by_cases c25 : 0 ≤ x23_1
        rotate_left
        ·rw [if_neg c25] at H
         exact absurd H (by simp)
        rw [if_pos c25] at H
        have c25b0 : decide (0 ≤ x23_1) = true := decide_eq_true c25
        clear c25
        by_cases c26 : x23_1 < (x9_1.length : Int)
        rotate_left
        ·rw [if_neg c26] at H
         exact absurd H (by simp)
        rw [if_pos c26] at H
        have c26b0 : decide (x23_1 < (x9_1.length : Int)) = true := decide_eq_true c26
        clear c26
        obtain ⟨y1156, hy1156⟩ : ∃ y_ : List Int, y_ = (x9_1.set (x23_1 : Int).toNat t1155) := ⟨_, rfl⟩
        replace H : (impl_field_series.l0 k3 a0 l1 l2 y1156 t1150 (y1146.length : Int) (wrap64 (x23_1 + 1))) = some r := by first | (rw [hy1156]; exact H) | exact H
        have Ny1156 := zA hy1156
        clear hy1156
        have H' := zA H
        clear H
        go_wp2_with (first | ((with_reducible refine gate_callee (f := 89) rfl ?_); refine gL (some 65) Try.func89 #[.int .i64 a0, .int .i64 x12_3, .int .i64 t1150] ?_; (with_reducible refine (impl_field_mul.calls a0 x12_3 t1150 t1155 _ A24.out).mono ?_); rintro e w' ⟨rfl, ⟨nd, rfl⟩⟩; refine ⟨_, rfl, ?_⟩; (try (rw [drewN_self wr]; generalize hq_ : World.drewN wr _ = wr; have n0_ : Aside0 (Kd.R (Kd.int .i64) 2 wr w.heap.size (fun _ => True) (.slice Ao11 x9_1.length co11) x9_1) := ⟨by rw [← hq_]; exact (uR HO_9.out)⟩; have n1_ : Aside0 (Below w.heap.size w wr) := ⟨by rw [← hq_]; exact (uH HB.out)⟩; clear HO_9 HB hq_; have HO_9 := n0_; have HB := n1_; clear n0_ n1_)); have p27 : 0 ≤ (x23_1 : Int) := of_decide_eq_true (by first | (with_reducible assumption) | assumption); have q27 : (x23_1 : Int) < ((x9_1.length : Int) : Int) := of_decide_eq_true (by first | (with_reducible assumption) | assumption); obtain ⟨go27, co27, eo27, gb27, gl27, cl27, HG27⟩ := Kd.R_form HO_9.out (by omega); (first | cases eo27 | (injection eo27 with ea_ en_ ec_; (first | subst ea_ | (injection ea_ with ea_; subst ea_)); subst ec_; clear en_)); have GB27 := zA gb27; have := geI GB27; have GG27 := zA HG27; clear gb27 gl27 HG27; obtain ⟨hx27_0, hf27_0⟩ := Kd.R_celln 0 HO_9.out (x23_1 : Int) p27 q27; replace p27 := eq_true p27; replace q27 := eq_true q27; obtain ⟨hy28_, hz28_⟩ := Kd.R_celln 0 HO_9.out (x23_1 : Int) (of_decide_eq_true (by first | (with_reducible assumption) | assumption)) (of_decide_eq_true (by first | (with_reducible assumption) | assumption)); have HP28 := Kd.R_putg HO_9.out (x23_1 : Int) t1155) | ((with_reducible refine gate_store (t := 2) (p := 66) rfl ?_); refine store_event (t := 2) (p := 66) (v := ?vo_w29) (w1 := (wr.setCell ⟨go27, (x23_1 : Int).toNat, none⟩ (.int .i64 t1155))) ?hg ?ho ?hn ?hr ?_; (case ho => rfl); (case hg => rfl); (case hn => rfl); (case hr => first | (go_simp; done) | (go_simp; rfl)); intro w29 hw; have hg : wr.grownBy w29 (some go27) := (by rw [hw]; exact HP28.2); have hp_ : Kd.R (Kd.int .i64) 2 w29 w.heap.size (fun _ => True) (.slice (some ⟨go27, 0, none⟩) x9_1.length co11) y1156 := (by rw [hw, Ny1156.out]; exact HP28.1); clear HP28; replace HO_9 := zA (hp_); replace HB := zA ((by rw [hw]; exact below_set (HB.out) GB27.out : Below w.heap.size w w29)); clear hg hw hp_))
        (try simp only [← hl9_1])
        go_roundg k3
        case measure => have := HK1.out; have := HJ12.out; have := HK3.out; omega
        case rel => exact ⟨(y1156), (wrap64 (x23_1 + 1)), (by first | rfl | (simp; done) | (simp [*]; done)), H', ⟨by have := HK1.out; have := HJ12.out; have := HK3.out; omega⟩, ⟨by (try simp only [hl9_1]); (with_reducible repeat (first | apply Kd.R_alloc | apply Kd.R_drewN | apply Kd.R_drew)); exact HO_9.out⟩, ⟨uH HB.out⟩⟩
       rw [if_pos c17] at H
       have c17b0 : decide (x13_3 < (l2.length : Int)) = true := decide_eq_true c17
       clear c17
       by_cases c18 : 0 ≤ x13_3
       rotate_left
       ·rw [if_neg c18] at H
        exact absurd H (by simp)
       rw [if_pos c18] at H
       have c18b0 : decide (0 ≤ x13_3) = true := decide_eq_true c18
       clear c18
       obtain ⟨ji19, hji19⟩ : ∃ j_ : Int, (wrap64 (x23_1 - x13_3)) = j_ := ⟨_, rfl⟩
       replace H : (if 0 ≤ (ji19) then (if (ji19) < (x9_1.length : Int) then ((impl_field_mod.f a0 (wrap64 (x12_3 - (wrap64 ((rd l2 x13_3) * (rd x9_1 (ji19))))))).bind fun t1154 => (impl_field_series.l1 k3 a0 l1 l2 x9_1 t1150 x23_1 t1154 (wrap64 (x13_3 + 1)) (y1146.length : Int) x23_1)) else (none)) else (none)) = some r := by first | (rw [hji19] at H; exact H) | (simp only [hji19] at H ⊢; exact H)
       have hji19w : (IntKind.i64.wrap (x23_1 - x13_3)) = ji19 := (i64_w _).trans hji19
       by_cases c20 : 0 ≤ (ji19)
       rotate_left
       ·rw [if_neg c20] at H
        exact absurd H (by simp)
       rw [if_pos c20] at H
       have c20b0 : decide (0 ≤ (ji19)) = true := decide_eq_true c20
       clear c20
       by_cases c21 : (ji19) < (x9_1.length : Int)
       rotate_left
       ·rw [if_neg c21] at H
        exact absurd H (by simp)
       rw [if_pos c21] at H
       have c21b0 : decide ((ji19) < (x9_1.length : Int)) = true := decide_eq_true c21
       clear c21
       replace H := Option.bind_eq_some_iff.mp H
       obtain ⟨t1154, A220, H⟩ := H
       replace H : (impl_field_series.l1 k3 a0 l1 l2 x9_1 t1150 x23_1 t1154 (wrap64 (x13_3 + 1)) (y1146.length : Int) x23_1) = some r := H
       have A22 := zA A220
       clear A220
       have H' := zA H
       clear H
       try go_wp2
       replace HO_9 := zA (Kd.R_drew HO_9.out)
       replace HB := zA (below_drew1 HB.out)
       have p1152 : 0 ≤ (x13_3 : Int) := of_decide_eq_true (by first | (with_reducible assumption) | assumption)
       have q1152 : x13_3 < (l2.length : Int) := of_decide_eq_true (by first | (with_reducible assumption) | assumption)
       obtain ⟨ad1152, e1152, hx1152_0⟩ := Kd.at_int HR2.out x13_3 p1152 q1152
       have hw1152_0 := hx1152_0
       obtain rfl : ad1149 = ad1152 := (by injection e1152)
       replace hx1152_0 := hc HB hx1152_0
       replace p1152 := eq_true p1152
       replace q1152 := eq_true q1152
       have p1153 : 0 ≤ ((ji19) : Int) := of_decide_eq_true (by first | (with_reducible assumption) | assumption)
       have q1153 : (ji19) < (x9_1.length : Int) := of_decide_eq_true (by first | (with_reducible assumption) | assumption)
       obtain ⟨ad1153, e1153, hx1153_0⟩ := Kd.at_int (Kd.R_reads' HO_9.out).2.2 (ji19) p1153 q1153
       cases e1153
       replace p1153 := eq_true p1153
       replace q1153 := eq_true q1153
       refine start_ (n := 16) (S := fun w' => w'.cell? (ad1149.add (x13_3).toNat) = some (.int .i64 (rd l2 x13_3)) ∧ w'.cell? (ad1153.add ((ji19)).toNat) = some (.int .i64 (rd x9_1 (ji19)))) (ds := []) #[false, false, false, false, false, false, false, false, false, false, false, false, false, false, false, false] (by kernel_rfl) rfl rfl ⟨(hcu HB hw1152_0), hx1153_0⟩ (fun hHeld => ?_); refine with_tabW impl_field_series.tab12 impl_field_series.bits12 (fun HT_ HW_ => ?_)
       generalize wr.drew = w23 at HO_9 HB hx1152_0 hx1153_0 hHeld ⊢
       refine pu_ 0 45 (bl 16 1) HT_ ?_
       refine pu_ 1 46 (bl 16 3) HT_ ?_
       refine pu_ 2 47 (bl 16 7) HT_ ?_
       refine pu_ 3 48 (bl 16 15) HT_ ?_
       refine pu_ 4 49 (bl 16 31) HT_ ?_
       refine pu_ 6 51 (bl 16 95) HT_ ?_
       refine pu_ 7 52 (bl 16 223) HT_ ?_
       refine pu_ 8 53 (bl 16 479) HT_ ?_
       refine pu_ 9 54 (bl 16 991) HT_ ?_
       refine pu_ 10 55 (bl 16 2015) HT_ ?_
       refine ta_ 5 50 (bl 16 2047) HT_ HW_ hHeld ?_
       refine ta_ 11 56 (bl 16 4095) HT_ HW_ hHeld ?_
       refine pu_ 12 57 (bl 16 8191) HT_ ?_
       refine pu_ 13 58 (bl 16 16383) HT_ ?_
       refine on_ 14 (some 59) (bl 16 32767) HT_ (fun K hK => ?_)
       refine goes_ Try.func88 (by kernel_rfl) rfl #[.int .i64 a0, .int .i64 (wrap64 (x12_3 - (wrap64 ((rd l2 x13_3) * (rd x9_1 (ji19))))))] (by rfl) rfl rfl (by (try simp only [la, lb, lc]); first | done | (simp only [hji19]; rfl) | rfl | (simp only [ld, le]; rfl)) ?_
       with_reducible refine (impl_field_mod.calls a0 (wrap64 (x12_3 - (wrap64 ((rd l2 x13_3) * (rd x9_1 (ji19)))))) t1154 _ A22.out).mono ?_
       rintro e w' ⟨rfl, ⟨nd, rfl⟩⟩
       refine ⟨_, rfl, ?_⟩
       refine hK.out _ _ ⟨(hcu HB hw1152_0), hHeld.2⟩ (fun hHeld => ?_)
       clear hK K
       refine no_ 59 ?_
       refine pu_ 15 12 (bl 16 65535) HT_ ?_
       refine done_ (done_of HT_.out (by kernel_rfl)) ?_
       try go_wp2
       go_roundg k3
       case measure => have := HK1.out; have := HJ12.out; have := HK3.out; omega
       case rel => exact ⟨(t1154), (wrap64 (x13_3 + 1)), (by first | rfl | (simp; done) | (simp [*]; done)), (by first | rfl | (simp; done) | (simp [*]; done)), H', ⟨by have := HK1.out; have := HJ12.out; have := HK3.out; omega⟩, ⟨by (try simp only [hl9_1]); (with_reducible repeat (first | apply Kd.R_alloc | apply Kd.R_drewN | apply Kd.R_drew)); exact HO_9.out⟩, ⟨uH HB.out⟩⟩
/-! ### impl_field_times: function 110 -/
def impl_field_times.f (k : Nat) (a0 : Int) (l1 : List Int) (a2 : Int) : Option (List Int) := (impl_field_add.f k a0 ([] : List Int) l1 a2).bind fun t1167 => (some t1167)
theorem impl_field_times.mono : ∀ a0 a1 a2 k, LeO (impl_field_times.f k a0 a1 a2) (impl_field_times.f (k + 1) a0 a1 a2) := by
 intro a0 a1 a2 k
 unfold impl_field_times.f
 repeat' first
   | (with_reducible exact impl_field_add.mono _ _ _ _ _)
   | (with_reducible exact LeO.refl _)
   | (with_reducible exact LeO.none _)
   | (with_reducible refine LeO.ite ?_ ?_)
   | (with_reducible refine LeO.bind ?_ (fun _ => ?_))
   | exact impl_field_add.mono _ _ _ _ _
   | exact LeO.none _
   | refine LeO.ite ?_ ?_
   | refine LeO.bind ?_ (fun _ => ?_)
set_option maxHeartbeats 8000000 in
set_option maxRecDepth 100000 in
theorem impl_field_times.calls (k : Nat) (a0 : Int) (A1 : Option Addr) (c1 : Nat) (l1 : List Int) (a2 : Int) (r : List Int) (w : World) (hr1 : Kd.C (Kd.int .i64) w A1 l1.length l1) (hc1 : l1.length ≤ c1) (h : impl_field_times.f k a0 l1 a2 = some r) :
  Calls Try.prog 110 #[.int .i64 a0, .slice A1 l1.length c1, .int .i64 a2] w fun e w' => ∃ v0_ : Value, e = .returned (v0_) ∧ Kd.R (Kd.int .i64) 2 w' w.heap.size (fun _ => True) v0_ r ∧ Below w.heap.size w w' := by
 have HR1 := zA hr1
 have HC1 := zA hc1
 clear hr1 hc1
 have HB := zA (Below.refl w.heap.size w)
 have H : ((impl_field_add.f k a0 ([] : List Int) l1 a2).bind fun t1167 => (some t1167)) = some r := h
 clear h
 replace H := Option.bind_eq_some_iff.mp H
 obtain ⟨t1167, A40, H⟩ := H
 replace H : (some t1167) = some r := H
 have A4 := zA A40
 clear A40
 obtain rfl := Option.some.inj H
 go_enter Try.func110, Try.ntmps110
 go_wp2_with (first | ((with_reducible refine gate_callee (f := 143) rfl ?_); refine gL (some 10) Try.func143 #[.int .i64 a0, .slice none 0 0, .slice A1 l1.length c1, .int .i64 a2] ?_; (refine (impl_field_add.calls k a0 _ _ ([] : List Int) _ _ l1 a2 t1167 _ ?side1 ?side2 ?side3 ?side4 A4.out).mono ?_); (case side1 => exact Kd.C_nil _ _); (case side2 => exact Nat.le_refl _); (case side3 => exact uC HR1.out); (case side4 => exact HC1.out); rintro e w5 ⟨v1168, rfl, ho0, hb⟩; refine ⟨_, rfl, ?_⟩; have HO1169 := zA (Kd.R_lower ho0 (below_size (uH HB.out))); replace HB := xH HB hb; (try clear hb); (try clear hb2); (try clear hk); (try clear hi); (try clear ho0)))
 go_ret
 exact ⟨_, by first | rfl | (simp [errW_none, errW_some] <;> rfl) | (simp [*, errW_none, errW_some] <;> rfl), uR HO1169.out, uH HB.out⟩
/-! ### slices_Reverse_ints: function 142 -/
def slices_Reverse_ints.l0 : Nat → List Int → Int → Int → Option (List Int)
 | 0, _, _, _ => none
 | k + 1, x0, x2, x3 => if x2 < x3 then (if 0 ≤ x3 then (if x3 < (x0.length : Int) then (if 0 ≤ x2 then (if x2 < (x0.length : Int) then (slices_Reverse_ints.l0 k ((x0.set (x2 : Int).toNat (rd x0 x3)).set (x3 : Int).toNat (rd x0 x2)) (wrap64 (x2 + 1)) (wrap64 (x3 - 1))) else (none)) else (none)) else (none)) else (none)) else (some x0)
def slices_Reverse_ints.f (k : Nat) (l0 : List Int) : Option (List Int) := slices_Reverse_ints.l0 k l0 0 (wrap64 ((l0.length : Int) - 1))
theorem slices_Reverse_ints.mono_l : ∀ k, (∀ y0 y1 y2, LeO (slices_Reverse_ints.l0 k y0 y1 y2) (slices_Reverse_ints.l0 (k + 1) y0 y1 y2))
 | 0 => fun _ _ _ r h => by simp [slices_Reverse_ints.l0] at h
 | k + 1 => by
  have ih0 := slices_Reverse_ints.mono_l k
  ·intro y0 y1 y2
   unfold slices_Reverse_ints.l0
   repeat' first
   | (with_reducible exact ih0 _ _ _)
   | (with_reducible exact LeO.refl _)
   | (with_reducible exact LeO.none _)
   | (with_reducible refine LeO.ite ?_ ?_)
   | (with_reducible refine LeO.bind ?_ (fun _ => ?_))
   | exact ih0 _ _ _
   | exact LeO.none _
   | refine LeO.ite ?_ ?_
   | refine LeO.bind ?_ (fun _ => ?_)
theorem slices_Reverse_ints.mono : ∀ a0 k, LeO (slices_Reverse_ints.f k a0) (slices_Reverse_ints.f (k + 1) a0) := by
 intro a0 k
 have ih0 := slices_Reverse_ints.mono_l k
 unfold slices_Reverse_ints.f
 repeat' first
   | (with_reducible exact ih0 _ _ _)
   | (with_reducible exact LeO.refl _)
   | (with_reducible exact LeO.none _)
   | (with_reducible refine LeO.ite ?_ ?_)
   | (with_reducible refine LeO.bind ?_ (fun _ => ?_))
   | exact ih0 _ _ _
   | exact LeO.none _
   | refine LeO.ite ?_ ?_
   | refine LeO.bind ?_ (fun _ => ?_)
def slices_Reverse_ints.T3 : Bool × List (List Nat × List Nat) := (true, [([], []), ([], []), ([], []), ([], []), ([], []), ([], []), ([4, 5], [4, 5]), ([6], [6]), ([], []), ([], []), ([8, 9], [8, 9]), ([10], [10]), ([0, 1, 0, 1, 4, 5, 6, 7, 11], [0, 1]), ([12, 7, 0, 1, 4, 5, 6, 7, 11], [7, 12]), ([2, 3, 0, 1, 2, 3, 4, 5, 6, 7, 8, 9, 10, 11, 12, 13], [2, 3]), ([14, 11, 13, 0, 1, 2, 3, 4, 5, 6, 7, 8, 9, 10, 11, 12, 13], [11, 14])])
def slices_Reverse_ints.B3 : List Nat := [0, 0, 0, 0, 0, 0, 48, 112, 0, 0, 768, 1792, 4083, 8179, 16383, 32767]
theorem slices_Reverse_ints.tab3 : rtab .any (opsOf Try.f142 3) = slices_Reverse_ints.T3 := by kernel_rfl
theorem slices_Reverse_ints.bits3 : waitsOk slices_Reverse_ints.T3.2 slices_Reverse_ints.B3 = true := by kernel_rfl
set_option maxHeartbeats 8000000 in
set_option maxRecDepth 100000 in
theorem slices_Reverse_ints.calls (k : Nat) (P0_ : Nat → Prop) (u9000_ : Value) (l0 : List Int) (r : List Int) (w0 w : World) (hB : Below w0.heap.size w0 w) (ho0 : Kd.R (Kd.int .i64) 2 w w0.heap.size P0_ u9000_ l0) (h : slices_Reverse_ints.f k l0 = some r) :
  Calls Try.prog 142 #[u9000_] w fun e w' => e = .returned (.tuple #[]) ∧ Kd.R (Kd.int .i64) 2 w' w0.heap.size (fun k_ => (P0_ k_ ∨ w.heap.size ≤ k_)) u9000_ r ∧ Below w0.heap.size w0 w' ∧ Kept w w' (fun k_ => P0_ k_) := by
 have HO0 := zA (show Kd.R (Kd.int .i64) 2 w w0.heap.size (fun k_ => (P0_ k_ ∨ w.heap.size ≤ k_)) u9000_ l0 from Kd.R_mono ho0 (fun k_ hk => (.inl hk)))
 have HK := zA (Kept.refl w (fun k_ => P0_ k_))
 have HW0 := zA hB.size
 have HB := zA hB
 clear hB
 have H : (slices_Reverse_ints.l0 k l0 0 (wrap64 ((l0.length : Int) - 1))) = some r := h
 clear h
 have H' := zA H
 clear H
 obtain ⟨Ao2, co2, eo2⟩ := Kd.R_slice HO0.out
 subst eo2
 go_enter Try.func142, Try.ntmps142
 go_wp2
 go_loopg [2, 3] k (fun kq v2 v3 w' => ∃ (x0_1 : List Int) (x2_1 : Int) (x3_1 : Int), v2 = .int .i64 x2_1 ∧ v3 = .int .i64 x3_1 ∧ Aside0 (slices_Reverse_ints.l0 kq x0_1 x2_1 x3_1 = some r) ∧ Aside0 (kq ≤ k) ∧ Aside0 (Kd.R (Kd.int .i64) 2 w' w0.heap.size (fun k_ => (P0_ k_ ∨ w.heap.size ≤ k_)) (.slice Ao2 l0.length co2) x0_1) ∧ Aside0 (Kept w w' (fun k_ => P0_ k_)) ∧ Aside0 (Below w0.heap.size w0 w'))
 case atStart => exact ⟨(l0), (0), (wrap64 ((l0.length : Int) - 1)), (by first | rfl | (simp; done) | (simp [*]; done)), (by first | rfl | (simp; done) | (simp [*]; done)), H', ⟨Nat.le_refl _⟩, ⟨uR HO0.out⟩, ⟨by repeat (first | (with_reducible first | exact HK.out | apply Kept.alloc | apply Kept.drewN | apply Kept.drew) | exact HK.out)⟩, ⟨uH HB.out⟩⟩
 case round =>
  clear H'
  (try clear c1);(try clear p2)
  obtain ⟨x0_1, x2_1, x3_1, rfl, rfl, HA, HK1, HO_0, HK, HB⟩ := hrel
  have hl0_1 := (Kd.R_reads' HO_0.out).1
  rw [hl0_1] at HO_0
  (try simp only [hl0_1])
  cases gk with
  | zero => exact absurd HA.out (by simp [slices_Reverse_ints.l0])
  | succ k1 =>
   have H := HA.out
   clear HA
   simp only [slices_Reverse_ints.l0] at H
   by_cases c3 : x2_1 < x3_1
   rotate_left
   ·rw [if_neg c3] at H
    have c3b0 : decide (x2_1 < x3_1) = false := decide_eq_false c3
    clear c3
    obtain rfl := Option.some.inj H
    go_wp2
    first | go_end0 | ((try simp only [Exit.inBlock, Exit.then]); refine bodyPost_ret (results_none rfl _ _ _) rfl ?_)
    exact ⟨by first | rfl | (simp [errW_none, errW_some] <;> rfl) | (simp [*, errW_none, errW_some] <;> rfl), (by first | exact (uR HO_0.out) | (simp only [hl0_1]; exact (uR HO_0.out))), uH HB.out, by repeat (first | (with_reducible first | exact HK.out | apply Kept.alloc | apply Kept.drewN | apply Kept.drew) | exact HK.out)⟩

   rw [if_pos c3] at H
   have c3b0 : decide (x2_1 < x3_1) = true := decide_eq_true c3
   clear c3
   by_cases c4 : 0 ≤ x3_1
   rotate_left
   ·rw [if_neg c4] at H
    exact absurd H (by simp)
   rw [if_pos c4] at H
   have c4b0 : decide (0 ≤ x3_1) = true := decide_eq_true c4
   clear c4
   by_cases c5 : x3_1 < (x0_1.length : Int)
   rotate_left
   ·rw [if_neg c5] at H
    exact absurd H (by simp)
   rw [if_pos c5] at H
   have c5b0 : decide (x3_1 < (x0_1.length : Int)) = true := decide_eq_true c5
   clear c5
   by_cases c6 : 0 ≤ x2_1
   rotate_left
   ·rw [if_neg c6] at H
    exact absurd H (by simp)
   rw [if_pos c6] at H
   have c6b0 : decide (0 ≤ x2_1) = true := decide_eq_true c6
   clear c6
   by_cases c7 : x2_1 < (x0_1.length : Int)
   rotate_left
   ·rw [if_neg c7] at H
    exact absurd H (by simp)
   rw [if_pos c7] at H
   have c7b0 : decide (x2_1 < (x0_1.length : Int)) = true := decide_eq_true c7
   clear c7
   obtain ⟨y1161, hy1161⟩ : ∃ y_ : List Int, y_ = (x0_1.set (x2_1 : Int).toNat (rd x0_1 x3_1)) := ⟨_, rfl⟩
   replace H : (slices_Reverse_ints.l0 k1 (y1161.set (x3_1 : Int).toNat (rd x0_1 x2_1)) (wrap64 (x2_1 + 1)) (wrap64 (x3_1 - 1))) = some r := by first | (rw [hy1161]; exact H) | exact H
   have Ny1161 := zA hy1161
   clear hy1161
   obtain ⟨y1162, hy1162⟩ : ∃ y_ : List Int, y_ = (y1161.set (x3_1 : Int).toNat (rd x0_1 x2_1)) := ⟨_, rfl⟩
   replace H : (slices_Reverse_ints.l0 k1 y1162 (wrap64 (x2_1 + 1)) (wrap64 (x3_1 - 1))) = some r := by first | (rw [hy1162]; exact H) | exact H
   have Ny1162 := zA hy1162
   clear hy1162
   have H' := zA H
   clear H
   try go_wp2
   replace HO_0 := zA (Kd.R_drew HO_0.out)
   replace HK := zA (Kept.drew HK.out)
   replace HB := zA (below_drew1 HB.out)
   have p1159 : 0 ≤ (x3_1 : Int) := of_decide_eq_true (by first | (with_reducible assumption) | assumption)
   have q1159 : x3_1 < (x0_1.length : Int) := of_decide_eq_true (by first | (with_reducible assumption) | assumption)
   obtain ⟨ad1159, e1159, hx1159_0⟩ := Kd.at_int (Kd.R_reads' HO_0.out).2.2 x3_1 p1159 q1159
   cases e1159
   replace p1159 := eq_true p1159
   replace q1159 := eq_true q1159
   have p1160 : 0 ≤ (x2_1 : Int) := of_decide_eq_true (by first | (with_reducible assumption) | assumption)
   have q1160 : x2_1 < (x0_1.length : Int) := of_decide_eq_true (by first | (with_reducible assumption) | assumption)
   obtain ⟨ad1160, e1160, hx1160_0⟩ := Kd.at_int (Kd.R_reads' HO_0.out).2.2 x2_1 p1160 q1160
   obtain rfl : ad1159 = ad1160 := (by injection e1160)
   replace p1160 := eq_true p1160
   replace q1160 := eq_true q1160
   have p8 : 0 ≤ (x2_1 : Int) := of_decide_eq_true (by first | (with_reducible assumption) | assumption)
   have q8 : (x2_1 : Int) < ((x0_1.length : Int) : Int) := of_decide_eq_true (by first | (with_reducible assumption) | assumption)
   obtain ⟨go8, co8, eo8, gb8, gl8, cl8, HG8⟩ := Kd.R_form HO_0.out (by omega)
   (first | cases eo8 | (injection eo8 with ea_ en_ ec_; (first | subst ea_ | (injection ea_ with ea_; subst ea_)); subst ec_; clear en_))
   have GB8 := zA gb8; have := geI GB8
   have GG8 := zA HG8
   clear gb8 gl8 HG8
   have HMgo8 := zA (show (P0_ go8 ∨ w.heap.size ≤ go8) from (HO_0.out.1 _ rfl))
   (first | simp only [add_plain] at hx1159_0 | skip)
   (first | simp only [add_plain] at hx1160_0 | skip)
   obtain ⟨hx8_0, hf8_0⟩ := Kd.R_celln 0 HO_0.out (x2_1 : Int) p8 q8
   replace p8 := eq_true p8
   replace q8 := eq_true q8
   have HP11 := Kd.R_putn HO_0.out (x2_1 : Int) (rd x0_1 x3_1)
   rw [← Ny1161.out] at HP11
   have HQ11 := zA HP11
   clear HP11
   have p9 : 0 ≤ (x3_1 : Int) := of_decide_eq_true (by first | (with_reducible assumption) | assumption)
   have q9 : (x3_1 : Int) < ((x0_1.length : Int) : Int) := of_decide_eq_true (by first | (with_reducible assumption) | assumption)
   obtain ⟨hx9_0, hf9_0⟩ := Kd.R_celln 0 HQ11.out (x3_1 : Int) p9 q9
   replace p9 := eq_true p9
   replace q9 := eq_true q9
   have HP12 := Kd.R_putn HQ11.out (x3_1 : Int) (rd x0_1 x2_1)
   rw [← Ny1162.out] at HP12
   have HQ12 := zA HP12
   clear HP12
   refine start_ (n := 16) (S := fun w' => w'.cell? ⟨go8, (x3_1).toNat, none⟩ = some (.int .i64 (rd x0_1 x3_1)) ∧ w'.cell? ⟨go8, (x2_1).toNat, none⟩ = some (.int .i64 (rd x0_1 x2_1))) (ds := [13, 15]) #[false, false, false, false, false, false, false, false, false, false, false, false, false, false, false, false] (by kernel_rfl) rfl rfl ⟨hx1159_0, hx1160_0⟩ (fun hHeld => ?_); refine with_tabW slices_Reverse_ints.tab3 slices_Reverse_ints.bits3 (fun HT_ HW_ => ?_)
   generalize wr.drew = w10 at HO_0 HK HB GG8 HQ11 HQ12 hf8_0 hf9_0 hx1159_0 hx1160_0 hx8_0 hx9_0 hHeld ⊢
   refine pu_ 0 14 (bl 16 1) HT_ ?_
   refine pu_ 1 15 (bl 16 3) HT_ ?_
   refine pu_ 2 16 (bl 16 7) HT_ ?_
   refine pu_ 3 17 (bl 16 15) HT_ ?_
   refine pu_ 4 18 (bl 16 31) HT_ ?_
   refine pu_ 5 19 (bl 16 63) HT_ ?_
   refine pu_ 6 20 (bl 16 127) HT_ ?_
   refine pu_ 8 22 (bl 16 383) HT_ ?_
   refine pu_ 9 23 (bl 16 895) HT_ ?_
   refine pu_ 10 24 (bl 16 1919) HT_ ?_
   refine ta_ 7 21 (bl 16 2047) HT_ HW_ hHeld ?_
   refine ta_ 11 25 (bl 16 4095) HT_ HW_ hHeld ?_
   refine pu_ 12 26 (bl 16 8191) HT_ ?_
   refine last_ (i := 13) (N := none) (bl 16 16383) rfl rfl (one_of HT_.out (by kernel_rfl)) (by decide) (fun K hK => ?_)
   refine skip_ (w1 := ?_) (by rfl) rfl ?_ ?_
   rotate_left
   ·go_simp
    rfl
   refine hK.out _ _ ?_
   clear hK K
   refine pu_ 14 27 (bl 16 32767) HT_ ?_
   refine last_ (i := 15) (N := none) (bl 16 65535) rfl rfl (one_of HT_.out (by kernel_rfl)) (by decide) (fun K hK => ?_)
   refine skip_ (w1 := ?_) (by rfl) rfl ?_ ?_
   rotate_left
   ·go_simp
    rfl
   refine hK.out _ _ ?_
   clear hK K
   refine done_ (done_of HT_.out (by kernel_rfl)) ?_
   try go_wp2
   (try simp only [← hl0_1])
   go_roundg k1
   case measure => have := HK1.out; omega
   case rel => exact ⟨(y1162), (wrap64 (x2_1 + 1)), (wrap64 (x3_1 - 1)), (by first | rfl | (simp; done) | (simp [*]; done)), (by first | rfl | (simp; done) | (simp [*]; done)), H', ⟨by have := HK1.out; omega⟩, ⟨by (try simp only [hl0_1]); (with_reducible repeat (first | apply Kd.R_alloc | apply Kd.R_drewN | apply Kd.R_drew)); exact HQ12.out⟩, ⟨by repeat (first | (with_reducible first | exact HK.out | apply Kept.alloc | apply Kept.drewN | apply Kept.drew | refine Kept.setCell ?_ HMgo8.out _ | refine Kept.setCell ?_ HMgo8.out _) | exact HK.out)⟩, ⟨uH HB.out⟩⟩
/-! ### impl_reversed: function 109 -/
def impl_reversed.f (k : Nat) (l0 : List Int) : Option (List Int) := (slices_Clone_ints.f l0).bind fun t1163 => ((slices_Reverse_ints.f k t1163).bind fun t1166 => (some t1166))
theorem impl_reversed.mono : ∀ a0 k, LeO (impl_reversed.f k a0) (impl_reversed.f (k + 1) a0) := by
 intro a0 k
 unfold impl_reversed.f
 repeat' first
   | (with_reducible exact slices_Reverse_ints.mono _ _)
   | (with_reducible exact LeO.refl _)
   | (with_reducible exact LeO.none _)
   | (with_reducible refine LeO.ite ?_ ?_)
   | (with_reducible refine LeO.bind ?_ (fun _ => ?_))
   | exact slices_Reverse_ints.mono _ _
   | exact LeO.none _
   | refine LeO.ite ?_ ?_
   | refine LeO.bind ?_ (fun _ => ?_)
set_option maxHeartbeats 8000000 in
set_option maxRecDepth 100000 in
theorem impl_reversed.calls (k : Nat) (A0 : Option Addr) (c0 : Nat) (l0 : List Int) (r : List Int) (w : World) (hr0 : Kd.C (Kd.int .i64) w A0 l0.length l0) (hc0 : l0.length ≤ c0) (h : impl_reversed.f k l0 = some r) :
  Calls Try.prog 109 #[.slice A0 l0.length c0] w fun e w' => ∃ v0_ : Value, e = .returned (v0_) ∧ Kd.R (Kd.int .i64) 2 w' w.heap.size (fun _ => True) v0_ r ∧ Below w.heap.size w w' := by
 have HR0 := zA hr0
 have HC0 := zA hc0
 clear hr0 hc0
 have HB := zA (Below.refl w.heap.size w)
 have H : ((slices_Clone_ints.f l0).bind fun t1163 => ((slices_Reverse_ints.f k t1163).bind fun t1166 => (some t1166))) = some r := h
 clear h
 replace H := Option.bind_eq_some_iff.mp H
 obtain ⟨t1163, A20, H⟩ := H
 replace H : ((slices_Reverse_ints.f k t1163).bind fun t1166 => (some t1166)) = some r := H
 have A2 := zA A20
 clear A20
 replace H := Option.bind_eq_some_iff.mp H
 obtain ⟨t1166, A30, H⟩ := H
 replace H : (some t1166) = some r := H
 have A3 := zA A30
 clear A30
 obtain rfl := Option.some.inj H
 go_enter Try.func109, Try.ntmps109
 go_wp2_with (first | ((with_reducible refine gate_callee (f := 140) rfl ?_); refine gL (some 5) Try.func140 #[.slice A0 l0.length c0] ?_; (with_reducible refine (slices_Clone_ints.calls _ _ l0 t1163 _ ?side1 ?side2 A2.out).mono ?_); (case side1 => exact uC HR0.out); (case side2 => exact HC0.out); rintro e w4 ⟨v1164, rfl, ho0, hb⟩; refine ⟨_, rfl, ?_⟩; have HO1165 := zA (Kd.R_lower ho0 (below_size (uH HB.out))); replace HB := xH HB hb; (try clear hb); (try clear hb2); (try clear hk); (try clear hi); (try clear ho0); obtain ⟨Ao5, co5, eo5⟩ := Kd.R_slice HO1165.out; subst eo5) | ((with_reducible refine gate_callee (f := 142) rfl ?_); refine gL (some 7) Try.func142 #[.slice Ao5 t1163.length co5] ?_; (with_reducible refine (slices_Reverse_ints.calls k (fun k_ => some k_ = (.slice Ao5 t1163.length co5 : Value).ownBlock) (.slice Ao5 t1163.length co5) t1163 t1166 w _ ?side1 ?side2 A3.out).mono ?_); (case side1 => repeat (first | (with_reducible first | exact HB.out | apply below_alloc | apply pw_below_drewN | apply below_drew1) | exact HB.out)); (case side2 => exact Kd.R_tight rfl HO1165.out); rintro e w6 ⟨rfl, hy0, hb, hkp⟩; refine ⟨_, rfl, ?_⟩; replace HO1165 := zA (Kd.R_reok rfl hy0 (fun k_ e_ => HO1165.out.1 k_ e_)); replace HB := zA (hb); (try clear hb); (try clear hkp); (try clear hy0)))
 go_ret
 exact ⟨_, by first | rfl | (simp [errW_none, errW_some] <;> rfl) | (simp [*, errW_none, errW_some] <;> rfl), uR HO1165.out, uH HB.out⟩
/-! ### spec_l05Reverse: function 107 -/
def spec_l05Reverse.l0 : Nat → List Int → List Int → Int → Option (List Int)
 | 0, _, _, _ => none
 | k + 1, x0, x3, x4 => if x4 ≥ 0 then (if 0 ≤ x4 then (if x4 < (x0.length : Int) then (if x3.length < 17592186044416 then (spec_l05Reverse.l0 k x0 (x3 ++ [rd x0 x4]) (wrap64 (x4 - 1))) else (none)) else (none)) else (none)) else (some x3)
def spec_l05Reverse.f (k : Nat) (l0 : List Int) : Option (List Int) := spec_l05Reverse.l0 k l0 (([] : List Int)) (wrap64 ((l0.length : Int) - 1))
theorem spec_l05Reverse.mono_l : ∀ k, (∀ y0 y1 y2, LeO (spec_l05Reverse.l0 k y0 y1 y2) (spec_l05Reverse.l0 (k + 1) y0 y1 y2))
 | 0 => fun _ _ _ r h => by simp [spec_l05Reverse.l0] at h
 | k + 1 => by
  have ih0 := spec_l05Reverse.mono_l k
  ·intro y0 y1 y2
   unfold spec_l05Reverse.l0
   repeat' first
   | (with_reducible exact ih0 _ _ _)
   | (with_reducible exact LeO.refl _)
   | (with_reducible exact LeO.none _)
   | (with_reducible refine LeO.ite ?_ ?_)
   | (with_reducible refine LeO.bind ?_ (fun _ => ?_))
   | exact ih0 _ _ _
   | exact LeO.none _
   | refine LeO.ite ?_ ?_
   | refine LeO.bind ?_ (fun _ => ?_)
theorem spec_l05Reverse.mono : ∀ a0 k, LeO (spec_l05Reverse.f k a0) (spec_l05Reverse.f (k + 1) a0) := by
 intro a0 k
 have ih0 := spec_l05Reverse.mono_l k
 unfold spec_l05Reverse.f
 repeat' first
   | (with_reducible exact ih0 _ _ _)
   | (with_reducible exact LeO.refl _)
   | (with_reducible exact LeO.none _)
   | (with_reducible refine LeO.ite ?_ ?_)
   | (with_reducible refine LeO.bind ?_ (fun _ => ?_))
   | exact ih0 _ _ _
   | exact LeO.none _
   | refine LeO.ite ?_ ?_
   | refine LeO.bind ?_ (fun _ => ?_)
set_option maxHeartbeats 8000000 in
set_option maxRecDepth 100000 in
theorem spec_l05Reverse.calls (k : Nat) (A0 : Option Addr) (c0 : Nat) (l0 : List Int) (r : List Int) (w : World) (hr0 : Kd.C (Kd.int .i64) w A0 l0.length l0) (hc0 : l0.length ≤ c0) (h : spec_l05Reverse.f k l0 = some r) :
  Calls Try.prog 107 #[.slice A0 l0.length c0] w fun e w' => ∃ v0_ : Value, e = .returned (v0_) ∧ Kd.R (Kd.int .i64) 2 w' w.heap.size (fun _ => True) v0_ r ∧ Below w.heap.size w w' := by
 have HR0 := zA hr0
 have HC0 := zA hc0
 clear hr0 hc0
 have HB := zA (Below.refl w.heap.size w)
 have H : (spec_l05Reverse.l0 k l0 (([] : List Int)) (wrap64 ((l0.length : Int) - 1))) = some r := h
 clear h
 obtain ⟨y1115, hy1115⟩ : ∃ y_ : List Int, y_ = (([] : List Int)) := ⟨_, rfl⟩
 replace H : (spec_l05Reverse.l0 k l0 y1115 (wrap64 ((l0.length : Int) - 1))) = some r := by first | (rw [hy1115]; exact H) | exact H
 have Ny1115 := zA hy1115
 clear hy1115
 have H' := zA H
 clear H
 go_enter Try.func107, Try.ntmps107
 go_wp2_with (first | ((with_reducible refine gate_dst (N := 5) rfl ?_); refine Kd.R_lit (Kd.int .i64) _ 2 ?hg (N := 5) ?hd (xs := ([] : List Int)) (inner := []) (ok := fun _ => True) (okp := fun _ => True) ?hr ?hp (fun _ hk => hk) trivial (Below.refl _ _) (Nat.le_refl _) (by simp) ?_; (case hd => rfl); (case hg => rfl); (case hr => first | (go_simp; done) | (go_simp; rfl)); (case hp => exact (Reps.none _ _)); intro v1116 w2 ho3 hb hg_ hnew_; clear hg_ hnew_; (first | rw [← Ny1115.out] at ho3 | (simp only [Int.reduceToNat] at ho3; rw [← Ny1115.out] at ho3)); have HO1117 := zA (Kd.R_lower ho3 (below_size (uH HB.out))); replace HB := xH HB hb; clear hb ho3))
 go_loopg [3, 4] k (fun kq v3 v4 w' => ∃ (x3_1 : List Int) (x4_1 : Int), v4 = .int .i64 x4_1 ∧ Aside0 (spec_l05Reverse.l0 kq l0 x3_1 x4_1 = some r) ∧ Aside0 (kq ≤ k) ∧ Aside0 (Kd.R (Kd.int .i64) 2 w' w.heap.size (fun _ => True) v3 x3_1) ∧ Aside0 (Below w.heap.size w w'))
 case atStart => exact ⟨(y1115), (wrap64 ((l0.length : Int) - 1)), (by first | rfl | (simp; done) | (simp [*]; done)), H', ⟨Nat.le_refl _⟩, ⟨uR HO1117.out⟩, ⟨uH HB.out⟩⟩
 case round =>
  clear H'
  (try clear c1);(try clear p2)
  obtain ⟨x3_1, x4_1, rfl, HA, HK1, HO_3, HB⟩ := hrel
  cases gk with
  | zero => exact absurd HA.out (by simp [spec_l05Reverse.l0])
  | succ k1 =>
   have H := HA.out
   clear HA
   simp only [spec_l05Reverse.l0] at H
   by_cases c4 : x4_1 ≥ 0
   rotate_left
   ·rw [if_neg c4] at H
    have c4b0 : decide (0 ≤ x4_1) = false := decide_eq_false c4
    clear c4
    obtain rfl := Option.some.inj H
    go_wp2
    go_ret
    exact ⟨_, by first | rfl | (simp [errW_none, errW_some] <;> rfl) | (simp [*, errW_none, errW_some] <;> rfl), uR HO_3.out, uH HB.out⟩

   rw [if_pos c4] at H
   have c4b0 : decide (0 ≤ x4_1) = true := decide_eq_true c4
   clear c4
   by_cases c5 : 0 ≤ x4_1
   rotate_left
   ·rw [if_neg c5] at H
    exact absurd H (by simp)
   rw [if_pos c5] at H
   have c5b0 : decide (0 ≤ x4_1) = true := decide_eq_true c5
   clear c5
   by_cases c6 : x4_1 < (l0.length : Int)
   rotate_left
   ·rw [if_neg c6] at H
    exact absurd H (by simp)
   rw [if_pos c6] at H
   have c6b0 : decide (x4_1 < (l0.length : Int)) = true := decide_eq_true c6
   clear c6
   by_cases c7 : x3_1.length < 17592186044416
   rotate_left
   ·rw [if_neg c7] at H
    exact absurd H (by simp)
   rw [if_pos c7] at H
   have LMc7 := zA c7
   clear c7
   obtain ⟨y1119, hy1119⟩ : ∃ y_ : List Int, y_ = (x3_1 ++ [rd l0 x4_1]) := ⟨_, rfl⟩
   replace H : (spec_l05Reverse.l0 k1 l0 y1119 (wrap64 (x4_1 - 1))) = some r := by first | (rw [hy1119]; exact H) | exact H
   have Ny1119 := zA hy1119
   clear hy1119
   have H' := zA H
   clear H
   have p1118 : 0 ≤ (x4_1 : Int) := of_decide_eq_true (by first | (with_reducible assumption) | assumption)
   have q1118 : x4_1 < (l0.length : Int) := of_decide_eq_true (by first | (with_reducible assumption) | assumption)
   obtain ⟨ad1118, e1118, hx1118_0⟩ := Kd.at_int HR0.out x4_1 p1118 q1118
   cases e1118
   replace hx1118_0 := hc HB hx1118_0
   replace p1118 := eq_true p1118
   replace q1118 := eq_true q1118
   go_wp2_with (first | ((with_reducible refine gate_builtin (b := .append) (xs := #[.tmp 13, .tmp 18]) rfl ?_); at_builtin; refine Kd.R_append (Kd.int .i64) (w0 := w) w.heap.size rfl (.tmp 13) (.tmp 18) 22 2 (.int .i64 0) 8 rfl Try.underlying22 info2 rfl (by decide) (by omega) u3 x3_1 (rd l0 x4_1) [.int .i64 (rd l0 x4_1)] (fun _ => True) (fun _ => False) rfl rfl ?aP (fun _ hk => hk.elim) ?aF ?aO ?aB ?aS ?aL ?_; (case aP => exact rfl); (case aB => exact (uH HB.out)); (case aF => exact (fun _ _ => trivial)); (case aO => exact (uR HO_3.out)); (case aS => exact (below_size (uH HB.out))); (case aL => have := LMc7.out; omega); intro v1120 w8 ho hb hg hat; rw [← Ny1119.out] at ho; replace HB := zA (hb); have HO1121 := zA (ho); clear HO_3 ho hb hg hat))
   go_roundg k1
   case measure => have := HK1.out; omega
   case rel => exact ⟨(y1119), (wrap64 (x4_1 - 1)), (by first | rfl | (simp; done) | (simp [*]; done)), H', ⟨by have := HK1.out; omega⟩, ⟨uR HO1121.out⟩, ⟨uH HB.out⟩⟩
end Go.Proofs.Ytokkabgkjhpecaa.Pr
