/- Texts of this session in one: what functions of the program compute, and plain facts of it, under the conditions that each theorem names. -/
import Derived.Test.YtokkabgkjhpecaaKC01
import Derived.Test.YtokkabgkjhpecaaKC04
import Derived.Test.YtokkabgkjhpecaaKC09
/- Printed by a program of this session out of the translation: what these functions of the program compute, under the conditions that each theorem names. -/
namespace Go.Proofs.Ytokkabgkjhpecaa.Pr
open Go.RowKit Go.Proofs.YtokkabgkjhpecaaW.PrintWords Go.Proofs.YtokkabgkjhpecaaW.PrintLast Go.Proofs.YtokkabgkjhpecaaW.PrintMore
attribute [local go_sem] max2_int min2_int max_two min_two max_three min_three max_four min_four   -- for this text's walks alone
set_option linter.unusedVariables false
set_option linter.unusedSimpArgs false

/-! ### impl_field_mul: function 89 -/
def impl_field_mul.f (a0 : Int) (a1 : Int) (a2 : Int) : Option (Int) := (impl_field_mod.f a0 (wrap64 (a1 * a2))).bind fun t635 => (some t635)
set_option maxHeartbeats 8000000 in
set_option maxRecDepth 100000 in
theorem impl_field_mul.calls (a0 : Int) (a1 : Int) (a2 : Int) (r : Int) (w : World) (h : impl_field_mul.f a0 a1 a2 = some r) :
  Calls Try.prog 89 #[.int .i64 a0, .int .i64 a1, .int .i64 a2] w fun e w' => e = .returned (.int .i64 r) ∧ Drawn0 w w' := by
 have H : ((impl_field_mod.f a0 (wrap64 (a1 * a2))).bind fun t635 => (some t635)) = some r := h
 clear h
 replace H := Option.bind_eq_some_iff.mp H
 obtain ⟨t635, A40, H⟩ := H
 replace H : (some t635) = some r := H
 have A4 := zA A40
 clear A40
 obtain rfl := Option.some.inj H
 go_enter Try.func89, Try.ntmps89
 go_wp2_with (first | ((with_reducible refine gate_callee (f := 88) rfl ?_); refine goesL_ (some 11) rfl rfl Try.func88 (by kernel_rfl) rfl #[.int .i64 a0, .int .i64 (wrap64 (a1 * a2))] rfl (by (try simp only [la, lb, lc]); first | done | rfl | (simp only [ld, le]; rfl)) ?_; (with_reducible refine (impl_field_mod.calls a0 (wrap64 (a1 * a2)) t635 _ A4.out).mono ?_); rintro e w' ⟨rfl, ⟨nd, rfl⟩⟩; refine ⟨_, rfl, ?_⟩))
 go_ret
 exact ⟨by first | rfl | (simp; done) | (simp [*]; done), by repeat (first | exact Drawn0.refl _ | apply Drawn0.step)⟩

end Go.Proofs.Ytokkabgkjhpecaa.Pr
/- Printed by a program of this session out of the translation: what these functions of the program compute, under the conditions that each theorem names. -/
namespace Go.Proofs.Ytokkabgkjhpecaa.Pr
open Go.RowKit Go.Proofs.YtokkabgkjhpecaaW.PrintWords Go.Proofs.YtokkabgkjhpecaaW.PrintLast Go.Proofs.YtokkabgkjhpecaaW.PrintMore
attribute [local go_sem] max2_int min2_int max_two min_two max_three min_three max_four min_four   -- for this text's walks alone
set_option linter.unusedVariables false
set_option linter.unusedSimpArgs false

/-! ### impl_field_power: function 158 -/
def impl_field_power.l0 : Nat → Int → Int → Int → Int → Option (Int)
 | 0, _, _, _, _ => none
 | k + 1, x0, x1, x2, x7 => if x2 > 0 then (if (Int.tmod x2 2) = 1 then ((impl_field_mul.f x0 x7 x1).bind fun t645 => ((impl_field_mul.f x0 x1 x1).bind fun t646 => (impl_field_power.l0 k x0 t646 (wrap64 (Int.tdiv x2 2)) t645))) else ((impl_field_mul.f x0 x1 x1).bind fun t647 => (impl_field_power.l0 k x0 t647 (wrap64 (Int.tdiv x2 2)) x7))) else (some x7)
def impl_field_power.f (k : Nat) (a0 : Int) (a1 : Int) (a2 : Int) : Option (Int) := (impl_field_mod.f a0 1).bind fun t644 => (impl_field_power.l0 k a0 a1 a2 t644)
theorem impl_field_power.mono_l : ∀ k, (∀ y0 y1 y2 y3, LeO (impl_field_power.l0 k y0 y1 y2 y3) (impl_field_power.l0 (k + 1) y0 y1 y2 y3))
 | 0 => fun _ _ _ _ r h => by simp [impl_field_power.l0] at h
 | k + 1 => by
  have ih0 := impl_field_power.mono_l k
  ·intro y0 y1 y2 y3
   unfold impl_field_power.l0
   repeat' first
   | (with_reducible exact ih0 _ _ _ _)
   | (with_reducible exact LeO.refl _)
   | (with_reducible exact LeO.none _)
   | (with_reducible refine LeO.ite ?_ ?_)
   | (with_reducible refine LeO.bind ?_ (fun _ => ?_))
   | exact ih0 _ _ _ _
   | exact LeO.none _
   | refine LeO.ite ?_ ?_
   | refine LeO.bind ?_ (fun _ => ?_)
theorem impl_field_power.mono : ∀ a0 a1 a2 k, LeO (impl_field_power.f k a0 a1 a2) (impl_field_power.f (k + 1) a0 a1 a2) := by
 intro a0 a1 a2 k
 have ih0 := impl_field_power.mono_l k
 unfold impl_field_power.f
 repeat' first
   | (with_reducible exact ih0 _ _ _ _)
   | (with_reducible exact LeO.refl _)
   | (with_reducible exact LeO.none _)
   | (with_reducible refine LeO.ite ?_ ?_)
   | (with_reducible refine LeO.bind ?_ (fun _ => ?_))
   | exact ih0 _ _ _ _
   | exact LeO.none _
   | refine LeO.ite ?_ ?_
   | refine LeO.bind ?_ (fun _ => ?_)
set_option maxHeartbeats 8000000 in
set_option maxRecDepth 100000 in
theorem impl_field_power.calls (k : Nat) (a0 : Int) (a1 : Int) (a2 : Int) (r : Int) (w : World) (h : impl_field_power.f k a0 a1 a2 = some r) :
  Calls Try.prog 158 #[.int .i64 a0, .int .i64 a1, .int .i64 a2] w fun e w' => e = .returned (.int .i64 r) ∧ Drawn0 w w' := by
 have H : ((impl_field_mod.f a0 1).bind fun t644 => (impl_field_power.l0 k a0 a1 a2 t644)) = some r := h
 clear h
 replace H := Option.bind_eq_some_iff.mp H
 obtain ⟨t644, A40, H⟩ := H
 replace H : (impl_field_power.l0 k a0 a1 a2 t644) = some r := H
 have A4 := zA A40
 clear A40
 have H' := zA H
 clear H
 go_enter Try.func158, Try.ntmps158
 go_wp2_with (first | ((with_reducible refine gate_callee (f := 88) rfl ?_); refine goesL_ (some 9) rfl rfl Try.func88 (by kernel_rfl) rfl #[.int .i64 a0, .int .i64 1] rfl (by (try simp only [la, lb, lc]); first | done | rfl | (simp only [ld, le]; rfl)) ?_; (with_reducible refine (impl_field_mod.calls a0 1 t644 _ A4.out).mono ?_); rintro e w' ⟨rfl, ⟨nd, rfl⟩⟩; refine ⟨_, rfl, ?_⟩))
 go_loopg [1, 2, 7] k (fun kq v1 v2 v7 w' => ∃ (x1_1 : Int) (x2_1 : Int) (x7_1 : Int), v1 = .int .i64 x1_1 ∧ v2 = .int .i64 x2_1 ∧ v7 = .int .i64 x7_1 ∧ Aside0 (impl_field_power.l0 kq a0 x1_1 x2_1 x7_1 = some r) ∧ Aside0 (kq ≤ k) ∧ Drawn0 w w')
 case atStart => exact ⟨(a1), (a2), (t644), (by first | rfl | (simp; done) | (simp [*]; done)), (by first | rfl | (simp; done) | (simp [*]; done)), (by first | rfl | (simp; done) | (simp [*]; done)), H', ⟨Nat.le_refl _⟩, by repeat (first | exact Drawn0.refl _ | apply Drawn0.step)⟩
 case round =>
  clear H'
  try clear c1
  try clear p2
  obtain ⟨x1_1, x2_1, x7_1, rfl, rfl, rfl, HA, HK1, ⟨m1, rfl⟩⟩ := hrel
  cases gk with
  | zero => exact absurd HA.out (by simp [impl_field_power.l0])
  | succ k1 =>
   have H := HA.out
   clear HA
   simp only [impl_field_power.l0] at H
   by_cases c5 : x2_1 > 0
   ·rw [if_pos c5] at H
    have c5b0 : decide (0 < x2_1) = true := decide_eq_true c5
    clear c5
    by_cases c6 : (Int.tmod x2_1 2) = 1
    ·rw [if_pos c6] at H
     have c6b0 : ((Int.tmod x2_1 2) == 1) = true := beq_iff_eq.mpr c6
     have c6b1 : ((Int.tmod x2_1 2) != 1) = false := bne_eq_false_iff_eq.mpr c6
     clear c6
     replace H := Option.bind_eq_some_iff.mp H
     obtain ⟨t645, A70, H⟩ := H
     replace H : ((impl_field_mul.f a0 x1_1 x1_1).bind fun t646 => (impl_field_power.l0 k1 a0 t646 (wrap64 (Int.tdiv x2_1 2)) t645)) = some r := H
     have A7 := zA A70
     clear A70
     replace H := Option.bind_eq_some_iff.mp H
     obtain ⟨t646, A80, H⟩ := H
     replace H : (impl_field_power.l0 k1 a0 t646 (wrap64 (Int.tdiv x2_1 2)) t645) = some r := H
     have A8 := zA A80
     clear A80
     have H' := zA H
     clear H
     go_wp2_with (first | ((with_reducible refine gate_callee (f := 89) rfl ?_); refine goesL_ (some 20) rfl rfl Try.func89 (by kernel_rfl) rfl #[.int .i64 a0, .int .i64 x7_1, .int .i64 x1_1] rfl (by (try simp only [la, lb, lc]); first | done | rfl | (simp only [ld, le]; rfl)) ?_; (with_reducible refine (impl_field_mul.calls a0 x7_1 x1_1 t645 _ A7.out).mono ?_); rintro e w' ⟨rfl, ⟨nd, rfl⟩⟩; refine ⟨_, rfl, ?_⟩) | ((with_reducible refine gate_callee (f := 89) rfl ?_); refine goesL_ (some 24) rfl rfl Try.func89 (by kernel_rfl) rfl #[.int .i64 a0, .int .i64 x1_1, .int .i64 x1_1] rfl (by (try simp only [la, lb, lc]); first | done | rfl | (simp only [ld, le]; rfl)) ?_; (with_reducible refine (impl_field_mul.calls a0 x1_1 x1_1 t646 _ A8.out).mono ?_); rintro e w' ⟨rfl, ⟨nd, rfl⟩⟩; refine ⟨_, rfl, ?_⟩))
     go_roundg k1
     case measure => have := HK1.out; omega
     case rel => exact ⟨(t646), (wrap64 (Int.tdiv x2_1 2)), (t645), (by first | rfl | (simp; done) | (simp [*]; done)), (by first | rfl | (simp; done) | (simp [*]; done)), (by first | rfl | (simp; done) | (simp [*]; done)), H', ⟨by have := HK1.out; omega⟩, by repeat (first | exact Drawn0.refl _ | apply Drawn0.step)⟩
    ·rw [if_neg c6] at H
     have c6b0 : ((Int.tmod x2_1 2) == 1) = false := beq_eq_false_iff_ne.mpr c6
     have c6b1 : ((Int.tmod x2_1 2) != 1) = true := bne_iff_ne.mpr c6
     replace H := Option.bind_eq_some_iff.mp H
     obtain ⟨t647, A90, H⟩ := H
     replace H : (impl_field_power.l0 k1 a0 t647 (wrap64 (Int.tdiv x2_1 2)) x7_1) = some r := H
     have A9 := zA A90
     clear A90
     have H' := zA H
     clear H
     go_wp2_with (first | ((with_reducible refine gate_callee (f := 89) rfl ?_); refine goesL_ (some 24) rfl rfl Try.func89 (by kernel_rfl) rfl #[.int .i64 a0, .int .i64 x1_1, .int .i64 x1_1] rfl (by (try simp only [la, lb, lc]); first | done | rfl | (simp only [ld, le]; rfl)) ?_; (with_reducible refine (impl_field_mul.calls a0 x1_1 x1_1 t647 _ A9.out).mono ?_); rintro e w' ⟨rfl, ⟨nd, rfl⟩⟩; refine ⟨_, rfl, ?_⟩))
     go_roundg k1
     case measure => have := HK1.out; omega
     case rel => exact ⟨(t647), (wrap64 (Int.tdiv x2_1 2)), (x7_1), (by first | rfl | (simp; done) | (simp [*]; done)), (by first | rfl | (simp; done) | (simp [*]; done)), (by first | rfl | (simp; done) | (simp [*]; done)), H', ⟨by have := HK1.out; omega⟩, by repeat (first | exact Drawn0.refl _ | apply Drawn0.step)⟩
   ·rw [if_neg c5] at H
    have c5b0 : decide (0 < x2_1) = false := decide_eq_false c5
    clear c5
    obtain rfl := Option.some.inj H
    go_wp2
    go_ret
    exact ⟨by first | rfl | (simp; done) | (simp [*]; done), by repeat (first | exact Drawn0.refl _ | apply Drawn0.step)⟩

end Go.Proofs.Ytokkabgkjhpecaa.Pr
/- Printed by a program of this session out of the translation: what these functions of the program compute, under the conditions that each theorem names. -/
namespace Go.Proofs.Ytokkabgkjhpecaa.Pr
open Go.RowKit Go.Proofs.YtokkabgkjhpecaaW.PrintWords Go.Proofs.YtokkabgkjhpecaaW.PrintLast Go.Proofs.YtokkabgkjhpecaaW.PrintMore
attribute [local go_sem] max2_int min2_int max_two min_two max_three min_three max_four min_four   -- for this text's walks alone
set_option linter.unusedVariables false
set_option linter.unusedSimpArgs false

/-! ### impl_field_inverse: function 141 -/
def impl_field_inverse.f (k : Nat) (a0 : Int) (a1 : Int) : Option (Int) := (impl_field_power.f k a0 a1 (wrap64 (a0 - 2))).bind fun t648 => (some t648)
theorem impl_field_inverse.mono : ∀ a0 a1 k, LeO (impl_field_inverse.f k a0 a1) (impl_field_inverse.f (k + 1) a0 a1) := by
 intro a0 a1 k
 unfold impl_field_inverse.f
 repeat' first
   | (with_reducible exact impl_field_power.mono _ _ _ _)
   | (with_reducible exact LeO.refl _)
   | (with_reducible exact LeO.none _)
   | (with_reducible refine LeO.ite ?_ ?_)
   | (with_reducible refine LeO.bind ?_ (fun _ => ?_))
   | exact impl_field_power.mono _ _ _ _
   | exact LeO.none _
   | refine LeO.ite ?_ ?_
   | refine LeO.bind ?_ (fun _ => ?_)
set_option maxHeartbeats 8000000 in
set_option maxRecDepth 100000 in
theorem impl_field_inverse.calls (k : Nat) (a0 : Int) (a1 : Int) (r : Int) (w : World) (h : impl_field_inverse.f k a0 a1 = some r) :
  Calls Try.prog 141 #[.int .i64 a0, .int .i64 a1] w fun e w' => e = .returned (.int .i64 r) ∧ Drawn0 w w' := by
 have H : ((impl_field_power.f k a0 a1 (wrap64 (a0 - 2))).bind fun t648 => (some t648)) = some r := h
 clear h
 replace H := Option.bind_eq_some_iff.mp H
 obtain ⟨t648, A30, H⟩ := H
 replace H : (some t648) = some r := H
 have A3 := zA A30
 clear A30
 obtain rfl := Option.some.inj H
 go_enter Try.func141, Try.ntmps141
 go_wp2_with (first | ((with_reducible refine gate_callee (f := 158) rfl ?_); refine goesL_ (some 9) rfl rfl Try.func158 (by kernel_rfl) rfl #[.int .i64 a0, .int .i64 a1, .int .i64 (wrap64 (a0 - 2))] rfl (by (try simp only [la, lb, lc]); first | done | rfl | (simp only [ld, le]; rfl)) ?_; (with_reducible refine (impl_field_power.calls k a0 a1 (wrap64 (a0 - 2)) t648 _ A3.out).mono ?_); rintro e w' ⟨rfl, ⟨nd, rfl⟩⟩; refine ⟨_, rfl, ?_⟩))
 go_ret
 exact ⟨by first | rfl | (simp; done) | (simp [*]; done), by repeat (first | exact Drawn0.refl _ | apply Drawn0.step)⟩

end Go.Proofs.Ytokkabgkjhpecaa.Pr
/- Printed by a program of this session out of the translation: what these functions of the program compute, under the conditions that each theorem names. -/
namespace Go.Proofs.Ytokkabgkjhpecaa.Pr
open Go.RowKit Go.Proofs.YtokkabgkjhpecaaW.PrintWords Go.Proofs.YtokkabgkjhpecaaW.PrintLast Go.Proofs.YtokkabgkjhpecaaW.PrintMore
attribute [local go_sem] max2_int min2_int max_two min_two max_three min_three max_four min_four   -- for this text's walks alone
set_option linter.unusedVariables false
set_option linter.unusedSimpArgs false

/-! ### impl_field_div: function 90 -/
def impl_field_div.f (k : Nat) (a0 : Int) (a1 : Int) (a2 : Int) : Option (Int) := (impl_field_inverse.f k a0 a2).bind fun t649 => ((impl_field_mul.f a0 a1 t649).bind fun t650 => (some t650))
theorem impl_field_div.mono : ∀ a0 a1 a2 k, LeO (impl_field_div.f k a0 a1 a2) (impl_field_div.f (k + 1) a0 a1 a2) := by
 intro a0 a1 a2 k
 unfold impl_field_div.f
 repeat' first
   | (with_reducible exact impl_field_inverse.mono _ _ _)
   | (with_reducible exact LeO.refl _)
   | (with_reducible exact LeO.none _)
   | (with_reducible refine LeO.ite ?_ ?_)
   | (with_reducible refine LeO.bind ?_ (fun _ => ?_))
   | exact impl_field_inverse.mono _ _ _
   | exact LeO.none _
   | refine LeO.ite ?_ ?_
   | refine LeO.bind ?_ (fun _ => ?_)
set_option maxHeartbeats 8000000 in
set_option maxRecDepth 100000 in
theorem impl_field_div.calls (k : Nat) (a0 : Int) (a1 : Int) (a2 : Int) (r : Int) (w : World) (h : impl_field_div.f k a0 a1 a2 = some r) :
  Calls Try.prog 90 #[.int .i64 a0, .int .i64 a1, .int .i64 a2] w fun e w' => e = .returned (.int .i64 r) ∧ Drawn0 w w' := by
 have H : ((impl_field_inverse.f k a0 a2).bind fun t649 => ((impl_field_mul.f a0 a1 t649).bind fun t650 => (some t650))) = some r := h
 clear h
 replace H := Option.bind_eq_some_iff.mp H
 obtain ⟨t649, A40, H⟩ := H
 replace H : ((impl_field_mul.f a0 a1 t649).bind fun t650 => (some t650)) = some r := H
 have A4 := zA A40
 clear A40
 replace H := Option.bind_eq_some_iff.mp H
 obtain ⟨t650, A50, H⟩ := H
 replace H : (some t650) = some r := H
 have A5 := zA A50
 clear A50
 obtain rfl := Option.some.inj H
 go_enter Try.func90, Try.ntmps90
 go_wp2_with (first | ((with_reducible refine gate_callee (f := 141) rfl ?_); refine goesL_ (some 11) rfl rfl Try.func141 (by kernel_rfl) rfl #[.int .i64 a0, .int .i64 a2] rfl (by (try simp only [la, lb, lc]); first | done | rfl | (simp only [ld, le]; rfl)) ?_; (with_reducible refine (impl_field_inverse.calls k a0 a2 t649 _ A4.out).mono ?_); rintro e w' ⟨rfl, ⟨nd, rfl⟩⟩; refine ⟨_, rfl, ?_⟩) | ((with_reducible refine gate_callee (f := 89) rfl ?_); refine goesL_ (some 12) rfl rfl Try.func89 (by kernel_rfl) rfl #[.int .i64 a0, .int .i64 a1, .int .i64 t649] rfl (by (try simp only [la, lb, lc]); first | done | rfl | (simp only [ld, le]; rfl)) ?_; (with_reducible refine (impl_field_mul.calls a0 a1 t649 t650 _ A5.out).mono ?_); rintro e w' ⟨rfl, ⟨nd, rfl⟩⟩; refine ⟨_, rfl, ?_⟩))
 go_ret
 exact ⟨by first | rfl | (simp; done) | (simp [*]; done), by repeat (first | exact Drawn0.refl _ | apply Drawn0.step)⟩

end Go.Proofs.Ytokkabgkjhpecaa.Pr
/- Printed by a program of this session out of the translation: what these functions of the program compute, under the conditions that each theorem names. -/
namespace Go.Proofs.Ytokkabgkjhpecaa.Pr
open Go.RowKit Go.Proofs.YtokkabgkjhpecaaW.PrintWords Go.Proofs.YtokkabgkjhpecaaW.PrintLast Go.Proofs.YtokkabgkjhpecaaW.PrintMore
attribute [local go_sem] max2_int min2_int max_two min_two max_three min_three max_four min_four   -- for this text's walks alone
set_option linter.unusedVariables false
set_option linter.unusedSimpArgs false

/-! ### spec_l01Power: function 135 -/
def spec_l01Power.l0 : Nat → Int → Int → Int → Int → Option (Int)
 | 0, _, _, _, _ => none
 | k + 1, x0, x2, x7, x8 => if x2 > 0 then (if (Int.tmod x2 2) = 1 then (if x0 = 0 then (none) else (spec_l01Power.l0 k x0 (wrap64 (Int.tdiv x2 2)) (Int.tmod (wrap64 (x7 * x8)) x0) (Int.tmod (wrap64 (x8 * x8)) x0))) else (if x0 = 0 then (none) else (spec_l01Power.l0 k x0 (wrap64 (Int.tdiv x2 2)) x7 (Int.tmod (wrap64 (x8 * x8)) x0)))) else (if x0 = 0 then (none) else (some (Int.tmod x7 x0)))
def spec_l01Power.f (k : Nat) (a0 : Int) (a1 : Int) (a2 : Int) : Option (Int) := (spec_l01Mod.f a0 a1).bind fun t298 => (spec_l01Power.l0 k a0 a2 1 t298)
theorem spec_l01Power.mono_l : ∀ k, (∀ y0 y1 y2 y3, LeO (spec_l01Power.l0 k y0 y1 y2 y3) (spec_l01Power.l0 (k + 1) y0 y1 y2 y3))
 | 0 => fun _ _ _ _ r h => by simp [spec_l01Power.l0] at h
 | k + 1 => by
  have ih0 := spec_l01Power.mono_l k
  ·intro y0 y1 y2 y3
   unfold spec_l01Power.l0
   repeat' first
   | (with_reducible exact ih0 _ _ _ _)
   | (with_reducible exact LeO.refl _)
   | (with_reducible exact LeO.none _)
   | (with_reducible refine LeO.ite ?_ ?_)
   | (with_reducible refine LeO.bind ?_ (fun _ => ?_))
   | exact ih0 _ _ _ _
   | exact LeO.none _
   | refine LeO.ite ?_ ?_
   | refine LeO.bind ?_ (fun _ => ?_)
theorem spec_l01Power.mono : ∀ a0 a1 a2 k, LeO (spec_l01Power.f k a0 a1 a2) (spec_l01Power.f (k + 1) a0 a1 a2) := by
 intro a0 a1 a2 k
 have ih0 := spec_l01Power.mono_l k
 unfold spec_l01Power.f
 repeat' first
   | (with_reducible exact ih0 _ _ _ _)
   | (with_reducible exact LeO.refl _)
   | (with_reducible exact LeO.none _)
   | (with_reducible refine LeO.ite ?_ ?_)
   | (with_reducible refine LeO.bind ?_ (fun _ => ?_))
   | exact ih0 _ _ _ _
   | exact LeO.none _
   | refine LeO.ite ?_ ?_
   | refine LeO.bind ?_ (fun _ => ?_)
set_option maxHeartbeats 8000000 in
set_option maxRecDepth 100000 in
theorem spec_l01Power.calls (k : Nat) (a0 : Int) (a1 : Int) (a2 : Int) (r : Int) (w : World) (h : spec_l01Power.f k a0 a1 a2 = some r) :
  Calls Try.prog 135 #[.int .i64 a0, .int .i64 a1, .int .i64 a2] w fun e w' => e = .returned (.int .i64 r) ∧ Drawn0 w w' := by
 have H : ((spec_l01Mod.f a0 a1).bind fun t298 => (spec_l01Power.l0 k a0 a2 1 t298)) = some r := h
 clear h
 replace H := Option.bind_eq_some_iff.mp H
 obtain ⟨t298, A40, H⟩ := H
 replace H : (spec_l01Power.l0 k a0 a2 1 t298) = some r := H
 have A4 := zA A40
 clear A40
 have H' := zA H
 clear H
 go_enter Try.func135, Try.ntmps135
 go_wp2_with (first | ((with_reducible refine gate_callee (f := 60) rfl ?_); refine goesL_ (some 11) rfl rfl Try.func60 (by kernel_rfl) rfl #[.int .i64 a0, .int .i64 a1] rfl (by (try simp only [la, lb, lc]); first | done | rfl | (simp only [ld, le]; rfl)) ?_; (with_reducible refine (spec_l01Mod.calls a0 a1 t298 _ A4.out).mono ?_); rintro e w' ⟨rfl, ⟨nd, rfl⟩⟩; refine ⟨_, rfl, ?_⟩))
 go_loopg [2, 7, 8] k (fun kq v2 v7 v8 w' => ∃ (x2_1 : Int) (x7_1 : Int) (x8_1 : Int), v2 = .int .i64 x2_1 ∧ v7 = .int .i64 x7_1 ∧ v8 = .int .i64 x8_1 ∧ Aside0 (spec_l01Power.l0 kq a0 x2_1 x7_1 x8_1 = some r) ∧ Aside0 (kq ≤ k) ∧ Drawn0 w w')
 case atStart => exact ⟨(a2), (1), (t298), (by first | rfl | (simp; done) | (simp [*]; done)), (by first | rfl | (simp; done) | (simp [*]; done)), (by first | rfl | (simp; done) | (simp [*]; done)), H', ⟨Nat.le_refl _⟩, by repeat (first | exact Drawn0.refl _ | apply Drawn0.step)⟩
 case round =>
  clear H'
  try clear c1
  try clear p2
  obtain ⟨x2_1, x7_1, x8_1, rfl, rfl, rfl, HA, HK1, ⟨m1, rfl⟩⟩ := hrel
  cases gk with
  | zero => exact absurd HA.out (by simp [spec_l01Power.l0])
  | succ k1 =>
   have H := HA.out
   clear HA
   simp only [spec_l01Power.l0] at H
   by_cases c5 : x2_1 > 0
   ·rw [if_pos c5] at H
    have c5b0 : decide (0 < x2_1) = true := decide_eq_true c5
    clear c5
    by_cases c6 : (Int.tmod x2_1 2) = 1
    ·rw [if_pos c6] at H
     have c6b0 : ((Int.tmod x2_1 2) == 1) = true := beq_iff_eq.mpr c6
     have c6b1 : ((Int.tmod x2_1 2) != 1) = false := bne_eq_false_iff_eq.mpr c6
     clear c6
     by_cases c7 : a0 = 0
     ·rw [if_pos c7] at H
      exact absurd H (by simp)
     ·rw [if_neg c7] at H
      have c7b0 : (a0 == 0) = false := beq_eq_false_iff_ne.mpr c7
      have c7b1 : (a0 != 0) = true := bne_iff_ne.mpr c7
      have H' := zA H
      clear H
      go_wp2
      go_roundg k1
      case measure => have := HK1.out; omega
      case rel => exact ⟨(wrap64 (Int.tdiv x2_1 2)), (Int.tmod (wrap64 (x7_1 * x8_1)) a0), (Int.tmod (wrap64 (x8_1 * x8_1)) a0), (by first | rfl | (simp; done) | (simp [*]; done)), (by first | rfl | (simp; done) | (simp [*]; done)), (by first | rfl | (simp; done) | (simp [*]; done)), H', ⟨by have := HK1.out; omega⟩, by repeat (first | exact Drawn0.refl _ | apply Drawn0.step)⟩
    ·rw [if_neg c6] at H
     have c6b0 : ((Int.tmod x2_1 2) == 1) = false := beq_eq_false_iff_ne.mpr c6
     have c6b1 : ((Int.tmod x2_1 2) != 1) = true := bne_iff_ne.mpr c6
     by_cases c8 : a0 = 0
     ·rw [if_pos c8] at H
      exact absurd H (by simp)
     ·rw [if_neg c8] at H
      have c8b0 : (a0 == 0) = false := beq_eq_false_iff_ne.mpr c8
      have c8b1 : (a0 != 0) = true := bne_iff_ne.mpr c8
      have H' := zA H
      clear H
      go_wp2
      go_roundg k1
      case measure => have := HK1.out; omega
      case rel => exact ⟨(wrap64 (Int.tdiv x2_1 2)), (x7_1), (Int.tmod (wrap64 (x8_1 * x8_1)) a0), (by first | rfl | (simp; done) | (simp [*]; done)), (by first | rfl | (simp; done) | (simp [*]; done)), (by first | rfl | (simp; done) | (simp [*]; done)), H', ⟨by have := HK1.out; omega⟩, by repeat (first | exact Drawn0.refl _ | apply Drawn0.step)⟩
   ·rw [if_neg c5] at H
    have c5b0 : decide (0 < x2_1) = false := decide_eq_false c5
    clear c5
    by_cases c9 : a0 = 0
    ·rw [if_pos c9] at H
     exact absurd H (by simp)
    ·rw [if_neg c9] at H
     have c9b0 : (a0 == 0) = false := beq_eq_false_iff_ne.mpr c9
     have c9b1 : (a0 != 0) = true := bne_iff_ne.mpr c9
     obtain rfl := Option.some.inj H
     go_wp2
     go_ret
     exact ⟨by first | rfl | (simp; done) | (simp [*]; done), by repeat (first | exact Drawn0.refl _ | apply Drawn0.step)⟩

end Go.Proofs.Ytokkabgkjhpecaa.Pr
/- Printed by a program of this session out of the translation: what these functions of the program compute, under the conditions that each theorem names. -/
namespace Go.Proofs.Ytokkabgkjhpecaa.Pr
open Go.RowKit Go.Proofs.YtokkabgkjhpecaaW.PrintWords Go.Proofs.YtokkabgkjhpecaaW.PrintLast Go.Proofs.YtokkabgkjhpecaaW.PrintMore
attribute [local go_sem] max2_int min2_int max_two min_two max_three min_three max_four min_four   -- for this text's walks alone
set_option linter.unusedVariables false
set_option linter.unusedSimpArgs false

/-! ### spec_l01Inverse: function 86 -/
def spec_l01Inverse.f (k : Nat) (a0 : Int) (a1 : Int) : Option (Int) := (spec_l01Power.f k a0 a1 (wrap64 (a0 - 2))).bind fun t593 => (some t593)
theorem spec_l01Inverse.mono : ∀ a0 a1 k, LeO (spec_l01Inverse.f k a0 a1) (spec_l01Inverse.f (k + 1) a0 a1) := by
 intro a0 a1 k
 unfold spec_l01Inverse.f
 repeat' first
   | (with_reducible exact spec_l01Power.mono _ _ _ _)
   | (with_reducible exact LeO.refl _)
   | (with_reducible exact LeO.none _)
   | (with_reducible refine LeO.ite ?_ ?_)
   | (with_reducible refine LeO.bind ?_ (fun _ => ?_))
   | exact spec_l01Power.mono _ _ _ _
   | exact LeO.none _
   | refine LeO.ite ?_ ?_
   | refine LeO.bind ?_ (fun _ => ?_)
set_option maxHeartbeats 8000000 in
set_option maxRecDepth 100000 in
theorem spec_l01Inverse.calls (k : Nat) (a0 : Int) (a1 : Int) (r : Int) (w : World) (h : spec_l01Inverse.f k a0 a1 = some r) :
  Calls Try.prog 86 #[.int .i64 a0, .int .i64 a1] w fun e w' => e = .returned (.int .i64 r) ∧ Drawn0 w w' := by
 have H : ((spec_l01Power.f k a0 a1 (wrap64 (a0 - 2))).bind fun t593 => (some t593)) = some r := h
 clear h
 replace H := Option.bind_eq_some_iff.mp H
 obtain ⟨t593, A30, H⟩ := H
 replace H : (some t593) = some r := H
 have A3 := zA A30
 clear A30
 obtain rfl := Option.some.inj H
 go_enter Try.func86, Try.ntmps86
 go_wp2_with (first | ((with_reducible refine gate_callee (f := 135) rfl ?_); refine goesL_ (some 9) rfl rfl Try.func135 (by kernel_rfl) rfl #[.int .i64 a0, .int .i64 a1, .int .i64 (wrap64 (a0 - 2))] rfl (by (try simp only [la, lb, lc]); first | done | rfl | (simp only [ld, le]; rfl)) ?_; (with_reducible refine (spec_l01Power.calls k a0 a1 (wrap64 (a0 - 2)) t593 _ A3.out).mono ?_); rintro e w' ⟨rfl, ⟨nd, rfl⟩⟩; refine ⟨_, rfl, ?_⟩))
 go_ret
 exact ⟨by first | rfl | (simp; done) | (simp [*]; done), by repeat (first | exact Drawn0.refl _ | apply Drawn0.step)⟩

end Go.Proofs.Ytokkabgkjhpecaa.Pr
/- Reading the lists of all polynomials of data; no condition. -/
namespace Go.Proofs.Ytokkabgkjhpecaa.Pr
open Go.RowKit Go.Proofs.YtokkabgkjhpecaaW.PrintWords Go.Proofs.YtokkabgkjhpecaaW.PrintLast Go.Proofs.YtokkabgkjhpecaaW.PrintMore

theorem pAll_rd (p : Int) (a b : List Int) {n i : Nat} (h : i < n) : rd_L1 (pAll p a b n) (i : Int) = (pPair p a b i).2 := by
  rw [rdL_nat]; exact getD_map_range _ _ h
theorem qAll_rd (p : Int) (a b : List Int) {n i : Nat} (h : i < n) : rd_L1 (qAll p a b n) (i : Int) = (qPair p a b i).1 := by
  rw [rdL_nat]; exact getD_map_range _ _ h
theorem pAll_len (p : Int) (a b : List Int) (n : Nat) : (pAll p a b n).length = n := by simp [pAll]
theorem qAll_len (p : Int) (a b : List Int) (n : Nat) : (qAll p a b n).length = n := by simp [qAll]
theorem ofCode {p : Int} {a b : List Int} {r : Bool} {c : Int} (h : jacC p a b r = c) (ha : Sm a.length) (hb : Sm b.length) : Ev (fun n => impl_jacobiCode.f n p a b r) c := by
  subst h; exact implJacCode_ev p a b r ha hb
end Go.Proofs.Ytokkabgkjhpecaa.Pr
/- Powers modulo p: what the program and the reference compute; no condition. -/
namespace Go.Proofs.Ytokkabgkjhpecaa.Pr
open Go.RowKit Go.Proofs.YtokkabgkjhpecaaW.PrintWords Go.Proofs.YtokkabgkjhpecaaW.PrintLast Go.Proofs.YtokkabgkjhpecaaW.PrintMore

theorem fmul_eq {p : Int} (hp : Pm p) {x y : Int} (hx : 0 ≤ x ∧ x < p) (hy : 0 ≤ y ∧ y < p) : impl_field_mul.f p x y = some (x * y % p) := by
  unfold impl_field_mul.f
  have h := mulP hp hx.1 hx.2 hy.1 hy.2
  rw [wrap_id (by omega) (by omega), mod_eq hp]; rfl
def powGo (p : Int) : Nat → Int → Nat → Int → Int
  | 0, _, _, o => o
  | d + 1, x, k, o => if k = 0 then o else powGo p d (x * x % p) (k / 2) (if k % 2 = 1 then o * x % p else o)
theorem powGo_in {p : Int} (hp : 0 < p) (d : Nat) : ∀ (x : Int) (k : Nat) (o : Int), 0 ≤ o ∧ o < p → 0 ≤ powGo p d x k o ∧ powGo p d x k o < p := by
  induction d with
  | zero => intro x k o h; exact h
  | succ d ih =>
    intro x k o h
    rw [powGo]
    split
    · exact h
    · refine ih _ _ _ ?_
      split
      · exact emodB hp _
      · exact h
theorem half {k : Nat} (h : k < 4611686018427387904) : wrap64 (Int.tdiv (k : Int) 2) = ((k / 2 : Nat) : Int) := by
  rw [Int.tdiv_eq_ediv_of_nonneg (by omega), wrap_id (by omega) (by omega)]; omega
theorem odd (k : Nat) : Int.tmod (k : Int) 2 = ((k % 2 : Nat) : Int) := by rw [tmod_pos (by omega)]; omega
theorem implPow_l0 {p : Int} (hp : Pm p) (d : Nat) : ∀ (x : Int) (k : Nat) (o : Int), k ≤ d → k < 4611686018427387904 → 0 ≤ x ∧ x < p → 0 ≤ o ∧ o < p →
    Ev (fun n => impl_field_power.l0 n p x (k : Int) o) (powGo p d x k o) := by
  induction d with
  | zero =>
    intro x k o hk hk2 hx ho
    refine Ev.step (fun n => by rw [impl_field_power.l0]) ?_
    exact Ev.neg (by omega) (Ev.now _)
  | succ d ih =>
    intro x k o hk hk2 hx ho
    rw [powGo]
    by_cases h : k = 0
    · rw [if_pos h]
      refine Ev.step (fun n => by rw [impl_field_power.l0]) ?_
      exact Ev.neg (by omega) (Ev.now _)
    · rw [if_neg h]
      refine Ev.step (fun n => by rw [impl_field_power.l0]) ?_
      refine Ev.pos (by omega) ?_
      rw [odd, half hk2]
      by_cases g : k % 2 = 1
      · rw [if_pos g]
        refine Ev.pos (by omega) (Ev.bindE (fmul_eq hp ho hx) (Ev.bindE (fmul_eq hp hx hx) ?_))
        exact ih _ _ _ (by omega) (by omega) (emodB hp.pos _) (emodB hp.pos _)
      · rw [if_neg g]
        refine Ev.neg (by omega) (Ev.bindE (fmul_eq hp hx hx) ?_)
        exact ih _ _ _ (by omega) (by omega) (emodB hp.pos _) ho
theorem specPow_l0 {p : Int} (hp : Pm p) (d : Nat) : ∀ (x : Int) (k : Nat) (o : Int), k ≤ d → k < 4611686018427387904 → 0 ≤ x ∧ x < p → 0 ≤ o ∧ o < p →
    Ev (fun n => spec_l01Power.l0 n p (k : Int) o x) (powGo p d x k o) := by
  induction d with
  | zero =>
    intro x k o hk hk2 hx ho
    refine Ev.step (fun n => by rw [spec_l01Power.l0]) ?_
    refine Ev.neg (by omega) (Ev.neg hp.ne (Ev.some' ?_))
    rw [tmod_pos ho.1, Int.emod_eq_of_lt ho.1 ho.2]; rfl
  | succ d ih =>
    intro x k o hk hk2 hx ho
    have h1 := mulP hp hx.1 hx.2 hx.1 hx.2
    have h2 := mulP hp ho.1 ho.2 hx.1 hx.2
    rw [powGo]
    by_cases h : k = 0
    · rw [if_pos h]
      refine Ev.step (fun n => by rw [spec_l01Power.l0]) ?_
      refine Ev.neg (by omega) (Ev.neg hp.ne (Ev.some' ?_))
      rw [tmod_pos ho.1, Int.emod_eq_of_lt ho.1 ho.2]
    · rw [if_neg h]
      refine Ev.step (fun n => by rw [spec_l01Power.l0]) ?_
      refine Ev.pos (by omega) ?_
      rw [odd, half hk2, wrap_id (x := x * x) (by omega) (by omega), wrap_id (x := o * x) (by omega) (by omega), tmod_pos (a := x * x) (by omega), tmod_pos (a := o * x) (by omega)]
      by_cases g : k % 2 = 1
      · rw [if_pos g]
        refine Ev.pos (by omega) (Ev.neg hp.ne ?_)
        exact ih _ _ _ (by omega) (by omega) (emodB hp.pos _) (emodB hp.pos _)
      · rw [if_neg g]
        refine Ev.neg (by omega) (Ev.neg hp.ne ?_)
        exact ih _ _ _ (by omega) (by omega) (emodB hp.pos _) ho
/-- x to the k-th power modulo p. -/
def powF (p x : Int) (k : Nat) : Int := powGo p k x k 1
theorem powF_in {p : Int} (hp : Pm p) (x : Int) (k : Nat) : 0 ≤ powF p x k ∧ powF p x k < p := powGo_in hp.pos _ _ _ _ (by have := hp.two; omega)
theorem implPow_ev {p : Int} (hp : Pm p) {x : Int} (hx : 0 ≤ x ∧ x < p) (k : Nat) (hk : k < 4611686018427387904) : Ev (fun n => impl_field_power.f n p x (k : Int)) (powF p x k) := by
  have h2 := hp.two
  unfold impl_field_power.f powF
  refine Ev.bindE (mod_eq hp _) ?_
  rw [Int.emod_eq_of_lt (by omega) (by omega)]
  exact implPow_l0 hp k x k 1 (Nat.le_refl _) hk hx (by omega)
theorem specPow_ev {p : Int} (hp : Pm p) {x : Int} (hx : 0 ≤ x ∧ x < p) (k : Nat) (hk : k < 4611686018427387904) : Ev (fun n => spec_l01Power.f n p x (k : Int)) (powF p x k) := by
  have h2 := hp.two
  unfold spec_l01Power.f powF
  refine Ev.bindE (a := x) ?_ (specPow_l0 hp k x k 1 (Nat.le_refl _) hk hx (by omega))
  unfold spec_l01Mod.f
  rw [if_neg hp.ne, go_mod hp, Int.emod_eq_of_lt hx.1 hx.2]
end Go.Proofs.Ytokkabgkjhpecaa.Pr
/- Inverses and quotients modulo p: what the program and the reference compute; no condition. -/
namespace Go.Proofs.Ytokkabgkjhpecaa.Pr
open Go.RowKit Go.Proofs.YtokkabgkjhpecaaW.PrintWords Go.Proofs.YtokkabgkjhpecaaW.PrintLast Go.Proofs.YtokkabgkjhpecaaW.PrintMore

/-- The power p - 2. -/
def invF (p x : Int) : Int := powF p x (p.toNat - 2)
theorem invF_in {p : Int} (hp : Pm p) (x : Int) : 0 ≤ invF p x ∧ invF p x < p := powF_in hp _ _
theorem two_sub {p : Int} (hp : Pm p) : wrap64 (p - 2) = ((p.toNat - 2 : Nat) : Int) := by
  have := hp.two
  have := hp.top
  rw [wrap_id (by omega) (by omega)]
  omega
theorem implInv_ev {p : Int} (hp : Pm p) {x : Int} (hx : 0 ≤ x ∧ x < p) : Ev (fun n => impl_field_inverse.f n p x) (invF p x) := by
  have := hp.top
  unfold impl_field_inverse.f invF
  rw [two_sub hp]
  exact Ev.bind (implPow_ev hp hx _ (by omega)) (Ev.now _)
theorem specInv_ev {p : Int} (hp : Pm p) {x : Int} (hx : 0 ≤ x ∧ x < p) : Ev (fun n => spec_l01Inverse.f n p x) (invF p x) := by
  have := hp.top
  unfold spec_l01Inverse.f invF
  rw [two_sub hp]
  exact Ev.bind (specPow_ev hp hx _ (by omega)) (Ev.now _)
theorem mul_mod_mid (u v w p : Int) : (u * v % p * w) % p = (u * (v * w % p)) % p := by
  rw [Int.mul_emod (u * v % p), Int.emod_emod, ← Int.mul_emod, Int.mul_assoc, Int.mul_emod u (v * w % p), Int.emod_emod, ← Int.mul_emod]
theorem mul_mod_one (v w p : Int) : (v % p * w) % p = (v * w) % p := by
  rw [Int.mul_emod (v % p), Int.emod_emod, ← Int.mul_emod]
theorem sub_mod_right (c x p : Int) : (c - x % p) % p = (c - x) % p := by
  rw [Int.sub_emod, Int.emod_emod, ← Int.sub_emod]
end Go.Proofs.Ytokkabgkjhpecaa.Pr
/- Quotients modulo p in the program; no condition. -/
namespace Go.Proofs.Ytokkabgkjhpecaa.Pr
open Go.RowKit Go.Proofs.YtokkabgkjhpecaaW.PrintWords Go.Proofs.YtokkabgkjhpecaaW.PrintLast Go.Proofs.YtokkabgkjhpecaaW.PrintMore

theorem implDiv_ev {p : Int} (hp : Pm p) {x y : Int} (hx : 0 ≤ x ∧ x < p) (hy : 0 ≤ y ∧ y < p) : Ev (fun n => impl_field_div.f n p x y) (x * invF p y % p) := by
  unfold impl_field_div.f
  exact Ev.bind (implInv_ev hp hy) (Ev.bindE (fmul_eq hp hx (invF_in hp y)) (Ev.now _))
end Go.Proofs.Ytokkabgkjhpecaa.Pr
