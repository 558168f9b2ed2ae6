/- Texts of this session in one: what functions of the program compute, and plain facts of it, under the conditions that each theorem names. -/
import Derived.Test.YtokkabgkjhpecaaKC01
import Derived.Test.YtokkabgkjhpecaaKC04
import Derived.Test.YtokkabgkjhpecaaKC05
import Derived.Test.YtokkabgkjhpecaaKC07
import Derived.Test.YtokkabgkjhpecaaKC08
import Derived.Test.YtokkabgkjhpecaaKC11
/- Printed by a program of this session out of the translation: what these functions of the program compute, under the conditions that each theorem names. -/
namespace Go.Proofs.Ytokkabgkjhpecaa.Pr
open Go.RowKit Go.Proofs.YtokkabgkjhpecaaW.PrintWords Go.Proofs.YtokkabgkjhpecaaW.PrintLast Go.Proofs.YtokkabgkjhpecaaW.PrintMore
attribute [local go_sem] max2_int min2_int max_two min_two max_three min_three max_four min_four   -- for this text's walks alone
set_option linter.unusedVariables false
set_option linter.unusedSimpArgs false

/-! ### impl_field_derivative: function 83 -/
def impl_field_derivative.l0 : Nat → Int → List Int → List Int → Int → Option (List Int)
 | 0, _, _, _, _ => none
 | k + 1, x0, x1, x5, x6 => if x6 < (x1.length : Int) then (if 0 ≤ x6 then ((impl_field_mul.f x0 x6 (rd x1 x6)).bind fun t637 => (if x5.length < 17592186044416 then (impl_field_derivative.l0 k x0 x1 (x5 ++ [t637]) (wrap64 (x6 + 1))) else (none))) else (none)) else ((impl_trimmed.f k x5).bind fun t641 => (some t641))
def impl_field_derivative.f (k : Nat) (a0 : Int) (l1 : List Int) : Option (List Int) := impl_field_derivative.l0 k a0 l1 ([] : List Int) 1
theorem impl_field_derivative.mono_l : ∀ k, (∀ y0 y1 y2 y3, LeO (impl_field_derivative.l0 k y0 y1 y2 y3) (impl_field_derivative.l0 (k + 1) y0 y1 y2 y3))
 | 0 => fun _ _ _ _ r h => by simp [impl_field_derivative.l0] at h
 | k + 1 => by
  have ih0 := impl_field_derivative.mono_l k
  ·intro y0 y1 y2 y3
   unfold impl_field_derivative.l0
   repeat' first
   | (with_reducible exact ih0 _ _ _ _)
   | (with_reducible exact impl_trimmed.mono _ _)
   | (with_reducible exact LeO.refl _)
   | (with_reducible exact LeO.none _)
   | (with_reducible refine LeO.ite ?_ ?_)
   | (with_reducible refine LeO.bind ?_ (fun _ => ?_))
   | exact ih0 _ _ _ _
   | exact impl_trimmed.mono _ _
   | exact LeO.none _
   | refine LeO.ite ?_ ?_
   | refine LeO.bind ?_ (fun _ => ?_)
theorem impl_field_derivative.mono : ∀ a0 a1 k, LeO (impl_field_derivative.f k a0 a1) (impl_field_derivative.f (k + 1) a0 a1) := by
 intro a0 a1 k
 have ih0 := impl_field_derivative.mono_l k
 unfold impl_field_derivative.f
 repeat' first
   | (with_reducible exact ih0 _ _ _ _)
   | (with_reducible exact impl_trimmed.mono _ _)
   | (with_reducible exact LeO.refl _)
   | (with_reducible exact LeO.none _)
   | (with_reducible refine LeO.ite ?_ ?_)
   | (with_reducible refine LeO.bind ?_ (fun _ => ?_))
   | exact ih0 _ _ _ _
   | exact impl_trimmed.mono _ _
   | exact LeO.none _
   | refine LeO.ite ?_ ?_
   | refine LeO.bind ?_ (fun _ => ?_)
set_option maxHeartbeats 8000000 in
set_option maxRecDepth 100000 in
theorem impl_field_derivative.calls (k : Nat) (a0 : Int) (A1 : Option Addr) (c1 : Nat) (l1 : List Int) (r : List Int) (w : World) (hr1 : Kd.C (Kd.int .i64) w A1 l1.length l1) (hc1 : l1.length ≤ c1) (h : impl_field_derivative.f k a0 l1 = some r) :
  Calls Try.prog 83 #[.int .i64 a0, .slice A1 l1.length c1] w fun e w' => ∃ v0_ : Value, e = .returned (v0_) ∧ Kd.R (Kd.int .i64) 2 w' w.heap.size (fun _ => True) v0_ r ∧ Below w.heap.size w w' := by
 have HR1 := zA hr1
 have HC1 := zA hc1
 clear hr1 hc1
 have HB := zA (Below.refl w.heap.size w)
 have H : (impl_field_derivative.l0 k a0 l1 ([] : List Int) 1) = some r := h
 clear h
 have H' := zA H
 clear H
 go_enter Try.func83, Try.ntmps83
 go_wp2
 go_loopg [5, 6] k (fun kq v5 v6 w' => ∃ (x5_1 : List Int) (x6_1 : Int), v6 = .int .i64 x6_1 ∧ Aside0 (impl_field_derivative.l0 kq a0 l1 x5_1 x6_1 = some r) ∧ Aside0 (kq ≤ k) ∧ Aside0 (Kd.R (Kd.int .i64) 2 w' w.heap.size (fun _ => True) v5 x5_1) ∧ Aside0 (Below w.heap.size w w'))
 case atStart => exact ⟨(([] : List Int)), (1), (by first | rfl | (simp; done) | (simp [*]; done)), H', ⟨Nat.le_refl _⟩, ⟨by first | exact Kd.R_nil _ _ _ _ _ | exact Kd.N_nil _ _ _ _ _ | exact Kd.V_nil _ _ _ _ _ | exact Kd.Q_nil _ _ _ _ _ | exact Kd.S_nil _ _ _ _ _⟩, ⟨uH HB.out⟩⟩
 case round =>
  clear H'
  try clear c1
  try clear p2
  obtain ⟨x5_1, x6_1, rfl, HA, HK1, HO_5, HB⟩ := hrel
  cases gk with
  | zero => exact absurd HA.out (by simp [impl_field_derivative.l0])
  | succ k1 =>
   have H := HA.out
   clear HA
   simp only [impl_field_derivative.l0] at H
   by_cases c3 : x6_1 < (l1.length : Int)
   ·rw [if_pos c3] at H
    have c3b0 : decide (x6_1 < (l1.length : Int)) = true := decide_eq_true c3
    clear c3
    by_cases c4 : 0 ≤ x6_1
    ·rw [if_pos c4] at H
     have c4b0 : decide (0 ≤ x6_1) = true := decide_eq_true c4
     clear c4
     replace H := Option.bind_eq_some_iff.mp H
     obtain ⟨t637, A50, H⟩ := H
     replace H : (if x5_1.length < 17592186044416 then (impl_field_derivative.l0 k1 a0 l1 (x5_1 ++ [t637]) (wrap64 (x6_1 + 1))) else (none)) = some r := H
     have A5 := zA A50
     clear A50
     by_cases c6 : x5_1.length < 17592186044416
     ·rw [if_pos c6] at H
      have LMc6 := zA c6
      clear c6
      obtain ⟨y638, hy638⟩ : ∃ y_ : List Int, y_ = (x5_1 ++ [t637]) := ⟨_, rfl⟩
      replace H : (impl_field_derivative.l0 k1 a0 l1 y638 (wrap64 (x6_1 + 1))) = some r := by first | (rw [hy638]; with_reducible exact H) | (have H2_ := (Option.bind_some _ _).symm.trans H; rw [hy638]; with_reducible exact H2_) | (have H2_ := (Option.bind_some _ _).symm.trans H; with_reducible exact H2_) | with_reducible exact H | (rw [hy638]; exact H) | exact H
      have Ny638 := zA hy638
      clear hy638
      have H' := zA H
      clear H
      have p636 : 0 ≤ (x6_1 : Int) := of_decide_eq_true (by first | (with_reducible assumption) | assumption)
      have q636 : x6_1 < (l1.length : Int) := of_decide_eq_true (by first | (with_reducible assumption) | assumption)
      obtain ⟨ad636, e636, hx636_0⟩ := Kd.at_int HR1.out x6_1 p636 q636
      cases e636
      replace hx636_0 := (HB.out.cell (World.block_lt_of_cell? w _ hx636_0)).trans hx636_0
      replace p636 := eq_true p636
      replace q636 := eq_true q636
      go_wp2_with (first | ((with_reducible refine gate_callee (f := 89) rfl ?_); refine goesL_ (some 20) rfl rfl Try.func89 (by kernel_rfl) rfl #[.int .i64 a0, .int .i64 x6_1, .int .i64 (rd l1 x6_1)] rfl (by (try simp only [la, lb, lc]); first | done | rfl | (simp only [ld, le]; rfl)) ?_; (with_reducible refine (impl_field_mul.calls a0 x6_1 (rd l1 x6_1) t637 _ A5.out).mono ?_); rintro e w' ⟨rfl, ⟨nd, rfl⟩⟩; refine ⟨_, rfl, ?_⟩) | ((with_reducible refine gate_builtin (b := .append) (xs := #[.tmp 13, .tmp 21]) rfl ?_); at_builtin; refine Kd.R_append (Kd.int .i64) (w0 := w) w.heap.size rfl (.tmp 13) (.tmp 21) 22 2 (.int .i64 0) 8 rfl Try.underlying22 info2 rfl (by decide) (by omega) u5 x5_1 t637 [.int .i64 t637] (fun _ => True) (fun _ => False) rfl rfl ?aP (fun _ hk => hk.elim) ?aF ?aO ?aB ?aS ?aL ?_; (case aP => exact rfl); (case aB => exact (uH HB.out)); (case aF => exact (fun _ _ => trivial)); (case aO => exact (uR HO_5.out)); (case aS => exact (below_size (uH HB.out))); (case aL => have := LMc6.out; omega); intro v639 w7 ho hb hg hat; rw [← Ny638.out] at ho; have n0_ := zA (hb); have n1_ := zA (ho); clear HB HO_5; have HB := n0_; have HO640 := n1_; clear n0_ n1_ ho hb hg hat))
      go_roundg k1
      case measure => have := HK1.out; omega
      case rel => exact ⟨(y638), (wrap64 (x6_1 + 1)), (by first | rfl | (simp; done) | (simp [*]; done)), H', ⟨by have := HK1.out; omega⟩, ⟨uR HO640.out⟩, ⟨uH HB.out⟩⟩
     ·rw [if_neg c6] at H
      exact absurd H (by simp)
    ·rw [if_neg c4] at H
     exact absurd H (by simp)
   ·rw [if_neg c3] at H
    have c3b0 : decide (x6_1 < (l1.length : Int)) = false := decide_eq_false c3
    clear c3
    replace H := Option.bind_eq_some_iff.mp H
    obtain ⟨t641, A80, H⟩ := H
    replace H : (some t641) = some r := H
    have A8 := zA A80
    clear A80
    obtain rfl := Option.some.inj H
    obtain ⟨Ao9, co9, eo9⟩ := Kd.R_slice HO_5.out
    subst eo9
    go_wp2_with (first | ((with_reducible refine gate_callee (f := 101) rfl ?_); refine goesL_ (some 24) rfl rfl Try.func101 (by kernel_rfl) rfl #[.slice Ao9 x5_1.length co9] rfl (by (try simp only [la, lb, lc]); first | done | rfl | (simp only [ld, le]; rfl)) ?_; (with_reducible refine (impl_trimmed.calls k1 (fun k_ => some k_ = (.slice Ao9 x5_1.length co9 : Value).ownBlock) (.slice Ao9 x5_1.length co9) x5_1 t641 w _ ?side1 ?side2 A8.out).mono ?_); (case side1 => repeat (first | (with_reducible first | exact HB.out | apply below_alloc | apply pw_below_drewN | apply below_drew1) | exact HB.out)); (case side2 => exact Kd.R_tight rfl HO_5.out); rintro e w10 ⟨v642, rfl, ho0, hb, hkp⟩; refine ⟨_, rfl, ?_⟩; have n0_ := zA (Kd.R_mono (ok' := fun k_ => True) ho0 (fun k_ hk_ => trivial)); have n1_ := zA (hb); clear HB HO_5; have HO643 := n0_; have HB := n1_; clear n0_ n1_; (try clear hb); (try clear hkp); (try clear ho0)))
    go_ret
    exact ⟨_, by first | rfl | (simp [errW_none, errW_some] <;> rfl) | (simp [*, errW_none, errW_some] <;> rfl), uR HO643.out, uH HB.out⟩

end Go.Proofs.Ytokkabgkjhpecaa.Pr
/- Printed by a program of this session out of the translation: what these functions of the program compute, under the conditions that each theorem names. -/
namespace Go.Proofs.Ytokkabgkjhpecaa.Pr
open Go.RowKit Go.Proofs.YtokkabgkjhpecaaW.PrintWords Go.Proofs.YtokkabgkjhpecaaW.PrintLast Go.Proofs.YtokkabgkjhpecaaW.PrintMore
attribute [local go_sem] max2_int min2_int max_two min_two max_three min_three max_four min_four   -- for this text's walks alone
set_option linter.unusedVariables false
set_option linter.unusedSimpArgs false

/-! ### impl_Jacobi_christoffel: function 84 -/
def impl_Jacobi_christoffel.f (k : Nat) (a0_0 : Int) (l0_1 : List Int) (l0_2 : List Int) (a1 : Int) : Option (Int) := (impl_Jacobi_field.f a0_0 l0_1 l0_2).bind fun t670 => ((impl_Jacobi_size.f a0_0 l0_1 l0_2).bind fun t671 => (if 0 < (l0_2.length : Int) then ((impl_Jacobi_associated.f k a0_0 l0_1 l0_2).bind fun t673 => (if 0 ≤ t671 then (if t671 < (t673.length : Int) then ((impl_field_value.f t670 (rd_L1 t673 t671) a1).bind fun t677 => ((impl_Jacobi_polys.f k a0_0 l0_1 l0_2).bind fun t678 => (if t671 < (t678.length : Int) then ((impl_field_derivative.f k t670 (rd_L1 t678 t671)).bind fun t682 => ((impl_field_value.f t670 t682 a1).bind fun t685 => ((impl_field_div.f k t670 t677 t685).bind fun t686 => ((impl_field_mul.f t670 (rd l0_2 0) t686).bind fun t687 => (some t687))))) else (none)))) else (none)) else (none))) else (none)))
theorem impl_Jacobi_christoffel.mono : ∀ a0 a1 a2 a3 k, LeO (impl_Jacobi_christoffel.f k a0 a1 a2 a3) (impl_Jacobi_christoffel.f (k + 1) a0 a1 a2 a3) := by
 intro a0 a1 a2 a3 k
 unfold impl_Jacobi_christoffel.f
 repeat' first
   | (with_reducible exact impl_Jacobi_associated.mono _ _ _ _)
   | (with_reducible exact impl_Jacobi_polys.mono _ _ _ _)
   | (with_reducible exact impl_field_derivative.mono _ _ _)
   | (with_reducible exact impl_field_div.mono _ _ _ _)
   | (with_reducible exact LeO.refl _)
   | (with_reducible exact LeO.none _)
   | (with_reducible refine LeO.ite ?_ ?_)
   | (with_reducible refine LeO.bind ?_ (fun _ => ?_))
   | exact impl_Jacobi_associated.mono _ _ _ _
   | exact impl_Jacobi_polys.mono _ _ _ _
   | exact impl_field_derivative.mono _ _ _
   | exact impl_field_div.mono _ _ _ _
   | exact LeO.none _
   | refine LeO.ite ?_ ?_
   | refine LeO.bind ?_ (fun _ => ?_)
def impl_Jacobi_christoffel.T2 : Bool × List (List Nat × List Nat) := (true, [([], []), ([], []), ([1], [1]), ([2], [2]), ([3], [3]), ([], []), ([], []), ([], []), ([7], [7]), ([], []), ([8, 9], [8, 9]), ([10], [10]), ([], []), ([6, 11, 12, 8], [6, 11, 12]), ([], []), ([], []), ([], []), ([16, 13], [16]), ([], []), ([17, 18], [17, 18]), ([19], [19]), ([15, 20, 17], [15, 20]), ([], []), ([14, 21, 22, 21], [14, 21, 22]), ([5, 13, 23, 23], [5, 13, 23]), ([0, 4, 24, 24], [0, 4, 24]), ([25, 25, 0, 1, 2, 3, 4, 5, 6, 7, 8, 9, 10, 11, 12, 13, 14, 15, 16, 17, 18, 19, 20, 21, 22, 23, 24, 25], [25])])
def impl_Jacobi_christoffel.B2 : List Nat := [0, 0, 2, 6, 14, 0, 0, 0, 128, 0, 896, 1920, 0, 8128, 0, 0, 0, 81856, 0, 475072, 999360, 2080704, 0, 8388544, 16777184, 33554431, 67108863]
theorem impl_Jacobi_christoffel.tab2 : rtab .any (opsOf Try.f84 2) = impl_Jacobi_christoffel.T2 := by kernel_rfl
theorem impl_Jacobi_christoffel.bits2 : waitsOk impl_Jacobi_christoffel.T2.2 impl_Jacobi_christoffel.B2 = true := by kernel_rfl
set_option maxHeartbeats 8000000 in
set_option maxRecDepth 100000 in
theorem impl_Jacobi_christoffel.calls (k : Nat) (a0_0 : Int) (A0_1 : Option Addr) (c0_1 : Nat) (l0_1 : List Int) (A0_2 : Option Addr) (c0_2 : Nat) (l0_2 : List Int) (a1 : Int) (r : Int) (w : World) (hr0_1 : Kd.C (Kd.int .i64) w A0_1 l0_1.length l0_1) (hc0_1 : l0_1.length ≤ c0_1) (hr0_2 : Kd.C (Kd.int .i64) w A0_2 l0_2.length l0_2) (hc0_2 : l0_2.length ≤ c0_2) (h : impl_Jacobi_christoffel.f k a0_0 l0_1 l0_2 a1 = some r) :
  Calls Try.prog 84 #[.agg #[.int .i64 a0_0, .slice A0_1 l0_1.length c0_1, .slice A0_2 l0_2.length c0_2], .int .i64 a1] w fun e w' => e = .returned (.int .i64 r) ∧ Below w.heap.size w w' := by
 have hu46 := Try.underlying46
 have HR0_1 := zA hr0_1
 have HC0_1 := zA hc0_1
 clear hr0_1 hc0_1
 have HR0_2 := zA hr0_2
 have HC0_2 := zA hc0_2
 clear hr0_2 hc0_2
 have HB := zA (Below.refl w.heap.size w)
 have H : ((impl_Jacobi_field.f a0_0 l0_1 l0_2).bind fun t670 => ((impl_Jacobi_size.f a0_0 l0_1 l0_2).bind fun t671 => (if 0 < (l0_2.length : Int) then ((impl_Jacobi_associated.f k a0_0 l0_1 l0_2).bind fun t673 => (if 0 ≤ t671 then (if t671 < (t673.length : Int) then ((impl_field_value.f t670 (rd_L1 t673 t671) a1).bind fun t677 => ((impl_Jacobi_polys.f k a0_0 l0_1 l0_2).bind fun t678 => (if t671 < (t678.length : Int) then ((impl_field_derivative.f k t670 (rd_L1 t678 t671)).bind fun t682 => ((impl_field_value.f t670 t682 a1).bind fun t685 => ((impl_field_div.f k t670 t677 t685).bind fun t686 => ((impl_field_mul.f t670 (rd l0_2 0) t686).bind fun t687 => (some t687))))) else (none)))) else (none)) else (none))) else (none)))) = some r := h
 clear h
 replace H := Option.bind_eq_some_iff.mp H
 obtain ⟨t670, A30, H⟩ := H
 replace H : ((impl_Jacobi_size.f a0_0 l0_1 l0_2).bind fun t671 => (if 0 < (l0_2.length : Int) then ((impl_Jacobi_associated.f k a0_0 l0_1 l0_2).bind fun t673 => (if 0 ≤ t671 then (if t671 < (t673.length : Int) then ((impl_field_value.f t670 (rd_L1 t673 t671) a1).bind fun t677 => ((impl_Jacobi_polys.f k a0_0 l0_1 l0_2).bind fun t678 => (if t671 < (t678.length : Int) then ((impl_field_derivative.f k t670 (rd_L1 t678 t671)).bind fun t682 => ((impl_field_value.f t670 t682 a1).bind fun t685 => ((impl_field_div.f k t670 t677 t685).bind fun t686 => ((impl_field_mul.f t670 (rd l0_2 0) t686).bind fun t687 => (some t687))))) else (none)))) else (none)) else (none))) else (none))) = some r := H
 have A3 := zA A30
 clear A30
 replace H := Option.bind_eq_some_iff.mp H
 obtain ⟨t671, A40, H⟩ := H
 replace H : (if 0 < (l0_2.length : Int) then ((impl_Jacobi_associated.f k a0_0 l0_1 l0_2).bind fun t673 => (if 0 ≤ t671 then (if t671 < (t673.length : Int) then ((impl_field_value.f t670 (rd_L1 t673 t671) a1).bind fun t677 => ((impl_Jacobi_polys.f k a0_0 l0_1 l0_2).bind fun t678 => (if t671 < (t678.length : Int) then ((impl_field_derivative.f k t670 (rd_L1 t678 t671)).bind fun t682 => ((impl_field_value.f t670 t682 a1).bind fun t685 => ((impl_field_div.f k t670 t677 t685).bind fun t686 => ((impl_field_mul.f t670 (rd l0_2 0) t686).bind fun t687 => (some t687))))) else (none)))) else (none)) else (none))) else (none)) = some r := H
 have A4 := zA A40
 clear A40
 by_cases c5 : 0 < (l0_2.length : Int)
 ·rw [if_pos c5] at H
  have c5b0 : decide (0 < (l0_2.length : Int)) = true := decide_eq_true c5
  have c5b1 : decide (0 < l0_2.length) = true := decide_eq_true (by omega)
  clear c5
  replace H := Option.bind_eq_some_iff.mp H
  obtain ⟨t673, A60, H⟩ := H
  replace H : (if 0 ≤ t671 then (if t671 < (t673.length : Int) then ((impl_field_value.f t670 (rd_L1 t673 t671) a1).bind fun t677 => ((impl_Jacobi_polys.f k a0_0 l0_1 l0_2).bind fun t678 => (if t671 < (t678.length : Int) then ((impl_field_derivative.f k t670 (rd_L1 t678 t671)).bind fun t682 => ((impl_field_value.f t670 t682 a1).bind fun t685 => ((impl_field_div.f k t670 t677 t685).bind fun t686 => ((impl_field_mul.f t670 (rd l0_2 0) t686).bind fun t687 => (some t687))))) else (none)))) else (none)) else (none)) = some r := H
  have A6 := zA A60
  clear A60
  by_cases c7 : 0 ≤ t671
  ·rw [if_pos c7] at H
   have c7b0 : decide (0 ≤ t671) = true := decide_eq_true c7
   clear c7
   by_cases c8 : t671 < (t673.length : Int)
   ·rw [if_pos c8] at H
    have c8b0 : decide (t671 < (t673.length : Int)) = true := decide_eq_true c8
    clear c8
    replace H := Option.bind_eq_some_iff.mp H
    obtain ⟨t677, A90, H⟩ := H
    replace H : ((impl_Jacobi_polys.f k a0_0 l0_1 l0_2).bind fun t678 => (if t671 < (t678.length : Int) then ((impl_field_derivative.f k t670 (rd_L1 t678 t671)).bind fun t682 => ((impl_field_value.f t670 t682 a1).bind fun t685 => ((impl_field_div.f k t670 t677 t685).bind fun t686 => ((impl_field_mul.f t670 (rd l0_2 0) t686).bind fun t687 => (some t687))))) else (none))) = some r := H
    have A9 := zA A90
    clear A90
    replace H := Option.bind_eq_some_iff.mp H
    obtain ⟨t678, A100, H⟩ := H
    replace H : (if t671 < (t678.length : Int) then ((impl_field_derivative.f k t670 (rd_L1 t678 t671)).bind fun t682 => ((impl_field_value.f t670 t682 a1).bind fun t685 => ((impl_field_div.f k t670 t677 t685).bind fun t686 => ((impl_field_mul.f t670 (rd l0_2 0) t686).bind fun t687 => (some t687))))) else (none)) = some r := H
    have A10 := zA A100
    clear A100
    by_cases c11 : t671 < (t678.length : Int)
    ·rw [if_pos c11] at H
     have c11b0 : decide (t671 < (t678.length : Int)) = true := decide_eq_true c11
     clear c11
     replace H := Option.bind_eq_some_iff.mp H
     obtain ⟨t682, A120, H⟩ := H
     replace H : ((impl_field_value.f t670 t682 a1).bind fun t685 => ((impl_field_div.f k t670 t677 t685).bind fun t686 => ((impl_field_mul.f t670 (rd l0_2 0) t686).bind fun t687 => (some t687)))) = some r := H
     have A12 := zA A120
     clear A120
     replace H := Option.bind_eq_some_iff.mp H
     obtain ⟨t685, A130, H⟩ := H
     replace H : ((impl_field_div.f k t670 t677 t685).bind fun t686 => ((impl_field_mul.f t670 (rd l0_2 0) t686).bind fun t687 => (some t687))) = some r := H
     have A13 := zA A130
     clear A130
     replace H := Option.bind_eq_some_iff.mp H
     obtain ⟨t686, A140, H⟩ := H
     replace H : ((impl_field_mul.f t670 (rd l0_2 0) t686).bind fun t687 => (some t687)) = some r := H
     have A14 := zA A140
     clear A140
     replace H := Option.bind_eq_some_iff.mp H
     obtain ⟨t687, A150, H⟩ := H
     replace H : (some t687) = some r := H
     have A15 := zA A150
     clear A150
     obtain rfl := Option.some.inj H
     go_enter Try.func84, Try.ntmps84
     try go_wp2_with (first | ((with_reducible refine gate_dst (N := 2) rfl ?_); refine box_event ?hg (N := 2) ?hd (cs := #[.int .i64 a0_0, .slice A0_1 l0_1.length c0_1, .slice A0_2 l0_2.length c0_2]) (t := 46) ?hr ?_; (case hd => rfl); (case hg => rfl); (case hr => first | (go_simp; done) | (go_simp; rfl)); intro gb669 hg w16 hbox hb; have n0_ := xH HB hb; have n1_ := zA (hbox); have n2_ := zA ((by rw [hg]; exact (below_size (uH HB.out)) : w.heap.size ≤ gb669)); have n3_ := zA ((by rw [hg]; exact (below_size (uH HB.out)) : w.heap.size ≤ gb669)); clear HB; have HB := n0_; have BK669 := n1_; have GW669 := n2_; have GE669 := n3_; have := geI GE669; clear n0_ n1_ n2_ n3_ hb hbox hg))
     have n0_ := zA (blk_drew BK669.out)
     have n1_ := zA (below_drew1 HB.out)
     clear BK669 HB
     have BK669 := n0_; have HB := n1_
     clear n0_ n1_
     refine start_ (n := 6) (S := fun w' => w'.cell? ⟨gb669, 0, none⟩ = some (.int .i64 a0_0) ∧ w'.cell? ⟨gb669, 1, none⟩ = some (.slice A0_1 l0_1.length c0_1) ∧ w'.cell? ⟨gb669, 2, none⟩ = some (.slice A0_2 l0_2.length c0_2)) (ds := []) #[false, false, false, false, false, false] (by kernel_rfl) rfl rfl ⟨(blk_cell BK669.out 0).trans rfl, (blk_cell BK669.out 1).trans rfl, (blk_cell BK669.out 2).trans rfl⟩ (fun hHeld => ?_)
     generalize w16.drew = w17 at BK669 HB hHeld ⊢
     refine take_ (i := 0) (N := some 7) (v := ?_) (a' := ?_) (bl 6 1) rfl rfl (by kernel_rfl) (fun _ _ _ h => h) (Or.inl ⟨by rfl, ?_⟩) hHeld ?_ ?_
     rotate_left
     ·rintro w' ⟨s0, s1, s2⟩
      go_simp
      with_reducible rfl
     rotate_left
     ·simp only [Act.put, ls, lz, ln, i64_w, i32_w]
      rfl
     refine take_ (i := 2) (N := some 9) (v := ?_) (a' := ?_) (bl 6 5) rfl rfl (by kernel_rfl) (fun _ _ _ h => h) (Or.inl ⟨by rfl, ?_⟩) hHeld ?_ ?_
     rotate_left
     ·rintro w' ⟨s0, s1, s2⟩
      go_simp
      with_reducible rfl
     rotate_left
     ·simp only [Act.put, ls, lz, ln, i64_w, i32_w]
      rfl
     refine one_ (i := 1) (N := some 8) (bl 6 7) rfl rfl (by kernel_rfl) (by decide) (fun K hK => ?_)
     refine goes_ Try.func76 (by kernel_rfl) rfl #[.agg #[.int .i64 a0_0, .slice A0_1 l0_1.length c0_1, .slice A0_2 l0_2.length c0_2]] (by rfl) rfl rfl (by (try simp only [la, lb, lc]); first | done | rfl | (simp only [ld, le]; rfl)) ?_
     with_reducible refine (impl_Jacobi_field.calls a0_0 _ _ l0_1 _ _ l0_2 t670 _ ?side1 ?side2 ?side3 ?side4 A3.out).mono ?_
     (case side1 => exact uC ((Kd.C_below HR0_1.out HB.out)))
     (case side2 => exact HC0_1.out)
     (case side3 => exact uC ((Kd.C_below HR0_2.out HB.out)))
     (case side4 => exact HC0_2.out)
     rintro e w18 ⟨rfl, hb⟩
     refine ⟨_, rfl, ?_⟩
     have n0_ := xB BK669 hb
     have n1_ := xH HB hb
     clear BK669 HB
     have BK669 := n0_; have HB := n1_
     clear n0_ n1_
     (try clear hb); (try clear hb2); (try clear hk); (try clear hi)
     refine hK.out _ _ ⟨(blk_cell BK669.out 0).trans rfl, (blk_cell BK669.out 1).trans rfl, (blk_cell BK669.out 2).trans rfl⟩ (fun hHeld => ?_)
     clear hK K
     refine no_ 8 ?_
     refine one_ (i := 3) (N := some 10) (bl 6 15) rfl rfl (by kernel_rfl) (by decide) (fun K hK => ?_)
     refine goes_ Try.func75 (by kernel_rfl) rfl #[.agg #[.int .i64 a0_0, .slice A0_1 l0_1.length c0_1, .slice A0_2 l0_2.length c0_2]] (by rfl) rfl rfl (by (try simp only [la, lb, lc]); first | done | rfl | (simp only [ld, le]; rfl)) ?_
     with_reducible refine (impl_Jacobi_size.calls a0_0 _ _ l0_1 _ _ l0_2 t671 _ ?side1 ?side2 ?side3 ?side4 A4.out).mono ?_
     (case side1 => exact uC ((Kd.C_below HR0_1.out HB.out)))
     (case side2 => exact HC0_1.out)
     (case side3 => exact uC ((Kd.C_below HR0_2.out HB.out)))
     (case side4 => exact HC0_2.out)
     rintro e w19 ⟨rfl, hb⟩
     refine ⟨_, rfl, ?_⟩
     have n0_ := xB BK669 hb
     have n1_ := xH HB hb
     clear BK669 HB
     have BK669 := n0_; have HB := n1_
     clear n0_ n1_
     (try clear hb); (try clear hb2); (try clear hk); (try clear hi)
     refine hK.out _ _ ⟨(blk_cell BK669.out 0).trans rfl, (blk_cell BK669.out 1).trans rfl, (blk_cell BK669.out 2).trans rfl⟩ (fun hHeld => ?_)
     clear hK K
     refine no_ 10 ?_
     refine pure_ (i := 4) (N := some 5) (v := ?_) (a' := ?_) (bl 6 31) rfl rfl (by kernel_rfl) (fun _ _ _ h => h) (Or.inl ⟨by rfl, ?_⟩) ?_ ?_
     rotate_left
     ·intro w'
      go_simp
      with_reducible rfl
     rotate_left
     ·simp only [Act.put, ls, lz, ln, i64_w, i32_w]
      rfl
     refine pure_ (i := 5) (N := some 6) (v := ?_) (a' := ?_) (bl 6 63) rfl rfl (by kernel_rfl) (fun _ _ _ h => h) (Or.inl ⟨by rfl, ?_⟩) ?_ ?_
     rotate_left
     ·intro w'
      go_simp
      with_reducible rfl
     rotate_left
     ·simp only [Act.put, ls, lz, ln, i64_w, i32_w]
      rfl
     refine done_ (by kernel_rfl) ?_
     try go_wp2
     have n0_ := zA (blk_drew BK669.out)
     have n1_ := zA (below_drew1 HB.out)
     clear BK669 HB
     have BK669 := n0_; have HB := n1_
     clear n0_ n1_
     have p672 : 0 ≤ (0 : Int) := (by omega)
     have q672 : 0 < (l0_2.length : Int) := of_decide_eq_true (by first | (with_reducible assumption) | assumption)
     obtain ⟨ad672, e672, hx672_0⟩ := Kd.at_int HR0_2.out 0 p672 q672
     have hw672_0 := hx672_0
     (try rw [show ((0 : Int)).toNat = 0 from rfl] at hw672_0)
     (try rw [show 0 * 1 = 0 from rfl] at hw672_0)
     (try rw [Addr.add_zero'] at hw672_0)
     cases e672
     have qi672 : (0 < l0_2.length) = True := eq_true (by omega)
     (try rw [show ((0 : Int)).toNat = 0 from rfl] at hx672_0)
     (try rw [Addr.add_zero'] at hx672_0)
     replace hx672_0 := (HB.out.cell (World.block_lt_of_cell? w _ hx672_0)).trans hx672_0
     replace p672 := eq_true p672
     replace q672 := eq_true q672
     refine start_ (n := 27) (S := fun w' => w'.cell? ⟨gb669, 0, none⟩ = some (.int .i64 a0_0) ∧ w'.cell? ⟨gb669, 1, none⟩ = some (.slice A0_1 l0_1.length c0_1) ∧ w'.cell? ⟨gb669, 2, none⟩ = some (.slice (some ad672) l0_2.length c0_2) ∧ w'.cell? ad672 = some (.int .i64 (rd l0_2 0))) (ds := []) #[false, false, false, false, false, false, false, false, false, false, false, false, false, false, false, false, false, false, false, false, false, false, false, false, false, false, false] (by kernel_rfl) rfl rfl ⟨(blk_cell BK669.out 0).trans rfl, (blk_cell BK669.out 1).trans rfl, (blk_cell BK669.out 2).trans rfl, ((HB.out.cell (World.block_lt_of_cell? w _ hw672_0)).trans hw672_0)⟩ (fun hHeld => ?_); refine with_tabW impl_Jacobi_christoffel.tab2 impl_Jacobi_christoffel.bits2 (fun HT_ HW_ => ?_)
     generalize w19.drew = w20 at BK669 HB hx672_0 hHeld ⊢
     refine pu_ 0 11 (bl 27 1) HT_ ?_
     refine pu_ 1 12 (bl 27 3) HT_ ?_
     refine pu_ 5 16 (bl 27 35) HT_ ?_
     refine pu_ 6 17 (bl 27 99) HT_ ?_
     refine pu_ 9 20 (bl 27 611) HT_ ?_
     refine pu_ 12 23 (bl 27 4707) HT_ ?_
     refine pu_ 14 25 (bl 27 21091) HT_ ?_
     refine pu_ 15 26 (bl 27 53859) HT_ ?_
     refine pu_ 18 29 (bl 27 316003) HT_ ?_
     refine pu_ 22 33 (bl 27 4510307) HT_ ?_
     refine ta_ 2 13 (bl 27 4510311) HT_ HW_ hHeld ?_
     refine pu_ 3 14 (bl 27 4510319) HT_ ?_
     refine ta_ 4 15 (bl 27 4510335) HT_ HW_ hHeld ?_
     refine ta_ 7 18 (bl 27 4510463) HT_ HW_ hHeld ?_
     refine ta_ 16 27 (bl 27 4575999) HT_ HW_ hHeld ?_
     refine on_ 8 (some 19) (bl 27 4576255) HT_ (fun K hK => ?_)
     refine goes_ Try.func111 (by kernel_rfl) rfl #[.agg #[.int .i64 a0_0, .slice A0_1 l0_1.length c0_1, .slice (some ad672) l0_2.length c0_2]] (by rfl) rfl rfl (by (try simp only [la, lb, lc]); first | done | rfl | (simp only [ld, le]; rfl)) ?_
     with_reducible refine (impl_Jacobi_associated.calls k a0_0 _ _ l0_1 _ _ l0_2 t673 _ ?side1 ?side2 ?side3 ?side4 A6.out).mono ?_
     (case side1 => exact uC ((Kd.C_below HR0_1.out HB.out)))
     (case side2 => exact HC0_1.out)
     (case side3 => exact uC ((Kd.C_below HR0_2.out HB.out)))
     (case side4 => exact HC0_2.out)
     rintro e w21 ⟨v674, rfl, ho0, hb⟩
     refine ⟨_, rfl, ?_⟩
     have n0_ := zA (Kd.N_lower (Kd.N_mono (ok' := fun k_ => k_ ≠ gb669) ho0 (fun k_ hk_ => (Kd.freshB (g := gb669) (o := .cells #[.int .i64 a0_0, .slice A0_1 l0_1.length c0_1, .slice (some ad672) l0_2.length c0_2] 46 (0, 0)) (uB BK669.out) k_ hk_))) (below_size (uH HB.out)))
     have n1_ := xB BK669 hb
     have n2_ := xH HB hb
     clear BK669 HB
     have HO675 := n0_; have BK669 := n1_; have HB := n2_
     clear n0_ n1_ n2_
     (try clear hb); (try clear hb2); (try clear hk); (try clear hi); (try clear ho0)
     obtain ⟨Ao22, co22, eo22⟩ := Kd.N_slice HO675.out
     (first | subst eo22 | (injection eo22 with f1_ f2_ f3_; have f4_ := f1_.symm; have f5_ := f3_.symm; clear f1_ f2_ f3_; subst f4_; subst f5_))
     have p676 : 0 ≤ (t671 : Int) := of_decide_eq_true (by first | (with_reducible assumption) | assumption)
     have q676 : t671 < (t673.length : Int) := of_decide_eq_true (by first | (with_reducible assumption) | assumption)
     obtain ⟨ad676, A676_0, c676_0, e676, hx676_0, hl676_0, hi676_0⟩ := at_L1 (Kd.N_reads' HO675.out).2.2 t671 p676 q676
     cases e676
     obtain ⟨ce676, hce676, hMe676, hcc676⟩ := Kd.N_get HO675.out [] t671 p676 (by first | exact q676 | exact of_decide_eq_true (by first | (with_reducible assumption) | assumption) | (have e_ := (Kd.N_reads' HO675.out).1; omega))
     obtain ⟨ua676_0, uc676_0, rfl, ul676_0, ge676_0⟩ := Kd.FK_slice_open hMe676
     have hv676_0 := hcc676 0 _ rfl
     rw [Nat.add_zero, show ((Kd.slice 2 (Kd.int .i64))).sz = 1 from rfl, Nat.mul_one] at hv676_0
     replace hv676_0 := Option.some.inj (hv676_0.symm.trans hx676_0)
     injection hv676_0 with hva_ hvn_ hvc_
     rw [hva_] at ge676_0
     rw [hvc_] at ul676_0
     have HL676_0 := zA (show Kd.V (Kd.int .i64) 2 _ w.heap.size _ _ (rd_L1 t673 t671) from Kd.V_mk ul676_0 ge676_0)
     clear hva_ hvn_ hvc_ ge676_0 ul676_0
     clear hcc676 hce676
     have HR676_0 := zA hi676_0
     have HC676_0 := zA hl676_0
     clear hi676_0 hl676_0
     replace p676 := eq_true p676
     replace q676 := eq_true q676
     refine hK.out _ _ ⟨(blk_cell BK669.out 0).trans rfl, (blk_cell BK669.out 1).trans rfl, (blk_cell BK669.out 2).trans rfl, ((HB.out.cell (World.block_lt_of_cell? w _ hw672_0)).trans hw672_0)⟩ (fun hHeld => ?_)
     clear hK K
     refine no_ 19 ?_
     refine pu_ 10 21 (bl 27 4577279) HT_ ?_
     refine lo_ 11 22 (bl 27 4579327) HT_ hHeld ?_
     refine on_ 13 (some 24) (bl 27 4587519) HT_ (fun K hK => ?_)
     refine goes_ Try.func78 (by kernel_rfl) rfl #[.int .i64 t670, .slice A676_0 (rd_L1 t673 t671).length c676_0, .int .i64 a1] (by rfl) rfl rfl (by (try simp only [la, lb, lc]); first | done | rfl | (simp only [ld, le]; rfl)) ?_
     with_reducible refine (impl_field_value.calls t670 _ _ (rd_L1 t673 t671) a1 t677 _ ?side1 ?side2 A9.out).mono ?_
     (case side1 => repeat (first | exact (by repeat (first | (with_reducible exact HR676_0.out) | (with_reducible refine Kd.C_alloc ?_ _) | (with_reducible refine Kd.C_drewN ?_ _) | (with_reducible refine Kd.C_drew ?_) | exact HR676_0.out)) | (with_reducible refine Kd.C_alloc ?_ _) | (with_reducible refine Kd.C_drewN ?_ _) | (with_reducible refine Kd.C_drew ?_)))
     (case side2 => exact HC676_0.out)
     rintro e w23 ⟨rfl, hb⟩
     refine ⟨_, rfl, ?_⟩
     have n0_ := zA (Kd.N_below (by (with_reducible repeat (first | apply Kd.N_alloc | apply Kd.N_drewN | apply Kd.N_drew)); exact HO675.out) hb)
     have n1_ := zA (Kd.V_below (by (with_reducible repeat (first | apply Kd.V_alloc | apply Kd.V_drewN | apply Kd.V_drew)); exact HL676_0.out) hb)
     have n2_ := xB BK669 hb
     have n3_ := zA (Kd.C_below (by repeat (first | (with_reducible exact HR676_0.out) | (with_reducible refine Kd.C_alloc ?_ _) | (with_reducible refine Kd.C_drewN ?_ _) | (with_reducible refine Kd.C_drew ?_) | exact HR676_0.out)) hb)
     have n4_ := xH HB hb
     clear HO675 HL676_0 BK669 HR676_0 HB
     have HO675 := n0_; have HL676_0 := n1_; have BK669 := n2_; have HR676_0 := n3_; have HB := n4_
     clear n0_ n1_ n2_ n3_ n4_
     (try clear hb); (try clear hb2); (try clear hk); (try clear hi)
     refine hK.out _ _ ⟨(blk_cell BK669.out 0).trans rfl, (blk_cell BK669.out 1).trans rfl, (blk_cell BK669.out 2).trans rfl, ((HB.out.cell (World.block_lt_of_cell? w _ hw672_0)).trans hw672_0)⟩ (fun hHeld => ?_)
     clear hK K
     refine no_ 24 ?_
     refine on_ 17 (some 28) (bl 27 4718591) HT_ (fun K hK => ?_)
     refine goes_ Try.func79 (by kernel_rfl) rfl #[.agg #[.int .i64 a0_0, .slice A0_1 l0_1.length c0_1, .slice (some ad672) l0_2.length c0_2]] (by rfl) rfl rfl (by (try simp only [la, lb, lc]); first | done | rfl | (simp only [ld, le]; rfl)) ?_
     with_reducible refine (impl_Jacobi_polys.calls k a0_0 _ _ l0_1 _ _ l0_2 t678 _ ?side1 ?side2 ?side3 ?side4 A10.out).mono ?_
     (case side1 => exact uC ((Kd.C_below HR0_1.out HB.out)))
     (case side2 => exact HC0_1.out)
     (case side3 => exact uC ((Kd.C_below HR0_2.out HB.out)))
     (case side4 => exact HC0_2.out)
     rintro e w24 ⟨v679, rfl, ho0, hb⟩
     refine ⟨_, rfl, ?_⟩
     have n0_ := zA (Kd.N_elder' (by (with_reducible repeat (first | apply Kd.N_alloc | apply Kd.N_drewN | apply Kd.N_drew)); exact HO675.out) (Kd.N_base ho0) hb)
     have n1_ := zA (Kd.V_elder' (by (with_reducible repeat (first | apply Kd.V_alloc | apply Kd.V_drewN | apply Kd.V_drew)); exact HL676_0.out) (Kd.N_base ho0) hb)
     have n2_ := zA (Kd.N_lower (Kd.N_mono (ok' := fun k_ => some k_ ≠ (.slice (some ad676) t673.length co22 : Value).ownBlock ∧ k_ ≠ gb669) ho0 (fun k_ hk_ => ⟨(Kd.fresh' (Kd.N_lt (by (with_reducible repeat (first | apply Kd.N_alloc | apply Kd.N_drewN | apply Kd.N_drew)); exact HO675.out)) k_ hk_), (Kd.freshB (g := gb669) (o := .cells #[.int .i64 a0_0, .slice A0_1 l0_1.length c0_1, .slice (some ad672) l0_2.length c0_2] 46 (0, 0)) (uB BK669.out) k_ hk_)⟩)) (below_size (uH HB.out)))
     have n3_ := xB BK669 hb
     have n4_ := zA (Kd.C_below (by repeat (first | (with_reducible exact HR676_0.out) | (with_reducible refine Kd.C_alloc ?_ _) | (with_reducible refine Kd.C_drewN ?_ _) | (with_reducible refine Kd.C_drew ?_) | exact HR676_0.out)) hb)
     have n5_ := xH HB hb
     clear HO675 HL676_0 BK669 HR676_0 HB
     have HO675 := n0_; have HL676_0 := n1_; have HO680 := n2_; have BK669 := n3_; have HR676_0 := n4_; have HB := n5_
     clear n0_ n1_ n2_ n3_ n4_ n5_
     (try clear hb); (try clear hb2); (try clear hk); (try clear hi); (try clear ho0)
     obtain ⟨Ao25, co25, eo25⟩ := Kd.N_slice HO680.out
     (first | subst eo25 | (injection eo25 with f1_ f2_ f3_; have f4_ := f1_.symm; have f5_ := f3_.symm; clear f1_ f2_ f3_; subst f4_; subst f5_))
     have p681 : 0 ≤ (t671 : Int) := of_decide_eq_true (by first | (with_reducible assumption) | assumption)
     have q681 : t671 < (t678.length : Int) := of_decide_eq_true (by first | (with_reducible assumption) | assumption)
     obtain ⟨ad681, A681_0, c681_0, e681, hx681_0, hl681_0, hi681_0⟩ := at_L1 (Kd.N_reads' HO680.out).2.2 t671 p681 q681
     cases e681
     obtain ⟨ce681, hce681, hMe681, hcc681⟩ := Kd.N_get HO680.out [] t671 p681 (by first | exact q681 | exact of_decide_eq_true (by first | (with_reducible assumption) | assumption) | (have e_ := (Kd.N_reads' HO680.out).1; omega))
     obtain ⟨ua681_0, uc681_0, rfl, ul681_0, ge681_0⟩ := Kd.FK_slice_open hMe681
     have hv681_0 := hcc681 0 _ rfl
     rw [Nat.add_zero, show ((Kd.slice 2 (Kd.int .i64))).sz = 1 from rfl, Nat.mul_one] at hv681_0
     replace hv681_0 := Option.some.inj (hv681_0.symm.trans hx681_0)
     injection hv681_0 with hva_ hvn_ hvc_
     rw [hva_] at ge681_0
     rw [hvc_] at ul681_0
     have HL681_0 := zA (show Kd.V (Kd.int .i64) 2 _ w.heap.size _ _ (rd_L1 t678 t671) from Kd.V_mk ul681_0 ge681_0)
     clear hva_ hvn_ hvc_ ge681_0 ul681_0
     clear hcc681 hce681
     have HR681_0 := zA hi681_0
     have HC681_0 := zA hl681_0
     clear hi681_0 hl681_0
     replace p681 := eq_true p681
     replace q681 := eq_true q681
     refine hK.out _ _ ⟨(blk_cell BK669.out 0).trans rfl, (blk_cell BK669.out 1).trans rfl, (blk_cell BK669.out 2).trans rfl, ((HB.out.cell (World.block_lt_of_cell? w _ hw672_0)).trans hw672_0)⟩ (fun hHeld => ?_)
     clear hK K
     refine no_ 28 ?_
     refine pu_ 19 30 (bl 27 5242879) HT_ ?_
     refine lo_ 20 31 (bl 27 6291455) HT_ hHeld ?_
     refine on_ 21 (some 32) (bl 27 8388607) HT_ (fun K hK => ?_)
     refine goes_ Try.func83 (by kernel_rfl) rfl #[.int .i64 t670, .slice A681_0 (rd_L1 t678 t671).length c681_0] (by rfl) rfl rfl (by (try simp only [la, lb, lc]); first | done | rfl | (simp only [ld, le]; rfl)) ?_
     with_reducible refine (impl_field_derivative.calls k t670 _ _ (rd_L1 t678 t671) t682 _ ?side1 ?side2 A12.out).mono ?_
     (case side1 => repeat (first | exact (by repeat (first | (with_reducible exact HR681_0.out) | (with_reducible refine Kd.C_alloc ?_ _) | (with_reducible refine Kd.C_drewN ?_ _) | (with_reducible refine Kd.C_drew ?_) | exact HR681_0.out)) | (with_reducible refine Kd.C_alloc ?_ _) | (with_reducible refine Kd.C_drewN ?_ _) | (with_reducible refine Kd.C_drew ?_)))
     (case side2 => exact HC681_0.out)
     rintro e w26 ⟨v683, rfl, ho0, hb⟩
     refine ⟨_, rfl, ?_⟩
     have n0_ := zA (Kd.N_elder' (by (with_reducible repeat (first | apply Kd.N_alloc | apply Kd.N_drewN | apply Kd.N_drew)); exact HO675.out) (Kd.R_base ho0) hb)
     have n1_ := zA (Kd.V_elder' (by (with_reducible repeat (first | apply Kd.V_alloc | apply Kd.V_drewN | apply Kd.V_drew)); exact HL676_0.out) (Kd.R_base ho0) hb)
     have n2_ := zA (Kd.N_elder' (by (with_reducible repeat (first | apply Kd.N_alloc | apply Kd.N_drewN | apply Kd.N_drew)); exact HO680.out) (Kd.R_base ho0) hb)
     have n3_ := zA (Kd.V_elder' (by (with_reducible repeat (first | apply Kd.V_alloc | apply Kd.V_drewN | apply Kd.V_drew)); exact HL681_0.out) (Kd.R_base ho0) hb)
     have n4_ := zA (Kd.R_lower ho0 (below_size (uH HB.out)))
     have n5_ := xB BK669 hb
     have n6_ := zA (Kd.C_below (by repeat (first | (with_reducible exact HR676_0.out) | (with_reducible refine Kd.C_alloc ?_ _) | (with_reducible refine Kd.C_drewN ?_ _) | (with_reducible refine Kd.C_drew ?_) | exact HR676_0.out)) hb)
     have n7_ := zA (Kd.C_below (by repeat (first | (with_reducible exact HR681_0.out) | (with_reducible refine Kd.C_alloc ?_ _) | (with_reducible refine Kd.C_drewN ?_ _) | (with_reducible refine Kd.C_drew ?_) | exact HR681_0.out)) hb)
     have n8_ := xH HB hb
     clear HO675 HL676_0 HO680 HL681_0 BK669 HR676_0 HR681_0 HB
     have HO675 := n0_; have HL676_0 := n1_; have HO680 := n2_; have HL681_0 := n3_; have HO684 := n4_; have BK669 := n5_; have HR676_0 := n6_; have HR681_0 := n7_; have HB := n8_
     clear n0_ n1_ n2_ n3_ n4_ n5_ n6_ n7_ n8_
     (try clear hb); (try clear hb2); (try clear hk); (try clear hi); (try clear ho0)
     obtain ⟨Ao27, co27, eo27⟩ := Kd.R_slice HO684.out
     (first | subst eo27 | (injection eo27 with f1_ f2_ f3_; have f4_ := f1_.symm; have f5_ := f3_.symm; clear f1_ f2_ f3_; subst f4_; subst f5_))
     refine hK.out _ _ ⟨(blk_cell BK669.out 0).trans rfl, (blk_cell BK669.out 1).trans rfl, (blk_cell BK669.out 2).trans rfl, ((HB.out.cell (World.block_lt_of_cell? w _ hw672_0)).trans hw672_0)⟩ (fun hHeld => ?_)
     clear hK K
     refine no_ 32 ?_
     refine on_ 23 (some 34) (bl 27 16777215) HT_ (fun K hK => ?_)
     refine goes_ Try.func78 (by kernel_rfl) rfl #[.int .i64 t670, .slice Ao27 t682.length co27, .int .i64 a1] (by rfl) rfl rfl (by (try simp only [la, lb, lc]); first | done | rfl | (simp only [ld, le]; rfl)) ?_
     with_reducible refine (impl_field_value.calls t670 _ _ t682 a1 t685 _ ?side1 ?side2 A13.out).mono ?_
     (case side1 => exact uC ((Kd.R_reads' HO684.out).2.2))
     (case side2 => exact (Kd.R_reads' HO684.out).2.1)
     rintro e w28 ⟨rfl, hb⟩
     refine ⟨_, rfl, ?_⟩
     have n0_ := zA (Kd.N_below (by (with_reducible repeat (first | apply Kd.N_alloc | apply Kd.N_drewN | apply Kd.N_drew)); exact HO675.out) hb)
     have n1_ := zA (Kd.V_below (by (with_reducible repeat (first | apply Kd.V_alloc | apply Kd.V_drewN | apply Kd.V_drew)); exact HL676_0.out) hb)
     have n2_ := zA (Kd.N_below (by (with_reducible repeat (first | apply Kd.N_alloc | apply Kd.N_drewN | apply Kd.N_drew)); exact HO680.out) hb)
     have n3_ := zA (Kd.V_below (by (with_reducible repeat (first | apply Kd.V_alloc | apply Kd.V_drewN | apply Kd.V_drew)); exact HL681_0.out) hb)
     have n4_ := xR HO684 hb
     have n5_ := xB BK669 hb
     have n6_ := zA (Kd.C_below (by repeat (first | (with_reducible exact HR676_0.out) | (with_reducible refine Kd.C_alloc ?_ _) | (with_reducible refine Kd.C_drewN ?_ _) | (with_reducible refine Kd.C_drew ?_) | exact HR676_0.out)) hb)
     have n7_ := zA (Kd.C_below (by repeat (first | (with_reducible exact HR681_0.out) | (with_reducible refine Kd.C_alloc ?_ _) | (with_reducible refine Kd.C_drewN ?_ _) | (with_reducible refine Kd.C_drew ?_) | exact HR681_0.out)) hb)
     have n8_ := xH HB hb
     clear HO675 HL676_0 HO680 HL681_0 HO684 BK669 HR676_0 HR681_0 HB
     have HO675 := n0_; have HL676_0 := n1_; have HO680 := n2_; have HL681_0 := n3_; have HO684 := n4_; have BK669 := n5_; have HR676_0 := n6_; have HR681_0 := n7_; have HB := n8_
     clear n0_ n1_ n2_ n3_ n4_ n5_ n6_ n7_ n8_
     (try clear hb); (try clear hb2); (try clear hk); (try clear hi)
     refine hK.out _ _ ⟨(blk_cell BK669.out 0).trans rfl, (blk_cell BK669.out 1).trans rfl, (blk_cell BK669.out 2).trans rfl, ((HB.out.cell (World.block_lt_of_cell? w _ hw672_0)).trans hw672_0)⟩ (fun hHeld => ?_)
     clear hK K
     refine no_ 34 ?_
     refine on_ 24 (some 35) (bl 27 33554431) HT_ (fun K hK => ?_)
     refine goes_ Try.func90 (by kernel_rfl) rfl #[.int .i64 t670, .int .i64 t677, .int .i64 t685] (by rfl) rfl rfl (by (try simp only [la, lb, lc]); first | done | rfl | (simp only [ld, le]; rfl)) ?_
     with_reducible refine (impl_field_div.calls k t670 t677 t685 t686 _ A14.out).mono ?_
     rintro e w' ⟨rfl, ⟨nd, rfl⟩⟩
     refine ⟨_, rfl, ?_⟩
     refine hK.out _ _ ⟨(blk_cell BK669.out 0).trans rfl, (blk_cell BK669.out 1).trans rfl, (blk_cell BK669.out 2).trans rfl, ((HB.out.cell (World.block_lt_of_cell? w _ hw672_0)).trans hw672_0)⟩ (fun hHeld => ?_)
     clear hK K
     refine no_ 35 ?_
     refine on_ 25 (some 36) (bl 27 67108863) HT_ (fun K hK => ?_)
     refine goes_ Try.func89 (by kernel_rfl) rfl #[.int .i64 t670, .int .i64 (rd l0_2 0), .int .i64 t686] (by rfl) rfl rfl (by (try simp only [la, lb, lc]); first | done | rfl | (simp only [ld, le]; rfl)) ?_
     with_reducible refine (impl_field_mul.calls t670 (rd l0_2 0) t686 t687 _ A15.out).mono ?_
     rintro e w' ⟨rfl, ⟨nd, rfl⟩⟩
     refine ⟨_, rfl, ?_⟩
     refine hK.out _ _ ⟨(blk_cell BK669.out 0).trans rfl, (blk_cell BK669.out 1).trans rfl, (blk_cell BK669.out 2).trans rfl, ((HB.out.cell (World.block_lt_of_cell? w _ hw672_0)).trans hw672_0)⟩ (fun hHeld => ?_)
     clear hK K
     refine no_ 36 ?_
     refine pu_ 26 4 (bl 27 134217727) HT_ ?_
     refine done_ (done_of HT_.out (by kernel_rfl)) ?_
     try go_wp2
     go_ret
     exact ⟨by first | rfl | (simp [errW_none, errW_some] <;> rfl) | (simp [*, errW_none, errW_some] <;> rfl), uH HB.out⟩
    ·rw [if_neg c11] at H
     exact absurd H (by simp)
   ·rw [if_neg c8] at H
    exact absurd H (by simp)
  ·rw [if_neg c7] at H
   exact absurd H (by simp)
 ·rw [if_neg c5] at H
  exact absurd H (by simp)

end Go.Proofs.Ytokkabgkjhpecaa.Pr
/- Printed by a program of this session out of the translation: what these functions of the program compute, under the conditions that each theorem names. -/
namespace Go.Proofs.Ytokkabgkjhpecaa.Pr
open Go.RowKit Go.Proofs.YtokkabgkjhpecaaW.PrintWords Go.Proofs.YtokkabgkjhpecaaW.PrintLast Go.Proofs.YtokkabgkjhpecaaW.PrintMore
attribute [local go_sem] max2_int min2_int max_two min_two max_three min_three max_four min_four   -- for this text's walks alone
set_option linter.unusedVariables false
set_option linter.unusedSimpArgs false

/-! ### spec_l01Derive: function 81 -/
def spec_l01Derive.l0 : Nat → Int → List Int → List Int → Int → Option (List Int)
 | 0, _, _, _, _ => none
 | k + 1, x0, x1, x5, x6 => if x6 < (x1.length : Int) then (if 0 ≤ x6 then (if x0 = 0 then (none) else (if x5.length < 17592186044416 then (spec_l01Derive.l0 k x0 x1 (x5 ++ [Int.tmod (wrap64 (x6 * (rd x1 x6))) x0]) (wrap64 (x6 + 1))) else (none))) else (none)) else ((spec_l01Trim.f k x5).bind fun t590 => (some t590))
def spec_l01Derive.f (k : Nat) (a0 : Int) (l1 : List Int) : Option (List Int) := spec_l01Derive.l0 k a0 l1 (([] : List Int)) 1
theorem spec_l01Derive.mono_l : ∀ k, (∀ y0 y1 y2 y3, LeO (spec_l01Derive.l0 k y0 y1 y2 y3) (spec_l01Derive.l0 (k + 1) y0 y1 y2 y3))
 | 0 => fun _ _ _ _ r h => by simp [spec_l01Derive.l0] at h
 | k + 1 => by
  have ih0 := spec_l01Derive.mono_l k
  ·intro y0 y1 y2 y3
   unfold spec_l01Derive.l0
   repeat' first
   | (with_reducible exact ih0 _ _ _ _)
   | (with_reducible exact spec_l01Trim.mono _ _)
   | (with_reducible exact LeO.refl _)
   | (with_reducible exact LeO.none _)
   | (with_reducible refine LeO.ite ?_ ?_)
   | (with_reducible refine LeO.bind ?_ (fun _ => ?_))
   | exact ih0 _ _ _ _
   | exact spec_l01Trim.mono _ _
   | exact LeO.none _
   | refine LeO.ite ?_ ?_
   | refine LeO.bind ?_ (fun _ => ?_)
theorem spec_l01Derive.mono : ∀ a0 a1 k, LeO (spec_l01Derive.f k a0 a1) (spec_l01Derive.f (k + 1) a0 a1) := by
 intro a0 a1 k
 have ih0 := spec_l01Derive.mono_l k
 unfold spec_l01Derive.f
 repeat' first
   | (with_reducible exact ih0 _ _ _ _)
   | (with_reducible exact spec_l01Trim.mono _ _)
   | (with_reducible exact LeO.refl _)
   | (with_reducible exact LeO.none _)
   | (with_reducible refine LeO.ite ?_ ?_)
   | (with_reducible refine LeO.bind ?_ (fun _ => ?_))
   | exact ih0 _ _ _ _
   | exact spec_l01Trim.mono _ _
   | exact LeO.none _
   | refine LeO.ite ?_ ?_
   | refine LeO.bind ?_ (fun _ => ?_)
set_option maxHeartbeats 8000000 in
set_option maxRecDepth 100000 in
theorem spec_l01Derive.calls (k : Nat) (a0 : Int) (A1 : Option Addr) (c1 : Nat) (l1 : List Int) (r : List Int) (w : World) (hr1 : Kd.C (Kd.int .i64) w A1 l1.length l1) (hc1 : l1.length ≤ c1) (h : spec_l01Derive.f k a0 l1 = some r) :
  Calls Try.prog 81 #[.int .i64 a0, .slice A1 l1.length c1] w fun e w' => ∃ v0_ : Value, e = .returned (v0_) ∧ Kd.R (Kd.int .i64) 2 w' w.heap.size (fun _ => True) v0_ r ∧ Below w.heap.size w w' := by
 have HR1 := zA hr1
 have HC1 := zA hc1
 clear hr1 hc1
 have HB := zA (Below.refl w.heap.size w)
 have H : (spec_l01Derive.l0 k a0 l1 (([] : List Int)) 1) = some r := h
 clear h
 obtain ⟨y583, hy583⟩ : ∃ y_ : List Int, y_ = (([] : List Int)) := ⟨_, rfl⟩
 replace H : (spec_l01Derive.l0 k a0 l1 y583 1) = some r := by first | (rw [hy583]; with_reducible exact H) | (have H2_ := (Option.bind_some _ _).symm.trans H; rw [hy583]; with_reducible exact H2_) | (have H2_ := (Option.bind_some _ _).symm.trans H; with_reducible exact H2_) | with_reducible exact H | (rw [hy583]; exact H) | exact H
 have Ny583 := zA hy583
 clear hy583
 have H' := zA H
 clear H
 go_enter Try.func81, Try.ntmps81
 go_wp2_with (first | ((with_reducible refine gate_dst (N := 7) rfl ?_); refine Kd.R_lit (Kd.int .i64) _ 2 ?hg (N := 7) ?hd (xs := ([] : List Int)) (inner := []) (ok := fun _ => True) (okp := fun _ => True) ?hr ?hp (fun _ hk => hk) trivial (Below.refl _ _) (Nat.le_refl _) (by simp) ?_; (case hd => rfl); (case hg => rfl); (case hr => first | (go_simp; done) | (go_simp; rfl)); (case hp => exact (Reps.none _ _)); intro v584 w3 ho4 hb hg_ hnew_; clear hg_ hnew_; (first | rw [← Ny583.out] at ho4 | (simp only [Int.reduceToNat] at ho4; rw [← Ny583.out] at ho4)); have n0_ := zA (Kd.R_lower ho4 (below_size (uH HB.out))); have n1_ := xH HB hb; clear HB; have HO585 := n0_; have HB := n1_; clear n0_ n1_ hb ho4))
 go_loopg [5, 6] k (fun kq v5 v6 w' => ∃ (x5_1 : List Int) (x6_1 : Int), v6 = .int .i64 x6_1 ∧ Aside0 (spec_l01Derive.l0 kq a0 l1 x5_1 x6_1 = some r) ∧ Aside0 (kq ≤ k) ∧ Aside0 (Kd.R (Kd.int .i64) 2 w' w.heap.size (fun _ => True) v5 x5_1) ∧ Aside0 (Below w.heap.size w w'))
 case atStart => exact ⟨(y583), (1), (by first | rfl | (simp; done) | (simp [*]; done)), H', ⟨Nat.le_refl _⟩, ⟨uR HO585.out⟩, ⟨uH HB.out⟩⟩
 case round =>
  clear H'
  try clear c1
  try clear p2
  obtain ⟨x5_1, x6_1, rfl, HA, HK1, HO_5, HB⟩ := hrel
  cases gk with
  | zero => exact absurd HA.out (by simp [spec_l01Derive.l0])
  | succ k1 =>
   have H := HA.out
   clear HA
   simp only [spec_l01Derive.l0] at H
   by_cases c5 : x6_1 < (l1.length : Int)
   ·rw [if_pos c5] at H
    have c5b0 : decide (x6_1 < (l1.length : Int)) = true := decide_eq_true c5
    clear c5
    by_cases c6 : 0 ≤ x6_1
    ·rw [if_pos c6] at H
     have c6b0 : decide (0 ≤ x6_1) = true := decide_eq_true c6
     clear c6
     by_cases c7 : a0 = 0
     ·rw [if_pos c7] at H
      exact absurd H (by simp)
     ·rw [if_neg c7] at H
      have c7b0 : (a0 == 0) = false := beq_eq_false_iff_ne.mpr c7
      have c7b1 : (a0 != 0) = true := bne_iff_ne.mpr c7
      by_cases c8 : x5_1.length < 17592186044416
      ·rw [if_pos c8] at H
       have LMc8 := zA c8
       clear c8
       obtain ⟨y587, hy587⟩ : ∃ y_ : List Int, y_ = (x5_1 ++ [Int.tmod (wrap64 (x6_1 * (rd l1 x6_1))) a0]) := ⟨_, rfl⟩
       replace H : (spec_l01Derive.l0 k1 a0 l1 y587 (wrap64 (x6_1 + 1))) = some r := by first | (rw [hy587]; with_reducible exact H) | (have H2_ := (Option.bind_some _ _).symm.trans H; rw [hy587]; with_reducible exact H2_) | (have H2_ := (Option.bind_some _ _).symm.trans H; with_reducible exact H2_) | with_reducible exact H | (rw [hy587]; exact H) | exact H
       have Ny587 := zA hy587
       clear hy587
       have H' := zA H
       clear H
       have p586 : 0 ≤ (x6_1 : Int) := of_decide_eq_true (by first | (with_reducible assumption) | assumption)
       have q586 : x6_1 < (l1.length : Int) := of_decide_eq_true (by first | (with_reducible assumption) | assumption)
       obtain ⟨ad586, e586, hx586_0⟩ := Kd.at_int HR1.out x6_1 p586 q586
       cases e586
       replace hx586_0 := (HB.out.cell (World.block_lt_of_cell? w _ hx586_0)).trans hx586_0
       replace p586 := eq_true p586
       replace q586 := eq_true q586
       go_wp2_with (first | ((with_reducible refine gate_builtin (b := .append) (xs := #[.tmp 14, .tmp 23]) rfl ?_); at_builtin; refine Kd.R_append (Kd.int .i64) (w0 := w) w.heap.size rfl (.tmp 14) (.tmp 23) 22 2 (.int .i64 0) 8 rfl Try.underlying22 info2 rfl (by decide) (by omega) u5 x5_1 (Int.tmod (wrap64 (x6_1 * (rd l1 x6_1))) a0) [.int .i64 (Int.tmod (wrap64 (x6_1 * (rd l1 x6_1))) a0)] (fun _ => True) (fun _ => False) rfl rfl ?aP (fun _ hk => hk.elim) ?aF ?aO ?aB ?aS ?aL ?_; (case aP => exact rfl); (case aB => exact (uH HB.out)); (case aF => exact (fun _ _ => trivial)); (case aO => exact (uR HO_5.out)); (case aS => exact (below_size (uH HB.out))); (case aL => have := LMc8.out; omega); intro v588 w9 ho hb hg hat; rw [← Ny587.out] at ho; have n0_ := zA (hb); have n1_ := zA (ho); clear HB HO_5; have HB := n0_; have HO589 := n1_; clear n0_ n1_ ho hb hg hat))
       go_roundg k1
       case measure => have := HK1.out; omega
       case rel => exact ⟨(y587), (wrap64 (x6_1 + 1)), (by first | rfl | (simp; done) | (simp [*]; done)), H', ⟨by have := HK1.out; omega⟩, ⟨uR HO589.out⟩, ⟨uH HB.out⟩⟩
      ·rw [if_neg c8] at H
       exact absurd H (by simp)
    ·rw [if_neg c6] at H
     exact absurd H (by simp)
   ·rw [if_neg c5] at H
    have c5b0 : decide (x6_1 < (l1.length : Int)) = false := decide_eq_false c5
    clear c5
    replace H := Option.bind_eq_some_iff.mp H
    obtain ⟨t590, A100, H⟩ := H
    replace H : (some t590) = some r := H
    have A10 := zA A100
    clear A100
    obtain rfl := Option.some.inj H
    obtain ⟨Ao11, co11, eo11⟩ := Kd.R_slice HO_5.out
    subst eo11
    go_wp2_with (first | ((with_reducible refine gate_callee (f := 96) rfl ?_); refine goesL_ (some 26) rfl rfl Try.func96 (by kernel_rfl) rfl #[.slice Ao11 x5_1.length co11] rfl (by (try simp only [la, lb, lc]); first | done | rfl | (simp only [ld, le]; rfl)) ?_; (with_reducible refine (spec_l01Trim.calls k1 _ _ x5_1 t590 _ ?side1 ?side2 A10.out).mono ?_); (case side1 => exact uC ((Kd.R_reads' HO_5.out).2.2)); (case side2 => exact (Kd.R_reads' HO_5.out).2.1); rintro e w12 ⟨v591, rfl, ho0, hb⟩; refine ⟨_, rfl, ?_⟩; have n0_ := zA (Kd.R_elder' (uR HO_5.out) (Kd.R_base ho0) hb); have n1_ := zA (Kd.R_lower (Kd.R_new' ho0 (Kd.R_lt (uR HO_5.out))) (below_size (uH HB.out))); have n2_ := xH HB hb; clear HO_5 HB; have HO_5 := n0_; have HO592 := n1_; have HB := n2_; clear n0_ n1_ n2_; (try clear hb); (try clear hb2); (try clear hk); (try clear hi); (try clear ho0)))
    go_ret
    exact ⟨_, by first | rfl | (simp [errW_none, errW_some] <;> rfl) | (simp [*, errW_none, errW_some] <;> rfl), uR (Kd.R_mono HO592.out (fun _ hk => trivial)), uH HB.out⟩

end Go.Proofs.Ytokkabgkjhpecaa.Pr
/- Printed by a program of this session out of the translation: what these functions of the program compute, under the conditions that each theorem names. -/
namespace Go.Proofs.Ytokkabgkjhpecaa.Pr
open Go.RowKit Go.Proofs.YtokkabgkjhpecaaW.PrintWords Go.Proofs.YtokkabgkjhpecaaW.PrintLast Go.Proofs.YtokkabgkjhpecaaW.PrintMore
attribute [local go_sem] max2_int min2_int max_two min_two max_three min_three max_four min_four   -- for this text's walks alone
set_option linter.unusedVariables false
set_option linter.unusedSimpArgs false

/-! ### spec_l07Christoffel: function 82 -/
def spec_l07Christoffel.f (k : Nat) (a0_0 : Int) (l0_1 : List Int) (l0_2 : List Int) (a1 : Int) : Option (Int) := (spec_l03Poly.f k a0_0 l0_1 l0_2 (l0_1.length : Int)).bind fun t610 => ((spec_l01Derive.f k a0_0 t610).bind fun t613 => ((spec_l01At.f k a0_0 t613 a1).bind fun t616 => (if 0 < (l0_2.length : Int) then ((spec_l03Second.f k a0_0 l0_1 l0_2 (l0_1.length : Int)).bind fun t618 => ((spec_l01At.f k a0_0 t618 a1).bind fun t621 => (if a0_0 = 0 then (none) else ((spec_l01Inverse.f k a0_0 t616).bind fun t622 => (some (Int.tmod (wrap64 ((Int.tmod (wrap64 ((rd l0_2 0) * t621)) a0_0) * t622)) a0_0)))))) else (none))))
theorem spec_l07Christoffel.mono : ∀ a0 a1 a2 a3 k, LeO (spec_l07Christoffel.f k a0 a1 a2 a3) (spec_l07Christoffel.f (k + 1) a0 a1 a2 a3) := by
 intro a0 a1 a2 a3 k
 unfold spec_l07Christoffel.f
 repeat' first
   | (with_reducible exact spec_l01At.mono _ _ _ _)
   | (with_reducible exact spec_l01Derive.mono _ _ _)
   | (with_reducible exact spec_l01Inverse.mono _ _ _)
   | (with_reducible exact spec_l03Poly.mono _ _ _ _ _)
   | (with_reducible exact spec_l03Second.mono _ _ _ _ _)
   | (with_reducible exact LeO.refl _)
   | (with_reducible exact LeO.none _)
   | (with_reducible refine LeO.ite ?_ ?_)
   | (with_reducible refine LeO.bind ?_ (fun _ => ?_))
   | exact spec_l01At.mono _ _ _ _
   | exact spec_l01Derive.mono _ _ _
   | exact spec_l01Inverse.mono _ _ _
   | exact spec_l03Poly.mono _ _ _ _ _
   | exact spec_l03Second.mono _ _ _ _ _
   | exact LeO.none _
   | refine LeO.ite ?_ ?_
   | refine LeO.bind ?_ (fun _ => ?_)
def spec_l07Christoffel.T3 : Bool × List (List Nat × List Nat) := (true, [([], []), ([0], [0]), ([1], [1]), ([2], [2]), ([], []), ([], []), ([], []), ([5, 6], [5, 6]), ([], []), ([4, 7, 8, 7], [4, 7, 8]), ([3, 9], [3, 9]), ([], []), ([10, 11], [10, 11]), ([], []), ([], []), ([13, 14, 9], [13, 14]), ([12, 15], [12, 15]), ([], []), ([16, 17], [16, 17]), ([18, 15, 0, 1, 2, 3, 4, 5, 6, 7, 8, 9, 10, 11, 12, 13, 14, 15, 16, 17, 18], [18])])
def spec_l07Christoffel.B3 : List Nat := [0, 1, 3, 7, 0, 0, 0, 96, 0, 496, 1023, 0, 4095, 0, 0, 25584, 65535, 0, 262143, 524287]
theorem spec_l07Christoffel.tab3 : rtab .any (opsOf Try.f82 3) = spec_l07Christoffel.T3 := by kernel_rfl
theorem spec_l07Christoffel.bits3 : waitsOk spec_l07Christoffel.T3.2 spec_l07Christoffel.B3 = true := by kernel_rfl
set_option maxHeartbeats 8000000 in
set_option maxRecDepth 100000 in
theorem spec_l07Christoffel.calls (k : Nat) (a0_0 : Int) (A0_1 : Option Addr) (c0_1 : Nat) (l0_1 : List Int) (A0_2 : Option Addr) (c0_2 : Nat) (l0_2 : List Int) (a1 : Int) (r : Int) (w : World) (hr0_1 : Kd.C (Kd.int .i64) w A0_1 l0_1.length l0_1) (hc0_1 : l0_1.length ≤ c0_1) (hr0_2 : Kd.C (Kd.int .i64) w A0_2 l0_2.length l0_2) (hc0_2 : l0_2.length ≤ c0_2) (h : spec_l07Christoffel.f k a0_0 l0_1 l0_2 a1 = some r) :
  Calls Try.prog 82 #[.agg #[.int .i64 a0_0, .slice A0_1 l0_1.length c0_1, .slice A0_2 l0_2.length c0_2], .int .i64 a1] w fun e w' => e = .returned (.int .i64 r) ∧ Below w.heap.size w w' := by
 have hu46 := Try.underlying46
 have HR0_1 := zA hr0_1
 have HC0_1 := zA hc0_1
 clear hr0_1 hc0_1
 have HR0_2 := zA hr0_2
 have HC0_2 := zA hc0_2
 clear hr0_2 hc0_2
 have HB := zA (Below.refl w.heap.size w)
 have H : ((spec_l03Poly.f k a0_0 l0_1 l0_2 (l0_1.length : Int)).bind fun t610 => ((spec_l01Derive.f k a0_0 t610).bind fun t613 => ((spec_l01At.f k a0_0 t613 a1).bind fun t616 => (if 0 < (l0_2.length : Int) then ((spec_l03Second.f k a0_0 l0_1 l0_2 (l0_1.length : Int)).bind fun t618 => ((spec_l01At.f k a0_0 t618 a1).bind fun t621 => (if a0_0 = 0 then (none) else ((spec_l01Inverse.f k a0_0 t616).bind fun t622 => (some (Int.tmod (wrap64 ((Int.tmod (wrap64 ((rd l0_2 0) * t621)) a0_0) * t622)) a0_0)))))) else (none))))) = some r := h
 clear h
 replace H := Option.bind_eq_some_iff.mp H
 obtain ⟨t610, A30, H⟩ := H
 replace H : ((spec_l01Derive.f k a0_0 t610).bind fun t613 => ((spec_l01At.f k a0_0 t613 a1).bind fun t616 => (if 0 < (l0_2.length : Int) then ((spec_l03Second.f k a0_0 l0_1 l0_2 (l0_1.length : Int)).bind fun t618 => ((spec_l01At.f k a0_0 t618 a1).bind fun t621 => (if a0_0 = 0 then (none) else ((spec_l01Inverse.f k a0_0 t616).bind fun t622 => (some (Int.tmod (wrap64 ((Int.tmod (wrap64 ((rd l0_2 0) * t621)) a0_0) * t622)) a0_0)))))) else (none)))) = some r := H
 have A3 := zA A30
 clear A30
 replace H := Option.bind_eq_some_iff.mp H
 obtain ⟨t613, A40, H⟩ := H
 replace H : ((spec_l01At.f k a0_0 t613 a1).bind fun t616 => (if 0 < (l0_2.length : Int) then ((spec_l03Second.f k a0_0 l0_1 l0_2 (l0_1.length : Int)).bind fun t618 => ((spec_l01At.f k a0_0 t618 a1).bind fun t621 => (if a0_0 = 0 then (none) else ((spec_l01Inverse.f k a0_0 t616).bind fun t622 => (some (Int.tmod (wrap64 ((Int.tmod (wrap64 ((rd l0_2 0) * t621)) a0_0) * t622)) a0_0)))))) else (none))) = some r := H
 have A4 := zA A40
 clear A40
 replace H := Option.bind_eq_some_iff.mp H
 obtain ⟨t616, A50, H⟩ := H
 replace H : (if 0 < (l0_2.length : Int) then ((spec_l03Second.f k a0_0 l0_1 l0_2 (l0_1.length : Int)).bind fun t618 => ((spec_l01At.f k a0_0 t618 a1).bind fun t621 => (if a0_0 = 0 then (none) else ((spec_l01Inverse.f k a0_0 t616).bind fun t622 => (some (Int.tmod (wrap64 ((Int.tmod (wrap64 ((rd l0_2 0) * t621)) a0_0) * t622)) a0_0)))))) else (none)) = some r := H
 have A5 := zA A50
 clear A50
 by_cases c6 : 0 < (l0_2.length : Int)
 ·rw [if_pos c6] at H
  have c6b0 : decide (0 < (l0_2.length : Int)) = true := decide_eq_true c6
  have c6b1 : decide (0 < l0_2.length) = true := decide_eq_true (by omega)
  clear c6
  replace H := Option.bind_eq_some_iff.mp H
  obtain ⟨t618, A70, H⟩ := H
  replace H : ((spec_l01At.f k a0_0 t618 a1).bind fun t621 => (if a0_0 = 0 then (none) else ((spec_l01Inverse.f k a0_0 t616).bind fun t622 => (some (Int.tmod (wrap64 ((Int.tmod (wrap64 ((rd l0_2 0) * t621)) a0_0) * t622)) a0_0))))) = some r := H
  have A7 := zA A70
  clear A70
  replace H := Option.bind_eq_some_iff.mp H
  obtain ⟨t621, A80, H⟩ := H
  replace H : (if a0_0 = 0 then (none) else ((spec_l01Inverse.f k a0_0 t616).bind fun t622 => (some (Int.tmod (wrap64 ((Int.tmod (wrap64 ((rd l0_2 0) * t621)) a0_0) * t622)) a0_0)))) = some r := H
  have A8 := zA A80
  clear A80
  by_cases c9 : a0_0 = 0
  ·rw [if_pos c9] at H
   exact absurd H (by simp)
  ·rw [if_neg c9] at H
   have c9b0 : (a0_0 == 0) = false := beq_eq_false_iff_ne.mpr c9
   have c9b1 : (a0_0 != 0) = true := bne_iff_ne.mpr c9
   replace H := Option.bind_eq_some_iff.mp H
   obtain ⟨t622, A100, H⟩ := H
   replace H : (some (Int.tmod (wrap64 ((Int.tmod (wrap64 ((rd l0_2 0) * t621)) a0_0) * t622)) a0_0)) = some r := H
   have A10 := zA A100
   clear A100
   obtain rfl := Option.some.inj H
   go_enter Try.func82, Try.ntmps82
   try go_wp2_with (first | ((with_reducible refine gate_dst (N := 2) rfl ?_); refine box_event ?hg (N := 2) ?hd (cs := #[.int .i64 a0_0, .slice A0_1 l0_1.length c0_1, .slice A0_2 l0_2.length c0_2]) (t := 46) ?hr ?_; (case hd => rfl); (case hg => rfl); (case hr => first | (go_simp; done) | (go_simp; rfl)); intro gb609 hg w11 hbox hb; have n0_ := xH HB hb; have n1_ := zA (hbox); have n2_ := zA ((by rw [hg]; exact (below_size (uH HB.out)) : w.heap.size ≤ gb609)); have n3_ := zA ((by rw [hg]; exact (below_size (uH HB.out)) : w.heap.size ≤ gb609)); clear HB; have HB := n0_; have BK609 := n1_; have GW609 := n2_; have GE609 := n3_; have := geI GE609; clear n0_ n1_ n2_ n3_ hb hbox hg))
   have n0_ := zA (blk_drew BK609.out)
   have n1_ := zA (below_drew1 HB.out)
   clear BK609 HB
   have BK609 := n0_; have HB := n1_
   clear n0_ n1_
   refine start_ (n := 7) (S := fun w' => w'.cell? ⟨gb609, 0, none⟩ = some (.int .i64 a0_0) ∧ w'.cell? ⟨gb609, 1, none⟩ = some (.slice A0_1 l0_1.length c0_1) ∧ w'.cell? ⟨gb609, 2, none⟩ = some (.slice A0_2 l0_2.length c0_2)) (ds := []) #[false, false, false, false, false, false, false] (by kernel_rfl) rfl rfl ⟨(blk_cell BK609.out 0).trans rfl, (blk_cell BK609.out 1).trans rfl, (blk_cell BK609.out 2).trans rfl⟩ (fun hHeld => ?_)
   generalize w11.drew = w12 at BK609 HB hHeld ⊢
   refine pure_ (i := 0) (N := some 8) (v := ?_) (a' := ?_) (bl 7 1) rfl rfl (by kernel_rfl) (fun _ _ _ h => h) (Or.inl ⟨by rfl, ?_⟩) ?_ ?_
   rotate_left
   ·intro w'
    go_simp
    with_reducible rfl
   rotate_left
   ·simp only [Act.put, ls, lz, ln, i64_w, i32_w]
    rfl
   refine pure_ (i := 2) (N := some 10) (v := ?_) (a' := ?_) (bl 7 5) rfl rfl (by kernel_rfl) (fun _ _ _ h => h) (Or.inl ⟨by rfl, ?_⟩) ?_ ?_
   rotate_left
   ·intro w'
    go_simp
    with_reducible rfl
   rotate_left
   ·simp only [Act.put, ls, lz, ln, i64_w, i32_w]
    rfl
   refine take_ (i := 1) (N := some 9) (v := ?_) (a' := ?_) (bl 7 7) rfl rfl (by kernel_rfl) (fun _ _ _ h => h) (Or.inl ⟨by rfl, ?_⟩) hHeld ?_ ?_
   rotate_left
   ·rintro w' ⟨s0, s1, s2⟩
    go_simp
    with_reducible rfl
   rotate_left
   ·simp only [Act.put, ls, lz, ln, i64_w, i32_w]
    rfl
   refine pure_ (i := 5) (N := some 5) (v := ?_) (a' := ?_) (bl 7 39) rfl rfl (by kernel_rfl) (fun _ _ _ h => h) (Or.inl ⟨by rfl, ?_⟩) ?_ ?_
   rotate_left
   ·intro w'
    go_simp
    with_reducible rfl
   rotate_left
   ·simp only [Act.put, ls, lz, ln, i64_w, i32_w]
    rfl
   refine take_ (i := 3) (N := some 11) (v := ?_) (a' := ?_) (bl 7 47) rfl rfl (by kernel_rfl) (fun _ _ _ h => h) (Or.inl ⟨by rfl, ?_⟩) hHeld ?_ ?_
   rotate_left
   ·rintro w' ⟨s0, s1, s2⟩
    go_simp
    with_reducible rfl
   rotate_left
   ·simp only [Act.put, ls, lz, ln, i64_w, i32_w]
    rfl
   refine pure_ (i := 4) (N := some 12) (v := ?_) (a' := ?_) (bl 7 63) rfl rfl (by kernel_rfl) (fun _ _ _ h => h) (Or.inl ⟨by rfl, ?_⟩) ?_ ?_
   rotate_left
   ·intro w'
    go_simp
    with_reducible rfl
   rotate_left
   ·simp only [Act.put, ls, lz, ln, i64_w, i32_w]
    rfl
   refine pure_ (i := 6) (N := some 6) (v := ?_) (a' := ?_) (bl 7 127) rfl rfl (by kernel_rfl) (fun _ _ _ h => h) (Or.inl ⟨by rfl, ?_⟩) ?_ ?_
   rotate_left
   ·intro w'
    go_simp
    with_reducible rfl
   rotate_left
   ·simp only [Act.put, ls, lz, ln, i64_w, i32_w]
    rfl
   refine done_ (by kernel_rfl) ?_
   have hcz13_0 : w12.cell? ⟨gb609, 0, none⟩ = some (.int .i64 a0_0) := (blk_cell BK609.out 0).trans rfl
   have hcz13_1 : w12.cell? ⟨gb609, 1, none⟩ = some (.slice A0_1 l0_1.length c0_1) := (blk_cell BK609.out 1).trans rfl
   have hcz13_2 : w12.cell? ⟨gb609, 2, none⟩ = some (.slice A0_2 l0_2.length c0_2) := (blk_cell BK609.out 2).trans rfl
   have hfz13_0 := blk_frozen BK609.out 0
   have hfz13_1 := blk_frozen BK609.out 1
   have hfz13_2 := blk_frozen BK609.out 2
   try go_wp2_with (first | ((with_reducible refine gate_callee (f := 72) rfl ?_); refine goesL_ (some 17) rfl rfl Try.func72 (by kernel_rfl) rfl #[.agg #[.int .i64 a0_0, .slice A0_1 l0_1.length c0_1, .slice A0_2 l0_2.length c0_2], .int .i64 (l0_1.length : Int)] rfl (by (try simp only [la, lb, lc]); first | done | rfl | (simp only [ld, le]; rfl)) ?_; (with_reducible refine (spec_l03Poly.calls k a0_0 _ _ l0_1 _ _ l0_2 (l0_1.length : Int) t610 _ ?side1 ?side2 ?side3 ?side4 A3.out).mono ?_); (case side1 => exact uC ((Kd.C_below HR0_1.out HB.out))); (case side2 => exact HC0_1.out); (case side3 => exact uC ((Kd.C_below HR0_2.out HB.out))); (case side4 => exact HC0_2.out); rintro e w14 ⟨v611, rfl, ho0, hb⟩; refine ⟨_, rfl, ?_⟩; have n0_ := zA (Kd.R_lower ho0 (below_size (uH HB.out))); have n1_ := xB BK609 hb; have n2_ := xH HB hb; clear BK609 HB; have HO612 := n0_; have BK609 := n1_; have HB := n2_; clear n0_ n1_ n2_; (try clear hb); (try clear hb2); (try clear hk); (try clear hi); (try clear ho0); obtain ⟨Ao15, co15, eo15⟩ := Kd.R_slice HO612.out; subst eo15) | ((with_reducible refine gate_callee (f := 81) rfl ?_); refine goesL_ (some 18) rfl rfl Try.func81 (by kernel_rfl) rfl #[.int .i64 a0_0, .slice Ao15 t610.length co15] rfl (by (try simp only [la, lb, lc]); first | done | rfl | (simp only [ld, le]; rfl)) ?_; (with_reducible refine (spec_l01Derive.calls k a0_0 _ _ t610 t613 _ ?side1 ?side2 A4.out).mono ?_); (case side1 => exact uC ((Kd.R_reads' HO612.out).2.2)); (case side2 => exact (Kd.R_reads' HO612.out).2.1); rintro e w16 ⟨v614, rfl, ho0, hb⟩; refine ⟨_, rfl, ?_⟩; have n0_ := zA (Kd.R_elder' (uR HO612.out) (Kd.R_base ho0) hb); have n1_ := zA (Kd.R_lower (Kd.R_new' ho0 (Kd.R_lt (uR HO612.out))) (below_size (uH HB.out))); have n2_ := xB BK609 hb; have n3_ := xH HB hb; clear HO612 BK609 HB; have HO612 := n0_; have HO615 := n1_; have BK609 := n2_; have HB := n3_; clear n0_ n1_ n2_ n3_; (try clear hb); (try clear hb2); (try clear hk); (try clear hi); (try clear ho0); obtain ⟨Ao17, co17, eo17⟩ := Kd.R_slice HO615.out; subst eo17) | ((with_reducible refine gate_callee (f := 71) rfl ?_); refine goesL_ (some 20) rfl rfl Try.func71 (by kernel_rfl) rfl #[.int .i64 a0_0, .slice Ao17 t613.length co17, .int .i64 a1] rfl (by (try simp only [la, lb, lc]); first | done | rfl | (simp only [ld, le]; rfl)) ?_; (with_reducible refine (spec_l01At.calls k a0_0 _ _ t613 a1 t616 _ ?side1 ?side2 A5.out).mono ?_); (case side1 => exact uC ((Kd.R_reads' HO615.out).2.2)); (case side2 => exact (Kd.R_reads' HO615.out).2.1); rintro e w' ⟨rfl, ⟨nd, rfl⟩⟩; refine ⟨_, rfl, ?_⟩))
   (try (rw [drewN_self w16]; generalize hq_ : World.drewN w16 _ = w16; have n0_ : Aside0 (Kd.R (Kd.int .i64) 2 w16 w.heap.size (fun k_ => some k_ ≠ (.slice Ao17 t613.length co17 : Value).ownBlock) (.slice Ao15 t610.length co15) t610) := ⟨by rw [← hq_]; exact (uR (Kd.R_mono HO612.out (fun _ hk => hk.2)))⟩; have n1_ : Aside0 (Kd.R (Kd.int .i64) 2 w16 w.heap.size (fun k_ => some k_ ≠ (.slice Ao15 t610.length co15 : Value).ownBlock) (.slice Ao17 t613.length co17) t613) := ⟨by rw [← hq_]; exact (uR (Kd.R_mono HO615.out (fun _ hk => hk.2)))⟩; have n2_ : Aside0 (w16.heap[gb609]? = some (.cells #[.int .i64 a0_0, .slice A0_1 l0_1.length c0_1, .slice A0_2 l0_2.length c0_2] 46 (0, 0))) := ⟨by rw [← hq_]; exact (uB BK609.out)⟩; have n3_ : Aside0 (Below w.heap.size w w16) := ⟨by rw [← hq_]; exact (uH HB.out)⟩; clear HO612 HO615 BK609 HB hq_; have HO612 := n0_; have HO615 := n1_; have BK609 := n2_; have HB := n3_; clear n0_ n1_ n2_ n3_))
   have n0_ := zA (Kd.R_drew HO612.out)
   have n1_ := zA (Kd.R_drew HO615.out)
   have n2_ := zA (blk_drew BK609.out)
   have n3_ := zA (below_drew1 HB.out)
   clear HO612 HO615 BK609 HB
   have HO612 := n0_; have HO615 := n1_; have BK609 := n2_; have HB := n3_
   clear n0_ n1_ n2_ n3_
   have p617 : 0 ≤ (0 : Int) := (by omega)
   have q617 : 0 < (l0_2.length : Int) := of_decide_eq_true (by first | (with_reducible assumption) | assumption)
   obtain ⟨ad617, e617, hx617_0⟩ := Kd.at_int HR0_2.out 0 p617 q617
   have hw617_0 := hx617_0
   (try rw [show ((0 : Int)).toNat = 0 from rfl] at hw617_0)
   (try rw [show 0 * 1 = 0 from rfl] at hw617_0)
   (try rw [Addr.add_zero'] at hw617_0)
   cases e617
   have qi617 : (0 < l0_2.length) = True := eq_true (by omega)
   (try rw [show ((0 : Int)).toNat = 0 from rfl] at hx617_0)
   (try rw [Addr.add_zero'] at hx617_0)
   replace hx617_0 := (HB.out.cell (World.block_lt_of_cell? w _ hx617_0)).trans hx617_0
   replace p617 := eq_true p617
   replace q617 := eq_true q617
   refine start_ (n := 20) (S := fun w' => w'.cell? ⟨gb609, 0, none⟩ = some (.int .i64 a0_0) ∧ w'.cell? ⟨gb609, 1, none⟩ = some (.slice A0_1 l0_1.length c0_1) ∧ w'.cell? ⟨gb609, 2, none⟩ = some (.slice (some ad617) l0_2.length c0_2) ∧ w'.cell? ad617 = some (.int .i64 (rd l0_2 0))) (ds := []) #[false, false, false, false, false, false, false, false, false, false, false, false, false, false, false, false, false, false, false, false] (by kernel_rfl) rfl rfl ⟨(blk_cell BK609.out 0).trans rfl, (blk_cell BK609.out 1).trans rfl, (blk_cell BK609.out 2).trans rfl, ((HB.out.cell (World.block_lt_of_cell? w _ hw617_0)).trans hw617_0)⟩ (fun hHeld => ?_); refine with_tabW spec_l07Christoffel.tab3 spec_l07Christoffel.bits3 (fun HT_ HW_ => ?_)
   generalize w16.drew = w18 at HO612 HO615 BK609 HB hx617_0 hHeld ⊢
   refine pu_ 0 21 (bl 20 1) HT_ ?_
   refine pu_ 4 25 (bl 20 17) HT_ ?_
   refine pu_ 6 27 (bl 20 81) HT_ ?_
   refine pu_ 8 29 (bl 20 337) HT_ ?_
   refine pu_ 11 32 (bl 20 2385) HT_ ?_
   refine pu_ 13 34 (bl 20 10577) HT_ ?_
   refine pu_ 14 35 (bl 20 26961) HT_ ?_
   refine pu_ 17 38 (bl 20 158033) HT_ ?_
   refine ta_ 1 22 (bl 20 158035) HT_ HW_ hHeld ?_
   refine pu_ 2 23 (bl 20 158039) HT_ ?_
   refine ta_ 3 24 (bl 20 158047) HT_ HW_ hHeld ?_
   refine ta_ 5 26 (bl 20 158079) HT_ HW_ hHeld ?_
   refine on_ 7 (some 28) (bl 20 158207) HT_ (fun K hK => ?_)
   refine goes_ Try.func105 (by kernel_rfl) rfl #[.agg #[.int .i64 a0_0, .slice A0_1 l0_1.length c0_1, .slice (some ad617) l0_2.length c0_2], .int .i64 (l0_1.length : Int)] (by rfl) rfl rfl (by (try simp only [la, lb, lc]); first | done | rfl | (simp only [ld, le]; rfl)) ?_
   with_reducible refine (spec_l03Second.calls k a0_0 _ _ l0_1 _ _ l0_2 (l0_1.length : Int) t618 _ ?side1 ?side2 ?side3 ?side4 A7.out).mono ?_
   (case side1 => exact uC ((Kd.C_below HR0_1.out HB.out)))
   (case side2 => exact HC0_1.out)
   (case side3 => exact uC ((Kd.C_below HR0_2.out HB.out)))
   (case side4 => exact HC0_2.out)
   rintro e w19 ⟨v619, rfl, ho0, hb⟩
   refine ⟨_, rfl, ?_⟩
   have n0_ := zA (Kd.R_elder' (uR HO612.out) (Kd.R_base ho0) hb)
   have n1_ := zA (Kd.R_elder' (uR HO615.out) (Kd.R_base ho0) hb)
   have n2_ := zA (Kd.R_lower (Kd.R_new' (Kd.R_new' ho0 (Kd.R_lt (uR HO612.out))) (Kd.R_lt (uR HO615.out))) (below_size (uH HB.out)))
   have n3_ := xB BK609 hb
   have n4_ := xH HB hb
   clear HO612 HO615 BK609 HB
   have HO612 := n0_; have HO615 := n1_; have HO620 := n2_; have BK609 := n3_; have HB := n4_
   clear n0_ n1_ n2_ n3_ n4_
   (try clear hb); (try clear hb2); (try clear hk); (try clear hi); (try clear ho0)
   obtain ⟨Ao20, co20, eo20⟩ := Kd.R_slice HO620.out
   (first | subst eo20 | (injection eo20 with f1_ f2_ f3_; have f4_ := f1_.symm; have f5_ := f3_.symm; clear f1_ f2_ f3_; subst f4_; subst f5_))
   refine hK.out _ _ ⟨(blk_cell BK609.out 0).trans rfl, (blk_cell BK609.out 1).trans rfl, (blk_cell BK609.out 2).trans rfl, ((HB.out.cell (World.block_lt_of_cell? w _ hw617_0)).trans hw617_0)⟩ (fun hHeld => ?_)
   clear hK K
   refine no_ 28 ?_
   refine on_ 9 (some 30) (bl 20 158719) HT_ (fun K hK => ?_)
   refine goes_ Try.func71 (by kernel_rfl) rfl #[.int .i64 a0_0, .slice Ao20 t618.length co20, .int .i64 a1] (by rfl) rfl rfl (by (try simp only [la, lb, lc]); first | done | rfl | (simp only [ld, le]; rfl)) ?_
   with_reducible refine (spec_l01At.calls k a0_0 _ _ t618 a1 t621 _ ?side1 ?side2 A8.out).mono ?_
   (case side1 => exact uC ((Kd.R_reads' HO620.out).2.2))
   (case side2 => exact (Kd.R_reads' HO620.out).2.1)
   rintro e w' ⟨rfl, ⟨nd, rfl⟩⟩
   refine ⟨_, rfl, ?_⟩
   refine hK.out _ _ ⟨(blk_cell BK609.out 0).trans rfl, (blk_cell BK609.out 1).trans rfl, (blk_cell BK609.out 2).trans rfl, ((HB.out.cell (World.block_lt_of_cell? w _ hw617_0)).trans hw617_0)⟩ (fun hHeld => ?_)
   clear hK K
   refine no_ 30 ?_
   refine pu_ 10 31 (bl 20 159743) HT_ ?_
   refine pu_ 12 33 (bl 20 163839) HT_ ?_
   refine on_ 15 (some 36) (bl 20 196607) HT_ (fun K hK => ?_)
   refine goes_ Try.func86 (by kernel_rfl) rfl #[.int .i64 a0_0, .int .i64 t616] (by rfl) rfl rfl (by (try simp only [la, lb, lc]); first | done | rfl | (simp only [ld, le]; rfl)) ?_
   with_reducible refine (spec_l01Inverse.calls k a0_0 t616 t622 _ A10.out).mono ?_
   rintro e w' ⟨rfl, ⟨nd, rfl⟩⟩
   refine ⟨_, rfl, ?_⟩
   refine hK.out _ _ ⟨(blk_cell BK609.out 0).trans rfl, (blk_cell BK609.out 1).trans rfl, (blk_cell BK609.out 2).trans rfl, ((HB.out.cell (World.block_lt_of_cell? w _ hw617_0)).trans hw617_0)⟩ (fun hHeld => ?_)
   clear hK K
   refine no_ 36 ?_
   refine pu_ 16 37 (bl 20 262143) HT_ ?_
   refine pu_ 18 39 (bl 20 524287) HT_ ?_
   refine pu_ 19 4 (bl 20 1048575) HT_ ?_
   refine done_ (done_of HT_.out (by kernel_rfl)) ?_
   try go_wp2
   go_ret
   exact ⟨by first | rfl | (simp [errW_none, errW_some] <;> rfl) | (simp [*, errW_none, errW_some] <;> rfl), uH HB.out⟩
 ·rw [if_neg c6] at H
  exact absurd H (by simp)

end Go.Proofs.Ytokkabgkjhpecaa.Pr
/- Derivatives of polynomials modulo p; no condition. -/
namespace Go.Proofs.Ytokkabgkjhpecaa.Pr
open Go.RowKit Go.Proofs.YtokkabgkjhpecaaW.PrintWords Go.Proofs.YtokkabgkjhpecaaW.PrintLast Go.Proofs.YtokkabgkjhpecaaW.PrintMore

/-- The first n numbers of the derivative. -/
def derL (p : Int) (f : List Int) (n : Nat) : List Int := (List.range n).map fun i => (((i + 1 : Nat) : Int) * f.getD (i + 1) 0) % p
theorem derL_len (p : Int) (f : List Int) (n : Nat) : (derL p f n).length = n := by simp [derL]
theorem derL_succ (p : Int) (f : List Int) (n : Nat) : derL p f (n + 1) = derL p f n ++ [(((n + 1 : Nat) : Int) * f.getD (n + 1) 0) % p] := by simp [derL, List.range_succ]
theorem derL_nm {p : Int} (hp : 0 < p) (f : List Int) (n : Nat) : Nm p (derL p f n) := fun x hx => by
  obtain ⟨i, _, rfl⟩ := List.mem_map.1 hx
  exact emodB hp _
def derF (p : Int) (f : List Int) : List Int := trim (derL p f (f.length - 1))
theorem derF_nm {p : Int} (hp : 0 < p) (f : List Int) : Nm p (derF p f) := (derL_nm hp f _).trim
theorem derF_len (p : Int) (f : List Int) : (derF p f).length ≤ f.length := by
  have h := trim_len (derL p f (f.length - 1))
  rw [derL_len] at h
  unfold derF
  omega
theorem derB {p : Int} (hp : Pm p) (f : List Int) (nf : Nm p f) (hf : f.length ≤ 1000) (i : Nat) (hi : i + 1 < f.length) :
    -9223372036854775808 ≤ ((i + 1 : Nat) : Int) * f.getD (i + 1) 0 ∧ ((i + 1 : Nat) : Int) * f.getD (i + 1) 0 < 9223372036854775808 ∧ 0 ≤ ((i + 1 : Nat) : Int) * f.getD (i + 1) 0 := by
  have h := nf.get (i := i + 1) hi
  have ht := hp.top
  have hb := mulB (a := ((i + 1 : Nat) : Int)) (b := f.getD (i + 1) 0) (m := 1000) (n := 10007) (by omega) (by omega) h.1 (by omega)
  omega
theorem specDer_l0 {p : Int} (hp : Pm p) (f : List Int) (nf : Nm p f) (hf : f.length ≤ 1000) (d : Nat) : ∀ i : Nat, i + d = f.length - 1 →
    Ev (fun k => spec_l01Derive.l0 k p f (derL p f i) ((i + 1 : Nat) : Int)) (derF p f) := by
  induction d with
  | zero =>
    intro i hi
    refine Ev.step (fun k => by rw [spec_l01Derive.l0]) ?_
    refine Ev.neg (by omega) ?_
    rw [show i = f.length - 1 from by omega]
    exact Ev.bind (specTrim_ev _ (by rw [derL_len]; unfold Sm; omega)) (Ev.now _)
  | succ d ih =>
    intro i hi
    have hb := derB hp f nf hf i (by omega)
    refine Ev.step (fun k => by rw [spec_l01Derive.l0]) ?_
    rw [rd_nat, wsucc (i := i + 1) (n := f.length) (by omega) (by omega), wrap_id hb.1 hb.2.1, tmod_pos hb.2.2]
    have c1 : ((i + 1 : Nat) : Int) < (f.length : Int) := by clear hb; omega
    have c2 : (0 : Int) ≤ ((i + 1 : Nat) : Int) := by clear hb; omega
    refine Ev.pos c1 (Ev.pos c2 (Ev.neg hp.ne (Ev.pos (by rw [derL_len]; clear hb; omega) ?_)))
    rw [← derL_succ]
    exact ih (i + 1) (by clear hb; omega)
theorem specDer_ev {p : Int} (hp : Pm p) (f : List Int) (nf : Nm p f) (hf : f.length ≤ 1000) : Ev (fun k => spec_l01Derive.f k p f) (derF p f) := by
  unfold spec_l01Derive.f
  exact specDer_l0 hp f nf hf (f.length - 1) 0 (by omega)
theorem implDer_l0 {p : Int} (hp : Pm p) (f : List Int) (nf : Nm p f) (hf : f.length ≤ 1000) (d : Nat) : ∀ i : Nat, i + d = f.length - 1 →
    Ev (fun k => impl_field_derivative.l0 k p f (derL p f i) ((i + 1 : Nat) : Int)) (derF p f) := by
  induction d with
  | zero =>
    intro i hi
    refine Ev.step (fun k => by rw [impl_field_derivative.l0]) ?_
    refine Ev.neg (by omega) ?_
    rw [show i = f.length - 1 from by omega]
    exact Ev.bind (implTrim_ev _ (by rw [derL_len]; unfold Sm; omega)) (Ev.now _)
  | succ d ih =>
    intro i hi
    have hb := derB hp f nf hf i (by omega)
    have em : impl_field_mul.f p ((i + 1 : Nat) : Int) (f.getD (i + 1) 0) = some ((((i + 1 : Nat) : Int) * f.getD (i + 1) 0) % p) := by
      unfold impl_field_mul.f
      rw [wrap_id hb.1 hb.2.1, mod_eq hp]; rfl
    refine Ev.step (fun k => by rw [impl_field_derivative.l0]) ?_
    rw [rd_nat, wsucc (i := i + 1) (n := f.length) (by omega) (by omega)]
    have c1 : ((i + 1 : Nat) : Int) < (f.length : Int) := by clear hb em; omega
    have c2 : (0 : Int) ≤ ((i + 1 : Nat) : Int) := by clear hb em; omega
    refine Ev.pos c1 (Ev.pos c2 (Ev.bindE em (Ev.pos (by rw [derL_len]; clear hb em; omega) ?_)))
    rw [← derL_succ]
    exact ih (i + 1) (by clear hb em; omega)
theorem implDer_ev {p : Int} (hp : Pm p) (f : List Int) (nf : Nm p f) (hf : f.length ≤ 1000) : Ev (fun k => impl_field_derivative.f k p f) (derF p f) := by
  unfold impl_field_derivative.f
  exact implDer_l0 hp f nf hf (f.length - 1) 0 (by omega)
end Go.Proofs.Ytokkabgkjhpecaa.Pr
