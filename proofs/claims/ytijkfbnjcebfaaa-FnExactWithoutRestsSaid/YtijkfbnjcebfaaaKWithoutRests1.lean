/- Texts of this session in one: what functions of the program compute, and plain facts of it, under the conditions that each theorem names. -/
import Derived.Test.YtijkfbnjcebfaaaKC01
import Derived.Test.YtijkfbnjcebfaaaKC02
namespace Go.Proofs.Ytijkfbnjcebfaaa.Pr
open Go.RowKit Go.Proofs.YtijkfbnjcebfaaaW.PrintWords Go.Proofs.YtijkfbnjcebfaaaW.PrintLast Go.Proofs.YtijkfbnjcebfaaaW.PrintMore
attribute [local go_sem] max2_int min2_int max_two min_two max_three min_three max_four min_four   -- for this text's walks alone
set_option linter.unusedVariables false
set_option linter.unusedSimpArgs false
/-! ### impl_IsPoly: function 112 -/
def impl_IsPoly.f (a0 : Int) (l1 : List Int) : Option (Bool) := if (l1.length : Int) ≤ 25 then ((impl_areAll_int64.f l1 (fun z_ => impl_field_has.f a0 z_)).bind fun t686 => (if t686 = true then (if (l1.length : Int) = 0 then (some true) else (if 0 ≤ (wrap64 ((l1.length : Int) - 1)) then (if (wrap64 ((l1.length : Int) - 1)) < (l1.length : Int) then (some ((rd l1 (wrap64 ((l1.length : Int) - 1))) != 0)) else (none)) else (none))) else (some false))) else (some false)
set_option maxHeartbeats 8000000 in
set_option maxRecDepth 100000 in
theorem impl_IsPoly.calls (a0 : Int) (A1 : Option Addr) (c1 : Nat) (l1 : List Int) (r : Bool) (w : World) (hr1 : Kd.C (Kd.int .i64) w A1 l1.length l1) (hc1 : l1.length ≤ c1) (h : impl_IsPoly.f a0 l1 = some r) :
  Calls Try.prog 112 #[.int .i64 a0, .slice A1 l1.length c1] w fun e w' => e = .returned (.bool r) ∧ Below w.heap.size w w' := by
 have hmf : ∀ (fn_ : Fn) (first_ cap_ : Array Value) (w_ : World), (Instr.makeFunc fn_ first_ cap_).run Try.prog w_ = .ok (.func fn_ first_ cap_) w_ := fun _ _ _ _ => rfl
 have HR1 := zA hr1
 have HC1 := zA hc1
 clear hr1 hc1
 have HB := zA (Below.refl w.heap.size w)
 have H : (if (l1.length : Int) ≤ 25 then ((impl_areAll_int64.f l1 (fun z_ => impl_field_has.f a0 z_)).bind fun t686 => (if t686 = true then (if (l1.length : Int) = 0 then (some true) else (if 0 ≤ (wrap64 ((l1.length : Int) - 1)) then (if (wrap64 ((l1.length : Int) - 1)) < (l1.length : Int) then (some ((rd l1 (wrap64 ((l1.length : Int) - 1))) != 0)) else (none)) else (none))) else (some false))) else (some false)) = some r := h
 clear h
 by_cases c3 : (l1.length : Int) ≤ 25
 rotate_left
 ·rw [if_neg c3] at H
  have c3b0 : decide ((l1.length : Int) ≤ 25) = false := decide_eq_false c3
  have c3b1 : decide (l1.length ≤ 25) = false := decide_eq_false (by omega)
  clear c3
  obtain rfl := Option.some.inj H
  go_enter Try.func112, Try.ntmps112
  go_wp2
  go_ret
  exact ⟨by first | rfl | (simp [errW_none, errW_some] <;> rfl) | (simp [*, errW_none, errW_some] <;> rfl), uH HB.out⟩

 rw [if_pos c3] at H
 have c3b0 : decide ((l1.length : Int) ≤ 25) = true := decide_eq_true c3
 have c3b1 : decide (l1.length ≤ 25) = true := decide_eq_true (by omega)
 clear c3
 replace H := Option.bind_eq_some_iff.mp H
 obtain ⟨t686, A40, H⟩ := H
 replace H : (if t686 = true then (if (l1.length : Int) = 0 then (some true) else (if 0 ≤ (wrap64 ((l1.length : Int) - 1)) then (if (wrap64 ((l1.length : Int) - 1)) < (l1.length : Int) then (some ((rd l1 (wrap64 ((l1.length : Int) - 1))) != 0)) else (none)) else (none))) else (some false)) = some r := H
 have A4 := zA A40
 clear A40
 by_cases c5 : t686 = true
 ·subst c5
  have H1 : (if (l1.length : Int) = 0 then (some true) else (if 0 ≤ (wrap64 ((l1.length : Int) - 1)) then (if (wrap64 ((l1.length : Int) - 1)) < (l1.length : Int) then (some ((rd l1 (wrap64 ((l1.length : Int) - 1))) != 0)) else (none)) else (none))) = some r := by rw [if_pos rfl] at H; exact H
  clear H
  have H := H1
  clear H1
  by_cases c6 : (l1.length : Int) = 0
  rotate_left
  ·rw [if_neg c6] at H
   have c6b0 : ((l1.length : Int) == 0) = false := beq_eq_false_iff_ne.mpr c6
   have c6b1 : ((l1.length : Int) != 0) = true := bne_iff_ne.mpr c6
   have c6b2 : ¬ (l1 = []) := fun h_ => c6 (by rw [h_]; rfl)
   obtain ⟨ji8, hji8⟩ : ∃ j_ : Int, (wrap64 ((l1.length : Int) - 1)) = j_ := ⟨_, rfl⟩
   replace H : (if 0 ≤ (ji8) then (if (ji8) < (l1.length : Int) then (some ((rd l1 (ji8)) != 0)) else (none)) else (none)) = some r := by first | (rw [hji8] at H; exact H) | (simp only [hji8] at H ⊢; exact H)
   (try rw [hji8] at A4)
   have hji8w : (IntKind.i64.wrap ((l1.length : Int) - 1)) = ji8 := (i64_w _).trans hji8
   by_cases c9 : 0 ≤ (ji8)
   rotate_left
   ·rw [if_neg c9] at H
    exact absurd H (by simp)
   rw [if_pos c9] at H
   have c9b0 : decide (0 ≤ (ji8)) = true := decide_eq_true c9
   clear c9
   by_cases c10 : (ji8) < (l1.length : Int)
   rotate_left
   ·rw [if_neg c10] at H
    exact absurd H (by simp)
   rw [if_pos c10] at H
   have c10b0 : decide ((ji8) < (l1.length : Int)) = true := decide_eq_true c10
   clear c10
   obtain rfl := Option.some.inj H
   go_enter Try.func112, Try.ntmps112
   go_wp2_with (first | (go_at_call 99; (with_reducible refine (impl_areAll_int64.calls _ _ l1 _ (fun z_ => impl_field_has.f a0 z_) true _ ?side1 ?side2 ?side3 A4.out).mono ?_); (case side1 => exact uC HR1.out); (case side2 => exact HC1.out); (case side3 => exact FnI.of Try.func100 (by kernel_rfl) rfl (fun z_ r_ hr_ W_ hW_ => calls_of_args (args' := #[.int .i64 a0, .int .i64 z_]) (by simp) ((impl_field_has.calls a0 z_ r_ W_  hr_).mono fun e_ W2_ h_ => ⟨h_.1, h_.2.below⟩))); rintro e w11 ⟨rfl, hb⟩; replace HB := xH HB hb; (try clear hb); (try clear hb2); (try clear hk); (try clear hi); have p687 : 0 ≤ ((ji8) : Int) := of_decide_eq_true (by first | (with_reducible assumption) | assumption); have q687 : (ji8) < (l1.length : Int) := of_decide_eq_true (by first | (with_reducible assumption) | assumption); obtain ⟨ad687, e687, hx687_0⟩ := Kd.at_int HR1.out (ji8) p687 q687; cases e687; replace hx687_0 := hc HB hx687_0; replace p687 := eq_true p687; replace q687 := eq_true q687))
   go_ret
   exact ⟨by first | rfl | (simp [errW_none, errW_some] <;> rfl) | (simp only [← hji8]; first | rfl | (simp [errW_none, errW_some] <;> rfl)) | (simp [*, errW_none, errW_some] <;> rfl), uH HB.out⟩
  rw [if_pos c6] at H
  have c6b0 : ((l1.length : Int) == 0) = true := beq_iff_eq.mpr c6
  have c6b1 : ((l1.length : Int) != 0) = false := bne_eq_false_iff_eq.mpr c6
  clear c6
  obtain rfl := Option.some.inj H
  go_enter Try.func112, Try.ntmps112
  go_wp2_with (first | (go_at_call 99; (with_reducible refine (impl_areAll_int64.calls _ _ l1 _ (fun z_ => impl_field_has.f a0 z_) true _ ?side1 ?side2 ?side3 A4.out).mono ?_); (case side1 => exact uC HR1.out); (case side2 => exact HC1.out); (case side3 => exact FnI.of Try.func100 (by kernel_rfl) rfl (fun z_ r_ hr_ W_ hW_ => calls_of_args (args' := #[.int .i64 a0, .int .i64 z_]) (by simp) ((impl_field_has.calls a0 z_ r_ W_  hr_).mono fun e_ W2_ h_ => ⟨h_.1, h_.2.below⟩))); rintro e w7 ⟨rfl, hb⟩; replace HB := xH HB hb; (try clear hb); (try clear hb2); (try clear hk); (try clear hi)))
  go_ret
  exact ⟨by first | rfl | (simp [errW_none, errW_some] <;> rfl) | (simp [*, errW_none, errW_some] <;> rfl), uH HB.out⟩
 ·replace c5 := Bool.eq_false_iff.mpr c5
  subst c5
  have H1 : (some false) = some r := by rw [if_neg (show ¬ (false = true) by decide)] at H; exact H
  clear H
  have H := H1
  clear H1
  obtain rfl := Option.some.inj H
  go_enter Try.func112, Try.ntmps112
  go_wp2_with (first | (go_at_call 99; (with_reducible refine (impl_areAll_int64.calls _ _ l1 _ (fun z_ => impl_field_has.f a0 z_) false _ ?side1 ?side2 ?side3 A4.out).mono ?_); (case side1 => exact uC HR1.out); (case side2 => exact HC1.out); (case side3 => exact FnI.of Try.func100 (by kernel_rfl) rfl (fun z_ r_ hr_ W_ hW_ => calls_of_args (args' := #[.int .i64 a0, .int .i64 z_]) (by simp) ((impl_field_has.calls a0 z_ r_ W_  hr_).mono fun e_ W2_ h_ => ⟨h_.1, h_.2.below⟩))); rintro e w12 ⟨rfl, hb⟩; replace HB := xH HB hb; (try clear hb); (try clear hb2); (try clear hk); (try clear hi)))
  go_ret
  exact ⟨by first | rfl | (simp [errW_none, errW_some] <;> rfl) | (simp [*, errW_none, errW_some] <;> rfl), uH HB.out⟩
/-! ### impl_always: function 61 -/
def impl_always.f  : Option (Bool) := some true
set_option maxHeartbeats 8000000 in
set_option maxRecDepth 100000 in
theorem impl_always.calls  (r : Bool) (w : World) (h : impl_always.f  = some r) :
  Calls Try.prog 61 #[] w fun e w' => e = .returned (.bool r) ∧ Drawn0 w w' := by
 have H : (some true) = some r := h
 clear h
 obtain rfl := Option.some.inj H
 go_enter Try.func61, Try.ntmps61
 go_wp2
 go_ret
 exact ⟨by first | rfl | (simp; done) | (simp [*]; done), by repeat (first | exact Drawn0.refl _ | apply Drawn0.step)⟩
/-! ### impl_areAll_rows_1: function 120 -/
def impl_areAll_rows_1.f (l0 : List Int) (a1_0 : (List Int → Option Bool)) : Option (Bool) := (a1_0 l0).bind fun t683 => (some (!t683))
set_option maxHeartbeats 8000000 in
set_option maxRecDepth 100000 in
theorem impl_areAll_rows_1.calls (A0 : Option Addr) (c0 : Nat) (l0 : List Int) (gc1 : Nat) (F1_0 : Value) (a1_0 : (List Int → Option Bool)) (r : Bool) (w : World) (hr0 : Kd.C (Kd.int .i64) w A0 l0.length l0) (hc0 : l0.length ≤ c0) (hb1 : w.heap[gc1]? = some (.cells #[F1_0] 89 (0, 0))) (hF1_0 : FnL Try.prog w F1_0 a1_0) (h : impl_areAll_rows_1.f l0 a1_0 = some r) :
  Calls Try.prog 120 #[.slice A0 l0.length c0, .pointer (some ⟨gc1, 0, none⟩)] w fun e w' => e = .returned (.bool r) ∧ Below w.heap.size w w' := by
 have HR0 := zA hr0
 have HC0 := zA hc0
 clear hr0 hc0
 obtain ⟨G1_0, fi1_0, ca1_0, rfl, hen1_0, hF1_0⟩ := hF1_0
 have hen1_0 : ∀ (args_ : Array Value) (w_ : World), (callFunc G1_0 args_).run Try.prog w_ = .ok (.enter G1_0 args_) w_ := hen1_0
 have HF1_0 := zA hF1_0
 clear hF1_0
 have BK1 := zA hb1
 clear hb1
 have HB := zA (Below.refl w.heap.size w)
 have H : ((a1_0 l0).bind fun t683 => (some (!t683))) = some r := h
 clear h
 replace H := Option.bind_eq_some_iff.mp H
 obtain ⟨t683, A30, H⟩ := H
 replace H : (some (!t683)) = some r := H
 have A3 := zA A30
 clear A30
 obtain rfl := Option.some.inj H
 have hcz4_0 := bc BK1 0
 have hfz4_0 := bf BK1 0
 go_enter Try.func120, Try.ntmps120
 go_wp2_with (first | (go_at_fn G1_0; refine calls_of_args (args' := fi1_0 ++ #[.slice A0 l0.length c0] ++ ca1_0) (by simp) ?_; refine (HF1_0.out l0 _ _ _ A3.out _ (uH HB.out) (by exact uC HR0.out) (by exact HC0.out)).mono ?_; rintro e w5 ⟨rfl, hb⟩; replace BK1 := xB BK1 hb; replace HB := xH HB hb; (try clear hb)))
 go_ret
 exact ⟨by first | rfl | (simp [errW_none, errW_some] <;> rfl) | (simp [*, errW_none, errW_some] <;> rfl), uH HB.out⟩
/-! ### impl_areAscending: function 76 -/
def impl_areAscending.l0 : Nat → List Int → Int → Option (Bool)
 | 0, _, _ => none
 | k + 1, x0, x3 => if x3 < (x0.length : Int) then (if 0 ≤ x3 then (if 0 ≤ (wrap64 (x3 - 1)) then (if (wrap64 (x3 - 1)) < (x0.length : Int) then (if (rd x0 x3) ≤ (rd x0 (wrap64 (x3 - 1))) then (some false) else (impl_areAscending.l0 k x0 (wrap64 (x3 + 1)))) else (none)) else (none)) else (none)) else (some true)
def impl_areAscending.f (k : Nat) (l0 : List Int) : Option (Bool) := impl_areAscending.l0 k l0 1
theorem impl_areAscending.mono_l : ∀ k, (∀ y0 y1, LeO (impl_areAscending.l0 k y0 y1) (impl_areAscending.l0 (k + 1) y0 y1))
 | 0 => fun _ _ r h => by simp [impl_areAscending.l0] at h
 | k + 1 => by
  have ih0 := impl_areAscending.mono_l k
  ·intro y0 y1
   unfold impl_areAscending.l0
   repeat' first
   | (with_reducible exact ih0 _ _)
   | (with_reducible exact LeO.refl _)
   | (with_reducible exact LeO.none _)
   | (with_reducible refine LeO.ite ?_ ?_)
   | (with_reducible refine LeO.bind ?_ (fun _ => ?_))
   | exact ih0 _ _
   | exact LeO.none _
   | refine LeO.ite ?_ ?_
   | refine LeO.bind ?_ (fun _ => ?_)
theorem impl_areAscending.mono : ∀ a0 k, LeO (impl_areAscending.f k a0) (impl_areAscending.f (k + 1) a0) := by
 intro a0 k
 have ih0 := impl_areAscending.mono_l k
 unfold impl_areAscending.f
 repeat' first
   | (with_reducible exact ih0 _ _)
   | (with_reducible exact LeO.refl _)
   | (with_reducible exact LeO.none _)
   | (with_reducible refine LeO.ite ?_ ?_)
   | (with_reducible refine LeO.bind ?_ (fun _ => ?_))
   | exact ih0 _ _
   | exact LeO.none _
   | refine LeO.ite ?_ ?_
   | refine LeO.bind ?_ (fun _ => ?_)
set_option maxHeartbeats 8000000 in
set_option maxRecDepth 100000 in
theorem impl_areAscending.calls (k : Nat) (A0 : Option Addr) (c0 : Nat) (l0 : List Int) (r : Bool) (w : World) (hr0 : Kd.C (Kd.int .i64) w A0 l0.length l0) (hc0 : l0.length ≤ c0) (h : impl_areAscending.f k l0 = some r) :
  Calls Try.prog 76 #[.slice A0 l0.length c0] w fun e w' => e = .returned (.bool r) ∧ Drawn0 w w' := by
 have HR0 := zA hr0
 have HC0 := zA hc0
 clear hr0 hc0
 have H : (impl_areAscending.l0 k l0 1) = some r := h
 clear h
 have H' := zA H
 clear H
 go_enter Try.func76, Try.ntmps76
 go_wp2
 repeat (go_quiet (fail); try go_wp2)
 go_loopg [3] k (fun kq v3 w' => ∃ (x3_1 : Int), v3 = .int .i64 x3_1 ∧ Aside0 (impl_areAscending.l0 kq l0 x3_1 = some r) ∧ Aside0 (kq ≤ k) ∧ Drawn0 w w')
 case atStart => exact ⟨(1), (by first | rfl | (simp; done) | (simp [*]; done)), H', ⟨Nat.le_refl _⟩, by repeat (first | exact Drawn0.refl _ | apply Drawn0.step)⟩
 case round =>
  clear H'
  obtain ⟨x3_1, rfl, HA, HK1, ⟨m1, rfl⟩⟩ := hrel
  cases gk with
  | zero => exact absurd HA.out (by simp [impl_areAscending.l0])
  | succ k1 =>
   have H := HA.out
   clear HA
   simp only [impl_areAscending.l0] at H
   by_cases c2 : x3_1 < (l0.length : Int)
   rotate_left
   ·rw [if_neg c2] at H
    have c2b0 : decide (x3_1 < (l0.length : Int)) = false := decide_eq_false c2
    clear c2
    obtain rfl := Option.some.inj H
    go_wp2
    repeat (go_quiet (fail); try go_wp2)
    go_ret
    exact ⟨by first | rfl | (simp; done) | (simp [*]; done), by repeat (first | exact Drawn0.refl _ | apply Drawn0.step)⟩

   rw [if_pos c2] at H
   have c2b0 : decide (x3_1 < (l0.length : Int)) = true := decide_eq_true c2
   clear c2
   by_cases c3 : 0 ≤ x3_1
   rotate_left
   ·rw [if_neg c3] at H
    exact absurd H (by simp)
   rw [if_pos c3] at H
   have c3b0 : decide (0 ≤ x3_1) = true := decide_eq_true c3
   clear c3
   obtain ⟨ji4, hji4⟩ : ∃ j_ : Int, (wrap64 (x3_1 - 1)) = j_ := ⟨_, rfl⟩
   replace H : (if 0 ≤ (ji4) then (if (ji4) < (l0.length : Int) then (if (rd l0 x3_1) ≤ (rd l0 (ji4)) then (some false) else (impl_areAscending.l0 k1 l0 (wrap64 (x3_1 + 1)))) else (none)) else (none)) = some r := by first | (rw [hji4] at H; exact H) | (simp only [hji4] at H ⊢; exact H)
   have hji4w : (IntKind.i64.wrap (x3_1 - 1)) = ji4 := (i64_w _).trans hji4
   by_cases c5 : 0 ≤ (ji4)
   rotate_left
   ·rw [if_neg c5] at H
    exact absurd H (by simp)
   rw [if_pos c5] at H
   have c5b0 : decide (0 ≤ (ji4)) = true := decide_eq_true c5
   clear c5
   by_cases c6 : (ji4) < (l0.length : Int)
   rotate_left
   ·rw [if_neg c6] at H
    exact absurd H (by simp)
   rw [if_pos c6] at H
   have c6b0 : decide ((ji4) < (l0.length : Int)) = true := decide_eq_true c6
   clear c6
   by_cases c7 : (rd l0 x3_1) ≤ (rd l0 (ji4))
   rotate_left
   ·rw [if_neg c7] at H
    have c7b0 : decide ((rd l0 x3_1) ≤ (rd l0 (ji4))) = false := decide_eq_false c7
    clear c7
    have H' := zA H
    clear H
    have p672 : 0 ≤ (x3_1 : Int) := of_decide_eq_true (by first | (with_reducible assumption) | assumption)
    have q672 : x3_1 < (l0.length : Int) := of_decide_eq_true (by first | (with_reducible assumption) | assumption)
    obtain ⟨ad672, e672, hx672_0⟩ := Kd.at_int HR0.out x3_1 p672 q672
    cases e672
    replace p672 := eq_true p672
    replace q672 := eq_true q672
    have p673 : 0 ≤ ((ji4) : Int) := of_decide_eq_true (by first | (with_reducible assumption) | assumption)
    have q673 : (ji4) < (l0.length : Int) := of_decide_eq_true (by first | (with_reducible assumption) | assumption)
    obtain ⟨ad673, e673, hx673_0⟩ := Kd.at_int HR0.out (ji4) p673 q673
    obtain rfl : ad672 = ad673 := (by injection e673)
    replace p673 := eq_true p673
    replace q673 := eq_true q673
    go_wp2
    repeat (go_quiet (fail); try go_wp2)
    go_roundg k1
    case measure => have := HK1.out; omega
    case rel => exact ⟨(wrap64 (x3_1 + 1)), (by first | rfl | (simp; done) | (simp [*]; done)), H', ⟨by have := HK1.out; omega⟩, by repeat (first | exact Drawn0.refl _ | apply Drawn0.step)⟩
   rw [if_pos c7] at H
   have c7b0 : decide ((rd l0 x3_1) ≤ (rd l0 (ji4))) = true := decide_eq_true c7
   clear c7
   obtain rfl := Option.some.inj H
   have p672 : 0 ≤ (x3_1 : Int) := of_decide_eq_true (by first | (with_reducible assumption) | assumption)
   have q672 : x3_1 < (l0.length : Int) := of_decide_eq_true (by first | (with_reducible assumption) | assumption)
   obtain ⟨ad672, e672, hx672_0⟩ := Kd.at_int HR0.out x3_1 p672 q672
   cases e672
   replace p672 := eq_true p672
   replace q672 := eq_true q672
   have p673 : 0 ≤ ((ji4) : Int) := of_decide_eq_true (by first | (with_reducible assumption) | assumption)
   have q673 : (ji4) < (l0.length : Int) := of_decide_eq_true (by first | (with_reducible assumption) | assumption)
   obtain ⟨ad673, e673, hx673_0⟩ := Kd.at_int HR0.out (ji4) p673 q673
   obtain rfl : ad672 = ad673 := (by injection e673)
   replace p673 := eq_true p673
   replace q673 := eq_true q673
   go_wp2
   repeat (go_quiet (fail); try go_wp2)
   go_ret
   exact ⟨by first | rfl | (simp; done) | (simp only [← hji4] <;> (first | rfl | simp)) | (simp [*]; done), by repeat (first | exact Drawn0.refl _ | apply Drawn0.step)⟩
/-! ### impl_areNumbers: function 75 -/
def impl_areNumbers.f (k : Nat) (a0 : Int) (l1 : List Int) (a2 : Int) (a3 : Int) : Option (Bool) := (impl_IsPrime.f k a0).bind fun t668 => (if t668 = true then ((impl_length_int64.f l1).bind fun t669 => ((impl_within.f t669 a2 a3).bind fun t670 => (if t670 = true then ((impl_areAll_int64.f l1 (fun z_ => impl_field_has.f a0 z_)).bind fun t671 => (some t671)) else (some false)))) else (some false))
theorem impl_areNumbers.mono : ∀ a0 a1 a2 a3 k, LeO (impl_areNumbers.f k a0 a1 a2 a3) (impl_areNumbers.f (k + 1) a0 a1 a2 a3) := by
 intro a0 a1 a2 a3 k
 unfold impl_areNumbers.f
 repeat' first
   | (with_reducible exact impl_IsPrime.mono _ _)
   | (with_reducible exact LeO.refl _)
   | (with_reducible exact LeO.none _)
   | (with_reducible refine LeO.ite ?_ ?_)
   | (with_reducible refine LeO.bind ?_ (fun _ => ?_))
   | exact impl_IsPrime.mono _ _
   | exact LeO.none _
   | refine LeO.ite ?_ ?_
   | refine LeO.bind ?_ (fun _ => ?_)
set_option maxHeartbeats 8000000 in
set_option maxRecDepth 100000 in
theorem impl_areNumbers.calls (k : Nat) (a0 : Int) (A1 : Option Addr) (c1 : Nat) (l1 : List Int) (a2 : Int) (a3 : Int) (r : Bool) (w : World) (hr1 : Kd.C (Kd.int .i64) w A1 l1.length l1) (hc1 : l1.length ≤ c1) (h : impl_areNumbers.f k a0 l1 a2 a3 = some r) :
  Calls Try.prog 75 #[.int .i64 a0, .slice A1 l1.length c1, .int .i64 a2, .int .i64 a3] w fun e w' => e = .returned (.bool r) ∧ Below w.heap.size w w' := by
 have hmf : ∀ (fn_ : Fn) (first_ cap_ : Array Value) (w_ : World), (Instr.makeFunc fn_ first_ cap_).run Try.prog w_ = .ok (.func fn_ first_ cap_) w_ := fun _ _ _ _ => rfl
 have HR1 := zA hr1
 have HC1 := zA hc1
 clear hr1 hc1
 have HB := zA (Below.refl w.heap.size w)
 have H : ((impl_IsPrime.f k a0).bind fun t668 => (if t668 = true then ((impl_length_int64.f l1).bind fun t669 => ((impl_within.f t669 a2 a3).bind fun t670 => (if t670 = true then ((impl_areAll_int64.f l1 (fun z_ => impl_field_has.f a0 z_)).bind fun t671 => (some t671)) else (some false)))) else (some false))) = some r := h
 clear h
 replace H := Option.bind_eq_some_iff.mp H
 obtain ⟨t668, A50, H⟩ := H
 replace H : (if t668 = true then ((impl_length_int64.f l1).bind fun t669 => ((impl_within.f t669 a2 a3).bind fun t670 => (if t670 = true then ((impl_areAll_int64.f l1 (fun z_ => impl_field_has.f a0 z_)).bind fun t671 => (some t671)) else (some false)))) else (some false)) = some r := H
 have A5 := zA A50
 clear A50
 by_cases c6 : t668 = true
 ·subst c6
  have H1 : ((impl_length_int64.f l1).bind fun t669 => ((impl_within.f t669 a2 a3).bind fun t670 => (if t670 = true then ((impl_areAll_int64.f l1 (fun z_ => impl_field_has.f a0 z_)).bind fun t671 => (some t671)) else (some false)))) = some r := by rw [if_pos rfl] at H; exact H
  clear H
  have H := H1
  clear H1
  replace H := Option.bind_eq_some_iff.mp H
  obtain ⟨t669, A70, H⟩ := H
  replace H : ((impl_within.f t669 a2 a3).bind fun t670 => (if t670 = true then ((impl_areAll_int64.f l1 (fun z_ => impl_field_has.f a0 z_)).bind fun t671 => (some t671)) else (some false))) = some r := H
  have A7 := zA A70
  clear A70
  replace H := Option.bind_eq_some_iff.mp H
  obtain ⟨t670, A80, H⟩ := H
  replace H : (if t670 = true then ((impl_areAll_int64.f l1 (fun z_ => impl_field_has.f a0 z_)).bind fun t671 => (some t671)) else (some false)) = some r := H
  have A8 := zA A80
  clear A80
  by_cases c9 : t670 = true
  ·subst c9
   have H1 : ((impl_areAll_int64.f l1 (fun z_ => impl_field_has.f a0 z_)).bind fun t671 => (some t671)) = some r := by rw [if_pos rfl] at H; exact H
   clear H
   have H := H1
   clear H1
   replace H := Option.bind_eq_some_iff.mp H
   obtain ⟨t671, A100, H⟩ := H
   replace H : (some t671) = some r := H
   have A10 := zA A100
   clear A100
   obtain rfl := Option.some.inj H
   go_enter Try.func75, Try.ntmps75
   go_wp2_with (first | ((with_reducible refine gate_callee (f := 98) rfl ?_); refine gL (some 10) Try.func98 #[.int .i64 a0] ?_; (with_reducible refine (impl_IsPrime.calls k a0 true _ A5.out).mono ?_); rintro e w' ⟨rfl, ⟨nd, rfl⟩⟩; refine ⟨_, rfl, ?_⟩) | (go_at_call 66; (with_reducible refine (impl_length_int64.calls _ _ l1 t669 _ ?side1 ?side2 A7.out).mono ?_); (case side1 => exact uC HR1.out); (case side2 => exact HC1.out); rintro e w' ⟨rfl, ⟨nd, rfl⟩⟩) | (go_at_call 49; (with_reducible refine (impl_within.calls t669 a2 a3 true _ A8.out).mono ?_); rintro e w' ⟨rfl, ⟨nd, rfl⟩⟩) | (go_at_call 99; (with_reducible refine (impl_areAll_int64.calls _ _ l1 _ (fun z_ => impl_field_has.f a0 z_) t671 _ ?side1 ?side2 ?side3 A10.out).mono ?_); (case side1 => exact uC HR1.out); (case side2 => exact HC1.out); (case side3 => exact FnI.of Try.func100 (by kernel_rfl) rfl (fun z_ r_ hr_ W_ hW_ => calls_of_args (args' := #[.int .i64 a0, .int .i64 z_]) (by simp) ((impl_field_has.calls a0 z_ r_ W_  hr_).mono fun e_ W2_ h_ => ⟨h_.1, h_.2.below⟩))); rintro e w11 ⟨rfl, hb⟩; replace HB := xH HB hb; (try clear hb); (try clear hb2); (try clear hk); (try clear hi)))
   go_ret
   exact ⟨by first | rfl | (simp [errW_none, errW_some] <;> rfl) | (simp [*, errW_none, errW_some] <;> rfl), uH HB.out⟩
  ·replace c9 := Bool.eq_false_iff.mpr c9
   subst c9
   have H1 : (some false) = some r := by rw [if_neg (show ¬ (false = true) by decide)] at H; exact H
   clear H
   have H := H1
   clear H1
   obtain rfl := Option.some.inj H
   go_enter Try.func75, Try.ntmps75
   go_wp2_with (first | ((with_reducible refine gate_callee (f := 98) rfl ?_); refine gL (some 10) Try.func98 #[.int .i64 a0] ?_; (with_reducible refine (impl_IsPrime.calls k a0 true _ A5.out).mono ?_); rintro e w' ⟨rfl, ⟨nd, rfl⟩⟩; refine ⟨_, rfl, ?_⟩) | (go_at_call 66; (with_reducible refine (impl_length_int64.calls _ _ l1 t669 _ ?side1 ?side2 A7.out).mono ?_); (case side1 => exact uC HR1.out); (case side2 => exact HC1.out); rintro e w' ⟨rfl, ⟨nd, rfl⟩⟩) | (go_at_call 49; (with_reducible refine (impl_within.calls t669 a2 a3 false _ A8.out).mono ?_); rintro e w' ⟨rfl, ⟨nd, rfl⟩⟩))
   go_ret
   exact ⟨by first | rfl | (simp [errW_none, errW_some] <;> rfl) | (simp [*, errW_none, errW_some] <;> rfl), uH HB.out⟩
 ·replace c6 := Bool.eq_false_iff.mpr c6
  subst c6
  have H1 : (some false) = some r := by rw [if_neg (show ¬ (false = true) by decide)] at H; exact H
  clear H
  have H := H1
  clear H1
  obtain rfl := Option.some.inj H
  go_enter Try.func75, Try.ntmps75
  go_wp2_with (first | ((with_reducible refine gate_callee (f := 98) rfl ?_); refine gL (some 10) Try.func98 #[.int .i64 a0] ?_; (with_reducible refine (impl_IsPrime.calls k a0 false _ A5.out).mono ?_); rintro e w' ⟨rfl, ⟨nd, rfl⟩⟩; refine ⟨_, rfl, ?_⟩))
  go_ret
  exact ⟨by first | rfl | (simp [errW_none, errW_some] <;> rfl) | (simp [*, errW_none, errW_some] <;> rfl), uH HB.out⟩
/-! ### impl_IsRule: function 86 -/
def impl_IsRule.f (k : Nat) (a0_0 : Int) (l0_1 : List Int) (l0_2 : List Int) : Option (Bool) := (impl_areNumbers.f k a0_0 l0_1 0 24).bind fun t675 => (if t675 = true then ((impl_areAscending.f k l0_1).bind fun t676 => (if t676 = true then ((impl_length_int64.f l0_1).bind fun t677 => ((impl_length_int64.f l0_1).bind fun t678 => ((impl_areNumbers.f k a0_0 l0_2 t677 t678).bind fun t679 => (some t679)))) else (some false))) else (some false))
theorem impl_IsRule.mono : ∀ a0 a1 a2 k, LeO (impl_IsRule.f k a0 a1 a2) (impl_IsRule.f (k + 1) a0 a1 a2) := by
 intro a0 a1 a2 k
 unfold impl_IsRule.f
 repeat' first
   | (with_reducible exact impl_areAscending.mono _ _)
   | (with_reducible exact impl_areNumbers.mono _ _ _ _ _)
   | (with_reducible exact LeO.refl _)
   | (with_reducible exact LeO.none _)
   | (with_reducible refine LeO.ite ?_ ?_)
   | (with_reducible refine LeO.bind ?_ (fun _ => ?_))
   | exact impl_areAscending.mono _ _
   | exact impl_areNumbers.mono _ _ _ _ _
   | exact LeO.none _
   | refine LeO.ite ?_ ?_
   | refine LeO.bind ?_ (fun _ => ?_)
def impl_IsRule.T1 : Bool × List (List Nat × List Nat) := (true, [([], []), ([0], [0]), ([], []), ([2], [2]), ([1, 3], [1, 3]), ([4, 4], [4]), ([5], [5]), ([6, 5], [5, 6]), ([7, 5, 5], [5, 7]), ([5, 8], [5, 8]), ([9, 8], [9]), ([10], [10]), ([11, 10], [10, 11]), ([10], [10]), ([13, 10], [10, 13]), ([10], [10]), ([15, 10], [10, 15]), ([16, 10, 10], [10, 16]), ([10], [10]), ([18, 10], [10, 18]), ([19, 17, 10], [10, 19]), ([12, 14, 17, 20, 20, 10], [10, 12, 14, 17, 20]), ([10, 21], [10, 21]), ([22, 21, 0, 1, 2, 3, 4, 5, 6, 7, 8, 9, 10, 11, 12, 13, 14, 15, 16, 17, 18, 19, 20, 21, 22], [22])])
def impl_IsRule.B1 : List Nat := [0, 1, 0, 4, 15, 31, 63, 127, 255, 511, 1023, 2047, 4095, 2047, 10239, 2047, 34815, 100351, 2047, 264191, 1017855, 2097151, 4194303, 8388607]
theorem impl_IsRule.tab1 : rtab .any (opsOf Try.f86 1) = impl_IsRule.T1 := by kernel_rfl
theorem impl_IsRule.bits1 : waitsOk impl_IsRule.T1.2 impl_IsRule.B1 = true := by kernel_rfl
set_option maxHeartbeats 8000000 in
set_option maxRecDepth 100000 in
theorem impl_IsRule.calls (k : Nat) (a0_0 : Int) (A0_1 : Option Addr) (c0_1 : Nat) (l0_1 : List Int) (A0_2 : Option Addr) (c0_2 : Nat) (l0_2 : List Int) (r : Bool) (w : World) (hr0_1 : Kd.C (Kd.int .i64) w A0_1 l0_1.length l0_1) (hc0_1 : l0_1.length ≤ c0_1) (hr0_2 : Kd.C (Kd.int .i64) w A0_2 l0_2.length l0_2) (hc0_2 : l0_2.length ≤ c0_2) (h : impl_IsRule.f k a0_0 l0_1 l0_2 = some r) :
  Calls Try.prog 86 #[.agg #[.int .i64 a0_0, .slice A0_1 l0_1.length c0_1, .slice A0_2 l0_2.length c0_2]] w fun e w' => e = .returned (.bool r) ∧ Below w.heap.size w w' := by
 have hu46 := Try.underlying46
 have HR0_1 := zA hr0_1
 have HC0_1 := zA hc0_1
 clear hr0_1 hc0_1
 have HR0_2 := zA hr0_2
 have HC0_2 := zA hc0_2
 clear hr0_2 hc0_2
 have HB := zA (Below.refl w.heap.size w)
 have H : ((impl_areNumbers.f k a0_0 l0_1 0 24).bind fun t675 => (if t675 = true then ((impl_areAscending.f k l0_1).bind fun t676 => (if t676 = true then ((impl_length_int64.f l0_1).bind fun t677 => ((impl_length_int64.f l0_1).bind fun t678 => ((impl_areNumbers.f k a0_0 l0_2 t677 t678).bind fun t679 => (some t679)))) else (some false))) else (some false))) = some r := h
 clear h
 replace H := Option.bind_eq_some_iff.mp H
 obtain ⟨t675, A20, H⟩ := H
 replace H : (if t675 = true then ((impl_areAscending.f k l0_1).bind fun t676 => (if t676 = true then ((impl_length_int64.f l0_1).bind fun t677 => ((impl_length_int64.f l0_1).bind fun t678 => ((impl_areNumbers.f k a0_0 l0_2 t677 t678).bind fun t679 => (some t679)))) else (some false))) else (some false)) = some r := H
 have A2 := zA A20
 clear A20
 by_cases c3 : t675 = true
 ·subst c3
  have H1 : ((impl_areAscending.f k l0_1).bind fun t676 => (if t676 = true then ((impl_length_int64.f l0_1).bind fun t677 => ((impl_length_int64.f l0_1).bind fun t678 => ((impl_areNumbers.f k a0_0 l0_2 t677 t678).bind fun t679 => (some t679)))) else (some false))) = some r := by rw [if_pos rfl] at H; exact H
  clear H
  have H := H1
  clear H1
  replace H := Option.bind_eq_some_iff.mp H
  obtain ⟨t676, A40, H⟩ := H
  replace H : (if t676 = true then ((impl_length_int64.f l0_1).bind fun t677 => ((impl_length_int64.f l0_1).bind fun t678 => ((impl_areNumbers.f k a0_0 l0_2 t677 t678).bind fun t679 => (some t679)))) else (some false)) = some r := H
  have A4 := zA A40
  clear A40
  by_cases c5 : t676 = true
  ·subst c5
   have H1 : ((impl_length_int64.f l0_1).bind fun t677 => ((impl_length_int64.f l0_1).bind fun t678 => ((impl_areNumbers.f k a0_0 l0_2 t677 t678).bind fun t679 => (some t679)))) = some r := by rw [if_pos rfl] at H; exact H
   clear H
   have H := H1
   clear H1
   replace H := Option.bind_eq_some_iff.mp H
   obtain ⟨t677, A60, H⟩ := H
   replace H : ((impl_length_int64.f l0_1).bind fun t678 => ((impl_areNumbers.f k a0_0 l0_2 t677 t678).bind fun t679 => (some t679))) = some r := H
   have A6 := zA A60
   clear A60
   replace H := Option.bind_eq_some_iff.mp H
   obtain ⟨t678, A70, H⟩ := H
   replace H : ((impl_areNumbers.f k a0_0 l0_2 t677 t678).bind fun t679 => (some t679)) = some r := H
   have A7 := zA A70
   clear A70
   replace H := Option.bind_eq_some_iff.mp H
   obtain ⟨t679, A80, H⟩ := H
   replace H : (some t679) = some r := H
   have A8 := zA A80
   clear A80
   obtain rfl := Option.some.inj H
   go_enter Try.func86, Try.ntmps86
   try go_wp2_with (first | ((with_reducible refine gate_dst (N := 1) rfl ?_); refine bx 1 #[.int .i64 a0_0, .slice A0_1 l0_1.length c0_1, .slice A0_2 l0_2.length c0_2] 46 ?_; intro gb674 hg w9 hbox hb; have BK674 := zA (hbox); have GW674 := gq HB hg; have GE674 := gq HB hg; replace HB := xH HB hb; have := geI GE674; clear hb hbox hg))
   replace BK674 := zA (blk_drew BK674.out)
   replace HB := zA (below_drew1 HB.out)
   refine start_ (n := 24) (S := fun w' => w'.cell? ⟨gb674, 0, none⟩ = some (.int .i64 a0_0) ∧ w'.cell? ⟨gb674, 1, none⟩ = some (.slice A0_1 l0_1.length c0_1) ∧ w'.cell? ⟨gb674, 2, none⟩ = some (.slice A0_2 l0_2.length c0_2)) (ds := []) #[false, false, false, false, false, false, false, false, false, false, false, false, false, false, false, false, false, false, false, false, false, false, false, false] (by kernel_rfl) rfl rfl ⟨bcu BK674 0, bcu BK674 1, bcu BK674 2⟩ (fun hHeld => ?_); refine with_tabW impl_IsRule.tab1 impl_IsRule.bits1 (fun HT_ HW_ => ?_)
   generalize w9.drew = w10 at BK674 HB hHeld ⊢
   refine pu_ 0 3 (bl 24 1) HT_ ?_
   refine pu_ 2 5 (bl 24 5) HT_ ?_
   refine ta_ 1 4 (bl 24 7) HT_ HW_ hHeld ?_
   refine ta_ 3 6 (bl 24 15) HT_ HW_ hHeld ?_
   refine on_ 4 (some 7) (bl 24 31) HT_ (fun K hK => ?_)
   refine gS Try.func75 #[.int .i64 a0_0, .slice A0_1 l0_1.length c0_1, .int .i64 0, .int .i64 24] ?_
   with_reducible refine (impl_areNumbers.calls k a0_0 _ _ l0_1 0 24 true _ ?side1 ?side2 A2.out).mono ?_
   (case side1 => exact uC ((Kd.C_below HR0_1.out HB.out)))
   (case side2 => exact HC0_1.out)
   rintro e w11 ⟨rfl, hb⟩
   refine ⟨_, rfl, ?_⟩
   replace BK674 := xB BK674 hb
   replace HB := xH HB hb
   (try clear hb); (try clear hb2); (try clear hk); (try clear hi)
   refine hK.out _ _ ⟨bcu BK674 0, bcu BK674 1, bcu BK674 2⟩ (fun hHeld => ?_)
   clear hK K
   refine no_ 7 ?_
   refine pu_ 5 8 (bl 24 63) HT_ ?_
   refine pu_ 6 9 (bl 24 127) HT_ ?_
   refine ta_ 7 10 (bl 24 255) HT_ HW_ hHeld ?_
   refine on_ 8 (some 11) (bl 24 511) HT_ (fun K hK => ?_)
   refine gS Try.func76 #[.slice A0_1 l0_1.length c0_1] ?_
   with_reducible refine (impl_areAscending.calls k _ _ l0_1 true _ ?side1 ?side2 A4.out).mono ?_
   (case side1 => exact uC ((Kd.C_below HR0_1.out HB.out)))
   (case side2 => exact HC0_1.out)
   rintro e w' ⟨rfl, ⟨nd, rfl⟩⟩
   refine ⟨_, rfl, ?_⟩
   refine hK.out _ _ ⟨bcu BK674 0, bcu BK674 1, bcu BK674 2⟩ (fun hHeld => ?_)
   clear hK K
   refine no_ 11 ?_
   refine pu_ 9 12 (bl 24 1023) HT_ ?_
   refine pu_ 10 13 (bl 24 2047) HT_ ?_
   refine pu_ 11 14 (bl 24 4095) HT_ ?_
   refine pu_ 13 16 (bl 24 12287) HT_ ?_
   refine pu_ 15 18 (bl 24 45055) HT_ ?_
   refine pu_ 18 21 (bl 24 307199) HT_ ?_
   refine ta_ 12 15 (bl 24 311295) HT_ HW_ hHeld ?_
   refine ta_ 14 17 (bl 24 327679) HT_ HW_ hHeld ?_
   refine ta_ 16 19 (bl 24 393215) HT_ HW_ hHeld ?_
   refine ta_ 19 22 (bl 24 917503) HT_ HW_ hHeld ?_
   refine on_ 17 (some 20) (bl 24 1048575) HT_ (fun K hK => ?_)
   refine gS Try.func66 #[.slice A0_1 l0_1.length c0_1] ?_
   with_reducible refine (impl_length_int64.calls _ _ l0_1 t677 _ ?side1 ?side2 A6.out).mono ?_
   (case side1 => repeat (first | exact (Kd.C_below HR0_1.out (uH HB.out)) | (with_reducible refine Kd.C_alloc ?_ _) | (with_reducible refine Kd.C_drewN ?_ _) | (with_reducible refine Kd.C_drew ?_)))
   (case side2 => exact HC0_1.out)
   rintro e w' ⟨rfl, ⟨nd, rfl⟩⟩
   refine ⟨_, rfl, ?_⟩
   refine hK.out _ _ ⟨bcu BK674 0, bcu BK674 1, bcu BK674 2⟩ (fun hHeld => ?_)
   clear hK K
   refine no_ 20 ?_
   refine on_ 20 (some 23) (bl 24 2097151) HT_ (fun K hK => ?_)
   refine gS Try.func66 #[.slice A0_1 l0_1.length c0_1] ?_
   with_reducible refine (impl_length_int64.calls _ _ l0_1 t678 _ ?side1 ?side2 A7.out).mono ?_
   (case side1 => repeat (first | exact (Kd.C_below HR0_1.out (uH HB.out)) | (with_reducible refine Kd.C_alloc ?_ _) | (with_reducible refine Kd.C_drewN ?_ _) | (with_reducible refine Kd.C_drew ?_)))
   (case side2 => exact HC0_1.out)
   rintro e w' ⟨rfl, ⟨nd, rfl⟩⟩
   refine ⟨_, rfl, ?_⟩
   refine hK.out _ _ ⟨bcu BK674 0, bcu BK674 1, bcu BK674 2⟩ (fun hHeld => ?_)
   clear hK K
   refine no_ 23 ?_
   refine on_ 21 (some 24) (bl 24 4194303) HT_ (fun K hK => ?_)
   refine gS Try.func75 #[.int .i64 a0_0, .slice A0_2 l0_2.length c0_2, .int .i64 t677, .int .i64 t678] ?_
   with_reducible refine (impl_areNumbers.calls k a0_0 _ _ l0_2 t677 t678 t679 _ ?side1 ?side2 A8.out).mono ?_
   (case side1 => repeat (first | exact (Kd.C_below HR0_2.out (uH HB.out)) | (with_reducible refine Kd.C_alloc ?_ _) | (with_reducible refine Kd.C_drewN ?_ _) | (with_reducible refine Kd.C_drew ?_)))
   (case side2 => exact HC0_2.out)
   rintro e w12 ⟨rfl, hb⟩
   refine ⟨_, rfl, ?_⟩
   replace BK674 := xB BK674 hb
   replace HB := xH HB hb
   (try clear hb); (try clear hb2); (try clear hk); (try clear hi)
   refine hK.out _ _ ⟨bcu BK674 0, bcu BK674 1, bcu BK674 2⟩ (fun hHeld => ?_)
   clear hK K
   refine no_ 24 ?_
   refine pu_ 22 25 (bl 24 8388607) HT_ ?_
   refine pu_ 23 2 (bl 24 16777215) HT_ ?_
   refine done_ (done_of HT_.out (by kernel_rfl)) ?_
   try go_wp2
   go_ret
   exact ⟨by first | rfl | (simp [errW_none, errW_some] <;> rfl) | (simp [*, errW_none, errW_some] <;> rfl), uH HB.out⟩
  ·replace c5 := Bool.eq_false_iff.mpr c5
   subst c5
   have H1 : (some false) = some r := by rw [if_neg (show ¬ (false = true) by decide)] at H; exact H
   clear H
   have H := H1
   clear H1
   obtain rfl := Option.some.inj H
   go_enter Try.func86, Try.ntmps86
   try go_wp2_with (first | ((with_reducible refine gate_dst (N := 1) rfl ?_); refine bx 1 #[.int .i64 a0_0, .slice A0_1 l0_1.length c0_1, .slice A0_2 l0_2.length c0_2] 46 ?_; intro gb674 hg w13 hbox hb; have BK674 := zA (hbox); have GW674 := gq HB hg; have GE674 := gq HB hg; replace HB := xH HB hb; have := geI GE674; clear hb hbox hg))
   replace BK674 := zA (blk_drew BK674.out)
   replace HB := zA (below_drew1 HB.out)
   refine start_ (n := 24) (S := fun w' => w'.cell? ⟨gb674, 0, none⟩ = some (.int .i64 a0_0) ∧ w'.cell? ⟨gb674, 1, none⟩ = some (.slice A0_1 l0_1.length c0_1) ∧ w'.cell? ⟨gb674, 2, none⟩ = some (.slice A0_2 l0_2.length c0_2)) (ds := []) #[false, false, false, false, false, false, false, false, false, false, false, false, false, false, false, false, false, false, false, false, false, false, false, false] (by kernel_rfl) rfl rfl ⟨bcu BK674 0, bcu BK674 1, bcu BK674 2⟩ (fun hHeld => ?_); refine with_tabW impl_IsRule.tab1 impl_IsRule.bits1 (fun HT_ HW_ => ?_)
   generalize w13.drew = w14 at BK674 HB hHeld ⊢
   refine pu_ 0 3 (bl 24 1) HT_ ?_
   refine pu_ 2 5 (bl 24 5) HT_ ?_
   refine ta_ 1 4 (bl 24 7) HT_ HW_ hHeld ?_
   refine ta_ 3 6 (bl 24 15) HT_ HW_ hHeld ?_
   refine on_ 4 (some 7) (bl 24 31) HT_ (fun K hK => ?_)
   refine gS Try.func75 #[.int .i64 a0_0, .slice A0_1 l0_1.length c0_1, .int .i64 0, .int .i64 24] ?_
   with_reducible refine (impl_areNumbers.calls k a0_0 _ _ l0_1 0 24 true _ ?side1 ?side2 A2.out).mono ?_
   (case side1 => exact uC ((Kd.C_below HR0_1.out HB.out)))
   (case side2 => exact HC0_1.out)
   rintro e w15 ⟨rfl, hb⟩
   refine ⟨_, rfl, ?_⟩
   replace BK674 := xB BK674 hb
   replace HB := xH HB hb
   (try clear hb); (try clear hb2); (try clear hk); (try clear hi)
   refine hK.out _ _ ⟨bcu BK674 0, bcu BK674 1, bcu BK674 2⟩ (fun hHeld => ?_)
   clear hK K
   refine no_ 7 ?_
   refine pu_ 5 8 (bl 24 63) HT_ ?_
   refine pu_ 6 9 (bl 24 127) HT_ ?_
   refine ta_ 7 10 (bl 24 255) HT_ HW_ hHeld ?_
   refine on_ 8 (some 11) (bl 24 511) HT_ (fun K hK => ?_)
   refine gS Try.func76 #[.slice A0_1 l0_1.length c0_1] ?_
   with_reducible refine (impl_areAscending.calls k _ _ l0_1 false _ ?side1 ?side2 A4.out).mono ?_
   (case side1 => exact uC ((Kd.C_below HR0_1.out HB.out)))
   (case side2 => exact HC0_1.out)
   rintro e w' ⟨rfl, ⟨nd, rfl⟩⟩
   refine ⟨_, rfl, ?_⟩
   refine hK.out _ _ ⟨bcu BK674 0, bcu BK674 1, bcu BK674 2⟩ (fun hHeld => ?_)
   clear hK K
   refine no_ 11 ?_
   refine pu_ 9 12 (bl 24 1023) HT_ ?_
   refine pu_ 10 13 (bl 24 2047) HT_ ?_
   refine un_ 11 14 (bl 24 4095) HT_ ?_
   refine un_ 12 15 (bl 24 8191) HT_ ?_
   refine un_ 13 16 (bl 24 16383) HT_ ?_
   refine un_ 14 17 (bl 24 32767) HT_ ?_
   refine un_ 15 18 (bl 24 65535) HT_ ?_
   refine un_ 16 19 (bl 24 131071) HT_ ?_
   refine un_ 17 20 (bl 24 262143) HT_ ?_
   refine un_ 18 21 (bl 24 524287) HT_ ?_
   refine un_ 19 22 (bl 24 1048575) HT_ ?_
   refine un_ 20 23 (bl 24 2097151) HT_ ?_
   refine un_ 21 24 (bl 24 4194303) HT_ ?_
   refine pu_ 22 25 (bl 24 8388607) HT_ ?_
   refine pu_ 23 2 (bl 24 16777215) HT_ ?_
   refine done_ (done_of HT_.out (by kernel_rfl)) ?_
   try go_wp2
   go_ret
   exact ⟨by first | rfl | (simp [errW_none, errW_some] <;> rfl) | (simp [*, errW_none, errW_some] <;> rfl), uH HB.out⟩
 ·replace c3 := Bool.eq_false_iff.mpr c3
  subst c3
  have H1 : (some false) = some r := by rw [if_neg (show ¬ (false = true) by decide)] at H; exact H
  clear H
  have H := H1
  clear H1
  obtain rfl := Option.some.inj H
  go_enter Try.func86, Try.ntmps86
  try go_wp2_with (first | ((with_reducible refine gate_dst (N := 1) rfl ?_); refine bx 1 #[.int .i64 a0_0, .slice A0_1 l0_1.length c0_1, .slice A0_2 l0_2.length c0_2] 46 ?_; intro gb674 hg w16 hbox hb; have BK674 := zA (hbox); have GW674 := gq HB hg; have GE674 := gq HB hg; replace HB := xH HB hb; have := geI GE674; clear hb hbox hg))
  replace BK674 := zA (blk_drew BK674.out)
  replace HB := zA (below_drew1 HB.out)
  refine start_ (n := 24) (S := fun w' => w'.cell? ⟨gb674, 0, none⟩ = some (.int .i64 a0_0) ∧ w'.cell? ⟨gb674, 1, none⟩ = some (.slice A0_1 l0_1.length c0_1) ∧ w'.cell? ⟨gb674, 2, none⟩ = some (.slice A0_2 l0_2.length c0_2)) (ds := []) #[false, false, false, false, false, false, false, false, false, false, false, false, false, false, false, false, false, false, false, false, false, false, false, false] (by kernel_rfl) rfl rfl ⟨bcu BK674 0, bcu BK674 1, bcu BK674 2⟩ (fun hHeld => ?_); refine with_tabW impl_IsRule.tab1 impl_IsRule.bits1 (fun HT_ HW_ => ?_)
  generalize w16.drew = w17 at BK674 HB hHeld ⊢
  refine pu_ 0 3 (bl 24 1) HT_ ?_
  refine pu_ 2 5 (bl 24 5) HT_ ?_
  refine ta_ 1 4 (bl 24 7) HT_ HW_ hHeld ?_
  refine ta_ 3 6 (bl 24 15) HT_ HW_ hHeld ?_
  refine on_ 4 (some 7) (bl 24 31) HT_ (fun K hK => ?_)
  refine gS Try.func75 #[.int .i64 a0_0, .slice A0_1 l0_1.length c0_1, .int .i64 0, .int .i64 24] ?_
  with_reducible refine (impl_areNumbers.calls k a0_0 _ _ l0_1 0 24 false _ ?side1 ?side2 A2.out).mono ?_
  (case side1 => exact uC ((Kd.C_below HR0_1.out HB.out)))
  (case side2 => exact HC0_1.out)
  rintro e w18 ⟨rfl, hb⟩
  refine ⟨_, rfl, ?_⟩
  replace BK674 := xB BK674 hb
  replace HB := xH HB hb
  (try clear hb); (try clear hb2); (try clear hk); (try clear hi)
  refine hK.out _ _ ⟨bcu BK674 0, bcu BK674 1, bcu BK674 2⟩ (fun hHeld => ?_)
  clear hK K
  refine no_ 7 ?_
  refine pu_ 5 8 (bl 24 63) HT_ ?_
  refine un_ 6 9 (bl 24 127) HT_ ?_
  refine un_ 7 10 (bl 24 255) HT_ ?_
  refine un_ 8 11 (bl 24 511) HT_ ?_
  refine pu_ 9 12 (bl 24 1023) HT_ ?_
  refine pu_ 10 13 (bl 24 2047) HT_ ?_
  refine un_ 11 14 (bl 24 4095) HT_ ?_
  refine un_ 12 15 (bl 24 8191) HT_ ?_
  refine un_ 13 16 (bl 24 16383) HT_ ?_
  refine un_ 14 17 (bl 24 32767) HT_ ?_
  refine un_ 15 18 (bl 24 65535) HT_ ?_
  refine un_ 16 19 (bl 24 131071) HT_ ?_
  refine un_ 17 20 (bl 24 262143) HT_ ?_
  refine un_ 18 21 (bl 24 524287) HT_ ?_
  refine un_ 19 22 (bl 24 1048575) HT_ ?_
  refine un_ 20 23 (bl 24 2097151) HT_ ?_
  refine un_ 21 24 (bl 24 4194303) HT_ ?_
  refine pu_ 22 25 (bl 24 8388607) HT_ ?_
  refine pu_ 23 2 (bl 24 16777215) HT_ ?_
  refine done_ (done_of HT_.out (by kernel_rfl)) ?_
  try go_wp2
  go_ret
  exact ⟨by first | rfl | (simp [errW_none, errW_some] <;> rfl) | (simp [*, errW_none, errW_some] <;> rfl), uH HB.out⟩
/-! ### impl_polyCode_1: function 111 -/
def impl_polyCode_1.f (l0 : List Int) (a1_0 : Int) : Option (Bool) := (impl_IsPoly.f a1_0 l0).bind fun t688 => (some t688)
set_option maxHeartbeats 8000000 in
set_option maxRecDepth 100000 in
theorem impl_polyCode_1.calls (A0 : Option Addr) (c0 : Nat) (l0 : List Int) (gc1 : Nat) (a1_0 : Int) (r : Bool) (w : World) (hr0 : Kd.C (Kd.int .i64) w A0 l0.length l0) (hc0 : l0.length ≤ c0) (hb1 : w.heap[gc1]? = some (.cells #[.int .i64 a1_0] 2 (0, 0))) (h : impl_polyCode_1.f l0 a1_0 = some r) :
  Calls Try.prog 111 #[.slice A0 l0.length c0, .pointer (some ⟨gc1, 0, none⟩)] w fun e w' => e = .returned (.bool r) ∧ Below w.heap.size w w' := by
 have HR0 := zA hr0
 have HC0 := zA hc0
 clear hr0 hc0
 have BK1 := zA hb1
 clear hb1
 have HB := zA (Below.refl w.heap.size w)
 have H : ((impl_IsPoly.f a1_0 l0).bind fun t688 => (some t688)) = some r := h
 clear h
 replace H := Option.bind_eq_some_iff.mp H
 obtain ⟨t688, A30, H⟩ := H
 replace H : (some t688) = some r := H
 have A3 := zA A30
 clear A30
 obtain rfl := Option.some.inj H
 have hcz4_0 := bc BK1 0
 have hfz4_0 := bf BK1 0
 go_enter Try.func111, Try.ntmps111
 go_wp2_with (first | ((with_reducible refine gate_callee (f := 112) rfl ?_); refine gL (some 6) Try.func112 #[.int .i64 a1_0, .slice A0 l0.length c0] ?_; (with_reducible refine (impl_IsPoly.calls a1_0 _ _ l0 t688 _ ?side1 ?side2 A3.out).mono ?_); (case side1 => exact uC HR0.out); (case side2 => exact HC0.out); rintro e w5 ⟨rfl, hb⟩; refine ⟨_, rfl, ?_⟩; replace BK1 := xB BK1 hb; replace HB := xH HB hb; (try clear hb); (try clear hb2); (try clear hk); (try clear hi)))
 go_ret
 exact ⟨by first | rfl | (simp [errW_none, errW_some] <;> rfl) | (simp [*, errW_none, errW_some] <;> rfl), uH HB.out⟩
/-! ### laws_eqRule: function 33 -/
def laws_eqRule.f (k : Nat) (a0_0 : Int) (l0_1 : List Int) (l0_2 : List Int) (a1_0 : Int) (l1_1 : List Int) (l1_2 : List Int) : Option (Bool) := if a0_0 = a1_0 then ((laws_eqInt64S.f k l0_1 l1_1).bind fun t715 => (if t715 = true then ((laws_eqInt64S.f k l0_2 l1_2).bind fun t716 => (if t716 = true then (some true) else (some false))) else (some false))) else (some false)
theorem laws_eqRule.mono : ∀ a0 a1 a2 a3 a4 a5 k, LeO (laws_eqRule.f k a0 a1 a2 a3 a4 a5) (laws_eqRule.f (k + 1) a0 a1 a2 a3 a4 a5) := by
 intro a0 a1 a2 a3 a4 a5 k
 unfold laws_eqRule.f
 repeat' first
   | (with_reducible exact laws_eqInt64S.mono _ _ _)
   | (with_reducible exact LeO.refl _)
   | (with_reducible exact LeO.none _)
   | (with_reducible refine LeO.ite ?_ ?_)
   | (with_reducible refine LeO.bind ?_ (fun _ => ?_))
   | exact laws_eqInt64S.mono _ _ _
   | exact LeO.none _
   | refine LeO.ite ?_ ?_
   | refine LeO.bind ?_ (fun _ => ?_)
set_option maxHeartbeats 8000000 in
set_option maxRecDepth 100000 in
theorem laws_eqRule.calls (k : Nat) (a0_0 : Int) (A0_1 : Option Addr) (c0_1 : Nat) (l0_1 : List Int) (A0_2 : Option Addr) (c0_2 : Nat) (l0_2 : List Int) (a1_0 : Int) (A1_1 : Option Addr) (c1_1 : Nat) (l1_1 : List Int) (A1_2 : Option Addr) (c1_2 : Nat) (l1_2 : List Int) (r : Bool) (w : World) (hr0_1 : Kd.C (Kd.int .i64) w A0_1 l0_1.length l0_1) (hc0_1 : l0_1.length ≤ c0_1) (hr0_2 : Kd.C (Kd.int .i64) w A0_2 l0_2.length l0_2) (hc0_2 : l0_2.length ≤ c0_2) (hr1_1 : Kd.C (Kd.int .i64) w A1_1 l1_1.length l1_1) (hc1_1 : l1_1.length ≤ c1_1) (hr1_2 : Kd.C (Kd.int .i64) w A1_2 l1_2.length l1_2) (hc1_2 : l1_2.length ≤ c1_2) (h : laws_eqRule.f k a0_0 l0_1 l0_2 a1_0 l1_1 l1_2 = some r) :
  Calls Try.prog 33 #[.agg #[.int .i64 a0_0, .slice A0_1 l0_1.length c0_1, .slice A0_2 l0_2.length c0_2], .agg #[.int .i64 a1_0, .slice A1_1 l1_1.length c1_1, .slice A1_2 l1_2.length c1_2]] w fun e w' => e = .returned (.bool r) ∧ Below w.heap.size w w' := by
 have hu46 := Try.underlying46
 have HR0_1 := zA hr0_1
 have HC0_1 := zA hc0_1
 clear hr0_1 hc0_1
 have HR0_2 := zA hr0_2
 have HC0_2 := zA hc0_2
 clear hr0_2 hc0_2
 have HR1_1 := zA hr1_1
 have HC1_1 := zA hc1_1
 clear hr1_1 hc1_1
 have HR1_2 := zA hr1_2
 have HC1_2 := zA hc1_2
 clear hr1_2 hc1_2
 have HB := zA (Below.refl w.heap.size w)
 have H : (if a0_0 = a1_0 then ((laws_eqInt64S.f k l0_1 l1_1).bind fun t715 => (if t715 = true then ((laws_eqInt64S.f k l0_2 l1_2).bind fun t716 => (if t716 = true then (some true) else (some false))) else (some false))) else (some false)) = some r := h
 clear h
 by_cases c3 : a0_0 = a1_0
 rotate_left
 ·rw [if_neg c3] at H
  have c3b0 : (a0_0 == a1_0) = false := beq_eq_false_iff_ne.mpr c3
  have c3b1 : (a0_0 != a1_0) = true := bne_iff_ne.mpr c3
  obtain rfl := Option.some.inj H
  go_enter Try.func33, Try.ntmps33
  go_wp2_with (first | ((with_reducible refine gate_dst (N := 2) rfl ?_); refine bx 2 #[.int .i64 a0_0, .slice A0_1 l0_1.length c0_1, .slice A0_2 l0_2.length c0_2] 46 ?_; intro gb713 hg w23 hbox hb; have BK713 := zA (hbox); have GW713 := gq HB hg; have GE713 := gq HB hg; replace HB := xH HB hb; have := geI GE713; clear hb hbox hg) | ((with_reducible refine gate_dst (N := 3) rfl ?_); refine bx 3 #[.int .i64 a1_0, .slice A1_1 l1_1.length c1_1, .slice A1_2 l1_2.length c1_2] 46 ?_; intro gb714 hg w24 hbox hb; have BK714 := zA (hbox); have GW714 := gq HB hg; have GE714 := gq HB hg; replace HB := xH HB hb; have NB713_714 := zA ((by rw [hg]; exact neL BK713 : gb713 ≠ gb714)); have NB714_713 := zA ((by rw [hg]; exact neG BK713 : gb714 ≠ gb713)); replace BK713 := xB BK713 hb; have := geI GE714; clear hb hbox hg; have hnb25 := NB713_714.out; have hnc25 := NB714_713.out; have hcz26_0 := bc BK713 0; have hcz26_1 := bc BK713 1; have hcz26_2 := bc BK713 2; have hfz26_0 := bf BK713 0; have hfz26_1 := bf BK713 1; have hfz26_2 := bf BK713 2; have hcz27_0 := bc BK714 0; have hcz27_1 := bc BK714 1; have hcz27_2 := bc BK714 2; have hfz27_0 := bf BK714 0; have hfz27_1 := bf BK714 1; have hfz27_2 := bf BK714 2))
  go_ret
  exact ⟨by first | rfl | (simp [errW_none, errW_some] <;> rfl) | (simp [*, errW_none, errW_some] <;> rfl), uH HB.out⟩

 rw [if_pos c3] at H
 have c3b0 : (a0_0 == a1_0) = true := beq_iff_eq.mpr c3
 have c3b1 : (a0_0 != a1_0) = false := bne_eq_false_iff_eq.mpr c3
 clear c3
 replace H := Option.bind_eq_some_iff.mp H
 obtain ⟨t715, A40, H⟩ := H
 replace H : (if t715 = true then ((laws_eqInt64S.f k l0_2 l1_2).bind fun t716 => (if t716 = true then (some true) else (some false))) else (some false)) = some r := H
 have A4 := zA A40
 clear A40
 by_cases c5 : t715 = true
 ·subst c5
  have H1 : ((laws_eqInt64S.f k l0_2 l1_2).bind fun t716 => (if t716 = true then (some true) else (some false))) = some r := by rw [if_pos rfl] at H; exact H
  clear H
  have H := H1
  clear H1
  replace H := Option.bind_eq_some_iff.mp H
  obtain ⟨t716, A60, H⟩ := H
  replace H : (if t716 = true then (some true) else (some false)) = some r := H
  have A6 := zA A60
  clear A60
  by_cases c7 : t716 = true
  ·subst c7
   have H1 : (some true) = some r := by rw [if_pos rfl] at H; exact H
   clear H
   have H := H1
   clear H1
   obtain rfl := Option.some.inj H
   go_enter Try.func33, Try.ntmps33
   go_wp2_with (first | ((with_reducible refine gate_dst (N := 2) rfl ?_); refine bx 2 #[.int .i64 a0_0, .slice A0_1 l0_1.length c0_1, .slice A0_2 l0_2.length c0_2] 46 ?_; intro gb713 hg w8 hbox hb; have BK713 := zA (hbox); have GW713 := gq HB hg; have GE713 := gq HB hg; replace HB := xH HB hb; have := geI GE713; clear hb hbox hg) | ((with_reducible refine gate_dst (N := 3) rfl ?_); refine bx 3 #[.int .i64 a1_0, .slice A1_1 l1_1.length c1_1, .slice A1_2 l1_2.length c1_2] 46 ?_; intro gb714 hg w9 hbox hb; have BK714 := zA (hbox); have GW714 := gq HB hg; have GE714 := gq HB hg; replace HB := xH HB hb; have NB713_714 := zA ((by rw [hg]; exact neL BK713 : gb713 ≠ gb714)); have NB714_713 := zA ((by rw [hg]; exact neG BK713 : gb714 ≠ gb713)); replace BK713 := xB BK713 hb; have := geI GE714; clear hb hbox hg; have hnb10 := NB713_714.out; have hnc10 := NB714_713.out; have hcz11_0 := bc BK713 0; have hcz11_1 := bc BK713 1; have hcz11_2 := bc BK713 2; have hfz11_0 := bf BK713 0; have hfz11_1 := bf BK713 1; have hfz11_2 := bf BK713 2; have hcz12_0 := bc BK714 0; have hcz12_1 := bc BK714 1; have hcz12_2 := bc BK714 2; have hfz12_0 := bf BK714 0; have hfz12_1 := bf BK714 1; have hfz12_2 := bf BK714 2) | ((with_reducible refine gate_callee (f := 14) rfl ?_); refine gL (some 14) Try.func14 #[.slice A0_1 l0_1.length c0_1, .slice A1_1 l1_1.length c1_1] ?_; (with_reducible refine (laws_eqInt64S.calls k _ _ l0_1 _ _ l1_1 true _ ?side1 ?side2 ?side3 ?side4 A4.out).mono ?_); (case side1 => exact uC ((Kd.C_below HR0_1.out HB.out))); (case side2 => exact HC0_1.out); (case side3 => exact uC ((Kd.C_below HR1_1.out HB.out))); (case side4 => exact HC1_1.out); rintro e w' ⟨rfl, ⟨nd, rfl⟩⟩; refine ⟨_, rfl, ?_⟩) | ((with_reducible refine gate_callee (f := 14) rfl ?_); refine gL (some 20) Try.func14 #[.slice A0_2 l0_2.length c0_2, .slice A1_2 l1_2.length c1_2] ?_; (with_reducible refine (laws_eqInt64S.calls k _ _ l0_2 _ _ l1_2 true _ ?side1 ?side2 ?side3 ?side4 A6.out).mono ?_); (case side1 => repeat (first | exact (Kd.C_below HR0_2.out (uH HB.out)) | (with_reducible refine Kd.C_alloc ?_ _) | (with_reducible refine Kd.C_drewN ?_ _) | (with_reducible refine Kd.C_drew ?_))); (case side2 => exact HC0_2.out); (case side3 => repeat (first | exact (Kd.C_below HR1_2.out (uH HB.out)) | (with_reducible refine Kd.C_alloc ?_ _) | (with_reducible refine Kd.C_drewN ?_ _) | (with_reducible refine Kd.C_drew ?_))); (case side4 => exact HC1_2.out); rintro e w' ⟨rfl, ⟨nd, rfl⟩⟩; refine ⟨_, rfl, ?_⟩))
   go_ret
   exact ⟨by first | rfl | (simp [errW_none, errW_some] <;> rfl) | (simp [*, errW_none, errW_some] <;> rfl), uH HB.out⟩
  ·replace c7 := Bool.eq_false_iff.mpr c7
   subst c7
   have H1 : (some false) = some r := by rw [if_neg (show ¬ (false = true) by decide)] at H; exact H
   clear H
   have H := H1
   clear H1
   obtain rfl := Option.some.inj H
   go_enter Try.func33, Try.ntmps33
   go_wp2_with (first | ((with_reducible refine gate_dst (N := 2) rfl ?_); refine bx 2 #[.int .i64 a0_0, .slice A0_1 l0_1.length c0_1, .slice A0_2 l0_2.length c0_2] 46 ?_; intro gb713 hg w13 hbox hb; have BK713 := zA (hbox); have GW713 := gq HB hg; have GE713 := gq HB hg; replace HB := xH HB hb; have := geI GE713; clear hb hbox hg) | ((with_reducible refine gate_dst (N := 3) rfl ?_); refine bx 3 #[.int .i64 a1_0, .slice A1_1 l1_1.length c1_1, .slice A1_2 l1_2.length c1_2] 46 ?_; intro gb714 hg w14 hbox hb; have BK714 := zA (hbox); have GW714 := gq HB hg; have GE714 := gq HB hg; replace HB := xH HB hb; have NB713_714 := zA ((by rw [hg]; exact neL BK713 : gb713 ≠ gb714)); have NB714_713 := zA ((by rw [hg]; exact neG BK713 : gb714 ≠ gb713)); replace BK713 := xB BK713 hb; have := geI GE714; clear hb hbox hg; have hnb15 := NB713_714.out; have hnc15 := NB714_713.out; have hcz16_0 := bc BK713 0; have hcz16_1 := bc BK713 1; have hcz16_2 := bc BK713 2; have hfz16_0 := bf BK713 0; have hfz16_1 := bf BK713 1; have hfz16_2 := bf BK713 2; have hcz17_0 := bc BK714 0; have hcz17_1 := bc BK714 1; have hcz17_2 := bc BK714 2; have hfz17_0 := bf BK714 0; have hfz17_1 := bf BK714 1; have hfz17_2 := bf BK714 2) | ((with_reducible refine gate_callee (f := 14) rfl ?_); refine gL (some 14) Try.func14 #[.slice A0_1 l0_1.length c0_1, .slice A1_1 l1_1.length c1_1] ?_; (with_reducible refine (laws_eqInt64S.calls k _ _ l0_1 _ _ l1_1 true _ ?side1 ?side2 ?side3 ?side4 A4.out).mono ?_); (case side1 => exact uC ((Kd.C_below HR0_1.out HB.out))); (case side2 => exact HC0_1.out); (case side3 => exact uC ((Kd.C_below HR1_1.out HB.out))); (case side4 => exact HC1_1.out); rintro e w' ⟨rfl, ⟨nd, rfl⟩⟩; refine ⟨_, rfl, ?_⟩) | ((with_reducible refine gate_callee (f := 14) rfl ?_); refine gL (some 20) Try.func14 #[.slice A0_2 l0_2.length c0_2, .slice A1_2 l1_2.length c1_2] ?_; (with_reducible refine (laws_eqInt64S.calls k _ _ l0_2 _ _ l1_2 false _ ?side1 ?side2 ?side3 ?side4 A6.out).mono ?_); (case side1 => repeat (first | exact (Kd.C_below HR0_2.out (uH HB.out)) | (with_reducible refine Kd.C_alloc ?_ _) | (with_reducible refine Kd.C_drewN ?_ _) | (with_reducible refine Kd.C_drew ?_))); (case side2 => exact HC0_2.out); (case side3 => repeat (first | exact (Kd.C_below HR1_2.out (uH HB.out)) | (with_reducible refine Kd.C_alloc ?_ _) | (with_reducible refine Kd.C_drewN ?_ _) | (with_reducible refine Kd.C_drew ?_))); (case side4 => exact HC1_2.out); rintro e w' ⟨rfl, ⟨nd, rfl⟩⟩; refine ⟨_, rfl, ?_⟩))
   go_ret
   exact ⟨by first | rfl | (simp [errW_none, errW_some] <;> rfl) | (simp [*, errW_none, errW_some] <;> rfl), uH HB.out⟩
 ·replace c5 := Bool.eq_false_iff.mpr c5
  subst c5
  have H1 : (some false) = some r := by rw [if_neg (show ¬ (false = true) by decide)] at H; exact H
  clear H
  have H := H1
  clear H1
  obtain rfl := Option.some.inj H
  go_enter Try.func33, Try.ntmps33
  go_wp2_with (first | ((with_reducible refine gate_dst (N := 2) rfl ?_); refine bx 2 #[.int .i64 a0_0, .slice A0_1 l0_1.length c0_1, .slice A0_2 l0_2.length c0_2] 46 ?_; intro gb713 hg w18 hbox hb; have BK713 := zA (hbox); have GW713 := gq HB hg; have GE713 := gq HB hg; replace HB := xH HB hb; have := geI GE713; clear hb hbox hg) | ((with_reducible refine gate_dst (N := 3) rfl ?_); refine bx 3 #[.int .i64 a1_0, .slice A1_1 l1_1.length c1_1, .slice A1_2 l1_2.length c1_2] 46 ?_; intro gb714 hg w19 hbox hb; have BK714 := zA (hbox); have GW714 := gq HB hg; have GE714 := gq HB hg; replace HB := xH HB hb; have NB713_714 := zA ((by rw [hg]; exact neL BK713 : gb713 ≠ gb714)); have NB714_713 := zA ((by rw [hg]; exact neG BK713 : gb714 ≠ gb713)); replace BK713 := xB BK713 hb; have := geI GE714; clear hb hbox hg; have hnb20 := NB713_714.out; have hnc20 := NB714_713.out; have hcz21_0 := bc BK713 0; have hcz21_1 := bc BK713 1; have hcz21_2 := bc BK713 2; have hfz21_0 := bf BK713 0; have hfz21_1 := bf BK713 1; have hfz21_2 := bf BK713 2; have hcz22_0 := bc BK714 0; have hcz22_1 := bc BK714 1; have hcz22_2 := bc BK714 2; have hfz22_0 := bf BK714 0; have hfz22_1 := bf BK714 1; have hfz22_2 := bf BK714 2) | ((with_reducible refine gate_callee (f := 14) rfl ?_); refine gL (some 14) Try.func14 #[.slice A0_1 l0_1.length c0_1, .slice A1_1 l1_1.length c1_1] ?_; (with_reducible refine (laws_eqInt64S.calls k _ _ l0_1 _ _ l1_1 false _ ?side1 ?side2 ?side3 ?side4 A4.out).mono ?_); (case side1 => exact uC ((Kd.C_below HR0_1.out HB.out))); (case side2 => exact HC0_1.out); (case side3 => exact uC ((Kd.C_below HR1_1.out HB.out))); (case side4 => exact HC1_1.out); rintro e w' ⟨rfl, ⟨nd, rfl⟩⟩; refine ⟨_, rfl, ?_⟩))
  go_ret
  exact ⟨by first | rfl | (simp [errW_none, errW_some] <;> rfl) | (simp [*, errW_none, errW_some] <;> rfl), uH HB.out⟩
/-! ### laws_heldRule: function 35 -/
def laws_heldRule.f (k : Nat) (a0_0 : Int) (l0_1 : List Int) (l0_2 : List Int) (a1 : Int) : Option (Int) := (laws_heldInt64S.f k l0_1 a1).bind fun t723 => (if t723 < 0 then (some (-1)) else ((laws_heldInt64S.f k l0_2 t723).bind fun t724 => (if t724 < 0 then (some (-1)) else (some t724))))
theorem laws_heldRule.mono : ∀ a0 a1 a2 a3 k, LeO (laws_heldRule.f k a0 a1 a2 a3) (laws_heldRule.f (k + 1) a0 a1 a2 a3) := by
 intro a0 a1 a2 a3 k
 unfold laws_heldRule.f
 repeat' first
   | (with_reducible exact laws_heldInt64S.mono _ _ _)
   | (with_reducible exact LeO.refl _)
   | (with_reducible exact LeO.none _)
   | (with_reducible refine LeO.ite ?_ ?_)
   | (with_reducible refine LeO.bind ?_ (fun _ => ?_))
   | exact laws_heldInt64S.mono _ _ _
   | exact LeO.none _
   | refine LeO.ite ?_ ?_
   | refine LeO.bind ?_ (fun _ => ?_)
set_option maxHeartbeats 8000000 in
set_option maxRecDepth 100000 in
theorem laws_heldRule.calls (k : Nat) (a0_0 : Int) (A0_1 : Option Addr) (c0_1 : Nat) (l0_1 : List Int) (A0_2 : Option Addr) (c0_2 : Nat) (l0_2 : List Int) (a1 : Int) (r : Int) (w : World) (hr0_1 : Kd.C (Kd.int .i64) w A0_1 l0_1.length l0_1) (hc0_1 : l0_1.length ≤ c0_1) (hr0_2 : Kd.C (Kd.int .i64) w A0_2 l0_2.length l0_2) (hc0_2 : l0_2.length ≤ c0_2) (h : laws_heldRule.f k a0_0 l0_1 l0_2 a1 = some r) :
  Calls Try.prog 35 #[.agg #[.int .i64 a0_0, .slice A0_1 l0_1.length c0_1, .slice A0_2 l0_2.length c0_2], .int .i64 a1] w fun e w' => e = .returned (.int .i64 r) ∧ Below w.heap.size w w' := by
 have hu46 := Try.underlying46
 have HR0_1 := zA hr0_1
 have HC0_1 := zA hc0_1
 clear hr0_1 hc0_1
 have HR0_2 := zA hr0_2
 have HC0_2 := zA hc0_2
 clear hr0_2 hc0_2
 have HB := zA (Below.refl w.heap.size w)
 have H : ((laws_heldInt64S.f k l0_1 a1).bind fun t723 => (if t723 < 0 then (some (-1)) else ((laws_heldInt64S.f k l0_2 t723).bind fun t724 => (if t724 < 0 then (some (-1)) else (some t724))))) = some r := h
 clear h
 replace H := Option.bind_eq_some_iff.mp H
 obtain ⟨t723, A30, H⟩ := H
 replace H : (if t723 < 0 then (some (-1)) else ((laws_heldInt64S.f k l0_2 t723).bind fun t724 => (if t724 < 0 then (some (-1)) else (some t724)))) = some r := H
 have A3 := zA A30
 clear A30
 by_cases c4 : t723 < 0
 rotate_left
 ·rw [if_neg c4] at H
  have c4b0 : decide (t723 < 0) = false := decide_eq_false c4
  clear c4
  replace H := Option.bind_eq_some_iff.mp H
  obtain ⟨t724, A70, H⟩ := H
  replace H : (if t724 < 0 then (some (-1)) else (some t724)) = some r := H
  have A7 := zA A70
  clear A70
  by_cases c8 : t724 < 0
  rotate_left
  ·rw [if_neg c8] at H
   have c8b0 : decide (t724 < 0) = false := decide_eq_false c8
   clear c8
   obtain rfl := Option.some.inj H
   go_enter Try.func35, Try.ntmps35
   go_wp2_with (first | ((with_reducible refine gate_dst (N := 2) rfl ?_); refine bx 2 #[.int .i64 a0_0, .slice A0_1 l0_1.length c0_1, .slice A0_2 l0_2.length c0_2] 46 ?_; intro gb722 hg w11 hbox hb; have BK722 := zA (hbox); have GW722 := gq HB hg; have GE722 := gq HB hg; replace HB := xH HB hb; have := geI GE722; clear hb hbox hg; have hcz12_0 := bc BK722 0; have hcz12_1 := bc BK722 1; have hcz12_2 := bc BK722 2; have hfz12_0 := bf BK722 0; have hfz12_1 := bf BK722 1; have hfz12_2 := bf BK722 2) | ((with_reducible refine gate_callee (f := 18) rfl ?_); refine gL (some 8) Try.func18 #[.slice A0_1 l0_1.length c0_1, .int .i64 a1] ?_; (with_reducible refine (laws_heldInt64S.calls k _ _ l0_1 a1 t723 _ ?side1 ?side2 A3.out).mono ?_); (case side1 => exact uC ((Kd.C_below HR0_1.out HB.out))); (case side2 => exact HC0_1.out); rintro e w' ⟨rfl, ⟨nd, rfl⟩⟩; refine ⟨_, rfl, ?_⟩) | ((with_reducible refine gate_callee (f := 18) rfl ?_); refine gL (some 14) Try.func18 #[.slice A0_2 l0_2.length c0_2, .int .i64 t723] ?_; (with_reducible refine (laws_heldInt64S.calls k _ _ l0_2 t723 t724 _ ?side1 ?side2 A7.out).mono ?_); (case side1 => repeat (first | exact (Kd.C_below HR0_2.out (uH HB.out)) | (with_reducible refine Kd.C_alloc ?_ _) | (with_reducible refine Kd.C_drewN ?_ _) | (with_reducible refine Kd.C_drew ?_))); (case side2 => exact HC0_2.out); rintro e w' ⟨rfl, ⟨nd, rfl⟩⟩; refine ⟨_, rfl, ?_⟩))
   go_ret
   exact ⟨by first | rfl | (simp [errW_none, errW_some] <;> rfl) | (simp [*, errW_none, errW_some] <;> rfl), uH HB.out⟩

  rw [if_pos c8] at H
  have c8b0 : decide (t724 < 0) = true := decide_eq_true c8
  clear c8
  obtain rfl := Option.some.inj H
  go_enter Try.func35, Try.ntmps35
  go_wp2_with (first | ((with_reducible refine gate_dst (N := 2) rfl ?_); refine bx 2 #[.int .i64 a0_0, .slice A0_1 l0_1.length c0_1, .slice A0_2 l0_2.length c0_2] 46 ?_; intro gb722 hg w9 hbox hb; have BK722 := zA (hbox); have GW722 := gq HB hg; have GE722 := gq HB hg; replace HB := xH HB hb; have := geI GE722; clear hb hbox hg; have hcz10_0 := bc BK722 0; have hcz10_1 := bc BK722 1; have hcz10_2 := bc BK722 2; have hfz10_0 := bf BK722 0; have hfz10_1 := bf BK722 1; have hfz10_2 := bf BK722 2) | ((with_reducible refine gate_callee (f := 18) rfl ?_); refine gL (some 8) Try.func18 #[.slice A0_1 l0_1.length c0_1, .int .i64 a1] ?_; (with_reducible refine (laws_heldInt64S.calls k _ _ l0_1 a1 t723 _ ?side1 ?side2 A3.out).mono ?_); (case side1 => exact uC ((Kd.C_below HR0_1.out HB.out))); (case side2 => exact HC0_1.out); rintro e w' ⟨rfl, ⟨nd, rfl⟩⟩; refine ⟨_, rfl, ?_⟩) | ((with_reducible refine gate_callee (f := 18) rfl ?_); refine gL (some 14) Try.func18 #[.slice A0_2 l0_2.length c0_2, .int .i64 t723] ?_; (with_reducible refine (laws_heldInt64S.calls k _ _ l0_2 t723 t724 _ ?side1 ?side2 A7.out).mono ?_); (case side1 => repeat (first | exact (Kd.C_below HR0_2.out (uH HB.out)) | (with_reducible refine Kd.C_alloc ?_ _) | (with_reducible refine Kd.C_drewN ?_ _) | (with_reducible refine Kd.C_drew ?_))); (case side2 => exact HC0_2.out); rintro e w' ⟨rfl, ⟨nd, rfl⟩⟩; refine ⟨_, rfl, ?_⟩))
  go_ret
  exact ⟨by first | rfl | (simp [errW_none, errW_some] <;> rfl) | (simp [*, errW_none, errW_some] <;> rfl), uH HB.out⟩
 rw [if_pos c4] at H
 have c4b0 : decide (t723 < 0) = true := decide_eq_true c4
 clear c4
 obtain rfl := Option.some.inj H
 go_enter Try.func35, Try.ntmps35
 go_wp2_with (first | ((with_reducible refine gate_dst (N := 2) rfl ?_); refine bx 2 #[.int .i64 a0_0, .slice A0_1 l0_1.length c0_1, .slice A0_2 l0_2.length c0_2] 46 ?_; intro gb722 hg w5 hbox hb; have BK722 := zA (hbox); have GW722 := gq HB hg; have GE722 := gq HB hg; replace HB := xH HB hb; have := geI GE722; clear hb hbox hg; have hcz6_0 := bc BK722 0; have hcz6_1 := bc BK722 1; have hcz6_2 := bc BK722 2; have hfz6_0 := bf BK722 0; have hfz6_1 := bf BK722 1; have hfz6_2 := bf BK722 2) | ((with_reducible refine gate_callee (f := 18) rfl ?_); refine gL (some 8) Try.func18 #[.slice A0_1 l0_1.length c0_1, .int .i64 a1] ?_; (with_reducible refine (laws_heldInt64S.calls k _ _ l0_1 a1 t723 _ ?side1 ?side2 A3.out).mono ?_); (case side1 => exact uC ((Kd.C_below HR0_1.out HB.out))); (case side2 => exact HC0_1.out); rintro e w' ⟨rfl, ⟨nd, rfl⟩⟩; refine ⟨_, rfl, ?_⟩))
 go_ret
 exact ⟨by first | rfl | (simp [errW_none, errW_some] <;> rfl) | (simp [*, errW_none, errW_some] <;> rfl), uH HB.out⟩
/-! ### laws_markRule: function 34 -/
def laws_markRule.f (k : Nat) (a0_0 : Int) (l0_1 : List Int) (l0_2 : List Int) (a1 : Int) : Option (Int × List Int × List Int) := (laws_markInt64S.f k l0_1 a1).bind fun bt718 => ((laws_markInt64S.f k l0_2 bt718.1).bind fun bt720 => (some (bt720.1, bt718.2, bt720.2)))
theorem laws_markRule.mono : ∀ a0 a1 a2 a3 k, LeO (laws_markRule.f k a0 a1 a2 a3) (laws_markRule.f (k + 1) a0 a1 a2 a3) := by
 intro a0 a1 a2 a3 k
 unfold laws_markRule.f
 repeat' first
   | (with_reducible exact laws_markInt64S.mono _ _ _)
   | (with_reducible exact LeO.refl _)
   | (with_reducible exact LeO.none _)
   | (with_reducible refine LeO.ite ?_ ?_)
   | (with_reducible refine LeO.bind ?_ (fun _ => ?_))
   | exact laws_markInt64S.mono _ _ _
   | exact LeO.none _
   | refine LeO.ite ?_ ?_
   | refine LeO.bind ?_ (fun _ => ?_)
set_option maxHeartbeats 8000000 in
set_option maxRecDepth 100000 in
theorem laws_markRule.calls (k : Nat) (a0_0 : Int) (P0_1_ : Nat → Prop) (u9000_ : Value) (l0_1 : List Int) (P0_2_ : Nat → Prop) (u9001_ : Value) (l0_2 : List Int) (a1 : Int) (r1 : Int) (r2 : List Int) (r3 : List Int) (w0 w : World) (hB : Below w0.heap.size w0 w) (ho0_1 : Kd.R (Kd.int .i64) 2 w w0.heap.size P0_1_ u9000_ l0_1) (hp0_1_0_2 : ∀ k_, P0_1_ k_ → ¬ P0_2_ k_) (ho0_2 : Kd.R (Kd.int .i64) 2 w w0.heap.size P0_2_ u9001_ l0_2) (hp0_2_0_1 : ∀ k_, P0_2_ k_ → ¬ P0_1_ k_) (h : laws_markRule.f k a0_0 l0_1 l0_2 a1 = some (r1, r2, r3)) :
  Calls Try.prog 34 #[.agg #[.int .i64 a0_0, u9000_, u9001_], .int .i64 a1] w fun e w' => e = .returned (.int .i64 r1) ∧ Kd.R (Kd.int .i64) 2 w' w0.heap.size (fun k_ => ((P0_1_ k_ ∨ P0_2_ k_) ∨ w.heap.size ≤ k_)) u9000_ r2 ∧ Kd.R (Kd.int .i64) 2 w' w0.heap.size (fun k_ => ((P0_1_ k_ ∨ P0_2_ k_) ∨ w.heap.size ≤ k_)) u9001_ r3 ∧ Below w0.heap.size w0 w' ∧ Kept w w' (fun k_ => P0_1_ k_ ∨ P0_2_ k_) := by
 have hu46 := Try.underlying46
 have HO0_1 := zA (show Kd.R (Kd.int .i64) 2 w w0.heap.size (fun k_ => ((P0_1_ k_ ∨ P0_2_ k_) ∨ w.heap.size ≤ k_) ∧ some k_ ≠ (u9001_ : Value).ownBlock) u9000_ l0_1 from Kd.R_mono ho0_1 (fun k_ hk => ⟨(.inl (.inl hk)), fun e_ => hp0_1_0_2 k_ hk (ho0_2.1 k_ e_.symm)⟩))
 have HO0_2 := zA (show Kd.R (Kd.int .i64) 2 w w0.heap.size (fun k_ => ((P0_1_ k_ ∨ P0_2_ k_) ∨ w.heap.size ≤ k_) ∧ some k_ ≠ (u9000_ : Value).ownBlock) u9001_ l0_2 from Kd.R_mono ho0_2 (fun k_ hk => ⟨(.inl (.inr hk)), fun e_ => hp0_2_0_1 k_ hk (ho0_1.1 k_ e_.symm)⟩))
 have HK := zA (Kept.refl w (fun k_ => P0_1_ k_ ∨ P0_2_ k_))
 have HW0 := zA hB.size
 have HB := zA hB
 clear hB
 have H : ((laws_markInt64S.f k l0_1 a1).bind fun bt718 => ((laws_markInt64S.f k l0_2 bt718.1).bind fun bt720 => (some (bt720.1, bt718.2, bt720.2)))) = some (r1, r2, r3) := h
 clear h
 replace H := Option.bind_eq_some_iff.mp H
 obtain ⟨⟨t718, t719⟩, A30, H⟩ := H
 replace H : ((laws_markInt64S.f k l0_2 t718).bind fun bt720 => (some (bt720.1, t719, bt720.2))) = some (r1, r2, r3) := H
 have A3 := zA A30
 clear A30
 replace H := Option.bind_eq_some_iff.mp H
 obtain ⟨⟨t720, t721⟩, A40, H⟩ := H
 replace H : (some (t720, t719, t721)) = some (r1, r2, r3) := H
 have A4 := zA A40
 clear A40
 simp only [Option.some.injEq, Prod.mk.injEq] at H
 obtain ⟨rfl, rfl, rfl⟩ := H
 obtain ⟨Ao5, co5, eo5⟩ := Kd.R_slice HO0_1.out
 subst eo5
 obtain ⟨Ao6, co6, eo6⟩ := Kd.R_slice HO0_2.out
 subst eo6
 go_enter Try.func34, Try.ntmps34
 go_wp2_with (first | ((with_reducible refine gate_dst (N := 2) rfl ?_); refine bx 2 #[.int .i64 a0_0, .slice Ao5 l0_1.length co5, .slice Ao6 l0_2.length co6] 46 ?_; intro gb717 hg w7 hbox hb; replace HO0_1 := xR HO0_1 hb; replace HO0_2 := xR HO0_2 hb; have BK717 := zA (hbox); have GW717 := zA ((by rw [hg]; exact (by first | exact HK.out.1 | exact (show Kept w _ (fun k_ => P0_1_ k_ ∨ P0_2_ k_) from by repeat (first | (with_reducible first | exact HK.out | apply Kept.alloc | apply Kept.drewN | apply Kept.drew) | exact HK.out)).1) : w.heap.size ≤ gb717)); replace HK := zA (Kept.below (S := (fun k_ => P0_1_ k_ ∨ P0_2_ k_)) (by repeat (first | (with_reducible first | exact HK.out | apply Kept.alloc | apply Kept.drewN | apply Kept.drew) | exact HK.out)) hb); have GE717 := zA ((by rw [hg]; exact (below_size (uH HB.out)) : w0.heap.size ≤ gb717)); replace HB := xH HB hb; have := geI GE717; clear hb hbox hg; have hcz8_0 := bc BK717 0; have hcz8_1 := bc BK717 1; have hcz8_2 := bc BK717 2; have hfz8_0 := bf BK717 0; have hfz8_1 := bf BK717 1; have hfz8_2 := bf BK717 2) | ((with_reducible refine gate_callee (f := 17) rfl ?_); refine gL (some 8) Try.func17 #[.slice Ao5 l0_1.length co5, .int .i64 a1] ?_; (with_reducible refine (laws_markInt64S.calls k (fun k_ => some k_ = (.slice Ao5 l0_1.length co5 : Value).ownBlock) (.slice Ao5 l0_1.length co5) l0_1 a1 t718 t719 w0 _ ?side1 ?side2 A3.out).mono ?_); (case side1 => repeat (first | (with_reducible first | exact HB.out | apply below_alloc | apply pw_below_drewN | apply below_drew1 | refine below_set ?_ GE717.out) | exact HB.out)); (case side2 => exact Kd.R_tight rfl HO0_1.out); rintro e w9 ⟨rfl, hy0, hb, hkp⟩; refine ⟨_, rfl, ?_⟩; replace HO0_2 := zA (Kd.R_mono (ok' := fun k_ => ((P0_1_ k_ ∨ P0_2_ k_) ∨ w.heap.size ≤ k_) ∧ ax k_ (.slice Ao5 l0_1.length co5)) (Kd.R_keptB (HO0_2.out) hkp (fun k_ hk_ hs_ => (hk_.2) hs_)) (fun k_ hk_ => ⟨hk_.1.1, hk_.1.2⟩)); replace BK717 := zA (blk_kept (uB BK717.out) hkp (fun hs_ => (fun e_ => (Kd.R_ne HO0_1.out BK717.out (by decide)) e_) hs_)); replace HK := zA (Kept.then_ (S := (fun k_ => P0_1_ k_ ∨ P0_2_ k_)) (by repeat (first | (with_reducible first | exact HK.out | apply Kept.alloc | apply Kept.drewN | apply Kept.drew | refine Kept.setCell ?_ (.inr GW717.out) _) | exact HK.out)) hkp (fun k_ hs_ => (fun e_ => (HO0_1.out.1 k_ e_.symm).1) hs_)); replace HO0_1 := zA (Kd.R_reok rfl hy0 (fun k_ e_ => HO0_1.out.1 k_ e_)); replace HB := zA (hb); (try clear hb); (try clear hkp); (try clear hy0); have hcz10_0 := bc BK717 0; have hcz10_1 := bc BK717 1; have hcz10_2 := bc BK717 2; have hfz10_0 := bf BK717 0; have hfz10_1 := bf BK717 1; have hfz10_2 := bf BK717 2) | ((with_reducible refine gate_callee (f := 17) rfl ?_); refine gL (some 12) Try.func17 #[.slice Ao6 l0_2.length co6, .int .i64 t718] ?_; (with_reducible refine (laws_markInt64S.calls k (fun k_ => some k_ = (.slice Ao6 l0_2.length co6 : Value).ownBlock) (.slice Ao6 l0_2.length co6) l0_2 t718 t720 t721 w0 _ ?side1 ?side2 A4.out).mono ?_); (case side1 => repeat (first | (with_reducible first | exact HB.out | apply below_alloc | apply pw_below_drewN | apply below_drew1 | refine below_set ?_ GE717.out) | exact HB.out)); (case side2 => exact Kd.R_tight rfl HO0_2.out); rintro e w11 ⟨rfl, hy0, hb, hkp⟩; refine ⟨_, rfl, ?_⟩; replace HO0_1 := zA (Kd.R_mono (ok' := fun k_ => ((P0_1_ k_ ∨ P0_2_ k_) ∨ w.heap.size ≤ k_) ∧ ax k_ (.slice Ao6 l0_2.length co6)) (Kd.R_keptB (HO0_1.out) hkp (fun k_ hk_ hs_ => (hk_.2) hs_)) (fun k_ hk_ => ⟨hk_.1.1, hk_.1.2⟩)); replace BK717 := zA (blk_kept (uB BK717.out) hkp (fun hs_ => (fun e_ => (Kd.R_ne HO0_2.out BK717.out (by decide)) e_) hs_)); replace HK := zA (Kept.then_ (S := (fun k_ => P0_1_ k_ ∨ P0_2_ k_)) (by repeat (first | (with_reducible first | exact HK.out | apply Kept.alloc | apply Kept.drewN | apply Kept.drew | refine Kept.setCell ?_ (.inr GW717.out) _) | exact HK.out)) hkp (fun k_ hs_ => (fun e_ => (HO0_2.out.1 k_ e_.symm).1) hs_)); replace HO0_2 := zA (Kd.R_reok rfl hy0 (fun k_ e_ => HO0_2.out.1 k_ e_)); replace HB := zA (hb); (try clear hb); (try clear hkp); (try clear hy0)))
 go_ret
 exact ⟨by first | rfl | (simp [errW_none, errW_some] <;> rfl) | (simp [*, errW_none, errW_some] <;> rfl), uR (Kd.R_mono HO0_1.out (fun _ hk => hk.1)), uR (Kd.R_mono HO0_2.out (fun _ hk => hk.1)), uH HB.out, by repeat (first | (with_reducible first | exact HK.out | apply Kept.alloc | apply Kept.drewN | apply Kept.drew | refine Kept.setCell ?_ (.inr GW717.out) _) | exact HK.out)⟩
end Go.Proofs.Ytijkfbnjcebfaaa.Pr
