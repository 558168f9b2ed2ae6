/- Texts of this session in one: what functions of the program compute, and plain facts of it, under the conditions that each theorem names. -/
import Derived.Test.YtnpepkpogohcmaaKionals1
import Derived.Test.YtnpepkpogohcmaaKionals2
import Derived.Test.YtnpepkpogohcmaaKionals3
import Derived.Test.YtnpepkpogohcmaaKionals4
import Derived.Test.YtnpepkpogohcmaaKionals6
namespace Go.Proofs.Ytnpepkpogohcmaa.Pr
open Go.RowKit Go.Proofs.YtnpepkpogohcmaaW.PrintWords Go.Proofs.YtnpepkpogohcmaaW.PrintLast Go.Proofs.YtnpepkpogohcmaaW.PrintMore
attribute [local go_sem] max2_int min2_int max_two min_two max_three min_three max_four min_four   -- for this text's walks alone
set_option linter.unusedVariables false
set_option linter.unusedSimpArgs false
/-! ### spec_l02Sum: function 114 -/
def spec_l02Sum.l0 : Nat → Int → Int → List Int → List Int → Int → Int → Option (Int)
 | 0, _, _, _, _, _, _ => none
 | k + 1, x0, x1, x2, x3, x9, x10 => if x10 < x1 then (if 0 ≤ x10 then (if x10 < (x2.length : Int) then (if x10 < (x3.length : Int) then (if x0 = 0 then (none) else (spec_l02Sum.l0 k x0 x1 x2 x3 (Int.tmod (wrap64 (x9 + (wrap64 ((rd x2 x10) * (rd x3 x10))))) x0) (wrap64 (x10 + 1)))) else (none)) else (none)) else (none)) else (some x9)
def spec_l02Sum.f (k : Nat) (a0 : Int) (a1 : Int) (l2 : List Int) (l3 : List Int) : Option (Int) := if a1 = 0 then (if a0 = 0 then (none) else (some ((1 : Int) % a0))) else (spec_l02Sum.l0 k a0 a1 l2 l3 0 0)
set_option maxHeartbeats 8000000 in
set_option maxRecDepth 100000 in
theorem spec_l02Sum.calls (k : Nat) (a0 : Int) (a1 : Int) (A2 : Option Addr) (c2 : Nat) (l2 : List Int) (A3 : Option Addr) (c3 : Nat) (l3 : List Int) (r : Int) (w : World) (hr2 : Kd.C (Kd.int .i64) w A2 l2.length l2) (hc2 : l2.length ≤ c2) (hr3 : Kd.C (Kd.int .i64) w A3 l3.length l3) (hc3 : l3.length ≤ c3) (h : spec_l02Sum.f k a0 a1 l2 l3 = some r) :
  Calls Try.prog 114 #[.int .i64 a0, .int .i64 a1, .slice A2 l2.length c2, .slice A3 l3.length c3] w fun e w' => e = .returned (.int .i64 r) ∧ Drawn0 w w' := by
 have HR2 := zA hr2
 have HC2 := zA hc2
 clear hr2 hc2
 have HR3 := zA hr3
 have HC3 := zA hc3
 clear hr3 hc3
 have H : (if a1 = 0 then (if a0 = 0 then (none) else (some ((1 : Int) % a0))) else (spec_l02Sum.l0 k a0 a1 l2 l3 0 0)) = some r := h
 clear h
 by_cases c5 : a1 = 0
 rotate_left
 ·rw [if_neg c5] at H
  have c5b0 : (a1 == 0) = false := beq_eq_false_iff_ne.mpr c5
  have c5b1 : (a1 != 0) = true := bne_iff_ne.mpr c5
  have H' := zA H
  clear H
  go_enter Try.func114, Try.ntmps114
  go_wp2
  repeat (go_quiet (fail); try go_wp2)
  go_loopg [9, 10] k (fun kq v9 v10 w' => ∃ (x9_1 : Int) (x10_1 : Int), v9 = .int .i64 x9_1 ∧ v10 = .int .i64 x10_1 ∧ Aside0 (spec_l02Sum.l0 kq a0 a1 l2 l3 x9_1 x10_1 = some r) ∧ Aside0 (kq ≤ k) ∧ Drawn0 w w')
  case atStart => exact ⟨(0), (0), (by first | rfl | (simp; done) | (simp [*]; done)), (by first | rfl | (simp; done) | (simp [*]; done)), H', ⟨Nat.le_refl _⟩, by repeat (first | exact Drawn0.refl _ | apply Drawn0.step)⟩
  case round =>
   clear H'
   (try clear c1);(try clear c2);(try clear p2);(try clear c3);(try clear c5);(try clear c5b0);(try clear c5b1);(try clear c6);(try clear c6b0);(try clear c6b1)
   obtain ⟨x9_1, x10_1, rfl, rfl, HA, HK1, ⟨m1, rfl⟩⟩ := hrel
   cases gk with
   | zero => exact absurd HA.out (by simp [spec_l02Sum.l0])
   | succ k1 =>
    have H := HA.out
    clear HA
    simp only [spec_l02Sum.l0] at H
    by_cases c7 : x10_1 < a1
    rotate_left
    ·rw [if_neg c7] at H
     have c7b0 : decide (x10_1 < a1) = false := decide_eq_false c7
     clear c7
     obtain rfl := Option.some.inj H
     go_wp2
     repeat (go_quiet (fail); try go_wp2)
     go_ret
     exact ⟨by first | rfl | (simp; done) | (simp [*]; done), by repeat (first | exact Drawn0.refl _ | apply Drawn0.step)⟩

    rw [if_pos c7] at H
    have c7b0 : decide (x10_1 < a1) = true := decide_eq_true c7
    clear c7
    by_cases c8 : 0 ≤ x10_1
    rotate_left
    ·rw [if_neg c8] at H
     exact absurd H (by simp)
    rw [if_pos c8] at H
    have c8b0 : decide (0 ≤ x10_1) = true := decide_eq_true c8
    clear c8
    by_cases c9 : x10_1 < (l2.length : Int)
    rotate_left
    ·rw [if_neg c9] at H
     exact absurd H (by simp)
    rw [if_pos c9] at H
    have c9b0 : decide (x10_1 < (l2.length : Int)) = true := decide_eq_true c9
    clear c9
    by_cases c10 : x10_1 < (l3.length : Int)
    rotate_left
    ·rw [if_neg c10] at H
     exact absurd H (by simp)
    rw [if_pos c10] at H
    have c10b0 : decide (x10_1 < (l3.length : Int)) = true := decide_eq_true c10
    clear c10
    by_cases c11 : a0 = 0
    rotate_left
    ·rw [if_neg c11] at H
     have c11b0 : (a0 == 0) = false := beq_eq_false_iff_ne.mpr c11
     have c11b1 : (a0 != 0) = true := bne_iff_ne.mpr c11
     have H' := zA H
     clear H
     have p195 : 0 ≤ (x10_1 : Int) := of_decide_eq_true (by first | (with_reducible assumption) | assumption)
     have q195 : x10_1 < (l2.length : Int) := of_decide_eq_true (by first | (with_reducible assumption) | assumption)
     obtain ⟨ad195, e195, hx195_0⟩ := Kd.at_int HR2.out x10_1 p195 q195
     cases e195
     replace p195 := eq_true p195
     replace q195 := eq_true q195
     have p196 : 0 ≤ (x10_1 : Int) := of_decide_eq_true (by first | (with_reducible assumption) | assumption)
     have q196 : x10_1 < (l3.length : Int) := of_decide_eq_true (by first | (with_reducible assumption) | assumption)
     obtain ⟨ad196, e196, hx196_0⟩ := Kd.at_int HR3.out x10_1 p196 q196
     cases e196
     replace p196 := eq_true p196
     replace q196 := eq_true q196
     go_wp2
     repeat (go_quiet (fail); try go_wp2)
     go_roundg k1
     case measure => have := HK1.out; omega
     case rel => exact ⟨(Int.tmod (wrap64 (x9_1 + (wrap64 ((rd l2 x10_1) * (rd l3 x10_1))))) a0), (wrap64 (x10_1 + 1)), (by first | rfl | (simp; done) | (simp [*]; done)), (by first | rfl | (simp; done) | (simp [*]; done)), H', ⟨by have := HK1.out; omega⟩, by repeat (first | exact Drawn0.refl _ | apply Drawn0.step)⟩
    rw [if_pos c11] at H
    exact absurd H (by simp)
 rw [if_pos c5] at H
 have c5b0 : (a1 == 0) = true := beq_iff_eq.mpr c5
 have c5b1 : (a1 != 0) = false := bne_eq_false_iff_eq.mpr c5
 clear c5
 by_cases c6 : a0 = 0
 rotate_left
 ·rw [if_neg c6] at H
  have c6b0 : (a0 == 0) = false := beq_eq_false_iff_ne.mpr c6
  have c6b1 : (a0 != 0) = true := bne_iff_ne.mpr c6
  obtain rfl := Option.some.inj H
  go_enter Try.func114, Try.ntmps114
  go_wp2
  repeat (go_quiet (fail); try go_wp2)
  go_ret
  exact ⟨by first | rfl | (simp; done) | (simp [*]; done), by repeat (first | exact Drawn0.refl _ | apply Drawn0.step)⟩
 rw [if_pos c6] at H
 exact absurd H (by simp)
/-! ### spec_l02Named: function 109 -/
def spec_l02Named.l0 : Nat → ByteArray → Int → Int → List Int → List Int → Int → Option (List Int × Bool)
 | 0, _, _, _, _, _, _ => none
 | k + 1, x0, x1, x2, x8, x9, x10 => if x10 < x2 then (if x0.toList = ([117, 110, 105, 102, 111, 114, 109] : List UInt8) then (if x1 = 0 then (none) else (if (Int.tmod (wrap64 (x10 + 1)) x1) = 0 then (some (([] : List Int), false)) else ((spec_l01Inverse.f k x1 (Int.tmod (wrap64 (x10 + 1)) x1)).bind fun t221 => (if x8.length < 17592186044416 then (spec_l02Named.l0 k x0 x1 x2 (x8 ++ [t221]) x9 (wrap64 (x10 + 1))) else (none))))) else (if x0.toList = ([108, 97, 103, 117, 101, 114, 114, 101] : List UInt8) then (if x10 > 0 then (if 0 ≤ (wrap64 (x10 - 1)) then (if (wrap64 (x10 - 1)) < (x8.length : Int) then (if x1 = 0 then (none) else (if x8.length < 17592186044416 then (spec_l02Named.l0 k x0 x1 x2 (x8 ++ [Int.tmod (wrap64 ((rd x8 (wrap64 (x10 - 1))) * x10)) x1]) x9 (wrap64 (x10 + 1))) else (none))) else (none)) else (none)) else (if x8.length < 17592186044416 then (spec_l02Named.l0 k x0 x1 x2 (x8 ++ [1]) x9 (wrap64 (x10 + 1))) else (none))) else (if x0.toList = ([104, 101, 114, 109, 105, 116, 101] : List UInt8) then (if x10 = 0 then (if x8.length < 17592186044416 then (spec_l02Named.l0 k x0 x1 x2 (x8 ++ [1]) x9 (wrap64 (x10 + 1))) else (none)) else (if (Int.tmod x10 2) = 0 then (if 0 ≤ (wrap64 (x10 - 2)) then (if (wrap64 (x10 - 2)) < (x8.length : Int) then (if x1 = 0 then (none) else (if x8.length < 17592186044416 then (spec_l02Named.l0 k x0 x1 x2 (x8 ++ [Int.tmod (wrap64 ((rd x8 (wrap64 (x10 - 2))) * (wrap64 (x10 - 1)))) x1]) x9 (wrap64 (x10 + 1))) else (none))) else (none)) else (none)) else (if x8.length < 17592186044416 then (spec_l02Named.l0 k x0 x1 x2 (x8 ++ [0]) x9 (wrap64 (x10 + 1))) else (none)))) else (if x0.toList = ([99, 97, 116, 97, 108, 97, 110] : List UInt8) then ((spec_l02Back.f k x8).bind fun t242 => ((spec_l02Sum.f k x1 x10 x8 t242).bind fun t245 => (if x8.length < 17592186044416 then (spec_l02Named.l0 k x0 x1 x2 (x8 ++ [t245]) x9 (wrap64 (x10 + 1))) else (none)))) else ((spec_l02Sum.f k x1 x10 x8 x9).bind fun t249 => (if x10 > 0 then ((spec_l02Pascal.f k x1 x9).bind fun t250 => (if x8.length < 17592186044416 then (spec_l02Named.l0 k x0 x1 x2 (x8 ++ [t249]) t250 (wrap64 (x10 + 1))) else (none))) else (if x8.length < 17592186044416 then (spec_l02Named.l0 k x0 x1 x2 (x8 ++ [t249]) x9 (wrap64 (x10 + 1))) else (none)))))))) else (some (x8, true))
def spec_l02Named.f (k : Nat) (a0 : ByteArray) (a1 : Int) (a2 : Int) : Option (List Int × Bool) := spec_l02Named.l0 k a0 a1 a2 (([] : List Int)) (([1] : List Int)) 0
set_option maxHeartbeats 8000000 in
set_option maxRecDepth 100000 in
theorem spec_l02Named.calls (k : Nat) (a0 : ByteArray) (a1 : Int) (a2 : Int) (r1 : List Int) (r2 : Bool) (w : World) (h : spec_l02Named.f k a0 a1 a2 = some (r1, r2)) :
  Calls Try.prog 109 #[.string a0, .int .i64 a1, .int .i64 a2] w fun e w' => ∃ v0_ : Value, e = .returned (.tuple #[v0_, .bool r2]) ∧ Kd.R (Kd.int .i64) 2 w' w.heap.size (fun _ => True) v0_ r1 ∧ Below w.heap.size w w' := by
 have HB := zA (Below.refl w.heap.size w)
 have H : (spec_l02Named.l0 k a0 a1 a2 (([] : List Int)) (([1] : List Int)) 0) = some (r1, r2) := h
 clear h
 obtain ⟨y215, hy215⟩ : ∃ y_ : List Int, y_ = (([] : List Int)) := ⟨_, rfl⟩
 replace H : (spec_l02Named.l0 k a0 a1 a2 y215 (([1] : List Int)) 0) = some (r1, r2) := by first | (rw [hy215]; exact H) | exact H
 have Ny215 := zA hy215
 clear hy215
 obtain ⟨y218, hy218⟩ : ∃ y_ : List Int, y_ = (([1] : List Int)) := ⟨_, rfl⟩
 replace H : (spec_l02Named.l0 k a0 a1 a2 y215 y218 0) = some (r1, r2) := by first | (rw [hy218]; exact H) | exact H
 have Ny218 := zA hy218
 clear hy218
 have H' := zA H
 clear H
 go_enter Try.func109, Try.ntmps109
 go_wp2_with (first | ((with_reducible refine gate_dst (N := 12) rfl ?_); refine Kd.R_lit (Kd.int .i64) _ 2 ?hg (N := 12) ?hd (xs := ([] : List Int)) (inner := []) (ok := fun _ => True) (okp := fun _ => True) ?hr ?hp (fun _ hk => hk) trivial (Below.refl _ _) (Nat.le_refl _) (by simp) ?_; (case hd => rfl); (case hg => rfl); (case hr => first | (go_simp; done) | (go_simp; rfl)); (case hp => exact (Reps.none _ _)); intro v216 w4 ho5 hb hg_ hnew_; clear hg_ hnew_; (first | rw [← Ny215.out] at ho5 | (simp only [Int.reduceToNat] at ho5; rw [← Ny215.out] at ho5)); have HO217 := zA (Kd.R_lower ho5 (below_size (uH HB.out))); replace HB := xH HB hb; clear hb ho5) | ((with_reducible refine gate_dst (N := 13) rfl ?_); refine Kd.R_lit (Kd.int .i64) _ 2 ?hg (N := 13) ?hd (xs := ([1] : List Int)) (inner := [.int .i64 1]) (ok := fun _ => True) (okp := fun _ => True) ?hr ?hp (fun _ hk => hk) trivial (Below.refl _ _) (Nat.le_refl _) (by simp) ?_; (case hd => rfl); (case hg => rfl); (case hr => first | (go_simp; done) | (go_simp; rfl)); (case hp => exact (Reps.one (show Kd.M (Kd.int .i64) _ _ _ 1 [.int .i64 1] from rfl) (Reps.none _ _))); intro v219 w6 ho7 hb hg_ hnew_; clear hg_ hnew_; (first | rw [← Ny218.out] at ho7 | (simp only [Int.reduceToNat] at ho7; rw [← Ny218.out] at ho7)); have HO220 := zA (Kd.R_lower (Kd.R_new' ho7 (Kd.R_lt (uR HO217.out))) (below_size (uH HB.out))); replace HO217 := zA (Kd.R_elder' (uR HO217.out) (Kd.R_base ho7) hb); replace HB := xH HB hb; clear hb ho7))
 go_loopg [8, 9, 10] k (fun kq v8 v9 v10 w' => ∃ (x8_1 : List Int) (x9_1 : List Int) (x10_1 : Int), v10 = .int .i64 x10_1 ∧ Aside0 (spec_l02Named.l0 kq a0 a1 a2 x8_1 x9_1 x10_1 = some (r1, r2)) ∧ Aside0 (kq ≤ k) ∧ Aside0 (Kd.R (Kd.int .i64) 2 w' w.heap.size (fun k_ => some k_ ≠ (v9 : Value).ownBlock) v8 x8_1) ∧ Aside0 (Kd.R (Kd.int .i64) 2 w' w.heap.size (fun k_ => some k_ ≠ (v8 : Value).ownBlock) v9 x9_1) ∧ Aside0 (Below w.heap.size w w'))
 case atStart => exact ⟨(y215), (y218), (0), (by first | rfl | (simp; done) | (simp [*]; done)), H', ⟨Nat.le_refl _⟩, ⟨uR (Kd.R_mono HO217.out (fun _ hk => hk.2))⟩, ⟨uR (Kd.R_mono HO220.out (fun _ hk => hk.2))⟩, ⟨uH HB.out⟩⟩
 case round =>
  clear H'
  (try clear c1);(try clear p2)
  obtain ⟨x8_1, x9_1, x10_1, rfl, HA, HK1, HO_8, HO_9, HB⟩ := hrel
  cases gk with
  | zero => exact absurd HA.out (by simp [spec_l02Named.l0])
  | succ k1 =>
   have H := HA.out
   clear HA
   simp only [spec_l02Named.l0] at H
   by_cases c8 : x10_1 < a2
   rotate_left
   ·rw [if_neg c8] at H
    have c8b0 : decide (x10_1 < a2) = false := decide_eq_false c8
    clear c8
    simp only [Option.some.injEq, Prod.mk.injEq] at H
    obtain ⟨rfl, rfl⟩ := H
    go_wp2
    go_ret2
    exact ⟨_, by first | rfl | (simp [errW_none, errW_some] <;> rfl) | (simp [*, errW_none, errW_some] <;> rfl), uR (Kd.R_mono HO_8.out (fun _ hk => trivial)), uH HB.out⟩

   rw [if_pos c8] at H
   have c8b0 : decide (x10_1 < a2) = true := decide_eq_true c8
   clear c8
   by_cases c9 : a0.toList = ([117, 110, 105, 102, 111, 114, 109] : List UInt8)
   rotate_left
   ·rw [if_neg c9] at H
    have c9b0 : (a0.toList == ([117, 110, 105, 102, 111, 114, 109] : List UInt8)) = false := beq_eq_false_iff_ne.mpr c9
    have c9b1 : (a0.toList != ([117, 110, 105, 102, 111, 114, 109] : List UInt8)) = true := bne_iff_ne.mpr c9
    by_cases c15 : a0.toList = ([108, 97, 103, 117, 101, 114, 114, 101] : List UInt8)
    rotate_left
    ·rw [if_neg c15] at H
     have c15b0 : (a0.toList == ([108, 97, 103, 117, 101, 114, 114, 101] : List UInt8)) = false := beq_eq_false_iff_ne.mpr c15
     have c15b1 : (a0.toList != ([108, 97, 103, 117, 101, 114, 114, 101] : List UInt8)) = true := bne_iff_ne.mpr c15
     by_cases c26 : a0.toList = ([104, 101, 114, 109, 105, 116, 101] : List UInt8)
     rotate_left
     ·rw [if_neg c26] at H
      have c26b0 : (a0.toList == ([104, 101, 114, 109, 105, 116, 101] : List UInt8)) = false := beq_eq_false_iff_ne.mpr c26
      have c26b1 : (a0.toList != ([104, 101, 114, 109, 105, 116, 101] : List UInt8)) = true := bne_iff_ne.mpr c26
      by_cases c40 : a0.toList = ([99, 97, 116, 97, 108, 97, 110] : List UInt8)
      rotate_left
      ·rw [if_neg c40] at H
       have c40b0 : (a0.toList == ([99, 97, 116, 97, 108, 97, 110] : List UInt8)) = false := beq_eq_false_iff_ne.mpr c40
       have c40b1 : (a0.toList != ([99, 97, 116, 97, 108, 97, 110] : List UInt8)) = true := bne_iff_ne.mpr c40
       replace H := Option.bind_eq_some_iff.mp H
       obtain ⟨t249, A480, H⟩ := H
       replace H : (if x10_1 > 0 then ((spec_l02Pascal.f k1 a1 x9_1).bind fun t250 => (if x8_1.length < 17592186044416 then (spec_l02Named.l0 k1 a0 a1 a2 (x8_1 ++ [t249]) t250 (wrap64 (x10_1 + 1))) else (none))) else (if x8_1.length < 17592186044416 then (spec_l02Named.l0 k1 a0 a1 a2 (x8_1 ++ [t249]) x9_1 (wrap64 (x10_1 + 1))) else (none))) = some (r1, r2) := H
       have A48 := zA A480
       clear A480
       by_cases c49 : x10_1 > 0
       rotate_left
       ·rw [if_neg c49] at H
        have c49b0 : decide (0 < x10_1) = false := decide_eq_false c49
        clear c49
        by_cases c56 : x8_1.length < 17592186044416
        rotate_left
        ·rw [if_neg c56] at H
         exact absurd H (by simp)
        rw [if_pos c56] at H
        have LMc56 := zA c56
        clear c56
        obtain ⟨y256, hy256⟩ : ∃ y_ : List Int, y_ = (x8_1 ++ [t249]) := ⟨_, rfl⟩
        replace H : (spec_l02Named.l0 k1 a0 a1 a2 y256 x9_1 (wrap64 (x10_1 + 1))) = some (r1, r2) := by first | (rw [hy256]; exact H) | exact H
        have Ny256 := zA hy256
        clear hy256
        have H' := zA H
        clear H
        obtain ⟨Ao57, co57, eo57⟩ := Kd.R_slice HO_8.out
        subst eo57
        obtain ⟨Ao58, co58, eo58⟩ := Kd.R_slice HO_9.out
        subst eo58
        go_wp2_with (first | ((with_reducible refine gate_callee (f := 114) rfl ?_); refine gL (some 24) Try.func114 #[.int .i64 a1, .int .i64 x10_1, .slice Ao57 x8_1.length co57, .slice Ao58 x9_1.length co58] ?_; (with_reducible refine (spec_l02Sum.calls k1 a1 x10_1 _ _ x8_1 _ _ x9_1 t249 _ ?side1 ?side2 ?side3 ?side4 A48.out).mono ?_); (case side1 => exact uC ((Kd.R_reads' HO_8.out).2.2)); (case side2 => exact (Kd.R_reads' HO_8.out).2.1); (case side3 => exact uC ((Kd.R_reads' HO_9.out).2.2)); (case side4 => exact (Kd.R_reads' HO_9.out).2.1); rintro e w' ⟨rfl, ⟨nd, rfl⟩⟩; refine ⟨_, rfl, ?_⟩) | ((with_reducible refine gate_builtin (b := .append) (xs := #[.tmp 83, .tmp 85]) rfl ?_); at_builtin; refine Kd.R_append (Kd.int .i64) (w0 := w) w.heap.size rfl (.tmp 83) (.tmp 85) 24 2 (.int .i64 0) 8 rfl Try.underlying24 info2 rfl (by decide) (by omega) (.slice Ao57 x8_1.length co57) x8_1 t249 [.int .i64 t249] (fun k_ => ax k_ (.slice Ao58 x9_1.length co58)) (fun _ => False) rfl rfl ?aP (fun _ hk => hk.elim) ?aF ?aO ?aB ?aS ?aL ?_; (case aP => exact rfl); (case aB => exact (uH HB.out)); (case aF => exact (fun k_ hk => Kd.fresh' (Kd.R_lt (uR HO_9.out)) k_ hk)); (case aO => exact (uR HO_8.out)); (case aS => exact (below_size (uH HB.out))); (case aL => have := LMc56.out; omega); intro v257 w59 ho hb hg hat; rw [← Ny256.out] at ho; replace HO_9 := zA (Kd.R_after (ok := (fun _ => True)) (uR (Kd.R_mono HO_9.out (fun _ hk => ⟨trivial, hk⟩))) hg hat); replace HB := zA (hb); have HO258 := zA (ho); clear HO_8 ho hb hg hat))
        go_roundg k1
        case measure => have := HK1.out; omega
        case rel => exact ⟨(y256), (x9_1), (wrap64 (x10_1 + 1)), (by first | rfl | (simp; done) | (simp [*]; done)), H', ⟨by have := HK1.out; omega⟩, ⟨uR HO258.out⟩, ⟨uR (Kd.R_mono HO_9.out (fun _ hk => hk.2))⟩, ⟨uH HB.out⟩⟩
       rw [if_pos c49] at H
       have c49b0 : decide (0 < x10_1) = true := decide_eq_true c49
       clear c49
       replace H := Option.bind_eq_some_iff.mp H
       obtain ⟨t250, A500, H⟩ := H
       replace H : (if x8_1.length < 17592186044416 then (spec_l02Named.l0 k1 a0 a1 a2 (x8_1 ++ [t249]) t250 (wrap64 (x10_1 + 1))) else (none)) = some (r1, r2) := H
       have A50 := zA A500
       clear A500
       by_cases c51 : x8_1.length < 17592186044416
       rotate_left
       ·rw [if_neg c51] at H
        exact absurd H (by simp)
       rw [if_pos c51] at H
       have LMc51 := zA c51
       clear c51
       obtain ⟨y253, hy253⟩ : ∃ y_ : List Int, y_ = (x8_1 ++ [t249]) := ⟨_, rfl⟩
       replace H : (spec_l02Named.l0 k1 a0 a1 a2 y253 t250 (wrap64 (x10_1 + 1))) = some (r1, r2) := by first | (rw [hy253]; exact H) | exact H
       have Ny253 := zA hy253
       clear hy253
       have H' := zA H
       clear H
       obtain ⟨Ao52, co52, eo52⟩ := Kd.R_slice HO_8.out
       subst eo52
       obtain ⟨Ao53, co53, eo53⟩ := Kd.R_slice HO_9.out
       subst eo53
       go_wp2_with (first | ((with_reducible refine gate_callee (f := 114) rfl ?_); refine gL (some 24) Try.func114 #[.int .i64 a1, .int .i64 x10_1, .slice Ao52 x8_1.length co52, .slice Ao53 x9_1.length co53] ?_; (with_reducible refine (spec_l02Sum.calls k1 a1 x10_1 _ _ x8_1 _ _ x9_1 t249 _ ?side1 ?side2 ?side3 ?side4 A48.out).mono ?_); (case side1 => exact uC ((Kd.R_reads' HO_8.out).2.2)); (case side2 => exact (Kd.R_reads' HO_8.out).2.1); (case side3 => exact uC ((Kd.R_reads' HO_9.out).2.2)); (case side4 => exact (Kd.R_reads' HO_9.out).2.1); rintro e w' ⟨rfl, ⟨nd, rfl⟩⟩; refine ⟨_, rfl, ?_⟩) | ((with_reducible refine gate_callee (f := 116) rfl ?_); refine gL (some 29) Try.func116 #[.int .i64 a1, .slice Ao53 x9_1.length co53] ?_; (with_reducible refine (spec_l02Pascal.calls k1 a1 _ _ x9_1 t250 _ ?side1 ?side2 A50.out).mono ?_); (case side1 => exact uC ((Kd.R_reads' HO_9.out).2.2)); (case side2 => exact (Kd.R_reads' HO_9.out).2.1); rintro e w54 ⟨v251, rfl, ho0, hb⟩; refine ⟨_, rfl, ?_⟩; have HO252 := zA (Kd.R_lower (Kd.R_new' (Kd.R_new' ho0 (Kd.R_lt (uR HO_8.out))) (Kd.R_lt (uR HO_9.out))) (below_size (uH HB.out))); replace HO_8 := zA (Kd.R_elder' (uR HO_8.out) (Kd.R_base ho0) hb); replace HO_9 := zA (Kd.R_elder' (uR HO_9.out) (Kd.R_base ho0) hb); replace HB := xH HB hb; (try clear hb); (try clear hb2); (try clear hk); (try clear hi); (try clear ho0)) | ((with_reducible refine gate_builtin (b := .append) (xs := #[.tmp 83, .tmp 85]) rfl ?_); at_builtin; refine Kd.R_append (Kd.int .i64) (w0 := w) w.heap.size rfl (.tmp 83) (.tmp 85) 24 2 (.int .i64 0) 8 rfl Try.underlying24 info2 rfl (by decide) (by omega) (.slice Ao52 x8_1.length co52) x8_1 t249 [.int .i64 t249] (fun k_ => ax k_ (.slice Ao53 x9_1.length co53) ∧ some k_ ≠ (v251 : Value).ownBlock) (fun _ => False) rfl rfl ?aP (fun _ hk => hk.elim) ?aF ?aO ?aB ?aS ?aL ?_; (case aP => exact rfl); (case aB => exact (uH HB.out)); (case aF => exact (fun k_ hk => ⟨Kd.fresh' (Kd.R_lt (uR HO_9.out)) k_ hk, Kd.fresh' (Kd.R_lt (uR HO252.out)) k_ hk⟩)); (case aO => exact (uR HO_8.out)); (case aS => exact (below_size (uH HB.out))); (case aL => have := LMc51.out; omega); intro v254 w55 ho hb hg hat; rw [← Ny253.out] at ho; replace HO_9 := zA (Kd.R_after (ok := (fun k_ => some k_ ≠ (v251 : Value).ownBlock)) (uR (Kd.R_mono HO_9.out (fun _ hk => ⟨hk.2, hk.1⟩))) hg hat); replace HO252 := zA (Kd.R_after (ok := (fun k_ => ax k_ (.slice Ao53 x9_1.length co53))) (uR (Kd.R_mono HO252.out (fun _ hk => ⟨hk.2, hk.1.2⟩))) hg hat); replace HB := zA (hb); have HO255 := zA (ho); clear HO_8 ho hb hg hat))
       go_roundg k1
       case measure => have := HK1.out; omega
       case rel => exact ⟨(y253), (t250), (wrap64 (x10_1 + 1)), (by first | rfl | (simp; done) | (simp [*]; done)), H', ⟨by have := HK1.out; omega⟩, ⟨uR (Kd.R_mono HO255.out (fun _ hk => hk.2))⟩, ⟨uR (Kd.R_mono HO252.out (fun _ hk => hk.2))⟩, ⟨uH HB.out⟩⟩
      rw [if_pos c40] at H
      have c40b0 : (a0.toList == ([99, 97, 116, 97, 108, 97, 110] : List UInt8)) = true := beq_iff_eq.mpr c40
      have c40b1 : (a0.toList != ([99, 97, 116, 97, 108, 97, 110] : List UInt8)) = false := bne_eq_false_iff_eq.mpr c40
      clear c40
      replace H := Option.bind_eq_some_iff.mp H
      obtain ⟨t242, A410, H⟩ := H
      replace H : ((spec_l02Sum.f k1 a1 x10_1 x8_1 t242).bind fun t245 => (if x8_1.length < 17592186044416 then (spec_l02Named.l0 k1 a0 a1 a2 (x8_1 ++ [t245]) x9_1 (wrap64 (x10_1 + 1))) else (none))) = some (r1, r2) := H
      have A41 := zA A410
      clear A410
      replace H := Option.bind_eq_some_iff.mp H
      obtain ⟨t245, A420, H⟩ := H
      replace H : (if x8_1.length < 17592186044416 then (spec_l02Named.l0 k1 a0 a1 a2 (x8_1 ++ [t245]) x9_1 (wrap64 (x10_1 + 1))) else (none)) = some (r1, r2) := H
      have A42 := zA A420
      clear A420
      by_cases c43 : x8_1.length < 17592186044416
      rotate_left
      ·rw [if_neg c43] at H
       exact absurd H (by simp)
      rw [if_pos c43] at H
      have LMc43 := zA c43
      clear c43
      obtain ⟨y246, hy246⟩ : ∃ y_ : List Int, y_ = (x8_1 ++ [t245]) := ⟨_, rfl⟩
      replace H : (spec_l02Named.l0 k1 a0 a1 a2 y246 x9_1 (wrap64 (x10_1 + 1))) = some (r1, r2) := by first | (rw [hy246]; exact H) | exact H
      have Ny246 := zA hy246
      clear hy246
      have H' := zA H
      clear H
      obtain ⟨Ao44, co44, eo44⟩ := Kd.R_slice HO_8.out
      subst eo44
      go_wp2_with (first | ((with_reducible refine gate_callee (f := 115) rfl ?_); refine gL (some 81) Try.func115 #[.slice Ao44 x8_1.length co44] ?_; (with_reducible refine (spec_l02Back.calls k1 _ _ x8_1 t242 _ ?side1 ?side2 A41.out).mono ?_); (case side1 => exact uC ((Kd.R_reads' HO_8.out).2.2)); (case side2 => exact (Kd.R_reads' HO_8.out).2.1); rintro e w45 ⟨v243, rfl, ho0, hb⟩; refine ⟨_, rfl, ?_⟩; have HO244 := zA (Kd.R_lower (Kd.R_new' (Kd.R_new' ho0 (Kd.R_lt (uR HO_8.out))) (Kd.R_lt (uR HO_9.out))) (below_size (uH HB.out))); replace HO_8 := zA (Kd.R_elder' (uR HO_8.out) (Kd.R_base ho0) hb); replace HO_9 := zA (Kd.R_elder' (uR HO_9.out) (Kd.R_base ho0) hb); replace HB := xH HB hb; (try clear hb); (try clear hb2); (try clear hk); (try clear hi); (try clear ho0); obtain ⟨Ao46, co46, eo46⟩ := Kd.R_slice HO244.out; subst eo46) | ((with_reducible refine gate_callee (f := 114) rfl ?_); refine gL (some 82) Try.func114 #[.int .i64 a1, .int .i64 x10_1, .slice Ao44 x8_1.length co44, .slice Ao46 t242.length co46] ?_; (with_reducible refine (spec_l02Sum.calls k1 a1 x10_1 _ _ x8_1 _ _ t242 t245 _ ?side1 ?side2 ?side3 ?side4 A42.out).mono ?_); (case side1 => exact uC ((Kd.R_reads' HO_8.out).2.2)); (case side2 => exact (Kd.R_reads' HO_8.out).2.1); (case side3 => exact uC ((Kd.R_reads' HO244.out).2.2)); (case side4 => exact (Kd.R_reads' HO244.out).2.1); rintro e w' ⟨rfl, ⟨nd, rfl⟩⟩; refine ⟨_, rfl, ?_⟩) | ((with_reducible refine gate_builtin (b := .append) (xs := #[.tmp 83, .tmp 85]) rfl ?_); at_builtin; refine Kd.R_append (Kd.int .i64) (w0 := w) w.heap.size rfl (.tmp 83) (.tmp 85) 24 2 (.int .i64 0) 8 rfl Try.underlying24 info2 rfl (by decide) (by omega) (.slice Ao44 x8_1.length co44) x8_1 t245 [.int .i64 t245] (fun k_ => some k_ ≠ (u9 : Value).ownBlock ∧ ax k_ (.slice Ao46 t242.length co46)) (fun _ => False) rfl rfl ?aP (fun _ hk => hk.elim) ?aF ?aO ?aB ?aS ?aL ?_; (case aP => exact rfl); (case aB => exact (uH HB.out)); (case aF => exact (fun k_ hk => ⟨Kd.fresh' (Kd.R_lt (uR HO_9.out)) k_ hk, Kd.fresh' (Kd.R_lt (uR HO244.out)) k_ hk⟩)); (case aO => exact (uR HO_8.out)); (case aS => exact (below_size (uH HB.out))); (case aL => have := LMc43.out; omega); intro v247 w47 ho hb hg hat; rw [← Ny246.out] at ho; replace HO_9 := zA (Kd.R_after (ok := (fun k_ => ax k_ (.slice Ao46 t242.length co46))) (uR (Kd.R_mono HO_9.out (fun _ hk => ⟨hk.2, hk.1⟩))) hg hat); replace HO244 := zA (Kd.R_after (ok := (fun k_ => some k_ ≠ (u9 : Value).ownBlock)) (uR (Kd.R_mono HO244.out (fun _ hk => ⟨hk.2, hk.1.2⟩))) hg hat); replace HB := zA (hb); have HO248 := zA (ho); clear HO_8 ho hb hg hat))
      go_roundg k1
      case measure => have := HK1.out; omega
      case rel => exact ⟨(y246), (x9_1), (wrap64 (x10_1 + 1)), (by first | rfl | (simp; done) | (simp [*]; done)), H', ⟨by have := HK1.out; omega⟩, ⟨uR (Kd.R_mono HO248.out (fun _ hk => hk.1))⟩, ⟨uR (Kd.R_mono HO_9.out (fun _ hk => hk.2))⟩, ⟨uH HB.out⟩⟩
     rw [if_pos c26] at H
     have c26b0 : (a0.toList == ([104, 101, 114, 109, 105, 116, 101] : List UInt8)) = true := beq_iff_eq.mpr c26
     have c26b1 : (a0.toList != ([104, 101, 114, 109, 105, 116, 101] : List UInt8)) = false := bne_eq_false_iff_eq.mpr c26
     clear c26
     by_cases c27 : x10_1 = 0
     rotate_left
     ·rw [if_neg c27] at H
      have c27b0 : (x10_1 == 0) = false := beq_eq_false_iff_ne.mpr c27
      have c27b1 : (x10_1 != 0) = true := bne_iff_ne.mpr c27
      by_cases c30 : (Int.tmod x10_1 2) = 0
      rotate_left
      ·rw [if_neg c30] at H
       have c30b0 : ((Int.tmod x10_1 2) == 0) = false := beq_eq_false_iff_ne.mpr c30
       have c30b1 : ((Int.tmod x10_1 2) != 0) = true := bne_iff_ne.mpr c30
       by_cases c38 : x8_1.length < 17592186044416
       rotate_left
       ·rw [if_neg c38] at H
        exact absurd H (by simp)
       rw [if_pos c38] at H
       have LMc38 := zA c38
       clear c38
       obtain ⟨y239, hy239⟩ : ∃ y_ : List Int, y_ = (x8_1 ++ [0]) := ⟨_, rfl⟩
       replace H : (spec_l02Named.l0 k1 a0 a1 a2 y239 x9_1 (wrap64 (x10_1 + 1))) = some (r1, r2) := by first | (rw [hy239]; exact H) | exact H
       have Ny239 := zA hy239
       clear hy239
       have H' := zA H
       clear H
       go_wp2_with (first | ((with_reducible refine gate_builtin (b := .append) (xs := #[.tmp 83, .tmp 85]) rfl ?_); at_builtin; refine Kd.R_append (Kd.int .i64) (w0 := w) w.heap.size rfl (.tmp 83) (.tmp 85) 24 2 (.int .i64 0) 8 rfl Try.underlying24 info2 rfl (by decide) (by omega) u8 x8_1 0 [.int .i64 0] (fun k_ => some k_ ≠ (u9 : Value).ownBlock) (fun _ => False) rfl rfl ?aP (fun _ hk => hk.elim) ?aF ?aO ?aB ?aS ?aL ?_; (case aP => exact rfl); (case aB => exact (uH HB.out)); (case aF => exact (fun k_ hk => Kd.fresh' (Kd.R_lt (uR HO_9.out)) k_ hk)); (case aO => exact (uR HO_8.out)); (case aS => exact (below_size (uH HB.out))); (case aL => have := LMc38.out; omega); intro v240 w39 ho hb hg hat; rw [← Ny239.out] at ho; replace HO_9 := zA (Kd.R_after (ok := (fun _ => True)) (uR (Kd.R_mono HO_9.out (fun _ hk => ⟨trivial, hk⟩))) hg hat); replace HB := zA (hb); have HO241 := zA (ho); clear HO_8 ho hb hg hat))
       go_roundg k1
       case measure => have := HK1.out; omega
       case rel => exact ⟨(y239), (x9_1), (wrap64 (x10_1 + 1)), (by first | rfl | (simp; done) | (simp [*]; done)), H', ⟨by have := HK1.out; omega⟩, ⟨uR HO241.out⟩, ⟨uR (Kd.R_mono HO_9.out (fun _ hk => hk.2))⟩, ⟨uH HB.out⟩⟩
      rw [if_pos c30] at H
      have c30b0 : ((Int.tmod x10_1 2) == 0) = true := beq_iff_eq.mpr c30
      have c30b1 : ((Int.tmod x10_1 2) != 0) = false := bne_eq_false_iff_eq.mpr c30
      clear c30
      obtain ⟨ji31, hji31⟩ : ∃ j_ : Int, (wrap64 (x10_1 - 2)) = j_ := ⟨_, rfl⟩
      replace H : (if 0 ≤ (ji31) then (if (ji31) < (x8_1.length : Int) then (if a1 = 0 then (none) else (if x8_1.length < 17592186044416 then (spec_l02Named.l0 k1 a0 a1 a2 (x8_1 ++ [Int.tmod (wrap64 ((rd x8_1 (ji31)) * (wrap64 (x10_1 - 1)))) a1]) x9_1 (wrap64 (x10_1 + 1))) else (none))) else (none)) else (none)) = some (r1, r2) := by first | (rw [hji31] at H; exact H) | (simp only [hji31] at H ⊢; exact H)
      have hji31w : (IntKind.i64.wrap (x10_1 - 2)) = ji31 := (i64_w _).trans hji31
      by_cases c32 : 0 ≤ (ji31)
      rotate_left
      ·rw [if_neg c32] at H
       exact absurd H (by simp)
      rw [if_pos c32] at H
      have c32b0 : decide (0 ≤ (ji31)) = true := decide_eq_true c32
      clear c32
      by_cases c33 : (ji31) < (x8_1.length : Int)
      rotate_left
      ·rw [if_neg c33] at H
       exact absurd H (by simp)
      rw [if_pos c33] at H
      have c33b0 : decide ((ji31) < (x8_1.length : Int)) = true := decide_eq_true c33
      clear c33
      by_cases c34 : a1 = 0
      rotate_left
      ·rw [if_neg c34] at H
       have c34b0 : (a1 == 0) = false := beq_eq_false_iff_ne.mpr c34
       have c34b1 : (a1 != 0) = true := bne_iff_ne.mpr c34
       by_cases c35 : x8_1.length < 17592186044416
       rotate_left
       ·rw [if_neg c35] at H
        exact absurd H (by simp)
       rw [if_pos c35] at H
       have LMc35 := zA c35
       clear c35
       obtain ⟨y236, hy236⟩ : ∃ y_ : List Int, y_ = (x8_1 ++ [Int.tmod (wrap64 ((rd x8_1 (ji31)) * (wrap64 (x10_1 - 1)))) a1]) := ⟨_, rfl⟩
       replace H : (spec_l02Named.l0 k1 a0 a1 a2 y236 x9_1 (wrap64 (x10_1 + 1))) = some (r1, r2) := by first | (rw [hy236]; exact H) | exact H
       have Ny236 := zA hy236
       clear hy236
       have H' := zA H
       clear H
       obtain ⟨Ao36, co36, eo36⟩ := Kd.R_slice HO_8.out
       subst eo36
       have p235 : 0 ≤ ((ji31) : Int) := of_decide_eq_true (by first | (with_reducible assumption) | assumption)
       have q235 : (ji31) < (x8_1.length : Int) := of_decide_eq_true (by first | (with_reducible assumption) | assumption)
       obtain ⟨ad235, e235, hx235_0⟩ := Kd.at_int (Kd.R_reads' HO_8.out).2.2 (ji31) p235 q235
       cases e235
       replace p235 := eq_true p235
       replace q235 := eq_true q235
       go_wp2_with (first | ((with_reducible refine gate_builtin (b := .append) (xs := #[.tmp 83, .tmp 85]) rfl ?_); at_builtin; refine Kd.R_append (Kd.int .i64) (w0 := w) w.heap.size rfl (.tmp 83) (.tmp 85) 24 2 (.int .i64 0) 8 rfl Try.underlying24 info2 rfl (by decide) (by omega) (.slice (some ad235) x8_1.length co36) x8_1 (Int.tmod (wrap64 ((rd x8_1 (ji31)) * (wrap64 (x10_1 - 1)))) a1) [.int .i64 (Int.tmod (wrap64 ((rd x8_1 (ji31)) * (wrap64 (x10_1 - 1)))) a1)] (fun k_ => some k_ ≠ (u9 : Value).ownBlock) (fun _ => False) rfl rfl ?aP (fun _ hk => hk.elim) ?aF ?aO ?aB ?aS ?aL ?_; (case aP => exact rfl); (case aB => exact (uH HB.out)); (case aF => exact (fun k_ hk => Kd.fresh' (Kd.R_lt (uR HO_9.out)) k_ hk)); (case aO => exact (uR HO_8.out)); (case aS => exact (below_size (uH HB.out))); (case aL => have := LMc35.out; omega); intro v237 w37 ho hb hg hat; rw [← Ny236.out] at ho; replace HO_9 := zA (Kd.R_after (ok := (fun _ => True)) (uR (Kd.R_mono HO_9.out (fun _ hk => ⟨trivial, hk⟩))) hg hat); replace HB := zA (hb); have HO238 := zA (ho); clear HO_8 ho hb hg hat))
       go_roundg k1
       case measure => have := HK1.out; omega
       case rel => exact ⟨(y236), (x9_1), (wrap64 (x10_1 + 1)), (by first | rfl | (simp; done) | (simp [*]; done)), H', ⟨by have := HK1.out; omega⟩, ⟨uR HO238.out⟩, ⟨uR (Kd.R_mono HO_9.out (fun _ hk => hk.2))⟩, ⟨uH HB.out⟩⟩
      rw [if_pos c34] at H
      exact absurd H (by simp)
     rw [if_pos c27] at H
     have c27b0 : (x10_1 == 0) = true := beq_iff_eq.mpr c27
     have c27b1 : (x10_1 != 0) = false := bne_eq_false_iff_eq.mpr c27
     clear c27
     by_cases c28 : x8_1.length < 17592186044416
     rotate_left
     ·rw [if_neg c28] at H
      exact absurd H (by simp)
     rw [if_pos c28] at H
     have LMc28 := zA c28
     clear c28
     obtain ⟨y232, hy232⟩ : ∃ y_ : List Int, y_ = (x8_1 ++ [1]) := ⟨_, rfl⟩
     replace H : (spec_l02Named.l0 k1 a0 a1 a2 y232 x9_1 (wrap64 (x10_1 + 1))) = some (r1, r2) := by first | (rw [hy232]; exact H) | exact H
     have Ny232 := zA hy232
     clear hy232
     have H' := zA H
     clear H
     go_wp2_with (first | ((with_reducible refine gate_builtin (b := .append) (xs := #[.tmp 83, .tmp 85]) rfl ?_); at_builtin; refine Kd.R_append (Kd.int .i64) (w0 := w) w.heap.size rfl (.tmp 83) (.tmp 85) 24 2 (.int .i64 0) 8 rfl Try.underlying24 info2 rfl (by decide) (by omega) u8 x8_1 1 [.int .i64 1] (fun k_ => some k_ ≠ (u9 : Value).ownBlock) (fun _ => False) rfl rfl ?aP (fun _ hk => hk.elim) ?aF ?aO ?aB ?aS ?aL ?_; (case aP => exact rfl); (case aB => exact (uH HB.out)); (case aF => exact (fun k_ hk => Kd.fresh' (Kd.R_lt (uR HO_9.out)) k_ hk)); (case aO => exact (uR HO_8.out)); (case aS => exact (below_size (uH HB.out))); (case aL => have := LMc28.out; omega); intro v233 w29 ho hb hg hat; rw [← Ny232.out] at ho; replace HO_9 := zA (Kd.R_after (ok := (fun _ => True)) (uR (Kd.R_mono HO_9.out (fun _ hk => ⟨trivial, hk⟩))) hg hat); replace HB := zA (hb); have HO234 := zA (ho); clear HO_8 ho hb hg hat))
     go_roundg k1
     case measure => have := HK1.out; omega
     case rel => exact ⟨(y232), (x9_1), (wrap64 (x10_1 + 1)), (by first | rfl | (simp; done) | (simp [*]; done)), H', ⟨by have := HK1.out; omega⟩, ⟨uR HO234.out⟩, ⟨uR (Kd.R_mono HO_9.out (fun _ hk => hk.2))⟩, ⟨uH HB.out⟩⟩
    rw [if_pos c15] at H
    have c15b0 : (a0.toList == ([108, 97, 103, 117, 101, 114, 114, 101] : List UInt8)) = true := beq_iff_eq.mpr c15
    have c15b1 : (a0.toList != ([108, 97, 103, 117, 101, 114, 114, 101] : List UInt8)) = false := bne_eq_false_iff_eq.mpr c15
    clear c15
    by_cases c16 : x10_1 > 0
    rotate_left
    ·rw [if_neg c16] at H
     have c16b0 : decide (0 < x10_1) = false := decide_eq_false c16
     clear c16
     by_cases c24 : x8_1.length < 17592186044416
     rotate_left
     ·rw [if_neg c24] at H
      exact absurd H (by simp)
     rw [if_pos c24] at H
     have LMc24 := zA c24
     clear c24
     obtain ⟨y229, hy229⟩ : ∃ y_ : List Int, y_ = (x8_1 ++ [1]) := ⟨_, rfl⟩
     replace H : (spec_l02Named.l0 k1 a0 a1 a2 y229 x9_1 (wrap64 (x10_1 + 1))) = some (r1, r2) := by first | (rw [hy229]; exact H) | exact H
     have Ny229 := zA hy229
     clear hy229
     have H' := zA H
     clear H
     go_wp2_with (first | ((with_reducible refine gate_builtin (b := .append) (xs := #[.tmp 83, .tmp 85]) rfl ?_); at_builtin; refine Kd.R_append (Kd.int .i64) (w0 := w) w.heap.size rfl (.tmp 83) (.tmp 85) 24 2 (.int .i64 0) 8 rfl Try.underlying24 info2 rfl (by decide) (by omega) u8 x8_1 1 [.int .i64 1] (fun k_ => some k_ ≠ (u9 : Value).ownBlock) (fun _ => False) rfl rfl ?aP (fun _ hk => hk.elim) ?aF ?aO ?aB ?aS ?aL ?_; (case aP => exact rfl); (case aB => exact (uH HB.out)); (case aF => exact (fun k_ hk => Kd.fresh' (Kd.R_lt (uR HO_9.out)) k_ hk)); (case aO => exact (uR HO_8.out)); (case aS => exact (below_size (uH HB.out))); (case aL => have := LMc24.out; omega); intro v230 w25 ho hb hg hat; rw [← Ny229.out] at ho; replace HO_9 := zA (Kd.R_after (ok := (fun _ => True)) (uR (Kd.R_mono HO_9.out (fun _ hk => ⟨trivial, hk⟩))) hg hat); replace HB := zA (hb); have HO231 := zA (ho); clear HO_8 ho hb hg hat))
     go_roundg k1
     case measure => have := HK1.out; omega
     case rel => exact ⟨(y229), (x9_1), (wrap64 (x10_1 + 1)), (by first | rfl | (simp; done) | (simp [*]; done)), H', ⟨by have := HK1.out; omega⟩, ⟨uR HO231.out⟩, ⟨uR (Kd.R_mono HO_9.out (fun _ hk => hk.2))⟩, ⟨uH HB.out⟩⟩
    rw [if_pos c16] at H
    have c16b0 : decide (0 < x10_1) = true := decide_eq_true c16
    clear c16
    obtain ⟨ji17, hji17⟩ : ∃ j_ : Int, (wrap64 (x10_1 - 1)) = j_ := ⟨_, rfl⟩
    replace H : (if 0 ≤ (ji17) then (if (ji17) < (x8_1.length : Int) then (if a1 = 0 then (none) else (if x8_1.length < 17592186044416 then (spec_l02Named.l0 k1 a0 a1 a2 (x8_1 ++ [Int.tmod (wrap64 ((rd x8_1 (ji17)) * x10_1)) a1]) x9_1 (wrap64 (x10_1 + 1))) else (none))) else (none)) else (none)) = some (r1, r2) := by first | (rw [hji17] at H; exact H) | (simp only [hji17] at H ⊢; exact H)
    have hji17w : (IntKind.i64.wrap (x10_1 - 1)) = ji17 := (i64_w _).trans hji17
    by_cases c18 : 0 ≤ (ji17)
    rotate_left
    ·rw [if_neg c18] at H
     exact absurd H (by simp)
    rw [if_pos c18] at H
    have c18b0 : decide (0 ≤ (ji17)) = true := decide_eq_true c18
    clear c18
    by_cases c19 : (ji17) < (x8_1.length : Int)
    rotate_left
    ·rw [if_neg c19] at H
     exact absurd H (by simp)
    rw [if_pos c19] at H
    have c19b0 : decide ((ji17) < (x8_1.length : Int)) = true := decide_eq_true c19
    clear c19
    by_cases c20 : a1 = 0
    rotate_left
    ·rw [if_neg c20] at H
     have c20b0 : (a1 == 0) = false := beq_eq_false_iff_ne.mpr c20
     have c20b1 : (a1 != 0) = true := bne_iff_ne.mpr c20
     by_cases c21 : x8_1.length < 17592186044416
     rotate_left
     ·rw [if_neg c21] at H
      exact absurd H (by simp)
     rw [if_pos c21] at H
     have LMc21 := zA c21
     clear c21
     obtain ⟨y226, hy226⟩ : ∃ y_ : List Int, y_ = (x8_1 ++ [Int.tmod (wrap64 ((rd x8_1 (ji17)) * x10_1)) a1]) := ⟨_, rfl⟩
     replace H : (spec_l02Named.l0 k1 a0 a1 a2 y226 x9_1 (wrap64 (x10_1 + 1))) = some (r1, r2) := by first | (rw [hy226]; exact H) | exact H
     have Ny226 := zA hy226
     clear hy226
     have H' := zA H
     clear H
     obtain ⟨Ao22, co22, eo22⟩ := Kd.R_slice HO_8.out
     subst eo22
     have p225 : 0 ≤ ((ji17) : Int) := of_decide_eq_true (by first | (with_reducible assumption) | assumption)
     have q225 : (ji17) < (x8_1.length : Int) := of_decide_eq_true (by first | (with_reducible assumption) | assumption)
     obtain ⟨ad225, e225, hx225_0⟩ := Kd.at_int (Kd.R_reads' HO_8.out).2.2 (ji17) p225 q225
     cases e225
     replace p225 := eq_true p225
     replace q225 := eq_true q225
     go_wp2_with (first | ((with_reducible refine gate_builtin (b := .append) (xs := #[.tmp 83, .tmp 85]) rfl ?_); at_builtin; refine Kd.R_append (Kd.int .i64) (w0 := w) w.heap.size rfl (.tmp 83) (.tmp 85) 24 2 (.int .i64 0) 8 rfl Try.underlying24 info2 rfl (by decide) (by omega) (.slice (some ad225) x8_1.length co22) x8_1 (Int.tmod (wrap64 ((rd x8_1 (ji17)) * x10_1)) a1) [.int .i64 (Int.tmod (wrap64 ((rd x8_1 (ji17)) * x10_1)) a1)] (fun k_ => some k_ ≠ (u9 : Value).ownBlock) (fun _ => False) rfl rfl ?aP (fun _ hk => hk.elim) ?aF ?aO ?aB ?aS ?aL ?_; (case aP => exact rfl); (case aB => exact (uH HB.out)); (case aF => exact (fun k_ hk => Kd.fresh' (Kd.R_lt (uR HO_9.out)) k_ hk)); (case aO => exact (uR HO_8.out)); (case aS => exact (below_size (uH HB.out))); (case aL => have := LMc21.out; omega); intro v227 w23 ho hb hg hat; rw [← Ny226.out] at ho; replace HO_9 := zA (Kd.R_after (ok := (fun _ => True)) (uR (Kd.R_mono HO_9.out (fun _ hk => ⟨trivial, hk⟩))) hg hat); replace HB := zA (hb); have HO228 := zA (ho); clear HO_8 ho hb hg hat))
     go_roundg k1
     case measure => have := HK1.out; omega
     case rel => exact ⟨(y226), (x9_1), (wrap64 (x10_1 + 1)), (by first | rfl | (simp; done) | (simp [*]; done)), H', ⟨by have := HK1.out; omega⟩, ⟨uR HO228.out⟩, ⟨uR (Kd.R_mono HO_9.out (fun _ hk => hk.2))⟩, ⟨uH HB.out⟩⟩
    rw [if_pos c20] at H
    exact absurd H (by simp)
   rw [if_pos c9] at H
   have c9b0 : (a0.toList == ([117, 110, 105, 102, 111, 114, 109] : List UInt8)) = true := beq_iff_eq.mpr c9
   have c9b1 : (a0.toList != ([117, 110, 105, 102, 111, 114, 109] : List UInt8)) = false := bne_eq_false_iff_eq.mpr c9
   clear c9
   by_cases c10 : a1 = 0
   rotate_left
   ·rw [if_neg c10] at H
    have c10b0 : (a1 == 0) = false := beq_eq_false_iff_ne.mpr c10
    have c10b1 : (a1 != 0) = true := bne_iff_ne.mpr c10
    by_cases c11 : (Int.tmod (wrap64 (x10_1 + 1)) a1) = 0
    rotate_left
    ·rw [if_neg c11] at H
     have c11b0 : ((Int.tmod (wrap64 (x10_1 + 1)) a1) == 0) = false := beq_eq_false_iff_ne.mpr c11
     have c11b1 : ((Int.tmod (wrap64 (x10_1 + 1)) a1) != 0) = true := bne_iff_ne.mpr c11
     replace H := Option.bind_eq_some_iff.mp H
     obtain ⟨t221, A120, H⟩ := H
     replace H : (if x8_1.length < 17592186044416 then (spec_l02Named.l0 k1 a0 a1 a2 (x8_1 ++ [t221]) x9_1 (wrap64 (x10_1 + 1))) else (none)) = some (r1, r2) := H
     have A12 := zA A120
     clear A120
     by_cases c13 : x8_1.length < 17592186044416
     rotate_left
     ·rw [if_neg c13] at H
      exact absurd H (by simp)
     rw [if_pos c13] at H
     have LMc13 := zA c13
     clear c13
     obtain ⟨y222, hy222⟩ : ∃ y_ : List Int, y_ = (x8_1 ++ [t221]) := ⟨_, rfl⟩
     replace H : (spec_l02Named.l0 k1 a0 a1 a2 y222 x9_1 (wrap64 (x10_1 + 1))) = some (r1, r2) := by first | (rw [hy222]; exact H) | exact H
     have Ny222 := zA hy222
     clear hy222
     have H' := zA H
     clear H
     go_wp2_with (first | ((with_reducible refine gate_callee (f := 91) rfl ?_); refine gL (some 42) Try.func91 #[.int .i64 a1, .int .i64 (Int.tmod (wrap64 (x10_1 + 1)) a1)] ?_; (with_reducible refine (spec_l01Inverse.calls k1 a1 (Int.tmod (wrap64 (x10_1 + 1)) a1) t221 _ A12.out).mono ?_); rintro e w' ⟨rfl, ⟨nd, rfl⟩⟩; refine ⟨_, rfl, ?_⟩) | ((with_reducible refine gate_builtin (b := .append) (xs := #[.tmp 83, .tmp 85]) rfl ?_); at_builtin; refine Kd.R_append (Kd.int .i64) (w0 := w) w.heap.size rfl (.tmp 83) (.tmp 85) 24 2 (.int .i64 0) 8 rfl Try.underlying24 info2 rfl (by decide) (by omega) u8 x8_1 t221 [.int .i64 t221] (fun k_ => some k_ ≠ (u9 : Value).ownBlock) (fun _ => False) rfl rfl ?aP (fun _ hk => hk.elim) ?aF ?aO ?aB ?aS ?aL ?_; (case aP => exact rfl); (case aB => exact (uH HB.out)); (case aF => exact (fun k_ hk => Kd.fresh' (Kd.R_lt (uR HO_9.out)) k_ hk)); (case aO => exact (uR HO_8.out)); (case aS => exact (below_size (uH HB.out))); (case aL => have := LMc13.out; omega); intro v223 w14 ho hb hg hat; rw [← Ny222.out] at ho; replace HO_9 := zA (Kd.R_after (ok := (fun _ => True)) (uR (Kd.R_mono HO_9.out (fun _ hk => ⟨trivial, hk⟩))) hg hat); replace HB := zA (hb); have HO224 := zA (ho); clear HO_8 ho hb hg hat))
     go_roundg k1
     case measure => have := HK1.out; omega
     case rel => exact ⟨(y222), (x9_1), (wrap64 (x10_1 + 1)), (by first | rfl | (simp; done) | (simp [*]; done)), H', ⟨by have := HK1.out; omega⟩, ⟨uR HO224.out⟩, ⟨uR (Kd.R_mono HO_9.out (fun _ hk => hk.2))⟩, ⟨uH HB.out⟩⟩
    rw [if_pos c11] at H
    have c11b0 : ((Int.tmod (wrap64 (x10_1 + 1)) a1) == 0) = true := beq_iff_eq.mpr c11
    have c11b1 : ((Int.tmod (wrap64 (x10_1 + 1)) a1) != 0) = false := bne_eq_false_iff_eq.mpr c11
    clear c11
    simp only [Option.some.injEq, Prod.mk.injEq] at H
    obtain ⟨rfl, rfl⟩ := H
    go_wp2
    go_ret2
    exact ⟨_, by first | rfl | (simp [errW_none, errW_some] <;> rfl) | (simp [*, errW_none, errW_some] <;> rfl), by first | exact Kd.R_nil _ _ _ _ _ | exact Kd.N_nil _ _ _ _ _ | exact Kd.V_nil _ _ _ _ _ | exact Kd.Q_nil _ _ _ _ _ | exact Kd.S_nil _ _ _ _ _, uH HB.out⟩
   rw [if_pos c10] at H
   exact absurd H (by simp)
/-! ### spec_l02Weights: function 108 -/
def spec_l02Weights.l0 : Nat → Int → Int → List Int → Int → List Int → Int → Int → Option (List Int × Int × Int)
 | 0, _, _, _, _, _, _, _ => none
 | k + 1, x1, x2, x7, x8, x1000, x1001, x1002 => if x8 < x2 then ((spec_l01Next.f x1000 x1001 x1002 (wrap64 (x1 - 1))).bind fun bt181 => ((spec_l01Next.f x1000 bt181.2.1 bt181.2.2 16).bind fun bt184 => (if bt184.1 = 0 then (if x7.length < 17592186044416 then (spec_l02Weights.l0 k x1 x2 (x7 ++ [0]) (wrap64 (x8 + 1)) x1000 bt184.2.1 bt184.2.2) else (none)) else (if x7.length < 17592186044416 then (spec_l02Weights.l0 k x1 x2 (x7 ++ [wrap64 (1 + bt181.1)]) (wrap64 (x8 + 1)) x1000 bt184.2.1 bt184.2.2) else (none))))) else (some (x7, x1001, x1002))
def spec_l02Weights.f (k : Nat) (s0_0 : List Int) (s0_1 : Int) (s0_2 : Int) (a1 : Int) (a2 : Int) : Option (List Int × Int × Int) := spec_l02Weights.l0 k a1 a2 (([] : List Int)) 0 s0_0 s0_1 s0_2
set_option maxHeartbeats 8000000 in
set_option maxRecDepth 100000 in
theorem spec_l02Weights.calls (k : Nat) (g : Nat) (s0_0 : List Int) (s0_1 : Int) (s0_2 : Int) (a1 : Int) (a2 : Int) (r1 : List Int) (r2 : Int) (r3 : Int) (w0 w : World) (hI : IsS81 w0 w g s0_0 s0_1 s0_2) (hB : Below w0.heap.size w0 w) (h : spec_l02Weights.f k s0_0 s0_1 s0_2 a1 a2 = some (r1, r2, r3)) :
  Calls Try.prog 108 #[.pointer (some ⟨g, 0, none⟩), .int .i64 a1, .int .i64 a2] w fun e w' => ∃ v0_ : Value, e = .returned (v0_) ∧ Kd.R (Kd.int .i64) 2 w' w.heap.size (fun _ => True) v0_ r1 ∧ IsS81 w0 w' g s0_0 r2 r3 ∧ Below w0.heap.size w0 w' ∧ KeepBut w w' g none := by
 have HI0 := zA hI
 have HK := zA (KeepBut.refl w g none)
 have HL := zA hB.size
 clear hI
 have HW0 := zA hB.size
 have HB := zA hB
 clear hB
 have H : (spec_l02Weights.l0 k a1 a2 (([] : List Int)) 0 s0_0 s0_1 s0_2) = some (r1, r2, r3) := h
 clear h
 obtain ⟨y178, hy178⟩ : ∃ y_ : List Int, y_ = (([] : List Int)) := ⟨_, rfl⟩
 replace H : (spec_l02Weights.l0 k a1 a2 y178 0 s0_0 s0_1 s0_2) = some (r1, r2, r3) := by first | (rw [hy178]; exact H) | exact H
 have Ny178 := zA hy178
 clear hy178
 have H' := zA H
 clear H
 go_enter Try.func108, Try.ntmps108
 go_wp2_with (first | ((with_reducible refine gate_dst (N := 10) rfl ?_); refine Kd.R_lit (Kd.int .i64) _ 2 ?hg (N := 10) ?hd (xs := ([] : List Int)) (inner := []) (ok := fun _ => True) (okp := fun _ => True) ?hr ?hp (fun _ hk => hk) trivial (Below.refl _ _) (Nat.le_refl _) (by simp) ?_; (case hd => rfl); (case hg => rfl); (case hr => first | (go_simp; done) | (go_simp; rfl)); (case hp => exact (Reps.none _ _)); intro v179 w4 ho5 hb hg_ hnew_; clear hg_ hnew_; (first | rw [← Ny178.out] at ho5 | (simp only [Int.reduceToNat] at ho5; rw [← Ny178.out] at ho5)); have HO180 := zA (Kd.R_lower ho5 (keep_size (w := w) (g := g) (row := none) (by repeat (first | (with_reducible first | exact HK.out | apply KeepBut.set_ | apply keep_drewN | apply keep_drew | apply keep_alloc) | exact HK.out)))); replace HK := zA (KeepBut.trans (by repeat (first | (with_reducible first | exact HK.out | apply KeepBut.set_ | apply keep_drewN | apply keep_drew | apply keep_alloc) | exact HK.out)) (KeepBut.of_below hb g none) (.inl rfl)); replace HB := zA (below_step (by repeat (first | (with_reducible first | exact HB.out | apply below_alloc | apply pw_below_drewN | apply below_drew1 | refine below_set ?_ (IsS81.ge HI0.out)) | exact HB.out)) hb); replace HI0 := zA (IsS81.below (by repeat (first | (with_reducible first | exact HI0.out | apply IsS81.alloc | apply IsS81.drewN | apply IsS81.drew | apply IsS81.set_1 | apply IsS81.set_2) | exact HI0.out)) hb); clear hb ho5))
 go_loopg [7, 8] k (fun kq v7 v8 w' => ∃ (x7_1 : List Int) (x8_1 : Int) (x1001_1 : Int) (x1002_1 : Int), v8 = .int .i64 x8_1 ∧ Aside0 (spec_l02Weights.l0 kq a1 a2 x7_1 x8_1 s0_0 x1001_1 x1002_1 = some (r1, r2, r3)) ∧ Aside0 (kq ≤ k) ∧ Aside0 (Kd.R (Kd.int .i64) 2 w' w.heap.size (fun _ => True) v7 x7_1) ∧ Aside0 (IsS81 w0 w' g s0_0 x1001_1 x1002_1) ∧ Aside0 (KeepBut w w' g none) ∧ Aside0 (Below w0.heap.size w0 w'))
 case atStart => exact ⟨(y178), (0), (s0_1), (s0_2), (by first | rfl | (simp; done) | (simp [*]; done)), H', ⟨Nat.le_refl _⟩, ⟨uR HO180.out⟩, ⟨by repeat (first | (with_reducible first | exact HI0.out | apply IsS81.alloc | apply IsS81.drewN | apply IsS81.drew | apply IsS81.set_1 | apply IsS81.set_2) | exact HI0.out)⟩, ⟨by repeat (first | (with_reducible first | exact HK.out | apply KeepBut.set_ | apply keep_drewN | apply keep_drew | apply keep_alloc) | exact HK.out)⟩, ⟨by repeat (first | (with_reducible first | exact HB.out | apply below_alloc | apply pw_below_drewN | apply below_drew1 | refine below_set ?_ (IsS81.ge HI0.out)) | exact HB.out)⟩⟩
 case round =>
  clear H'
  (try clear c1);(try clear p2)
  obtain ⟨x7_1, x8_1, x1001_1, x1002_1, rfl, HA, HK1, HO_7, HI0, HK, HB⟩ := hrel
  cases gk with
  | zero => exact absurd HA.out (by simp [spec_l02Weights.l0])
  | succ k1 =>
   have H := HA.out
   clear HA
   simp only [spec_l02Weights.l0] at H
   by_cases c6 : x8_1 < a2
   rotate_left
   ·rw [if_neg c6] at H
    have c6b0 : decide (x8_1 < a2) = false := decide_eq_false c6
    clear c6
    simp only [Option.some.injEq, Prod.mk.injEq] at H
    obtain ⟨rfl, rfl, rfl⟩ := H
    go_wp2
    go_ret
    exact ⟨_, by first | rfl | (simp [errW_none, errW_some] <;> rfl) | (simp [*, errW_none, errW_some] <;> rfl), uR HO_7.out, by repeat (first | (with_reducible first | exact HI0.out | apply IsS81.alloc | apply IsS81.drewN | apply IsS81.drew | apply IsS81.set_1 | apply IsS81.set_2) | exact HI0.out), by repeat (first | (with_reducible first | exact HB.out | apply below_alloc | apply pw_below_drewN | apply below_drew1 | refine below_set ?_ (IsS81.ge HI0.out)) | exact HB.out), by repeat (first | (with_reducible first | exact HK.out | apply KeepBut.set_ | apply keep_drewN | apply keep_drew | apply keep_alloc) | exact HK.out)⟩

   rw [if_pos c6] at H
   have c6b0 : decide (x8_1 < a2) = true := decide_eq_true c6
   clear c6
   replace H := Option.bind_eq_some_iff.mp H
   obtain ⟨⟨t181, t182, t183⟩, A70, H⟩ := H
   replace H : ((spec_l01Next.f s0_0 t182 t183 16).bind fun bt184 => (if bt184.1 = 0 then (if x7_1.length < 17592186044416 then (spec_l02Weights.l0 k1 a1 a2 (x7_1 ++ [0]) (wrap64 (x8_1 + 1)) s0_0 bt184.2.1 bt184.2.2) else (none)) else (if x7_1.length < 17592186044416 then (spec_l02Weights.l0 k1 a1 a2 (x7_1 ++ [wrap64 (1 + t181)]) (wrap64 (x8_1 + 1)) s0_0 bt184.2.1 bt184.2.2) else (none)))) = some (r1, r2, r3) := H
   have A7 := zA A70
   clear A70
   replace H := Option.bind_eq_some_iff.mp H
   obtain ⟨⟨t184, t185, t186⟩, A80, H⟩ := H
   replace H : (if t184 = 0 then (if x7_1.length < 17592186044416 then (spec_l02Weights.l0 k1 a1 a2 (x7_1 ++ [0]) (wrap64 (x8_1 + 1)) s0_0 t185 t186) else (none)) else (if x7_1.length < 17592186044416 then (spec_l02Weights.l0 k1 a1 a2 (x7_1 ++ [wrap64 (1 + t181)]) (wrap64 (x8_1 + 1)) s0_0 t185 t186) else (none))) = some (r1, r2, r3) := H
   have A8 := zA A80
   clear A80
   by_cases c9 : t184 = 0
   rotate_left
   ·rw [if_neg c9] at H
    have c9b0 : (t184 == 0) = false := beq_eq_false_iff_ne.mpr c9
    have c9b1 : (t184 != 0) = true := bne_iff_ne.mpr c9
    by_cases c14 : x7_1.length < 17592186044416
    rotate_left
    ·rw [if_neg c14] at H
     exact absurd H (by simp)
    rw [if_pos c14] at H
    have LMc14 := zA c14
    clear c14
    obtain ⟨y190, hy190⟩ : ∃ y_ : List Int, y_ = (x7_1 ++ [wrap64 (1 + t181)]) := ⟨_, rfl⟩
    replace H : (spec_l02Weights.l0 k1 a1 a2 y190 (wrap64 (x8_1 + 1)) s0_0 t185 t186) = some (r1, r2, r3) := by first | (rw [hy190]; exact H) | exact H
    have Ny190 := zA hy190
    clear hy190
    have H' := zA H
    clear H
    go_wp2_with (first | ((with_reducible refine gate_callee (f := 51) rfl ?_); refine gL (some 19) Try.func51 #[.pointer (some ⟨g, 0, none⟩), .int .i64 (wrap64 (a1 - 1))] ?_; (with_reducible refine (spec_l01Next.calls g s0_0 x1001_1 x1002_1 (wrap64 (a1 - 1)) t181 t182 t183 w0 _ ?side1 ?side2 A7.out).mono ?_); (case side1 => repeat (first | (with_reducible first | exact HI0.out | apply IsS81.alloc | apply IsS81.drewN | apply IsS81.drew | apply IsS81.set_1 | apply IsS81.set_2) | exact HI0.out)); (case side2 => repeat (first | (with_reducible first | exact HB.out | apply below_alloc | apply pw_below_drewN | apply below_drew1 | refine below_set ?_ (IsS81.ge HI0.out)) | exact HB.out)); rintro e w15 ⟨rfl, hi, hb, hk⟩; refine ⟨_, rfl, ?_⟩; replace HO_7 := zA (Kd.R_mono (Kd.R_keep (IsS81.apart (show IsS81 w0 _ g s0_0 x1001_1 x1002_1 from by repeat (first | (with_reducible first | exact HI0.out | apply IsS81.alloc | apply IsS81.drewN | apply IsS81.drew | apply IsS81.set_1 | apply IsS81.set_2) | exact HI0.out)) (uR HO_7.out) (by decide)) hk (fun _ h => h.2)) (fun _ h => h.1)); replace HK := zA (KeepBut.trans (by repeat (first | (with_reducible first | exact HK.out | apply KeepBut.set_ | apply keep_drewN | apply keep_drew | apply keep_alloc) | exact HK.out)) hk (.inl rfl)); replace HB := zA (hb); replace HI0 := zA (hi); (try clear hb); (try clear hb2); (try clear hk); (try clear hi)) | ((with_reducible refine gate_callee (f := 51) rfl ?_); refine gL (some 22) Try.func51 #[.pointer (some ⟨g, 0, none⟩), .int .i64 16] ?_; (with_reducible refine (spec_l01Next.calls g s0_0 t182 t183 16 t184 t185 t186 w0 _ ?side1 ?side2 A8.out).mono ?_); (case side1 => repeat (first | (with_reducible first | exact HI0.out | apply IsS81.alloc | apply IsS81.drewN | apply IsS81.drew | apply IsS81.set_1 | apply IsS81.set_2) | exact HI0.out)); (case side2 => repeat (first | (with_reducible first | exact HB.out | apply below_alloc | apply pw_below_drewN | apply below_drew1 | refine below_set ?_ (IsS81.ge HI0.out)) | exact HB.out)); rintro e w16 ⟨rfl, hi, hb, hk⟩; refine ⟨_, rfl, ?_⟩; replace HO_7 := zA (Kd.R_mono (Kd.R_keep (IsS81.apart (show IsS81 w0 _ g s0_0 t182 t183 from by repeat (first | (with_reducible first | exact HI0.out | apply IsS81.alloc | apply IsS81.drewN | apply IsS81.drew | apply IsS81.set_1 | apply IsS81.set_2) | exact HI0.out)) (uR HO_7.out) (by decide)) hk (fun _ h => h.2)) (fun _ h => h.1)); replace HK := zA (KeepBut.trans (by repeat (first | (with_reducible first | exact HK.out | apply KeepBut.set_ | apply keep_drewN | apply keep_drew | apply keep_alloc) | exact HK.out)) hk (.inl rfl)); replace HB := zA (hb); replace HI0 := zA (hi); (try clear hb); (try clear hb2); (try clear hk); (try clear hi)) | ((with_reducible refine gate_builtin (b := .append) (xs := #[.tmp 24, .tmp 26]) rfl ?_); at_builtin; refine Kd.R_append (Kd.int .i64) w.heap.size rfl (.tmp 24) (.tmp 26) 24 2 (.int .i64 0) 8 rfl Try.underlying24 info2 rfl (by decide) (by omega) u7 x7_1 (wrap64 (1 + t181)) [.int .i64 (wrap64 (1 + t181))] (fun _ => True) (fun _ => False) rfl rfl ?aP (fun _ hk => hk.elim) ?aF ?aO (Below.refl _ _) ?aS ?aL ?_; (case aP => exact rfl); (case aF => exact (fun _ _ => trivial)); (case aO => exact (uR HO_7.out)); (case aS => exact (keep_size (w := w) (g := g) (row := none) (by repeat (first | (with_reducible first | exact HK.out | apply KeepBut.set_ | apply keep_drewN | apply keep_drew | apply keep_alloc) | exact HK.out)))); (case aL => have := LMc14.out; omega); intro v191 w17 ho hb hg hat; rw [← Ny190.out] at ho; replace HB := zA (below_weaken (by repeat (first | (with_reducible first | exact HB.out | apply below_alloc | apply pw_below_drewN | apply below_drew1 | refine below_set ?_ (IsS81.ge HI0.out)) | exact HB.out)) HL.out hb); replace HI0 := zA (IsS81.grown (by repeat (first | (with_reducible first | exact HI0.out | apply IsS81.alloc | apply IsS81.drewN | apply IsS81.drew | apply IsS81.set_1 | apply IsS81.set_2) | exact HI0.out)) hg (IsS81.own_ne HI0.out HO_7.out (by decide))); replace HK := zA (KeepBut.trans (by repeat (first | (with_reducible first | exact HK.out | apply KeepBut.set_ | apply keep_drewN | apply keep_drew | apply keep_alloc) | exact HK.out)) (KeepBut.of_grown hg g) (Kd.R_base2 HO_7.out)); have HO192 := zA (ho); clear HO_7 ho hb hg hat))
    go_roundg k1
    case measure => have := HK1.out; omega
    case rel => exact ⟨(y190), (wrap64 (x8_1 + 1)), (t185), (t186), (by first | rfl | (simp; done) | (simp [*]; done)), H', ⟨by have := HK1.out; omega⟩, ⟨uR HO192.out⟩, ⟨by repeat (first | (with_reducible first | exact HI0.out | apply IsS81.alloc | apply IsS81.drewN | apply IsS81.drew | apply IsS81.set_1 | apply IsS81.set_2) | exact HI0.out)⟩, ⟨by repeat (first | (with_reducible first | exact HK.out | apply KeepBut.set_ | apply keep_drewN | apply keep_drew | apply keep_alloc) | exact HK.out)⟩, ⟨by repeat (first | (with_reducible first | exact HB.out | apply below_alloc | apply pw_below_drewN | apply below_drew1 | refine below_set ?_ (IsS81.ge HI0.out)) | exact HB.out)⟩⟩
   rw [if_pos c9] at H
   have c9b0 : (t184 == 0) = true := beq_iff_eq.mpr c9
   have c9b1 : (t184 != 0) = false := bne_eq_false_iff_eq.mpr c9
   clear c9
   by_cases c10 : x7_1.length < 17592186044416
   rotate_left
   ·rw [if_neg c10] at H
    exact absurd H (by simp)
   rw [if_pos c10] at H
   have LMc10 := zA c10
   clear c10
   obtain ⟨y187, hy187⟩ : ∃ y_ : List Int, y_ = (x7_1 ++ [0]) := ⟨_, rfl⟩
   replace H : (spec_l02Weights.l0 k1 a1 a2 y187 (wrap64 (x8_1 + 1)) s0_0 t185 t186) = some (r1, r2, r3) := by first | (rw [hy187]; exact H) | exact H
   have Ny187 := zA hy187
   clear hy187
   have H' := zA H
   clear H
   go_wp2_with (first | ((with_reducible refine gate_callee (f := 51) rfl ?_); refine gL (some 19) Try.func51 #[.pointer (some ⟨g, 0, none⟩), .int .i64 (wrap64 (a1 - 1))] ?_; (with_reducible refine (spec_l01Next.calls g s0_0 x1001_1 x1002_1 (wrap64 (a1 - 1)) t181 t182 t183 w0 _ ?side1 ?side2 A7.out).mono ?_); (case side1 => repeat (first | (with_reducible first | exact HI0.out | apply IsS81.alloc | apply IsS81.drewN | apply IsS81.drew | apply IsS81.set_1 | apply IsS81.set_2) | exact HI0.out)); (case side2 => repeat (first | (with_reducible first | exact HB.out | apply below_alloc | apply pw_below_drewN | apply below_drew1 | refine below_set ?_ (IsS81.ge HI0.out)) | exact HB.out)); rintro e w11 ⟨rfl, hi, hb, hk⟩; refine ⟨_, rfl, ?_⟩; replace HO_7 := zA (Kd.R_mono (Kd.R_keep (IsS81.apart (show IsS81 w0 _ g s0_0 x1001_1 x1002_1 from by repeat (first | (with_reducible first | exact HI0.out | apply IsS81.alloc | apply IsS81.drewN | apply IsS81.drew | apply IsS81.set_1 | apply IsS81.set_2) | exact HI0.out)) (uR HO_7.out) (by decide)) hk (fun _ h => h.2)) (fun _ h => h.1)); replace HK := zA (KeepBut.trans (by repeat (first | (with_reducible first | exact HK.out | apply KeepBut.set_ | apply keep_drewN | apply keep_drew | apply keep_alloc) | exact HK.out)) hk (.inl rfl)); replace HB := zA (hb); replace HI0 := zA (hi); (try clear hb); (try clear hb2); (try clear hk); (try clear hi)) | ((with_reducible refine gate_callee (f := 51) rfl ?_); refine gL (some 22) Try.func51 #[.pointer (some ⟨g, 0, none⟩), .int .i64 16] ?_; (with_reducible refine (spec_l01Next.calls g s0_0 t182 t183 16 t184 t185 t186 w0 _ ?side1 ?side2 A8.out).mono ?_); (case side1 => repeat (first | (with_reducible first | exact HI0.out | apply IsS81.alloc | apply IsS81.drewN | apply IsS81.drew | apply IsS81.set_1 | apply IsS81.set_2) | exact HI0.out)); (case side2 => repeat (first | (with_reducible first | exact HB.out | apply below_alloc | apply pw_below_drewN | apply below_drew1 | refine below_set ?_ (IsS81.ge HI0.out)) | exact HB.out)); rintro e w12 ⟨rfl, hi, hb, hk⟩; refine ⟨_, rfl, ?_⟩; replace HO_7 := zA (Kd.R_mono (Kd.R_keep (IsS81.apart (show IsS81 w0 _ g s0_0 t182 t183 from by repeat (first | (with_reducible first | exact HI0.out | apply IsS81.alloc | apply IsS81.drewN | apply IsS81.drew | apply IsS81.set_1 | apply IsS81.set_2) | exact HI0.out)) (uR HO_7.out) (by decide)) hk (fun _ h => h.2)) (fun _ h => h.1)); replace HK := zA (KeepBut.trans (by repeat (first | (with_reducible first | exact HK.out | apply KeepBut.set_ | apply keep_drewN | apply keep_drew | apply keep_alloc) | exact HK.out)) hk (.inl rfl)); replace HB := zA (hb); replace HI0 := zA (hi); (try clear hb); (try clear hb2); (try clear hk); (try clear hi)) | ((with_reducible refine gate_builtin (b := .append) (xs := #[.tmp 24, .tmp 26]) rfl ?_); at_builtin; refine Kd.R_append (Kd.int .i64) w.heap.size rfl (.tmp 24) (.tmp 26) 24 2 (.int .i64 0) 8 rfl Try.underlying24 info2 rfl (by decide) (by omega) u7 x7_1 0 [.int .i64 0] (fun _ => True) (fun _ => False) rfl rfl ?aP (fun _ hk => hk.elim) ?aF ?aO (Below.refl _ _) ?aS ?aL ?_; (case aP => exact rfl); (case aF => exact (fun _ _ => trivial)); (case aO => exact (uR HO_7.out)); (case aS => exact (keep_size (w := w) (g := g) (row := none) (by repeat (first | (with_reducible first | exact HK.out | apply KeepBut.set_ | apply keep_drewN | apply keep_drew | apply keep_alloc) | exact HK.out)))); (case aL => have := LMc10.out; omega); intro v188 w13 ho hb hg hat; rw [← Ny187.out] at ho; replace HB := zA (below_weaken (by repeat (first | (with_reducible first | exact HB.out | apply below_alloc | apply pw_below_drewN | apply below_drew1 | refine below_set ?_ (IsS81.ge HI0.out)) | exact HB.out)) HL.out hb); replace HI0 := zA (IsS81.grown (by repeat (first | (with_reducible first | exact HI0.out | apply IsS81.alloc | apply IsS81.drewN | apply IsS81.drew | apply IsS81.set_1 | apply IsS81.set_2) | exact HI0.out)) hg (IsS81.own_ne HI0.out HO_7.out (by decide))); replace HK := zA (KeepBut.trans (by repeat (first | (with_reducible first | exact HK.out | apply KeepBut.set_ | apply keep_drewN | apply keep_drew | apply keep_alloc) | exact HK.out)) (KeepBut.of_grown hg g) (Kd.R_base2 HO_7.out)); have HO189 := zA (ho); clear HO_7 ho hb hg hat))
   go_roundg k1
   case measure => have := HK1.out; omega
   case rel => exact ⟨(y187), (wrap64 (x8_1 + 1)), (t185), (t186), (by first | rfl | (simp; done) | (simp [*]; done)), H', ⟨by have := HK1.out; omega⟩, ⟨uR HO189.out⟩, ⟨by repeat (first | (with_reducible first | exact HI0.out | apply IsS81.alloc | apply IsS81.drewN | apply IsS81.drew | apply IsS81.set_1 | apply IsS81.set_2) | exact HI0.out)⟩, ⟨by repeat (first | (with_reducible first | exact HK.out | apply KeepBut.set_ | apply keep_drewN | apply keep_drew | apply keep_alloc) | exact HK.out)⟩, ⟨by repeat (first | (with_reducible first | exact HB.out | apply below_alloc | apply pw_below_drewN | apply below_drew1 | refine below_set ?_ (IsS81.ge HI0.out)) | exact HB.out)⟩⟩
/- Lists all of whose elements answer yes: the plain function that areAll computes, and its printed loop. -/
/-- Do all elements answer yes? (Asked from the first one on, up to the first no.) -/
def allO {α : Type} (p : α → Option Bool) : List α → Option Bool
  | [] => some true
  | x :: l => (p x).bind fun b => if b = true then allO p l else some false

def impl_areAll_int64.f (l : List Int) (p : Int → Option Bool) : Option Bool := if l.length < 4611686018427387904 then allO p l else none

theorem wrap_succ {i : Int} {n : Nat} (h0 : 0 ≤ i) (h1 : i < (n : Int)) (h2 : n < 4611686018427387904) : wrap64 (i + 1) = i + 1 := by
  unfold wrap64; omega

theorem drop_cons {α : Type} (l : List α) (d : α) (i : Nat) (h : i < l.length) : l.drop i = l.getD i d :: l.drop (i + 1) := by
  rw [List.drop_eq_getElem_cons h]; simp [List.getD, h]

theorem indexFunc_ints (p : Int → Option Bool) (l : List Int) (hl : l.length < 4611686018427387904) (d : Nat) : ∀ (k i : Nat) (r : Bool), i + d = l.length → d < k → allO p (l.drop i) = some r →
    ∃ j, slices_IndexFunc_ints.l0 k l (fun z_ => impl_areAll_int64_1.f z_ p) (l.length : Int) (i : Int) = some j ∧ decide (j ≥ 0) = !r := by
  induction d with
  | zero =>
    intro k i r hi hk h
    obtain ⟨k, rfl⟩ : ∃ m, k = m + 1 := ⟨k - 1, by omega⟩
    simp only [slices_IndexFunc_ints.l0]
    rw [if_neg (by omega)]
    rw [List.drop_eq_nil_of_le (by omega)] at h
    simp only [allO, Option.some.injEq] at h
    subst h
    exact ⟨-1, rfl, rfl⟩
  | succ d ih =>
    intro k i r hi hk h
    obtain ⟨k, rfl⟩ : ∃ m, k = m + 1 := ⟨k - 1, by omega⟩
    simp only [slices_IndexFunc_ints.l0]
    rw [if_pos (by omega), if_pos (by omega), if_pos (by omega)]
    rw [drop_cons l 0 i (by omega)] at h
    simp only [allO] at h
    have e : rd l (i : Int) = l.getD i 0 := by simp [rd]
    rw [e]
    obtain ⟨b, hb, h⟩ := Option.bind_eq_some_iff.mp h
    simp only [impl_areAll_int64_1.f, hb, Option.bind_some]
    cases b with
    | true =>
      rw [if_pos rfl] at h
      simp only [Bool.not_true, Bool.false_eq_true, if_false]
      rw [wrap_succ (n := l.length) (by omega) (by omega) hl]
      exact ih k (i + 1) r (by omega) (by omega) h
    | false =>
      simp only [Bool.false_eq_true, if_false, Option.some.injEq] at h
      subst h
      simp only [Bool.not_false, if_true]
      exact ⟨i, rfl, by simp⟩

theorem areAllK_int64 {l : List Int} {p : Int → Option Bool} {r : Bool} (h : impl_areAll_int64.f l p = some r) : impl_areAll_int64K.f (l.length + 1) l p = some r := by
  unfold impl_areAll_int64.f at h
  split at h
  · rename_i hl
    obtain ⟨j, h1, h2⟩ := indexFunc_ints p l hl l.length (l.length + 1) 0 r (by omega) (by omega) (by simpa using h)
    unfold impl_areAll_int64K.f slices_ContainsFunc_ints.f slices_IndexFunc_ints.f
    have h1' : slices_IndexFunc_ints.l0 (l.length + 1) l (fun z_ => impl_areAll_int64_1.f z_ p) (l.length : Int) 0 = some j := h1
    rw [h1']
    simp only [Option.bind_some, h2, Bool.not_not]
  · cases h
theorem impl_areAll_int64.calls (A0 : Option Addr) (c0 : Nat) (l0 : List Int) (F1 : Value) (a1 : (Int → Option Bool)) (r : Bool) (w : World) (hr0 : Kd.C (Kd.int .i64) w A0 l0.length l0) (hc0 : l0.length ≤ c0) (hF1 : FnI Try.prog w F1 a1) (h : impl_areAll_int64.f l0 a1 = some r) :
    Calls Try.prog 39 #[.slice A0 l0.length c0, F1] w fun e w' => e = .returned (.bool r) ∧ Below w.heap.size w w' :=
  impl_areAll_int64K.calls _ A0 c0 l0 F1 a1 r w hr0 hc0 hF1 (areAllK_int64 h)
end Go.Proofs.Ytnpepkpogohcmaa.Pr
