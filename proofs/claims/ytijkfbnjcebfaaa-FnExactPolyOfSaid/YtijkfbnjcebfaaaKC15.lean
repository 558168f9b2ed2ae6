/- Texts of this session in one: what functions of the program compute, and plain facts of it, under the conditions that each theorem names. -/
import Derived.Test.YtijkfbnjcebfaaaKC01
import Derived.Test.YtijkfbnjcebfaaaKC02
import Derived.Test.YtijkfbnjcebfaaaKC13
import Derived.Test.YtijkfbnjcebfaaaKC14
namespace Go.Proofs.Ytijkfbnjcebfaaa.Pr
open Go.RowKit Go.Proofs.YtijkfbnjcebfaaaW.PrintWords Go.Proofs.YtijkfbnjcebfaaaW.PrintLast Go.Proofs.YtijkfbnjcebfaaaW.PrintMore
attribute [local go_sem] max2_int min2_int max_two min_two max_three min_three max_four min_four   -- for this text's walks alone
set_option linter.unusedVariables false
set_option linter.unusedSimpArgs false
/-! ### spec_l03Is: function 54 -/
mutual
def spec_l03Is.j0 : Nat → Bool → Int → List Int → List Int → Option (Bool)
 | 0, _, _, _, _ => none
 | k + 1, x28, x106000, x106001, x106002 => if x28 = true then (some false) else (spec_l03Is.l0 k 0 x106000 x106001 x106002)
def spec_l03Is.l0 : Nat → Int → Int → List Int → List Int → Option (Bool)
 | 0, _, _, _, _ => none
 | k + 1, x3, x106000, x106001, x106002 => if x3 < (x106001.length : Int) then (if 0 ≤ x3 then ((spec_l01In.f (rd x106001 x3) 0 (wrap64 (x106000 - 1))).bind fun t108 => (if t108 = true then (if x3 < (x106002.length : Int) then ((spec_l01In.f (rd x106002 x3) 1 (wrap64 (x106000 - 1))).bind fun t110 => (if t110 = true then (spec_l03Is.l0 k (wrap64 (x3 + 1)) x106000 x106001 x106002) else (some false))) else (none)) else (some false))) else (none)) else (some true)
end
def spec_l03Is.f (k : Nat) (a0_0 : Int) (l0_1 : List Int) (l0_2 : List Int) : Option (Bool) := (spec_l01Prime.f k a0_0).bind fun t106 => (if t106 = true then (if (l0_1.length : Int) < 1 then (spec_l03Is.j0 k true a0_0 l0_1 l0_2) else (if (l0_1.length : Int) > 12 then (spec_l03Is.j0 k true a0_0 l0_1 l0_2) else (spec_l03Is.j0 k ((l0_2.length : Int) != (l0_1.length : Int)) a0_0 l0_1 l0_2))) else (spec_l03Is.j0 k true a0_0 l0_1 l0_2))
theorem spec_l03Is.mono_l : ∀ k, (∀ y0 y1 y2 y3, LeO (spec_l03Is.j0 k y0 y1 y2 y3) (spec_l03Is.j0 (k + 1) y0 y1 y2 y3)) ∧ (∀ y0 y1 y2 y3, LeO (spec_l03Is.l0 k y0 y1 y2 y3) (spec_l03Is.l0 (k + 1) y0 y1 y2 y3))
 | 0 => ⟨fun _ _ _ _ r h => by simp [spec_l03Is.j0] at h, fun _ _ _ _ r h => by simp [spec_l03Is.l0] at h⟩
 | k + 1 => by
  obtain ⟨ih0, ih1⟩ := spec_l03Is.mono_l k
  refine ⟨?_, ?_⟩
  ·intro y0 y1 y2 y3
   unfold spec_l03Is.j0
   repeat' first
   | (with_reducible exact ih0 _ _ _ _)
   | (with_reducible exact ih1 _ _ _ _)
   | (with_reducible exact spec_l01Prime.mono _ _)
   | (with_reducible exact LeO.refl _)
   | (with_reducible exact LeO.none _)
   | (with_reducible refine LeO.ite ?_ ?_)
   | (with_reducible refine LeO.bind ?_ (fun _ => ?_))
   | exact ih0 _ _ _ _
   | exact ih1 _ _ _ _
   | exact spec_l01Prime.mono _ _
   | exact LeO.none _
   | refine LeO.ite ?_ ?_
   | refine LeO.bind ?_ (fun _ => ?_)
  ·intro y0 y1 y2 y3
   unfold spec_l03Is.l0
   repeat' first
   | (with_reducible exact ih0 _ _ _ _)
   | (with_reducible exact ih1 _ _ _ _)
   | (with_reducible exact spec_l01Prime.mono _ _)
   | (with_reducible exact LeO.refl _)
   | (with_reducible exact LeO.none _)
   | (with_reducible refine LeO.ite ?_ ?_)
   | (with_reducible refine LeO.bind ?_ (fun _ => ?_))
   | exact ih0 _ _ _ _
   | exact ih1 _ _ _ _
   | exact spec_l01Prime.mono _ _
   | exact LeO.none _
   | refine LeO.ite ?_ ?_
   | refine LeO.bind ?_ (fun _ => ?_)
theorem spec_l03Is.mono : ∀ a0 a1 a2 k, LeO (spec_l03Is.f k a0 a1 a2) (spec_l03Is.f (k + 1) a0 a1 a2) := by
 intro a0 a1 a2 k
 obtain ⟨ih0, ih1⟩ := spec_l03Is.mono_l k
 unfold spec_l03Is.f
 repeat' first
   | (with_reducible exact ih0 _ _ _ _)
   | (with_reducible exact ih1 _ _ _ _)
   | (with_reducible exact spec_l01Prime.mono _ _)
   | (with_reducible exact LeO.refl _)
   | (with_reducible exact LeO.none _)
   | (with_reducible refine LeO.ite ?_ ?_)
   | (with_reducible refine LeO.bind ?_ (fun _ => ?_))
   | exact ih0 _ _ _ _
   | exact ih1 _ _ _ _
   | exact spec_l01Prime.mono _ _
   | exact LeO.none _
   | refine LeO.ite ?_ ?_
   | refine LeO.bind ?_ (fun _ => ?_)
def spec_l03Is.T6 : Bool × List (List Nat × List Nat) := (true, [([], []), ([0], [0]), ([], []), ([1, 2], [1, 2]), ([3], [3]), ([], []), ([5], [5]), ([6], [6]), ([4, 7], [4, 7]), ([8], [8]), ([9, 8], [9]), ([10], [10]), ([11, 10], [10, 11]), ([10], [10]), ([12, 13, 10], [10, 12, 13]), ([14, 10], [10, 14]), ([10], [10]), ([16, 10], [10, 16]), ([17, 10], [10, 17]), ([15, 18, 10, 10], [10, 15, 18]), ([19, 10], [10, 19]), ([10, 20], [10, 20])])
def spec_l03Is.B6 : List Nat := [0, 1, 0, 7, 15, 0, 32, 96, 255, 511, 1023, 2047, 4095, 2047, 16383, 32767, 2047, 67583, 198655, 524287, 1048575, 2097151]
theorem spec_l03Is.tab6 : rtab .any (opsOf Try.f54 6) = spec_l03Is.T6 := by kernel_rfl
theorem spec_l03Is.bits6 : waitsOk spec_l03Is.T6.2 spec_l03Is.B6 = true := by kernel_rfl
set_option maxHeartbeats 8000000 in
set_option maxRecDepth 100000 in
theorem spec_l03Is.calls (k : Nat) (a0_0 : Int) (A0_1 : Option Addr) (c0_1 : Nat) (l0_1 : List Int) (A0_2 : Option Addr) (c0_2 : Nat) (l0_2 : List Int) (r : Bool) (w : World) (hr0_1 : Kd.C (Kd.int .i64) w A0_1 l0_1.length l0_1) (hc0_1 : l0_1.length ≤ c0_1) (hr0_2 : Kd.C (Kd.int .i64) w A0_2 l0_2.length l0_2) (hc0_2 : l0_2.length ≤ c0_2) (h : spec_l03Is.f k a0_0 l0_1 l0_2 = some r) :
  Calls Try.prog 54 #[.agg #[.int .i64 a0_0, .slice A0_1 l0_1.length c0_1, .slice A0_2 l0_2.length c0_2]] w fun e w' => e = .returned (.bool r) ∧ Below w.heap.size w w' := by
 have hu28 := Try.underlying28
 have HR0_1 := zA hr0_1
 have HC0_1 := zA hc0_1
 clear hr0_1 hc0_1
 have HR0_2 := zA hr0_2
 have HC0_2 := zA hc0_2
 clear hr0_2 hc0_2
 have HB := zA (Below.refl w.heap.size w)
 have H : ((spec_l01Prime.f k a0_0).bind fun t106 => (if t106 = true then (if (l0_1.length : Int) < 1 then (spec_l03Is.j0 k true a0_0 l0_1 l0_2) else (if (l0_1.length : Int) > 12 then (spec_l03Is.j0 k true a0_0 l0_1 l0_2) else (spec_l03Is.j0 k ((l0_2.length : Int) != (l0_1.length : Int)) a0_0 l0_1 l0_2))) else (spec_l03Is.j0 k true a0_0 l0_1 l0_2))) = some r := h
 clear h
 have HC2 := zA H
 clear H
 go_enter Try.func54, Try.ntmps54
 go_upto_region 1 with (first | ((with_reducible refine gate_dst (N := 1) rfl ?_); (try (refine gate_guard (by rfl) ?_; dsimp only)); refine bx 1 #[.int .i64 a0_0, .slice A0_1 l0_1.length c0_1, .slice A0_2 l0_2.length c0_2] 28 ?_; intro gb105 hg w3 hbox hb; have BK105 := zA (hbox); have GW105 := gq HB hg; have GE105 := gq HB hg; replace HB := xH HB hb; have := geI GE105; clear hb hbox hg))
 (try simp only [Act.put, ls, lz, ln])
 go_cut [28] (fun v28 wc => ∃ (kq : Nat) (x28_1 : Bool), v28 = .bool x28_1 ∧ Aside0 (spec_l03Is.j0 kq x28_1 a0_0 l0_1 l0_2 = some r) ∧ Aside0 (kq ≤ k) ∧ Aside0 (wc.heap[gb105]? = some (.cells #[.int .i64 a0_0, (.slice A0_1 l0_1.length c0_1), (.slice A0_2 l0_2.length c0_2)] 28 (0, 0))) ∧ Aside0 (Below w.heap.size w wc))
 case first =>
  have H := HC2.out
  clear HC2
  replace H := Option.bind_eq_some_iff.mp H
  obtain ⟨t106, A40, H⟩ := H
  replace H : (if t106 = true then (if (l0_1.length : Int) < 1 then (spec_l03Is.j0 k true a0_0 l0_1 l0_2) else (if (l0_1.length : Int) > 12 then (spec_l03Is.j0 k true a0_0 l0_1 l0_2) else (spec_l03Is.j0 k ((l0_2.length : Int) != (l0_1.length : Int)) a0_0 l0_1 l0_2))) else (spec_l03Is.j0 k true a0_0 l0_1 l0_2)) = some r := H
  have A4 := zA A40
  clear A40
  by_cases c5 : t106 = true
  ·subst c5
   have H1 : (if (l0_1.length : Int) < 1 then (spec_l03Is.j0 k true a0_0 l0_1 l0_2) else (if (l0_1.length : Int) > 12 then (spec_l03Is.j0 k true a0_0 l0_1 l0_2) else (spec_l03Is.j0 k ((l0_2.length : Int) != (l0_1.length : Int)) a0_0 l0_1 l0_2))) = some r := by rw [if_pos rfl] at H; exact H
   clear H
   have H := H1
   clear H1
   by_cases c6 : (l0_1.length : Int) < 1
   rotate_left
   ·rw [if_neg c6] at H
    have c6b0 : decide ((l0_1.length : Int) < 1) = false := decide_eq_false c6
    have c6b1 : decide (l0_1.length < 1) = false := decide_eq_false (by omega)
    clear c6
    (first | rw [c6b0] | (simp only [i64_w, i32_w]; rw [c6b0]) | skip)
    by_cases c8 : (l0_1.length : Int) > 12
    rotate_left
    ·rw [if_neg c8] at H
     have c8b0 : decide (12 < (l0_1.length : Int)) = false := decide_eq_false c8
     have c8b1 : decide (12 < l0_1.length) = false := decide_eq_false (by omega)
     clear c8
     have H' := zA H
     clear H
     have hcz10_0 := bc BK105 0
     have hcz10_1 := bc BK105 1
     have hcz10_2 := bc BK105 2
     have hfz10_0 := bf BK105 0
     have hfz10_1 := bf BK105 1
     have hfz10_2 := bf BK105 2
     go_wp2_with (first | ((with_reducible refine gate_callee (f := 85) rfl ?_); refine gL (some 6) Try.func85 #[.int .i64 a0_0] ?_; (with_reducible refine (spec_l01Prime.calls k a0_0 true _ A4.out).mono ?_); rintro e w' ⟨rfl, ⟨nd, rfl⟩⟩; refine ⟨_, rfl, ?_⟩))
     go_meet
     case rel => exact ⟨_, (((l0_2.length : Int) != (l0_1.length : Int))), (by first | rfl | (simp; done) | (simp [*]; done)), H', ⟨by first | omega | exact Nat.le_refl _⟩, ⟨uB BK105.out⟩, ⟨uH HB.out⟩⟩
    rw [if_pos c8] at H
    have c8b0 : decide (12 < (l0_1.length : Int)) = true := decide_eq_true c8
    have c8b1 : decide (12 < l0_1.length) = true := decide_eq_true (by omega)
    clear c8
    have H' := zA H
    clear H
    have hcz9_0 := bc BK105 0
    have hcz9_1 := bc BK105 1
    have hcz9_2 := bc BK105 2
    have hfz9_0 := bf BK105 0
    have hfz9_1 := bf BK105 1
    have hfz9_2 := bf BK105 2
    go_wp2_with (first | ((with_reducible refine gate_callee (f := 85) rfl ?_); refine gL (some 6) Try.func85 #[.int .i64 a0_0] ?_; (with_reducible refine (spec_l01Prime.calls k a0_0 true _ A4.out).mono ?_); rintro e w' ⟨rfl, ⟨nd, rfl⟩⟩; refine ⟨_, rfl, ?_⟩))
    go_meet
    case rel => exact ⟨_, (true), (by first | rfl | (simp; done) | (simp [*]; done)), H', ⟨by first | omega | exact Nat.le_refl _⟩, ⟨uB BK105.out⟩, ⟨uH HB.out⟩⟩
   rw [if_pos c6] at H
   have c6b0 : decide ((l0_1.length : Int) < 1) = true := decide_eq_true c6
   have c6b1 : decide (l0_1.length < 1) = true := decide_eq_true (by omega)
   clear c6
   (first | rw [c6b0] | (simp only [i64_w, i32_w]; rw [c6b0]) | skip)
   have H' := zA H
   clear H
   have hcz7_0 := bc BK105 0
   have hcz7_1 := bc BK105 1
   have hcz7_2 := bc BK105 2
   have hfz7_0 := bf BK105 0
   have hfz7_1 := bf BK105 1
   have hfz7_2 := bf BK105 2
   go_wp2_with (first | ((with_reducible refine gate_callee (f := 85) rfl ?_); refine gL (some 6) Try.func85 #[.int .i64 a0_0] ?_; (with_reducible refine (spec_l01Prime.calls k a0_0 true _ A4.out).mono ?_); rintro e w' ⟨rfl, ⟨nd, rfl⟩⟩; refine ⟨_, rfl, ?_⟩))
   go_meet
   case rel => exact ⟨_, (true), (by first | rfl | (simp; done) | (simp [*]; done)), H', ⟨by first | omega | exact Nat.le_refl _⟩, ⟨uB BK105.out⟩, ⟨uH HB.out⟩⟩
  ·replace c5 := Bool.eq_false_iff.mpr c5
   subst c5
   have H1 : (spec_l03Is.j0 k true a0_0 l0_1 l0_2) = some r := by rw [if_neg (show ¬ (false = true) by decide)] at H; exact H
   clear H
   have H := H1
   clear H1
   have H' := zA H
   clear H
   have hcz11_0 := bc BK105 0
   have hcz11_1 := bc BK105 1
   have hcz11_2 := bc BK105 2
   have hfz11_0 := bf BK105 0
   have hfz11_1 := bf BK105 1
   have hfz11_2 := bf BK105 2
   go_wp2_with (first | ((with_reducible refine gate_callee (f := 85) rfl ?_); refine gL (some 6) Try.func85 #[.int .i64 a0_0] ?_; (with_reducible refine (spec_l01Prime.calls k a0_0 false _ A4.out).mono ?_); rintro e w' ⟨rfl, ⟨nd, rfl⟩⟩; refine ⟨_, rfl, ?_⟩))
   go_meet
   case rel => exact ⟨_, (true), (by first | rfl | (simp; done) | (simp [*]; done)), H', ⟨by first | omega | exact Nat.le_refl _⟩, ⟨uB BK105.out⟩, ⟨uH HB.out⟩⟩
 case rest =>
  clear HC2
  (try clear p2);(try clear c5);(try clear c6);(try clear c6b0);(try clear c6b1);(try clear c8);(try clear c8b0);(try clear c8b1);(try clear hcz10_0);(try clear hcz10_1);(try clear hcz10_2);(try clear hcz11_0);(try clear hcz11_1);(try clear hcz11_2);(try clear hcz7_0);(try clear hcz7_1);(try clear hcz7_2);(try clear hcz9_0);(try clear hcz9_1);(try clear hcz9_2);(try clear hfz10_0);(try clear hfz10_1)
  (try clear hfz10_2);(try clear hfz11_0);(try clear hfz11_1);(try clear hfz11_2);(try clear hfz7_0);(try clear hfz7_1);(try clear hfz7_2);(try clear hfz9_0);(try clear hfz9_1);(try clear hfz9_2)
  obtain ⟨kq, x28_1, rfl, HA, HJ1, BK105, HB⟩ := hcut
  cases kq with
  | zero => exact absurd HA.out (by simp [spec_l03Is.j0])
  | succ kj1 =>
   have H := HA.out
   clear HA
   simp only [spec_l03Is.j0] at H
   by_cases c12 : x28_1 = true
   ·subst c12
    have H1 : (some false) = some r := by rw [if_pos rfl] at H; exact H
    clear H
    have H := H1
    clear H1
    obtain rfl := Option.some.inj H
    go_wp2
    go_ret
    exact ⟨by first | rfl | (simp [errW_none, errW_some] <;> rfl) | (simp [*, errW_none, errW_some] <;> rfl), uH HB.out⟩
   ·replace c12 := Bool.eq_false_iff.mpr c12
    subst c12
    have H1 : (spec_l03Is.l0 kj1 0 a0_0 l0_1 l0_2) = some r := by rw [if_neg (show ¬ (false = true) by decide)] at H; exact H
    clear H
    have H := H1
    clear H1
    have H' := zA H
    clear H
    go_wp2
    go_loopg [3] kj1 (fun kq v3 w' => ∃ (x3_2 : Int), v3 = .int .i64 x3_2 ∧ Aside0 (spec_l03Is.l0 kq x3_2 a0_0 l0_1 l0_2 = some r) ∧ Aside0 (kq ≤ kj1) ∧ Aside0 (w'.heap[gb105]? = some (.cells #[.int .i64 a0_0, (.slice A0_1 l0_1.length c0_1), (.slice A0_2 l0_2.length c0_2)] 28 (0, 0))) ∧ Aside0 (Below w.heap.size w w'))
    case atStart => exact ⟨(0), (by first | rfl | (simp; done) | (simp [*]; done)), H', ⟨Nat.le_refl _⟩, ⟨uB BK105.out⟩, ⟨uH HB.out⟩⟩
    case round =>
     clear H'
     (try clear c1);(try clear p2);(try clear c5);(try clear c6);(try clear c6b0);(try clear c6b1);(try clear c8);(try clear c8b0);(try clear c8b1);(try clear c12);(try clear hcz10_0);(try clear hcz10_1);(try clear hcz10_2);(try clear hcz11_0);(try clear hcz11_1);(try clear hcz11_2);(try clear hcz7_0);(try clear hcz7_1);(try clear hcz7_2);(try clear hcz9_0);(try clear hcz9_1);(try clear hcz9_2);(try clear hfz10_0)
     (try clear hfz10_1);(try clear hfz10_2);(try clear hfz11_0);(try clear hfz11_1);(try clear hfz11_2);(try clear hfz7_0);(try clear hfz7_1);(try clear hfz7_2);(try clear hfz9_0);(try clear hfz9_1);(try clear hfz9_2);(try clear p2)
     obtain ⟨x3_2, rfl, HA, HK2, BK105, HB⟩ := hrel
     cases gk with
     | zero => exact absurd HA.out (by simp [spec_l03Is.l0])
     | succ k2 =>
      have H := HA.out
      clear HA
      simp only [spec_l03Is.l0] at H
      by_cases c13 : x3_2 < (l0_1.length : Int)
      rotate_left
      ·rw [if_neg c13] at H
       have c13b0 : decide (x3_2 < (l0_1.length : Int)) = false := decide_eq_false c13
       clear c13
       obtain rfl := Option.some.inj H
       have hcz26_0 := bc BK105 0
       have hcz26_1 := bc BK105 1
       have hcz26_2 := bc BK105 2
       have hfz26_0 := bf BK105 0
       have hfz26_1 := bf BK105 1
       have hfz26_2 := bf BK105 2
       go_wp2
       go_ret
       exact ⟨by first | rfl | (simp [errW_none, errW_some] <;> rfl) | (simp [*, errW_none, errW_some] <;> rfl), uH HB.out⟩

      rw [if_pos c13] at H
      have c13b0 : decide (x3_2 < (l0_1.length : Int)) = true := decide_eq_true c13
      clear c13
      by_cases c14 : 0 ≤ x3_2
      rotate_left
      ·rw [if_neg c14] at H
       exact absurd H (by simp)
      rw [if_pos c14] at H
      have c14b0 : decide (0 ≤ x3_2) = true := decide_eq_true c14
      clear c14
      replace H := Option.bind_eq_some_iff.mp H
      obtain ⟨t108, A150, H⟩ := H
      replace H : (if t108 = true then (if x3_2 < (l0_2.length : Int) then ((spec_l01In.f (rd l0_2 x3_2) 1 (wrap64 (a0_0 - 1))).bind fun t110 => (if t110 = true then (spec_l03Is.l0 k2 (wrap64 (x3_2 + 1)) a0_0 l0_1 l0_2) else (some false))) else (none)) else (some false)) = some r := H
      have A15 := zA A150
      clear A150
      by_cases c16 : t108 = true
      ·subst c16
       have H1 : (if x3_2 < (l0_2.length : Int) then ((spec_l01In.f (rd l0_2 x3_2) 1 (wrap64 (a0_0 - 1))).bind fun t110 => (if t110 = true then (spec_l03Is.l0 k2 (wrap64 (x3_2 + 1)) a0_0 l0_1 l0_2) else (some false))) else (none)) = some r := by rw [if_pos rfl] at H; exact H
       clear H
       have H := H1
       clear H1
       by_cases c17 : x3_2 < (l0_2.length : Int)
       rotate_left
       ·rw [if_neg c17] at H
        exact absurd H (by simp)
       rw [if_pos c17] at H
       have c17b0 : decide (x3_2 < (l0_2.length : Int)) = true := decide_eq_true c17
       clear c17
       replace H := Option.bind_eq_some_iff.mp H
       obtain ⟨t110, A180, H⟩ := H
       replace H : (if t110 = true then (spec_l03Is.l0 k2 (wrap64 (x3_2 + 1)) a0_0 l0_1 l0_2) else (some false)) = some r := H
       have A18 := zA A180
       clear A180
       by_cases c19 : t110 = true
       ·subst c19
        have H1 : (spec_l03Is.l0 k2 (wrap64 (x3_2 + 1)) a0_0 l0_1 l0_2) = some r := by rw [if_pos rfl] at H; exact H
        clear H
        have H := H1
        clear H1
        have H' := zA H
        clear H
        have hcz20_0 := bc BK105 0
        have hcz20_1 := bc BK105 1
        have hcz20_2 := bc BK105 2
        have hfz20_0 := bf BK105 0
        have hfz20_1 := bf BK105 1
        have hfz20_2 := bf BK105 2
        try go_wp2
        replace BK105 := zA (blk_drew BK105.out)
        replace HB := zA (below_drew1 HB.out)
        have p107 : 0 ≤ (x3_2 : Int) := of_decide_eq_true (by first | (with_reducible assumption) | assumption)
        have q107 : x3_2 < (l0_1.length : Int) := of_decide_eq_true (by first | (with_reducible assumption) | assumption)
        obtain ⟨ad107, e107, hx107_0⟩ := Kd.at_int HR0_1.out x3_2 p107 q107
        have hw107_0 := hx107_0
        cases e107
        replace hx107_0 := hc HB hx107_0
        replace p107 := eq_true p107
        replace q107 := eq_true q107
        have p109 : 0 ≤ (x3_2 : Int) := of_decide_eq_true (by first | (with_reducible assumption) | assumption)
        have q109 : x3_2 < (l0_2.length : Int) := of_decide_eq_true (by first | (with_reducible assumption) | assumption)
        obtain ⟨ad109, e109, hx109_0⟩ := Kd.at_int HR0_2.out x3_2 p109 q109
        have hw109_0 := hx109_0
        cases e109
        replace hx109_0 := hc HB hx109_0
        replace p109 := eq_true p109
        replace q109 := eq_true q109
        refine start_ (n := 22) (S := fun w' => w'.cell? ⟨gb105, 0, none⟩ = some (.int .i64 a0_0) ∧ w'.cell? ⟨gb105, 1, none⟩ = some (.slice (some ad107) l0_1.length c0_1) ∧ w'.cell? ⟨gb105, 2, none⟩ = some (.slice (some ad109) l0_2.length c0_2) ∧ w'.cell? (ad107.add (x3_2).toNat) = some (.int .i64 (rd l0_1 x3_2)) ∧ w'.cell? (ad109.add (x3_2).toNat) = some (.int .i64 (rd l0_2 x3_2))) (ds := []) #[false, false, false, false, false, false, false, false, false, false, false, false, false, false, false, false, false, false, false, false, false, false] (by kernel_rfl) rfl rfl ⟨bcu BK105 0, bcu BK105 1, bcu BK105 2, (hcu HB hw107_0), (hcu HB hw109_0)⟩ (fun hHeld => ?_); refine with_tabW spec_l03Is.tab6 spec_l03Is.bits6 (fun HT_ HW_ => ?_)
        generalize wr.drew = w21 at BK105 HB hx107_0 hx109_0 hHeld ⊢
        refine pu_ 0 36 (bl 22 1) HT_ ?_
        refine pu_ 2 38 (bl 22 5) HT_ ?_
        refine pu_ 5 41 (bl 22 37) HT_ ?_
        refine ta_ 1 37 (bl 22 39) HT_ HW_ hHeld ?_
        refine pu_ 3 39 (bl 22 47) HT_ ?_
        refine ta_ 4 40 (bl 22 63) HT_ HW_ hHeld ?_
        refine ta_ 6 42 (bl 22 127) HT_ HW_ hHeld ?_
        refine pu_ 7 43 (bl 22 255) HT_ ?_
        refine on_ 8 (some 44) (bl 22 511) HT_ (fun K hK => ?_)
        refine gS Try.func81 #[.int .i64 (rd l0_1 x3_2), .int .i64 0, .int .i64 (wrap64 (a0_0 - 1))] ?_
        with_reducible refine (spec_l01In.calls (rd l0_1 x3_2) 0 (wrap64 (a0_0 - 1)) true _ A15.out).mono ?_
        rintro e w' ⟨rfl, ⟨nd, rfl⟩⟩
        refine ⟨_, rfl, ?_⟩
        refine hK.out _ _ ⟨bcu BK105 0, bcu BK105 1, bcu BK105 2, (hcu HB hw107_0), (hcu HB hw109_0)⟩ (fun hHeld => ?_)
        clear hK K
        refine no_ 44 ?_
        refine pu_ 9 45 (bl 22 1023) HT_ ?_
        refine pu_ 10 46 (bl 22 2047) HT_ ?_
        refine pu_ 11 47 (bl 22 4095) HT_ ?_
        refine pu_ 13 49 (bl 22 12287) HT_ ?_
        refine pu_ 16 52 (bl 22 77823) HT_ ?_
        refine ta_ 12 48 (bl 22 81919) HT_ HW_ hHeld ?_
        refine pu_ 14 50 (bl 22 98303) HT_ ?_
        refine ta_ 15 51 (bl 22 131071) HT_ HW_ hHeld ?_
        refine ta_ 17 53 (bl 22 262143) HT_ HW_ hHeld ?_
        refine pu_ 18 54 (bl 22 524287) HT_ ?_
        refine on_ 19 (some 55) (bl 22 1048575) HT_ (fun K hK => ?_)
        refine gS Try.func81 #[.int .i64 (rd l0_2 x3_2), .int .i64 1, .int .i64 (wrap64 (a0_0 - 1))] ?_
        with_reducible refine (spec_l01In.calls (rd l0_2 x3_2) 1 (wrap64 (a0_0 - 1)) true _ A18.out).mono ?_
        rintro e w' ⟨rfl, ⟨nd, rfl⟩⟩
        refine ⟨_, rfl, ?_⟩
        refine hK.out _ _ ⟨bcu BK105 0, bcu BK105 1, bcu BK105 2, (hcu HB hw107_0), (hcu HB hw109_0)⟩ (fun hHeld => ?_)
        clear hK K
        refine no_ 55 ?_
        refine pu_ 20 56 (bl 22 2097151) HT_ ?_
        refine pu_ 21 57 (bl 22 4194303) HT_ ?_
        refine done_ (done_of HT_.out (by kernel_rfl)) ?_
        try go_wp2
        go_roundg k2
        case measure => have := HJ1.out; have := HK2.out; omega
        case rel => exact ⟨(wrap64 (x3_2 + 1)), (by first | rfl | (simp; done) | (simp [*]; done)), H', ⟨by have := HJ1.out; have := HK2.out; omega⟩, ⟨uB BK105.out⟩, ⟨uH HB.out⟩⟩
       ·replace c19 := Bool.eq_false_iff.mpr c19
        subst c19
        have H1 : (some false) = some r := by rw [if_neg (show ¬ (false = true) by decide)] at H; exact H
        clear H
        have H := H1
        clear H1
        obtain rfl := Option.some.inj H
        have hcz22_0 := bc BK105 0
        have hcz22_1 := bc BK105 1
        have hcz22_2 := bc BK105 2
        have hfz22_0 := bf BK105 0
        have hfz22_1 := bf BK105 1
        have hfz22_2 := bf BK105 2
        try go_wp2
        replace BK105 := zA (blk_drew BK105.out)
        replace HB := zA (below_drew1 HB.out)
        have p107 : 0 ≤ (x3_2 : Int) := of_decide_eq_true (by first | (with_reducible assumption) | assumption)
        have q107 : x3_2 < (l0_1.length : Int) := of_decide_eq_true (by first | (with_reducible assumption) | assumption)
        obtain ⟨ad107, e107, hx107_0⟩ := Kd.at_int HR0_1.out x3_2 p107 q107
        have hw107_0 := hx107_0
        cases e107
        replace hx107_0 := hc HB hx107_0
        replace p107 := eq_true p107
        replace q107 := eq_true q107
        have p109 : 0 ≤ (x3_2 : Int) := of_decide_eq_true (by first | (with_reducible assumption) | assumption)
        have q109 : x3_2 < (l0_2.length : Int) := of_decide_eq_true (by first | (with_reducible assumption) | assumption)
        obtain ⟨ad109, e109, hx109_0⟩ := Kd.at_int HR0_2.out x3_2 p109 q109
        have hw109_0 := hx109_0
        cases e109
        replace hx109_0 := hc HB hx109_0
        replace p109 := eq_true p109
        replace q109 := eq_true q109
        refine start_ (n := 22) (S := fun w' => w'.cell? ⟨gb105, 0, none⟩ = some (.int .i64 a0_0) ∧ w'.cell? ⟨gb105, 1, none⟩ = some (.slice (some ad107) l0_1.length c0_1) ∧ w'.cell? ⟨gb105, 2, none⟩ = some (.slice (some ad109) l0_2.length c0_2) ∧ w'.cell? (ad107.add (x3_2).toNat) = some (.int .i64 (rd l0_1 x3_2)) ∧ w'.cell? (ad109.add (x3_2).toNat) = some (.int .i64 (rd l0_2 x3_2))) (ds := []) #[false, false, false, false, false, false, false, false, false, false, false, false, false, false, false, false, false, false, false, false, false, false] (by kernel_rfl) rfl rfl ⟨bcu BK105 0, bcu BK105 1, bcu BK105 2, (hcu HB hw107_0), (hcu HB hw109_0)⟩ (fun hHeld => ?_); refine with_tabW spec_l03Is.tab6 spec_l03Is.bits6 (fun HT_ HW_ => ?_)
        generalize wr.drew = w23 at BK105 HB hx107_0 hx109_0 hHeld ⊢
        refine pu_ 0 36 (bl 22 1) HT_ ?_
        refine pu_ 2 38 (bl 22 5) HT_ ?_
        refine pu_ 5 41 (bl 22 37) HT_ ?_
        refine ta_ 1 37 (bl 22 39) HT_ HW_ hHeld ?_
        refine pu_ 3 39 (bl 22 47) HT_ ?_
        refine ta_ 4 40 (bl 22 63) HT_ HW_ hHeld ?_
        refine ta_ 6 42 (bl 22 127) HT_ HW_ hHeld ?_
        refine pu_ 7 43 (bl 22 255) HT_ ?_
        refine on_ 8 (some 44) (bl 22 511) HT_ (fun K hK => ?_)
        refine gS Try.func81 #[.int .i64 (rd l0_1 x3_2), .int .i64 0, .int .i64 (wrap64 (a0_0 - 1))] ?_
        with_reducible refine (spec_l01In.calls (rd l0_1 x3_2) 0 (wrap64 (a0_0 - 1)) true _ A15.out).mono ?_
        rintro e w' ⟨rfl, ⟨nd, rfl⟩⟩
        refine ⟨_, rfl, ?_⟩
        refine hK.out _ _ ⟨bcu BK105 0, bcu BK105 1, bcu BK105 2, (hcu HB hw107_0), (hcu HB hw109_0)⟩ (fun hHeld => ?_)
        clear hK K
        refine no_ 44 ?_
        refine pu_ 9 45 (bl 22 1023) HT_ ?_
        refine pu_ 10 46 (bl 22 2047) HT_ ?_
        refine pu_ 11 47 (bl 22 4095) HT_ ?_
        refine pu_ 13 49 (bl 22 12287) HT_ ?_
        refine pu_ 16 52 (bl 22 77823) HT_ ?_
        refine ta_ 12 48 (bl 22 81919) HT_ HW_ hHeld ?_
        refine pu_ 14 50 (bl 22 98303) HT_ ?_
        refine ta_ 15 51 (bl 22 131071) HT_ HW_ hHeld ?_
        refine ta_ 17 53 (bl 22 262143) HT_ HW_ hHeld ?_
        refine pu_ 18 54 (bl 22 524287) HT_ ?_
        refine on_ 19 (some 55) (bl 22 1048575) HT_ (fun K hK => ?_)
        refine gS Try.func81 #[.int .i64 (rd l0_2 x3_2), .int .i64 1, .int .i64 (wrap64 (a0_0 - 1))] ?_
        with_reducible refine (spec_l01In.calls (rd l0_2 x3_2) 1 (wrap64 (a0_0 - 1)) false _ A18.out).mono ?_
        rintro e w' ⟨rfl, ⟨nd, rfl⟩⟩
        refine ⟨_, rfl, ?_⟩
        refine hK.out _ _ ⟨bcu BK105 0, bcu BK105 1, bcu BK105 2, (hcu HB hw107_0), (hcu HB hw109_0)⟩ (fun hHeld => ?_)
        clear hK K
        refine no_ 55 ?_
        refine pu_ 20 56 (bl 22 2097151) HT_ ?_
        refine pu_ 21 57 (bl 22 4194303) HT_ ?_
        refine done_ (done_of HT_.out (by kernel_rfl)) ?_
        try go_wp2
        go_ret
        exact ⟨by first | rfl | (simp [errW_none, errW_some] <;> rfl) | (simp [*, errW_none, errW_some] <;> rfl), uH HB.out⟩
      ·replace c16 := Bool.eq_false_iff.mpr c16
       subst c16
       have H1 : (some false) = some r := by rw [if_neg (show ¬ (false = true) by decide)] at H; exact H
       clear H
       have H := H1
       clear H1
       obtain rfl := Option.some.inj H
       have hcz24_0 := bc BK105 0
       have hcz24_1 := bc BK105 1
       have hcz24_2 := bc BK105 2
       have hfz24_0 := bf BK105 0
       have hfz24_1 := bf BK105 1
       have hfz24_2 := bf BK105 2
       try go_wp2
       replace BK105 := zA (blk_drew BK105.out)
       replace HB := zA (below_drew1 HB.out)
       have p107 : 0 ≤ (x3_2 : Int) := of_decide_eq_true (by first | (with_reducible assumption) | assumption)
       have q107 : x3_2 < (l0_1.length : Int) := of_decide_eq_true (by first | (with_reducible assumption) | assumption)
       obtain ⟨ad107, e107, hx107_0⟩ := Kd.at_int HR0_1.out x3_2 p107 q107
       have hw107_0 := hx107_0
       cases e107
       replace hx107_0 := hc HB hx107_0
       replace p107 := eq_true p107
       replace q107 := eq_true q107
       refine start_ (n := 22) (S := fun w' => w'.cell? ⟨gb105, 0, none⟩ = some (.int .i64 a0_0) ∧ w'.cell? ⟨gb105, 1, none⟩ = some (.slice (some ad107) l0_1.length c0_1) ∧ w'.cell? ⟨gb105, 2, none⟩ = some (.slice A0_2 l0_2.length c0_2) ∧ w'.cell? (ad107.add (x3_2).toNat) = some (.int .i64 (rd l0_1 x3_2))) (ds := []) #[false, false, false, false, false, false, false, false, false, false, false, false, false, false, false, false, false, false, false, false, false, false] (by kernel_rfl) rfl rfl ⟨bcu BK105 0, bcu BK105 1, bcu BK105 2, (hcu HB hw107_0)⟩ (fun hHeld => ?_); refine with_tabW spec_l03Is.tab6 spec_l03Is.bits6 (fun HT_ HW_ => ?_)
       generalize wr.drew = w25 at BK105 HB hx107_0 hHeld ⊢
       refine pu_ 0 36 (bl 22 1) HT_ ?_
       refine pu_ 2 38 (bl 22 5) HT_ ?_
       refine pu_ 5 41 (bl 22 37) HT_ ?_
       refine ta_ 1 37 (bl 22 39) HT_ HW_ hHeld ?_
       refine pu_ 3 39 (bl 22 47) HT_ ?_
       refine ta_ 4 40 (bl 22 63) HT_ HW_ hHeld ?_
       refine ta_ 6 42 (bl 22 127) HT_ HW_ hHeld ?_
       refine pu_ 7 43 (bl 22 255) HT_ ?_
       refine on_ 8 (some 44) (bl 22 511) HT_ (fun K hK => ?_)
       refine gS Try.func81 #[.int .i64 (rd l0_1 x3_2), .int .i64 0, .int .i64 (wrap64 (a0_0 - 1))] ?_
       with_reducible refine (spec_l01In.calls (rd l0_1 x3_2) 0 (wrap64 (a0_0 - 1)) false _ A15.out).mono ?_
       rintro e w' ⟨rfl, ⟨nd, rfl⟩⟩
       refine ⟨_, rfl, ?_⟩
       refine hK.out _ _ ⟨bcu BK105 0, bcu BK105 1, bcu BK105 2, (hcu HB hw107_0)⟩ (fun hHeld => ?_)
       clear hK K
       refine no_ 44 ?_
       refine pu_ 9 45 (bl 22 1023) HT_ ?_
       refine pu_ 10 46 (bl 22 2047) HT_ ?_
       refine un_ 11 47 (bl 22 4095) HT_ ?_
       refine un_ 12 48 (bl 22 8191) HT_ ?_
       refine un_ 13 49 (bl 22 16383) HT_ ?_
       refine un_ 14 50 (bl 22 32767) HT_ ?_
       refine un_ 15 51 (bl 22 65535) HT_ ?_
       refine un_ 16 52 (bl 22 131071) HT_ ?_
       refine un_ 17 53 (bl 22 262143) HT_ ?_
       refine un_ 18 54 (bl 22 524287) HT_ ?_
       refine un_ 19 55 (bl 22 1048575) HT_ ?_
       refine un_ 20 56 (bl 22 2097151) HT_ ?_
       refine pu_ 21 57 (bl 22 4194303) HT_ ?_
       refine done_ (done_of HT_.out (by kernel_rfl)) ?_
       try go_wp2
       go_ret
       exact ⟨by first | rfl | (simp [errW_none, errW_some] <;> rfl) | (simp [*, errW_none, errW_some] <;> rfl), uH HB.out⟩
/-! ### spec_l03Code: function 46 -/
def spec_l03Code.f (k : Nat) (a0_0 : Int) (l0_1 : List Int) (l0_2 : List Int) (a1 : Int) (a2 : Int) (a3 : Int) : Option (Int) := (spec_l03Is.f k a0_0 l0_1 l0_2).bind fun t112 => (if t112 = true then ((spec_l01In.f a1 a2 a3).bind fun t113 => (if t113 = true then (some 0) else (some 2))) else (some 1))
theorem spec_l03Code.mono : ∀ a0 a1 a2 a3 a4 a5 k, LeO (spec_l03Code.f k a0 a1 a2 a3 a4 a5) (spec_l03Code.f (k + 1) a0 a1 a2 a3 a4 a5) := by
 intro a0 a1 a2 a3 a4 a5 k
 unfold spec_l03Code.f
 repeat' first
   | (with_reducible exact spec_l03Is.mono _ _ _ _)
   | (with_reducible exact LeO.refl _)
   | (with_reducible exact LeO.none _)
   | (with_reducible refine LeO.ite ?_ ?_)
   | (with_reducible refine LeO.bind ?_ (fun _ => ?_))
   | exact spec_l03Is.mono _ _ _ _
   | exact LeO.none _
   | refine LeO.ite ?_ ?_
   | refine LeO.bind ?_ (fun _ => ?_)
set_option maxHeartbeats 8000000 in
set_option maxRecDepth 100000 in
theorem spec_l03Code.calls (k : Nat) (a0_0 : Int) (A0_1 : Option Addr) (c0_1 : Nat) (l0_1 : List Int) (A0_2 : Option Addr) (c0_2 : Nat) (l0_2 : List Int) (a1 : Int) (a2 : Int) (a3 : Int) (r : Int) (w : World) (hr0_1 : Kd.C (Kd.int .i64) w A0_1 l0_1.length l0_1) (hc0_1 : l0_1.length ≤ c0_1) (hr0_2 : Kd.C (Kd.int .i64) w A0_2 l0_2.length l0_2) (hc0_2 : l0_2.length ≤ c0_2) (h : spec_l03Code.f k a0_0 l0_1 l0_2 a1 a2 a3 = some r) :
  Calls Try.prog 46 #[.agg #[.int .i64 a0_0, .slice A0_1 l0_1.length c0_1, .slice A0_2 l0_2.length c0_2], .int .i64 a1, .int .i64 a2, .int .i64 a3] w fun e w' => e = .returned (.int .i64 r) ∧ Below w.heap.size w w' := by
 have hu28 := Try.underlying28
 have HR0_1 := zA hr0_1
 have HC0_1 := zA hc0_1
 clear hr0_1 hc0_1
 have HR0_2 := zA hr0_2
 have HC0_2 := zA hc0_2
 clear hr0_2 hc0_2
 have HB := zA (Below.refl w.heap.size w)
 have H : ((spec_l03Is.f k a0_0 l0_1 l0_2).bind fun t112 => (if t112 = true then ((spec_l01In.f a1 a2 a3).bind fun t113 => (if t113 = true then (some 0) else (some 2))) else (some 1))) = some r := h
 clear h
 replace H := Option.bind_eq_some_iff.mp H
 obtain ⟨t112, A50, H⟩ := H
 replace H : (if t112 = true then ((spec_l01In.f a1 a2 a3).bind fun t113 => (if t113 = true then (some 0) else (some 2))) else (some 1)) = some r := H
 have A5 := zA A50
 clear A50
 by_cases c6 : t112 = true
 ·subst c6
  have H1 : ((spec_l01In.f a1 a2 a3).bind fun t113 => (if t113 = true then (some 0) else (some 2))) = some r := by rw [if_pos rfl] at H; exact H
  clear H
  have H := H1
  clear H1
  replace H := Option.bind_eq_some_iff.mp H
  obtain ⟨t113, A70, H⟩ := H
  replace H : (if t113 = true then (some 0) else (some 2)) = some r := H
  have A7 := zA A70
  clear A70
  by_cases c8 : t113 = true
  ·subst c8
   have H1 : (some 0) = some r := by rw [if_pos rfl] at H; exact H
   clear H
   have H := H1
   clear H1
   obtain rfl := Option.some.inj H
   go_enter Try.func46, Try.ntmps46
   go_wp2_with (first | ((with_reducible refine gate_dst (N := 4) rfl ?_); refine bx 4 #[.int .i64 a0_0, .slice A0_1 l0_1.length c0_1, .slice A0_2 l0_2.length c0_2] 28 ?_; intro gb111 hg w9 hbox hb; have BK111 := zA (hbox); have GW111 := gq HB hg; have GE111 := gq HB hg; replace HB := xH HB hb; have := geI GE111; clear hb hbox hg; have hcz10_0 := bc BK111 0; have hcz10_1 := bc BK111 1; have hcz10_2 := bc BK111 2; have hfz10_0 := bf BK111 0; have hfz10_1 := bf BK111 1; have hfz10_2 := bf BK111 2) | ((with_reducible refine gate_callee (f := 54) rfl ?_); refine gL (some 11) Try.func54 #[.agg #[.int .i64 a0_0, .slice A0_1 l0_1.length c0_1, .slice A0_2 l0_2.length c0_2]] ?_; (with_reducible refine (spec_l03Is.calls k a0_0 _ _ l0_1 _ _ l0_2 true _ ?side1 ?side2 ?side3 ?side4 A5.out).mono ?_); (case side1 => exact uC ((Kd.C_below HR0_1.out HB.out))); (case side2 => exact HC0_1.out); (case side3 => exact uC ((Kd.C_below HR0_2.out HB.out))); (case side4 => exact HC0_2.out); rintro e w11 ⟨rfl, hb⟩; refine ⟨_, rfl, ?_⟩; replace BK111 := xB BK111 hb; replace HB := xH HB hb; (try clear hb); (try clear hb2); (try clear hk); (try clear hi)) | ((with_reducible refine gate_callee (f := 81) rfl ?_); refine gL (some 17) Try.func81 #[.int .i64 a1, .int .i64 a2, .int .i64 a3] ?_; (with_reducible refine (spec_l01In.calls a1 a2 a3 true _ A7.out).mono ?_); rintro e w' ⟨rfl, ⟨nd, rfl⟩⟩; refine ⟨_, rfl, ?_⟩))
   go_ret
   exact ⟨by first | rfl | (simp [errW_none, errW_some] <;> rfl) | (simp [*, errW_none, errW_some] <;> rfl), uH HB.out⟩
  ·replace c8 := Bool.eq_false_iff.mpr c8
   subst c8
   have H1 : (some 2) = some r := by rw [if_neg (show ¬ (false = true) by decide)] at H; exact H
   clear H
   have H := H1
   clear H1
   obtain rfl := Option.some.inj H
   go_enter Try.func46, Try.ntmps46
   go_wp2_with (first | ((with_reducible refine gate_dst (N := 4) rfl ?_); refine bx 4 #[.int .i64 a0_0, .slice A0_1 l0_1.length c0_1, .slice A0_2 l0_2.length c0_2] 28 ?_; intro gb111 hg w12 hbox hb; have BK111 := zA (hbox); have GW111 := gq HB hg; have GE111 := gq HB hg; replace HB := xH HB hb; have := geI GE111; clear hb hbox hg; have hcz13_0 := bc BK111 0; have hcz13_1 := bc BK111 1; have hcz13_2 := bc BK111 2; have hfz13_0 := bf BK111 0; have hfz13_1 := bf BK111 1; have hfz13_2 := bf BK111 2) | ((with_reducible refine gate_callee (f := 54) rfl ?_); refine gL (some 11) Try.func54 #[.agg #[.int .i64 a0_0, .slice A0_1 l0_1.length c0_1, .slice A0_2 l0_2.length c0_2]] ?_; (with_reducible refine (spec_l03Is.calls k a0_0 _ _ l0_1 _ _ l0_2 true _ ?side1 ?side2 ?side3 ?side4 A5.out).mono ?_); (case side1 => exact uC ((Kd.C_below HR0_1.out HB.out))); (case side2 => exact HC0_1.out); (case side3 => exact uC ((Kd.C_below HR0_2.out HB.out))); (case side4 => exact HC0_2.out); rintro e w14 ⟨rfl, hb⟩; refine ⟨_, rfl, ?_⟩; replace BK111 := xB BK111 hb; replace HB := xH HB hb; (try clear hb); (try clear hb2); (try clear hk); (try clear hi)) | ((with_reducible refine gate_callee (f := 81) rfl ?_); refine gL (some 17) Try.func81 #[.int .i64 a1, .int .i64 a2, .int .i64 a3] ?_; (with_reducible refine (spec_l01In.calls a1 a2 a3 false _ A7.out).mono ?_); rintro e w' ⟨rfl, ⟨nd, rfl⟩⟩; refine ⟨_, rfl, ?_⟩))
   go_ret
   exact ⟨by first | rfl | (simp [errW_none, errW_some] <;> rfl) | (simp [*, errW_none, errW_some] <;> rfl), uH HB.out⟩
 ·replace c6 := Bool.eq_false_iff.mpr c6
  subst c6
  have H1 : (some 1) = some r := by rw [if_neg (show ¬ (false = true) by decide)] at H; exact H
  clear H
  have H := H1
  clear H1
  obtain rfl := Option.some.inj H
  go_enter Try.func46, Try.ntmps46
  go_wp2_with (first | ((with_reducible refine gate_dst (N := 4) rfl ?_); refine bx 4 #[.int .i64 a0_0, .slice A0_1 l0_1.length c0_1, .slice A0_2 l0_2.length c0_2] 28 ?_; intro gb111 hg w15 hbox hb; have BK111 := zA (hbox); have GW111 := gq HB hg; have GE111 := gq HB hg; replace HB := xH HB hb; have := geI GE111; clear hb hbox hg; have hcz16_0 := bc BK111 0; have hcz16_1 := bc BK111 1; have hcz16_2 := bc BK111 2; have hfz16_0 := bf BK111 0; have hfz16_1 := bf BK111 1; have hfz16_2 := bf BK111 2) | ((with_reducible refine gate_callee (f := 54) rfl ?_); refine gL (some 11) Try.func54 #[.agg #[.int .i64 a0_0, .slice A0_1 l0_1.length c0_1, .slice A0_2 l0_2.length c0_2]] ?_; (with_reducible refine (spec_l03Is.calls k a0_0 _ _ l0_1 _ _ l0_2 false _ ?side1 ?side2 ?side3 ?side4 A5.out).mono ?_); (case side1 => exact uC ((Kd.C_below HR0_1.out HB.out))); (case side2 => exact HC0_1.out); (case side3 => exact uC ((Kd.C_below HR0_2.out HB.out))); (case side4 => exact HC0_2.out); rintro e w17 ⟨rfl, hb⟩; refine ⟨_, rfl, ?_⟩; replace BK111 := xB BK111 hb; replace HB := xH HB hb; (try clear hb); (try clear hb2); (try clear hk); (try clear hi)))
  go_ret
  exact ⟨by first | rfl | (simp [errW_none, errW_some] <;> rfl) | (simp [*, errW_none, errW_some] <;> rfl), uH HB.out⟩
/-! ### spec_l03Step: function 82 -/
def spec_l03Step.f (k : Nat) (a0 : Int) (l1 : List Int) (l2 : List Int) (a3 : Int) (a4 : Int) : Option (List Int) := (spec_l01Mod.f a0 (wrap64 (-a3))).bind fun t154 => ((spec_l01Times.f k a0 (([t154, 1] : List Int)) l1).bind fun t158 => ((spec_l01Mod.f a0 (wrap64 (-a4))).bind fun t161 => ((spec_l01Add.f k a0 t158 l2 t161).bind fun t162 => (some t162))))
theorem spec_l03Step.mono : ∀ a0 a1 a2 a3 a4 k, LeO (spec_l03Step.f k a0 a1 a2 a3 a4) (spec_l03Step.f (k + 1) a0 a1 a2 a3 a4) := by
 intro a0 a1 a2 a3 a4 k
 unfold spec_l03Step.f
 repeat' first
   | (with_reducible exact spec_l01Add.mono _ _ _ _ _)
   | (with_reducible exact spec_l01Times.mono _ _ _ _)
   | (with_reducible exact LeO.refl _)
   | (with_reducible exact LeO.none _)
   | (with_reducible refine LeO.ite ?_ ?_)
   | (with_reducible refine LeO.bind ?_ (fun _ => ?_))
   | exact spec_l01Add.mono _ _ _ _ _
   | exact spec_l01Times.mono _ _ _ _
   | exact LeO.none _
   | refine LeO.ite ?_ ?_
   | refine LeO.bind ?_ (fun _ => ?_)
set_option maxHeartbeats 8000000 in
set_option maxRecDepth 100000 in
theorem spec_l03Step.calls (k : Nat) (a0 : Int) (A1 : Option Addr) (c1 : Nat) (l1 : List Int) (A2 : Option Addr) (c2 : Nat) (l2 : List Int) (a3 : Int) (a4 : Int) (r : List Int) (w : World) (hr1 : Kd.C (Kd.int .i64) w A1 l1.length l1) (hc1 : l1.length ≤ c1) (hr2 : Kd.C (Kd.int .i64) w A2 l2.length l2) (hc2 : l2.length ≤ c2) (h : spec_l03Step.f k a0 l1 l2 a3 a4 = some r) :
  Calls Try.prog 82 #[.int .i64 a0, .slice A1 l1.length c1, .slice A2 l2.length c2, .int .i64 a3, .int .i64 a4] w fun e w' => ∃ v0_ : Value, e = .returned (v0_) ∧ Kd.R (Kd.int .i64) 2 w' w.heap.size (fun _ => True) v0_ r ∧ Below w.heap.size w w' := by
 have HR1 := zA hr1
 have HC1 := zA hc1
 clear hr1 hc1
 have HR2 := zA hr2
 have HC2 := zA hc2
 clear hr2 hc2
 have HB := zA (Below.refl w.heap.size w)
 have H : ((spec_l01Mod.f a0 (wrap64 (-a3))).bind fun t154 => ((spec_l01Times.f k a0 (([t154, 1] : List Int)) l1).bind fun t158 => ((spec_l01Mod.f a0 (wrap64 (-a4))).bind fun t161 => ((spec_l01Add.f k a0 t158 l2 t161).bind fun t162 => (some t162))))) = some r := h
 clear h
 replace H := Option.bind_eq_some_iff.mp H
 obtain ⟨t154, A60, H⟩ := H
 replace H : ((spec_l01Times.f k a0 (([t154, 1] : List Int)) l1).bind fun t158 => ((spec_l01Mod.f a0 (wrap64 (-a4))).bind fun t161 => ((spec_l01Add.f k a0 t158 l2 t161).bind fun t162 => (some t162)))) = some r := H
 have A6 := zA A60
 clear A60
 obtain ⟨y155, hy155⟩ : ∃ y_ : List Int, y_ = (([t154, 1] : List Int)) := ⟨_, rfl⟩
 replace H : ((spec_l01Times.f k a0 y155 l1).bind fun t158 => ((spec_l01Mod.f a0 (wrap64 (-a4))).bind fun t161 => ((spec_l01Add.f k a0 t158 l2 t161).bind fun t162 => (some t162)))) = some r := by first | (rw [hy155]; exact H) | exact H
 have Ny155 := zA hy155
 clear hy155
 replace H := Option.bind_eq_some_iff.mp H
 obtain ⟨t158, A70, H⟩ := H
 replace H : ((spec_l01Mod.f a0 (wrap64 (-a4))).bind fun t161 => ((spec_l01Add.f k a0 t158 l2 t161).bind fun t162 => (some t162))) = some r := H
 have A7 := zA A70
 clear A70
 replace H := Option.bind_eq_some_iff.mp H
 obtain ⟨t161, A80, H⟩ := H
 replace H : ((spec_l01Add.f k a0 t158 l2 t161).bind fun t162 => (some t162)) = some r := H
 have A8 := zA A80
 clear A80
 replace H := Option.bind_eq_some_iff.mp H
 obtain ⟨t162, A90, H⟩ := H
 replace H : (some t162) = some r := H
 have A9 := zA A90
 clear A90
 obtain rfl := Option.some.inj H
 go_enter Try.func82, Try.ntmps82
 go_wp2_with (first | ((with_reducible refine gate_callee (f := 95) rfl ?_); refine gL (some 16) Try.func95 #[.int .i64 a0, .int .i64 (wrap64 (-a3))] ?_; (with_reducible refine (spec_l01Mod.calls a0 (wrap64 (-a3)) t154 _ A6.out).mono ?_); rintro e w' ⟨rfl, ⟨nd, rfl⟩⟩; refine ⟨_, rfl, ?_⟩) | ((with_reducible refine gate_dst (N := 17) rfl ?_); refine Kd.R_lit (Kd.int .i64) _ 2 ?hg (N := 17) ?hd (xs := ([t154, 1] : List Int)) (inner := [.int .i64 t154, .int .i64 1]) (ok := fun _ => True) (okp := fun _ => True) ?hr ?hp (fun _ hk => hk) trivial (Below.refl _ _) (Nat.le_refl _) (by simp) ?_; (case hd => rfl); (case hg => rfl); (case hr => first | (go_simp; done) | (go_simp; rfl)); (case hp => exact (Reps.one (show Kd.M (Kd.int .i64) _ _ _ t154 [.int .i64 t154] from rfl) (Reps.one (show Kd.M (Kd.int .i64) _ _ _ 1 [.int .i64 1] from rfl) (Reps.none _ _)))); intro v156 w10 ho11 hb hg_ hnew_; clear hg_ hnew_; (first | rw [← Ny155.out] at ho11 | (simp only [Int.reduceToNat] at ho11; rw [← Ny155.out] at ho11)); have HO157 := zA (Kd.R_lower ho11 (below_size (uH HB.out))); replace HB := xH HB hb; clear hb ho11; obtain ⟨Ao12, co12, eo12⟩ := Kd.R_slice HO157.out; subst eo12) | ((with_reducible refine gate_callee (f := 94) rfl ?_); refine gL (some 19) Try.func94 #[.int .i64 a0, .slice Ao12 y155.length co12, .slice A1 l1.length c1] ?_; (with_reducible refine (spec_l01Times.calls k a0 _ _ y155 _ _ l1 t158 _ ?side1 ?side2 ?side3 ?side4 A7.out).mono ?_); (case side1 => exact uC ((Kd.R_reads' HO157.out).2.2)); (case side2 => exact (Kd.R_reads' HO157.out).2.1); (case side3 => exact uC ((Kd.C_below HR1.out HB.out))); (case side4 => exact HC1.out); rintro e w13 ⟨v159, rfl, ho0, hb⟩; refine ⟨_, rfl, ?_⟩; have HO160 := zA (Kd.R_lower (Kd.R_new' ho0 (Kd.R_lt (uR HO157.out))) (below_size (uH HB.out))); replace HO157 := zA (Kd.R_elder' (uR HO157.out) (Kd.R_base ho0) hb); replace HB := xH HB hb; (try clear hb); (try clear hb2); (try clear hk); (try clear hi); (try clear ho0)) | ((with_reducible refine gate_callee (f := 95) rfl ?_); refine gL (some 24) Try.func95 #[.int .i64 a0, .int .i64 (wrap64 (-a4))] ?_; (with_reducible refine (spec_l01Mod.calls a0 (wrap64 (-a4)) t161 _ A8.out).mono ?_); rintro e w' ⟨rfl, ⟨nd, rfl⟩⟩; refine ⟨_, rfl, ?_⟩; obtain ⟨Ao14, co14, eo14⟩ := Kd.R_slice HO160.out; subst eo14) | ((with_reducible refine gate_callee (f := 106) rfl ?_); refine gL (some 25) Try.func106 #[.int .i64 a0, .slice Ao14 t158.length co14, .slice A2 l2.length c2, .int .i64 t161] ?_; (with_reducible refine (spec_l01Add.calls k a0 _ _ t158 _ _ l2 t161 t162 _ ?side1 ?side2 ?side3 ?side4 A9.out).mono ?_); (case side1 => exact uC ((Kd.R_reads' HO160.out).2.2)); (case side2 => exact (Kd.R_reads' HO160.out).2.1); (case side3 => repeat (first | exact (Kd.C_below HR2.out (uH HB.out)) | (with_reducible refine Kd.C_alloc ?_ _) | (with_reducible refine Kd.C_drewN ?_ _) | (with_reducible refine Kd.C_drew ?_))); (case side4 => exact HC2.out); rintro e w15 ⟨v163, rfl, ho0, hb⟩; refine ⟨_, rfl, ?_⟩; have HO164 := zA (Kd.R_lower (Kd.R_new' (Kd.R_new' ho0 (Kd.R_lt (uR HO157.out))) (Kd.R_lt (uR HO160.out))) (below_size (uH HB.out))); replace HO157 := zA (Kd.R_elder' (uR HO157.out) (Kd.R_base ho0) hb); replace HO160 := zA (Kd.R_elder' (uR HO160.out) (Kd.R_base ho0) hb); replace HB := xH HB hb; (try clear hb); (try clear hb2); (try clear hk); (try clear hi); (try clear ho0)))
 go_ret
 exact ⟨_, by first | rfl | (simp [errW_none, errW_some] <;> rfl) | (simp [*, errW_none, errW_some] <;> rfl), uR (Kd.R_mono HO164.out (fun _ hk => trivial)), uH HB.out⟩
/-! ### spec_l03Poly: function 47 -/
def spec_l03Poly.l0 : Nat → Int → List Int → List Int → Int → Int → List Int → List Int → Option (List Int)
 | 0, _, _, _, _, _, _, _ => none
 | k + 1, x1, x5, x6, x7, x166000, x166001, x166002 => if x7 < x1 then (if 0 ≤ x7 then (if x7 < (x166001.length : Int) then (if x7 < (x166002.length : Int) then ((spec_l03Step.f k x166000 x6 x5 (rd x166001 x7) (rd x166002 x7)).bind fun t174 => (spec_l03Poly.l0 k x1 x6 t174 (wrap64 (x7 + 1)) x166000 x166001 x166002)) else (none)) else (none)) else (none)) else (some x6)
def spec_l03Poly.f (k : Nat) (a0_0 : Int) (l0_1 : List Int) (l0_2 : List Int) (a1 : Int) : Option (List Int) := spec_l03Poly.l0 k a1 (([] : List Int)) (([1] : List Int)) 0 a0_0 l0_1 l0_2
theorem spec_l03Poly.mono_l : ∀ k, (∀ y0 y1 y2 y3 y4 y5 y6, LeO (spec_l03Poly.l0 k y0 y1 y2 y3 y4 y5 y6) (spec_l03Poly.l0 (k + 1) y0 y1 y2 y3 y4 y5 y6))
 | 0 => fun _ _ _ _ _ _ _ r h => by simp [spec_l03Poly.l0] at h
 | k + 1 => by
  have ih0 := spec_l03Poly.mono_l k
  ·intro y0 y1 y2 y3 y4 y5 y6
   unfold spec_l03Poly.l0
   repeat' first
   | (with_reducible exact ih0 _ _ _ _ _ _ _)
   | (with_reducible exact spec_l03Step.mono _ _ _ _ _ _)
   | (with_reducible exact LeO.refl _)
   | (with_reducible exact LeO.none _)
   | (with_reducible refine LeO.ite ?_ ?_)
   | (with_reducible refine LeO.bind ?_ (fun _ => ?_))
   | exact ih0 _ _ _ _ _ _ _
   | exact spec_l03Step.mono _ _ _ _ _ _
   | exact LeO.none _
   | refine LeO.ite ?_ ?_
   | refine LeO.bind ?_ (fun _ => ?_)
theorem spec_l03Poly.mono : ∀ a0 a1 a2 a3 k, LeO (spec_l03Poly.f k a0 a1 a2 a3) (spec_l03Poly.f (k + 1) a0 a1 a2 a3) := by
 intro a0 a1 a2 a3 k
 have ih0 := spec_l03Poly.mono_l k
 unfold spec_l03Poly.f
 repeat' first
   | (with_reducible exact ih0 _ _ _ _ _ _ _)
   | (with_reducible exact spec_l03Step.mono _ _ _ _ _ _)
   | (with_reducible exact LeO.refl _)
   | (with_reducible exact LeO.none _)
   | (with_reducible refine LeO.ite ?_ ?_)
   | (with_reducible refine LeO.bind ?_ (fun _ => ?_))
   | exact ih0 _ _ _ _ _ _ _
   | exact spec_l03Step.mono _ _ _ _ _ _
   | exact LeO.none _
   | refine LeO.ite ?_ ?_
   | refine LeO.bind ?_ (fun _ => ?_)
def spec_l03Poly.T5 : Bool × List (List Nat × List Nat) := (true, [([], []), ([0], [0]), ([], []), ([], []), ([], []), ([4], [4]), ([], []), ([5, 6], [5, 6]), ([7], [7]), ([], []), ([9], [9]), ([], []), ([10, 11], [10, 11]), ([12], [12]), ([1, 2, 3, 8, 13], [1, 2, 3, 8, 13]), ([14, 14, 0, 1, 2, 3, 4, 5, 6, 7, 8, 9, 10, 11, 12, 13, 14], [14])])
def spec_l03Poly.B5 : List Nat := [0, 1, 0, 0, 0, 16, 0, 112, 240, 0, 512, 0, 3584, 7680, 16383, 32767]
theorem spec_l03Poly.tab5 : rtab .any (opsOf Try.f47 5) = spec_l03Poly.T5 := by kernel_rfl
theorem spec_l03Poly.bits5 : waitsOk spec_l03Poly.T5.2 spec_l03Poly.B5 = true := by kernel_rfl
set_option maxHeartbeats 8000000 in
set_option maxRecDepth 100000 in
theorem spec_l03Poly.calls (k : Nat) (a0_0 : Int) (A0_1 : Option Addr) (c0_1 : Nat) (l0_1 : List Int) (A0_2 : Option Addr) (c0_2 : Nat) (l0_2 : List Int) (a1 : Int) (r : List Int) (w : World) (hr0_1 : Kd.C (Kd.int .i64) w A0_1 l0_1.length l0_1) (hc0_1 : l0_1.length ≤ c0_1) (hr0_2 : Kd.C (Kd.int .i64) w A0_2 l0_2.length l0_2) (hc0_2 : l0_2.length ≤ c0_2) (h : spec_l03Poly.f k a0_0 l0_1 l0_2 a1 = some r) :
  Calls Try.prog 47 #[.agg #[.int .i64 a0_0, .slice A0_1 l0_1.length c0_1, .slice A0_2 l0_2.length c0_2], .int .i64 a1] w fun e w' => ∃ v0_ : Value, e = .returned (v0_) ∧ Kd.R (Kd.int .i64) 2 w' w.heap.size (fun _ => True) v0_ r ∧ Below w.heap.size w w' := by
 have hu28 := Try.underlying28
 have HR0_1 := zA hr0_1
 have HC0_1 := zA hc0_1
 clear hr0_1 hc0_1
 have HR0_2 := zA hr0_2
 have HC0_2 := zA hc0_2
 clear hr0_2 hc0_2
 have HB := zA (Below.refl w.heap.size w)
 have H : (spec_l03Poly.l0 k a1 (([] : List Int)) (([1] : List Int)) 0 a0_0 l0_1 l0_2) = some r := h
 clear h
 obtain ⟨y166, hy166⟩ : ∃ y_ : List Int, y_ = (([] : List Int)) := ⟨_, rfl⟩
 replace H : (spec_l03Poly.l0 k a1 y166 (([1] : List Int)) 0 a0_0 l0_1 l0_2) = some r := by first | (rw [hy166]; exact H) | exact H
 have Ny166 := zA hy166
 clear hy166
 obtain ⟨y169, hy169⟩ : ∃ y_ : List Int, y_ = (([1] : List Int)) := ⟨_, rfl⟩
 replace H : (spec_l03Poly.l0 k a1 y166 y169 0 a0_0 l0_1 l0_2) = some r := by first | (rw [hy169]; exact H) | exact H
 have Ny169 := zA hy169
 clear hy169
 have H' := zA H
 clear H
 go_enter Try.func47, Try.ntmps47
 go_wp2_with (first | ((with_reducible refine gate_dst (N := 2) rfl ?_); refine bx 2 #[.int .i64 a0_0, .slice A0_1 l0_1.length c0_1, .slice A0_2 l0_2.length c0_2] 28 ?_; intro gb165 hg w3 hbox hb; have BK165 := zA (hbox); have GW165 := gq HB hg; have GE165 := gq HB hg; replace HB := xH HB hb; have := geI GE165; clear hb hbox hg) | ((with_reducible refine gate_dst (N := 9) rfl ?_); refine Kd.R_lit (Kd.int .i64) _ 2 ?hg (N := 9) ?hd (xs := ([] : List Int)) (inner := []) (ok := fun _ => True) (okp := fun _ => True) ?hr ?hp (fun _ hk => hk) trivial (Below.refl _ _) (Nat.le_refl _) (by simp) ?_; (case hd => rfl); (case hg => rfl); (case hr => first | (go_simp; done) | (go_simp; rfl)); (case hp => exact (Reps.none _ _)); intro v167 w4 ho5 hb hg_ hnew_; clear hg_ hnew_; (first | rw [← Ny166.out] at ho5 | (simp only [Int.reduceToNat] at ho5; rw [← Ny166.out] at ho5)); have HO168 := zA (Kd.R_lower ho5 (below_size (uH HB.out))); replace BK165 := xB BK165 hb; replace HB := xH HB hb; clear hb ho5) | ((with_reducible refine gate_dst (N := 10) rfl ?_); refine Kd.R_lit (Kd.int .i64) _ 2 ?hg (N := 10) ?hd (xs := ([1] : List Int)) (inner := [.int .i64 1]) (ok := fun _ => True) (okp := fun _ => True) ?hr ?hp (fun _ hk => hk) trivial (Below.refl _ _) (Nat.le_refl _) (by simp) ?_; (case hd => rfl); (case hg => rfl); (case hr => first | (go_simp; done) | (go_simp; rfl)); (case hp => exact (Reps.one (show Kd.M (Kd.int .i64) _ _ _ 1 [.int .i64 1] from rfl) (Reps.none _ _))); intro v170 w6 ho7 hb hg_ hnew_; clear hg_ hnew_; (first | rw [← Ny169.out] at ho7 | (simp only [Int.reduceToNat] at ho7; rw [← Ny169.out] at ho7)); have HO171 := zA (Kd.R_lower (Kd.R_new' ho7 (Kd.R_lt (uR HO168.out))) (below_size (uH HB.out))); replace HO168 := zA (Kd.R_elder' (uR HO168.out) (Kd.R_base ho7) hb); replace BK165 := xB BK165 hb; replace HB := xH HB hb; clear hb ho7))
 go_loopg [5, 6, 7] k (fun kq v5 v6 v7 w' => ∃ (x5_1 : List Int) (x6_1 : List Int) (x7_1 : Int), v7 = .int .i64 x7_1 ∧ Aside0 (spec_l03Poly.l0 kq a1 x5_1 x6_1 x7_1 a0_0 l0_1 l0_2 = some r) ∧ Aside0 (kq ≤ k) ∧ Aside0 (Kd.R (Kd.int .i64) 2 w' w.heap.size (fun k_ => some k_ ≠ (v6 : Value).ownBlock) v5 x5_1) ∧ Aside0 (Kd.R (Kd.int .i64) 2 w' w.heap.size (fun k_ => some k_ ≠ (v5 : Value).ownBlock) v6 x6_1) ∧ Aside0 (w'.heap[gb165]? = some (.cells #[.int .i64 a0_0, (.slice A0_1 l0_1.length c0_1), (.slice A0_2 l0_2.length c0_2)] 28 (0, 0))) ∧ Aside0 (Below w.heap.size w w'))
 case atStart => exact ⟨(y166), (y169), (0), (by first | rfl | (simp; done) | (simp [*]; done)), H', ⟨Nat.le_refl _⟩, ⟨uR (Kd.R_mono HO168.out (fun _ hk => hk.2))⟩, ⟨uR (Kd.R_mono HO171.out (fun _ hk => hk.2))⟩, ⟨uB BK165.out⟩, ⟨uH HB.out⟩⟩
 case round =>
  clear H'
  (try clear p2);(try clear c4)
  obtain ⟨x5_1, x6_1, x7_1, rfl, HA, HK1, HO_5, HO_6, BK165, HB⟩ := hrel
  cases gk with
  | zero => exact absurd HA.out (by simp [spec_l03Poly.l0])
  | succ k1 =>
   have H := HA.out
   clear HA
   simp only [spec_l03Poly.l0] at H
   by_cases c8 : x7_1 < a1
   rotate_left
   ·rw [if_neg c8] at H
    have c8b0 : decide (x7_1 < a1) = false := decide_eq_false c8
    clear c8
    obtain rfl := Option.some.inj H
    go_wp2
    go_ret
    exact ⟨_, by first | rfl | (simp [errW_none, errW_some] <;> rfl) | (simp [*, errW_none, errW_some] <;> rfl), uR (Kd.R_mono HO_6.out (fun _ hk => trivial)), uH HB.out⟩

   rw [if_pos c8] at H
   have c8b0 : decide (x7_1 < a1) = true := decide_eq_true c8
   clear c8
   by_cases c9 : 0 ≤ x7_1
   rotate_left
   ·rw [if_neg c9] at H
    exact absurd H (by simp)
   rw [if_pos c9] at H
   have c9b0 : decide (0 ≤ x7_1) = true := decide_eq_true c9
   clear c9
   by_cases c10 : x7_1 < (l0_1.length : Int)
   rotate_left
   ·rw [if_neg c10] at H
    exact absurd H (by simp)
   rw [if_pos c10] at H
   have c10b0 : decide (x7_1 < (l0_1.length : Int)) = true := decide_eq_true c10
   clear c10
   by_cases c11 : x7_1 < (l0_2.length : Int)
   rotate_left
   ·rw [if_neg c11] at H
    exact absurd H (by simp)
   rw [if_pos c11] at H
   have c11b0 : decide (x7_1 < (l0_2.length : Int)) = true := decide_eq_true c11
   clear c11
   replace H := Option.bind_eq_some_iff.mp H
   obtain ⟨t174, A120, H⟩ := H
   replace H : (spec_l03Poly.l0 k1 a1 x6_1 t174 (wrap64 (x7_1 + 1)) a0_0 l0_1 l0_2) = some r := H
   have A12 := zA A120
   clear A120
   have H' := zA H
   clear H
   try go_wp2
   replace HO_5 := zA (Kd.R_drew HO_5.out)
   replace HO_6 := zA (Kd.R_drew HO_6.out)
   replace BK165 := zA (blk_drew BK165.out)
   replace HB := zA (below_drew1 HB.out)
   have p172 : 0 ≤ (x7_1 : Int) := of_decide_eq_true (by first | (with_reducible assumption) | assumption)
   have q172 : x7_1 < (l0_1.length : Int) := of_decide_eq_true (by first | (with_reducible assumption) | assumption)
   obtain ⟨ad172, e172, hx172_0⟩ := Kd.at_int HR0_1.out x7_1 p172 q172
   have hw172_0 := hx172_0
   cases e172
   replace hx172_0 := hc HB hx172_0
   replace p172 := eq_true p172
   replace q172 := eq_true q172
   have p173 : 0 ≤ (x7_1 : Int) := of_decide_eq_true (by first | (with_reducible assumption) | assumption)
   have q173 : x7_1 < (l0_2.length : Int) := of_decide_eq_true (by first | (with_reducible assumption) | assumption)
   obtain ⟨ad173, e173, hx173_0⟩ := Kd.at_int HR0_2.out x7_1 p173 q173
   have hw173_0 := hx173_0
   cases e173
   replace hx173_0 := hc HB hx173_0
   replace p173 := eq_true p173
   replace q173 := eq_true q173
   obtain ⟨Ao14, co14, eo14⟩ := Kd.R_slice HO_6.out
   (first | subst eo14 | (injection eo14 with f1_ f2_ f3_; have f4_ := f1_.symm; have f5_ := f3_.symm; clear f1_ f2_ f3_; subst f4_; subst f5_))
   obtain ⟨Ao15, co15, eo15⟩ := Kd.R_slice HO_5.out
   (first | subst eo15 | (injection eo15 with f1_ f2_ f3_; have f4_ := f1_.symm; have f5_ := f3_.symm; clear f1_ f2_ f3_; subst f4_; subst f5_))
   refine start_ (n := 16) (S := fun w' => w'.cell? ⟨gb165, 0, none⟩ = some (.int .i64 a0_0) ∧ w'.cell? ⟨gb165, 1, none⟩ = some (.slice (some ad172) l0_1.length c0_1) ∧ w'.cell? ⟨gb165, 2, none⟩ = some (.slice (some ad173) l0_2.length c0_2) ∧ w'.cell? (ad172.add (x7_1).toNat) = some (.int .i64 (rd l0_1 x7_1)) ∧ w'.cell? (ad173.add (x7_1).toNat) = some (.int .i64 (rd l0_2 x7_1))) (ds := []) #[false, false, false, false, false, false, false, false, false, false, false, false, false, false, false, false] (by kernel_rfl) rfl rfl ⟨bcu BK165 0, bcu BK165 1, bcu BK165 2, (hcu HB hw172_0), (hcu HB hw173_0)⟩ (fun hHeld => ?_); refine with_tabW spec_l03Poly.tab5 spec_l03Poly.bits5 (fun HT_ HW_ => ?_)
   generalize wr.drew = w13 at HO_5 HO_6 BK165 HB hx172_0 hx173_0 hHeld ⊢
   refine pu_ 0 16 (bl 16 1) HT_ ?_
   refine pu_ 2 18 (bl 16 5) HT_ ?_
   refine pu_ 3 19 (bl 16 13) HT_ ?_
   refine pu_ 4 20 (bl 16 29) HT_ ?_
   refine pu_ 6 22 (bl 16 93) HT_ ?_
   refine pu_ 9 25 (bl 16 605) HT_ ?_
   refine pu_ 11 27 (bl 16 2653) HT_ ?_
   refine ta_ 1 17 (bl 16 2655) HT_ HW_ hHeld ?_
   refine ta_ 5 21 (bl 16 2687) HT_ HW_ hHeld ?_
   refine pu_ 7 23 (bl 16 2815) HT_ ?_
   refine ta_ 8 24 (bl 16 3071) HT_ HW_ hHeld ?_
   refine ta_ 10 26 (bl 16 4095) HT_ HW_ hHeld ?_
   refine pu_ 12 28 (bl 16 8191) HT_ ?_
   refine ta_ 13 29 (bl 16 16383) HT_ HW_ hHeld ?_
   refine on_ 14 (some 30) (bl 16 32767) HT_ (fun K hK => ?_)
   refine gS Try.func82 #[.int .i64 a0_0, .slice Ao14 x6_1.length co14, .slice Ao15 x5_1.length co15, .int .i64 (rd l0_1 x7_1), .int .i64 (rd l0_2 x7_1)] ?_
   with_reducible refine (spec_l03Step.calls k1 a0_0 _ _ x6_1 _ _ x5_1 (rd l0_1 x7_1) (rd l0_2 x7_1) t174 _ ?side1 ?side2 ?side3 ?side4 A12.out).mono ?_
   (case side1 => exact uC ((Kd.R_reads' HO_6.out).2.2))
   (case side2 => exact (Kd.R_reads' HO_6.out).2.1)
   (case side3 => exact uC ((Kd.R_reads' HO_5.out).2.2))
   (case side4 => exact (Kd.R_reads' HO_5.out).2.1)
   rintro e w16 ⟨v175, rfl, ho0, hb⟩
   refine ⟨_, rfl, ?_⟩
   have HO176 := zA (Kd.R_lower (Kd.R_new' (Kd.R_new' ho0 (Kd.R_lt (uR HO_5.out))) (Kd.R_lt (uR HO_6.out))) (below_size (uH HB.out)))
   replace HO_5 := zA (Kd.R_elder' (uR HO_5.out) (Kd.R_base ho0) hb)
   replace HO_6 := zA (Kd.R_elder' (uR HO_6.out) (Kd.R_base ho0) hb)
   replace BK165 := xB BK165 hb
   replace HB := xH HB hb
   (try clear hb); (try clear hb2); (try clear hk); (try clear hi); (try clear ho0)
   refine hK.out _ _ ⟨bcu BK165 0, bcu BK165 1, bcu BK165 2, (hcu HB hw172_0), (hcu HB hw173_0)⟩ (fun hHeld => ?_)
   clear hK K
   refine no_ 30 ?_
   refine pu_ 15 8 (bl 16 65535) HT_ ?_
   refine done_ (done_of HT_.out (by kernel_rfl)) ?_
   try go_wp2
   go_roundg k1
   case measure => have := HK1.out; omega
   case rel => exact ⟨(x6_1), (t174), (wrap64 (x7_1 + 1)), (by first | rfl | (simp; done) | (simp [*]; done)), H', ⟨by have := HK1.out; omega⟩, ⟨uR (Kd.R_mono HO_6.out (fun _ hk => hk.2))⟩, ⟨uR (Kd.R_mono HO176.out (fun _ hk => hk.2))⟩, ⟨uB BK165.out⟩, ⟨uH HB.out⟩⟩
/-! ### spec_l03Second: function 52 -/
def spec_l03Second.l0 : Nat → Int → List Int → List Int → Int → Int → List Int → List Int → Option (List Int)
 | 0, _, _, _, _, _, _, _ => none
 | k + 1, x1, x5, x6, x7, x349000, x349001, x349002 => if x7 < x1 then (if 0 ≤ x7 then (if x7 < (x349001.length : Int) then (if x7 < (x349002.length : Int) then ((spec_l03Step.f k x349000 x6 x5 (rd x349001 x7) (rd x349002 x7)).bind fun t360 => (spec_l03Second.l0 k x1 x6 t360 (wrap64 (x7 + 1)) x349000 x349001 x349002)) else (none)) else (none)) else (none)) else (some x6)
def spec_l03Second.f (k : Nat) (a0_0 : Int) (l0_1 : List Int) (l0_2 : List Int) (a1 : Int) : Option (List Int) := if a1 = 0 then (some (([] : List Int))) else (spec_l03Second.l0 k a1 (([] : List Int)) (([1] : List Int)) 1 a0_0 l0_1 l0_2)
theorem spec_l03Second.mono_l : ∀ k, (∀ y0 y1 y2 y3 y4 y5 y6, LeO (spec_l03Second.l0 k y0 y1 y2 y3 y4 y5 y6) (spec_l03Second.l0 (k + 1) y0 y1 y2 y3 y4 y5 y6))
 | 0 => fun _ _ _ _ _ _ _ r h => by simp [spec_l03Second.l0] at h
 | k + 1 => by
  have ih0 := spec_l03Second.mono_l k
  ·intro y0 y1 y2 y3 y4 y5 y6
   unfold spec_l03Second.l0
   repeat' first
   | (with_reducible exact ih0 _ _ _ _ _ _ _)
   | (with_reducible exact spec_l03Step.mono _ _ _ _ _ _)
   | (with_reducible exact LeO.refl _)
   | (with_reducible exact LeO.none _)
   | (with_reducible refine LeO.ite ?_ ?_)
   | (with_reducible refine LeO.bind ?_ (fun _ => ?_))
   | exact ih0 _ _ _ _ _ _ _
   | exact spec_l03Step.mono _ _ _ _ _ _
   | exact LeO.none _
   | refine LeO.ite ?_ ?_
   | refine LeO.bind ?_ (fun _ => ?_)
theorem spec_l03Second.mono : ∀ a0 a1 a2 a3 k, LeO (spec_l03Second.f k a0 a1 a2 a3) (spec_l03Second.f (k + 1) a0 a1 a2 a3) := by
 intro a0 a1 a2 a3 k
 have ih0 := spec_l03Second.mono_l k
 unfold spec_l03Second.f
 repeat' first
   | (with_reducible exact ih0 _ _ _ _ _ _ _)
   | (with_reducible exact spec_l03Step.mono _ _ _ _ _ _)
   | (with_reducible exact LeO.refl _)
   | (with_reducible exact LeO.none _)
   | (with_reducible refine LeO.ite ?_ ?_)
   | (with_reducible refine LeO.bind ?_ (fun _ => ?_))
   | exact ih0 _ _ _ _ _ _ _
   | exact spec_l03Step.mono _ _ _ _ _ _
   | exact LeO.none _
   | refine LeO.ite ?_ ?_
   | refine LeO.bind ?_ (fun _ => ?_)
def spec_l03Second.T7 : Bool × List (List Nat × List Nat) := (true, [([], []), ([0], [0]), ([], []), ([], []), ([], []), ([4], [4]), ([], []), ([5, 6], [5, 6]), ([7], [7]), ([], []), ([9], [9]), ([], []), ([10, 11], [10, 11]), ([12], [12]), ([1, 2, 3, 8, 13], [1, 2, 3, 8, 13]), ([14, 14, 0, 1, 2, 3, 4, 5, 6, 7, 8, 9, 10, 11, 12, 13, 14], [14])])
def spec_l03Second.B7 : List Nat := [0, 1, 0, 0, 0, 16, 0, 112, 240, 0, 512, 0, 3584, 7680, 16383, 32767]
theorem spec_l03Second.tab7 : rtab .any (opsOf Try.f52 7) = spec_l03Second.T7 := by kernel_rfl
theorem spec_l03Second.bits7 : waitsOk spec_l03Second.T7.2 spec_l03Second.B7 = true := by kernel_rfl
set_option maxHeartbeats 8000000 in
set_option maxRecDepth 100000 in
theorem spec_l03Second.calls (k : Nat) (a0_0 : Int) (A0_1 : Option Addr) (c0_1 : Nat) (l0_1 : List Int) (A0_2 : Option Addr) (c0_2 : Nat) (l0_2 : List Int) (a1 : Int) (r : List Int) (w : World) (hr0_1 : Kd.C (Kd.int .i64) w A0_1 l0_1.length l0_1) (hc0_1 : l0_1.length ≤ c0_1) (hr0_2 : Kd.C (Kd.int .i64) w A0_2 l0_2.length l0_2) (hc0_2 : l0_2.length ≤ c0_2) (h : spec_l03Second.f k a0_0 l0_1 l0_2 a1 = some r) :
  Calls Try.prog 52 #[.agg #[.int .i64 a0_0, .slice A0_1 l0_1.length c0_1, .slice A0_2 l0_2.length c0_2], .int .i64 a1] w fun e w' => ∃ v0_ : Value, e = .returned (v0_) ∧ Kd.R (Kd.int .i64) 2 w' w.heap.size (fun _ => True) v0_ r ∧ Below w.heap.size w w' := by
 have hu28 := Try.underlying28
 have HR0_1 := zA hr0_1
 have HC0_1 := zA hc0_1
 clear hr0_1 hc0_1
 have HR0_2 := zA hr0_2
 have HC0_2 := zA hc0_2
 clear hr0_2 hc0_2
 have HB := zA (Below.refl w.heap.size w)
 have H : (if a1 = 0 then (some (([] : List Int))) else (spec_l03Second.l0 k a1 (([] : List Int)) (([1] : List Int)) 1 a0_0 l0_1 l0_2)) = some r := h
 clear h
 by_cases c3 : a1 = 0
 rotate_left
 ·rw [if_neg c3] at H
  have c3b0 : (a1 == 0) = false := beq_eq_false_iff_ne.mpr c3
  have c3b1 : (a1 != 0) = true := bne_iff_ne.mpr c3
  obtain ⟨y352, hy352⟩ : ∃ y_ : List Int, y_ = (([] : List Int)) := ⟨_, rfl⟩
  replace H : (spec_l03Second.l0 k a1 y352 (([1] : List Int)) 1 a0_0 l0_1 l0_2) = some r := by first | (rw [hy352]; exact H) | exact H
  have Ny352 := zA hy352
  clear hy352
  obtain ⟨y355, hy355⟩ : ∃ y_ : List Int, y_ = (([1] : List Int)) := ⟨_, rfl⟩
  replace H : (spec_l03Second.l0 k a1 y352 y355 1 a0_0 l0_1 l0_2) = some r := by first | (rw [hy355]; exact H) | exact H
  have Ny355 := zA hy355
  clear hy355
  have H' := zA H
  clear H
  go_enter Try.func52, Try.ntmps52
  go_wp2_with (first | ((with_reducible refine gate_dst (N := 2) rfl ?_); refine bx 2 #[.int .i64 a0_0, .slice A0_1 l0_1.length c0_1, .slice A0_2 l0_2.length c0_2] 28 ?_; intro gb348 hg w7 hbox hb; have BK348 := zA (hbox); have GW348 := gq HB hg; have GE348 := gq HB hg; replace HB := xH HB hb; have := geI GE348; clear hb hbox hg) | ((with_reducible refine gate_dst (N := 12) rfl ?_); refine Kd.R_lit (Kd.int .i64) _ 2 ?hg (N := 12) ?hd (xs := ([] : List Int)) (inner := []) (ok := fun _ => True) (okp := fun _ => True) ?hr ?hp (fun _ hk => hk) trivial (Below.refl _ _) (Nat.le_refl _) (by simp) ?_; (case hd => rfl); (case hg => rfl); (case hr => first | (go_simp; done) | (go_simp; rfl)); (case hp => exact (Reps.none _ _)); intro v353 w8 ho9 hb hg_ hnew_; clear hg_ hnew_; (first | rw [← Ny352.out] at ho9 | (simp only [Int.reduceToNat] at ho9; rw [← Ny352.out] at ho9)); have HO354 := zA (Kd.R_lower ho9 (below_size (uH HB.out))); replace BK348 := xB BK348 hb; replace HB := xH HB hb; clear hb ho9) | ((with_reducible refine gate_dst (N := 13) rfl ?_); refine Kd.R_lit (Kd.int .i64) _ 2 ?hg (N := 13) ?hd (xs := ([1] : List Int)) (inner := [.int .i64 1]) (ok := fun _ => True) (okp := fun _ => True) ?hr ?hp (fun _ hk => hk) trivial (Below.refl _ _) (Nat.le_refl _) (by simp) ?_; (case hd => rfl); (case hg => rfl); (case hr => first | (go_simp; done) | (go_simp; rfl)); (case hp => exact (Reps.one (show Kd.M (Kd.int .i64) _ _ _ 1 [.int .i64 1] from rfl) (Reps.none _ _))); intro v356 w10 ho11 hb hg_ hnew_; clear hg_ hnew_; (first | rw [← Ny355.out] at ho11 | (simp only [Int.reduceToNat] at ho11; rw [← Ny355.out] at ho11)); have HO357 := zA (Kd.R_lower (Kd.R_new' ho11 (Kd.R_lt (uR HO354.out))) (below_size (uH HB.out))); replace HO354 := zA (Kd.R_elder' (uR HO354.out) (Kd.R_base ho11) hb); replace BK348 := xB BK348 hb; replace HB := xH HB hb; clear hb ho11))
  go_loopg [5, 6, 7] k (fun kq v5 v6 v7 w' => ∃ (x5_1 : List Int) (x6_1 : List Int) (x7_1 : Int), v7 = .int .i64 x7_1 ∧ Aside0 (spec_l03Second.l0 kq a1 x5_1 x6_1 x7_1 a0_0 l0_1 l0_2 = some r) ∧ Aside0 (kq ≤ k) ∧ Aside0 (Kd.R (Kd.int .i64) 2 w' w.heap.size (fun k_ => some k_ ≠ (v6 : Value).ownBlock) v5 x5_1) ∧ Aside0 (Kd.R (Kd.int .i64) 2 w' w.heap.size (fun k_ => some k_ ≠ (v5 : Value).ownBlock) v6 x6_1) ∧ Aside0 (w'.heap[gb348]? = some (.cells #[.int .i64 a0_0, (.slice A0_1 l0_1.length c0_1), (.slice A0_2 l0_2.length c0_2)] 28 (0, 0))) ∧ Aside0 (Below w.heap.size w w'))
  case atStart => exact ⟨(y352), (y355), (1), (by first | rfl | (simp; done) | (simp [*]; done)), H', ⟨Nat.le_refl _⟩, ⟨uR (Kd.R_mono HO354.out (fun _ hk => hk.2))⟩, ⟨uR (Kd.R_mono HO357.out (fun _ hk => hk.2))⟩, ⟨uB BK348.out⟩, ⟨uH HB.out⟩⟩
  case round =>
   clear H'
   (try clear p2);(try clear c3);(try clear c3b0);(try clear c3b1);(try clear c5)
   obtain ⟨x5_1, x6_1, x7_1, rfl, HA, HK1, HO_5, HO_6, BK348, HB⟩ := hrel
   cases gk with
   | zero => exact absurd HA.out (by simp [spec_l03Second.l0])
   | succ k1 =>
    have H := HA.out
    clear HA
    simp only [spec_l03Second.l0] at H
    by_cases c12 : x7_1 < a1
    rotate_left
    ·rw [if_neg c12] at H
     have c12b0 : decide (x7_1 < a1) = false := decide_eq_false c12
     clear c12
     obtain rfl := Option.some.inj H
     go_wp2
     go_ret
     exact ⟨_, by first | rfl | (simp [errW_none, errW_some] <;> rfl) | (simp [*, errW_none, errW_some] <;> rfl), uR (Kd.R_mono HO_6.out (fun _ hk => trivial)), uH HB.out⟩

    rw [if_pos c12] at H
    have c12b0 : decide (x7_1 < a1) = true := decide_eq_true c12
    clear c12
    by_cases c13 : 0 ≤ x7_1
    rotate_left
    ·rw [if_neg c13] at H
     exact absurd H (by simp)
    rw [if_pos c13] at H
    have c13b0 : decide (0 ≤ x7_1) = true := decide_eq_true c13
    clear c13
    by_cases c14 : x7_1 < (l0_1.length : Int)
    rotate_left
    ·rw [if_neg c14] at H
     exact absurd H (by simp)
    rw [if_pos c14] at H
    have c14b0 : decide (x7_1 < (l0_1.length : Int)) = true := decide_eq_true c14
    clear c14
    by_cases c15 : x7_1 < (l0_2.length : Int)
    rotate_left
    ·rw [if_neg c15] at H
     exact absurd H (by simp)
    rw [if_pos c15] at H
    have c15b0 : decide (x7_1 < (l0_2.length : Int)) = true := decide_eq_true c15
    clear c15
    replace H := Option.bind_eq_some_iff.mp H
    obtain ⟨t360, A160, H⟩ := H
    replace H : (spec_l03Second.l0 k1 a1 x6_1 t360 (wrap64 (x7_1 + 1)) a0_0 l0_1 l0_2) = some r := H
    have A16 := zA A160
    clear A160
    have H' := zA H
    clear H
    try go_wp2
    replace HO_5 := zA (Kd.R_drew HO_5.out)
    replace HO_6 := zA (Kd.R_drew HO_6.out)
    replace BK348 := zA (blk_drew BK348.out)
    replace HB := zA (below_drew1 HB.out)
    have p358 : 0 ≤ (x7_1 : Int) := of_decide_eq_true (by first | (with_reducible assumption) | assumption)
    have q358 : x7_1 < (l0_1.length : Int) := of_decide_eq_true (by first | (with_reducible assumption) | assumption)
    obtain ⟨ad358, e358, hx358_0⟩ := Kd.at_int HR0_1.out x7_1 p358 q358
    have hw358_0 := hx358_0
    cases e358
    replace hx358_0 := hc HB hx358_0
    replace p358 := eq_true p358
    replace q358 := eq_true q358
    have p359 : 0 ≤ (x7_1 : Int) := of_decide_eq_true (by first | (with_reducible assumption) | assumption)
    have q359 : x7_1 < (l0_2.length : Int) := of_decide_eq_true (by first | (with_reducible assumption) | assumption)
    obtain ⟨ad359, e359, hx359_0⟩ := Kd.at_int HR0_2.out x7_1 p359 q359
    have hw359_0 := hx359_0
    cases e359
    replace hx359_0 := hc HB hx359_0
    replace p359 := eq_true p359
    replace q359 := eq_true q359
    obtain ⟨Ao18, co18, eo18⟩ := Kd.R_slice HO_6.out
    (first | subst eo18 | (injection eo18 with f1_ f2_ f3_; have f4_ := f1_.symm; have f5_ := f3_.symm; clear f1_ f2_ f3_; subst f4_; subst f5_))
    obtain ⟨Ao19, co19, eo19⟩ := Kd.R_slice HO_5.out
    (first | subst eo19 | (injection eo19 with f1_ f2_ f3_; have f4_ := f1_.symm; have f5_ := f3_.symm; clear f1_ f2_ f3_; subst f4_; subst f5_))
    refine start_ (n := 16) (S := fun w' => w'.cell? ⟨gb348, 0, none⟩ = some (.int .i64 a0_0) ∧ w'.cell? ⟨gb348, 1, none⟩ = some (.slice (some ad358) l0_1.length c0_1) ∧ w'.cell? ⟨gb348, 2, none⟩ = some (.slice (some ad359) l0_2.length c0_2) ∧ w'.cell? (ad358.add (x7_1).toNat) = some (.int .i64 (rd l0_1 x7_1)) ∧ w'.cell? (ad359.add (x7_1).toNat) = some (.int .i64 (rd l0_2 x7_1))) (ds := []) #[false, false, false, false, false, false, false, false, false, false, false, false, false, false, false, false] (by kernel_rfl) rfl rfl ⟨bcu BK348 0, bcu BK348 1, bcu BK348 2, (hcu HB hw358_0), (hcu HB hw359_0)⟩ (fun hHeld => ?_); refine with_tabW spec_l03Second.tab7 spec_l03Second.bits7 (fun HT_ HW_ => ?_)
    generalize wr.drew = w17 at HO_5 HO_6 BK348 HB hx358_0 hx359_0 hHeld ⊢
    refine pu_ 0 19 (bl 16 1) HT_ ?_
    refine pu_ 2 21 (bl 16 5) HT_ ?_
    refine pu_ 3 22 (bl 16 13) HT_ ?_
    refine pu_ 4 23 (bl 16 29) HT_ ?_
    refine pu_ 6 25 (bl 16 93) HT_ ?_
    refine pu_ 9 28 (bl 16 605) HT_ ?_
    refine pu_ 11 30 (bl 16 2653) HT_ ?_
    refine ta_ 1 20 (bl 16 2655) HT_ HW_ hHeld ?_
    refine ta_ 5 24 (bl 16 2687) HT_ HW_ hHeld ?_
    refine pu_ 7 26 (bl 16 2815) HT_ ?_
    refine ta_ 8 27 (bl 16 3071) HT_ HW_ hHeld ?_
    refine ta_ 10 29 (bl 16 4095) HT_ HW_ hHeld ?_
    refine pu_ 12 31 (bl 16 8191) HT_ ?_
    refine ta_ 13 32 (bl 16 16383) HT_ HW_ hHeld ?_
    refine on_ 14 (some 33) (bl 16 32767) HT_ (fun K hK => ?_)
    refine gS Try.func82 #[.int .i64 a0_0, .slice Ao18 x6_1.length co18, .slice Ao19 x5_1.length co19, .int .i64 (rd l0_1 x7_1), .int .i64 (rd l0_2 x7_1)] ?_
    with_reducible refine (spec_l03Step.calls k1 a0_0 _ _ x6_1 _ _ x5_1 (rd l0_1 x7_1) (rd l0_2 x7_1) t360 _ ?side1 ?side2 ?side3 ?side4 A16.out).mono ?_
    (case side1 => exact uC ((Kd.R_reads' HO_6.out).2.2))
    (case side2 => exact (Kd.R_reads' HO_6.out).2.1)
    (case side3 => exact uC ((Kd.R_reads' HO_5.out).2.2))
    (case side4 => exact (Kd.R_reads' HO_5.out).2.1)
    rintro e w20 ⟨v361, rfl, ho0, hb⟩
    refine ⟨_, rfl, ?_⟩
    have HO362 := zA (Kd.R_lower (Kd.R_new' (Kd.R_new' ho0 (Kd.R_lt (uR HO_5.out))) (Kd.R_lt (uR HO_6.out))) (below_size (uH HB.out)))
    replace HO_5 := zA (Kd.R_elder' (uR HO_5.out) (Kd.R_base ho0) hb)
    replace HO_6 := zA (Kd.R_elder' (uR HO_6.out) (Kd.R_base ho0) hb)
    replace BK348 := xB BK348 hb
    replace HB := xH HB hb
    (try clear hb); (try clear hb2); (try clear hk); (try clear hi); (try clear ho0)
    refine hK.out _ _ ⟨bcu BK348 0, bcu BK348 1, bcu BK348 2, (hcu HB hw358_0), (hcu HB hw359_0)⟩ (fun hHeld => ?_)
    clear hK K
    refine no_ 33 ?_
    refine pu_ 15 8 (bl 16 65535) HT_ ?_
    refine done_ (done_of HT_.out (by kernel_rfl)) ?_
    try go_wp2
    go_roundg k1
    case measure => have := HK1.out; omega
    case rel => exact ⟨(x6_1), (t360), (wrap64 (x7_1 + 1)), (by first | rfl | (simp; done) | (simp [*]; done)), H', ⟨by have := HK1.out; omega⟩, ⟨uR (Kd.R_mono HO_6.out (fun _ hk => hk.2))⟩, ⟨uR (Kd.R_mono HO362.out (fun _ hk => hk.2))⟩, ⟨uB BK348.out⟩, ⟨uH HB.out⟩⟩
 rw [if_pos c3] at H
 have c3b0 : (a1 == 0) = true := beq_iff_eq.mpr c3
 have c3b1 : (a1 != 0) = false := bne_eq_false_iff_eq.mpr c3
 clear c3
 obtain ⟨y349, hy349⟩ : ∃ y_ : List Int, y_ = (([] : List Int)) := ⟨_, rfl⟩
 replace H : (some y349) = some r := by first | (rw [hy349]; exact H) | exact H
 have Ny349 := zA hy349
 clear hy349
 obtain rfl := Option.some.inj H
 go_enter Try.func52, Try.ntmps52
 go_wp2_with (first | ((with_reducible refine gate_dst (N := 2) rfl ?_); refine bx 2 #[.int .i64 a0_0, .slice A0_1 l0_1.length c0_1, .slice A0_2 l0_2.length c0_2] 28 ?_; intro gb348 hg w4 hbox hb; have BK348 := zA (hbox); have GW348 := gq HB hg; have GE348 := gq HB hg; replace HB := xH HB hb; have := geI GE348; clear hb hbox hg) | ((with_reducible refine gate_dst (N := 11) rfl ?_); refine Kd.R_lit (Kd.int .i64) _ 2 ?hg (N := 11) ?hd (xs := ([] : List Int)) (inner := []) (ok := fun _ => True) (okp := fun _ => True) ?hr ?hp (fun _ hk => hk) trivial (Below.refl _ _) (Nat.le_refl _) (by simp) ?_; (case hd => rfl); (case hg => rfl); (case hr => first | (go_simp; done) | (go_simp; rfl)); (case hp => exact (Reps.none _ _)); intro v350 w5 ho6 hb hg_ hnew_; clear hg_ hnew_; (first | rw [← Ny349.out] at ho6 | (simp only [Int.reduceToNat] at ho6; rw [← Ny349.out] at ho6)); have HO351 := zA (Kd.R_lower ho6 (below_size (uH HB.out))); replace BK348 := xB BK348 hb; replace HB := xH HB hb; clear hb ho6))
 go_ret
 exact ⟨_, by first | rfl | (simp [errW_none, errW_some] <;> rfl) | (simp [*, errW_none, errW_some] <;> rfl), uR HO351.out, uH HB.out⟩
/- An element of a row of rows that is the call's own is the call's own; no condition. -/
open Go Go.RowKit Go.Proofs.YtijkfbnjcebfaaaW.PrintWords Go.Proofs.YtijkfbnjcebfaaaW.PrintLast Go.Proofs.YtijkfbnjcebfaaaW.PrintMore
theorem R_elemA {e e' base : Nat} {ok : Nat → Prop} {W : World} {ad : Addr} {n cap : Nat} {xs : List (List Int)} (h : Kd.R (Kd.slice e' (Kd.int .i64)) e W base ok (.slice (some ad) n cap) xs) (i : Int) (h0 : 0 ≤ i) (h1 : i < (n : Int))
    {A : Option Addr} {m c : Nat} (hc : W.cell? (ad.add i.toNat) = some (.slice A m c)) : Kd.R (Kd.int .i64) e' W base ok (.slice A m c) (rd_L1 xs i) := by
  have hown := h.2
  obtain ⟨inner, ho, _⟩ := hown
  obtain ⟨_, ho⟩ := ho
  rcases ho with ⟨hv, _⟩ | ⟨g, cp, cur, hv, hg, hh, r⟩
  · cases hv
  · injection hv with e1 e2 e3
    injection e1 with e1
    subst e1
    obtain ⟨cs, hl, hM, hcell, _⟩ := Kd.R_elem h [] i h0 h1
    obtain ⟨v, rfl, hR⟩ := hM
    have h2 := hcell 0 v rfl
    have h3 : W.cell? ⟨g, i.toNat * 1 + 0, none⟩ = some v := h2
    have h4 : (⟨g, i.toNat * 1 + 0, none⟩ : Addr) = (⟨g, 0, none⟩ : Addr).add i.toNat := by simp [Addr.add]
    rw [h4, hc] at h3
    cases h3
    exact Kd.R_mono hR (fun _ hk => hk.1)
end Go.Proofs.Ytijkfbnjcebfaaa.Pr
