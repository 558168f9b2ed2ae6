/- Texts of this session in one: what functions of the program compute, and plain facts of it, under the conditions that each theorem names. -/
import Derived.Test.YtfbnkebgdmfcfaaKGaussRule1
import Derived.Test.YtfbnkebgdmfcfaaKGaussRule4
import Derived.Test.YtfbnkebgdmfcfaaKGaussRule5
namespace Go.Proofs.Ytfbnkebgdmfcfaa.Pr
open Go.RowKit Go.Proofs.YtfbnkebgdmfcfaaW.PrintWords Go.Proofs.YtfbnkebgdmfcfaaW.PrintLast Go.Proofs.YtfbnkebgdmfcfaaW.PrintMore
attribute [local go_sem] max2_int min2_int max_two min_two max_three min_three max_four min_four   -- for this text's walks alone
set_option linter.unusedVariables false
set_option linter.unusedSimpArgs false
/-! ### spec_l03Is: function 56 -/
mutual
def spec_l03Is.j0 : Nat → Bool → Int → List Int → List Int → Option (Bool)
 | 0, _, _, _, _ => none
 | k + 1, x28, x1062000, x1062001, x1062002 => if x28 = true then (some false) else (spec_l03Is.l0 k 0 x1062000 x1062001 x1062002)
def spec_l03Is.l0 : Nat → Int → Int → List Int → List Int → Option (Bool)
 | 0, _, _, _, _ => none
 | k + 1, x3, x1062000, x1062001, x1062002 => if x3 < (x1062001.length : Int) then (if 0 ≤ x3 then ((spec_l01In.f (rd x1062001 x3) 0 (wrap64 (x1062000 - 1))).bind fun t1064 => (if t1064 = true then (if x3 < (x1062002.length : Int) then ((spec_l01In.f (rd x1062002 x3) 1 (wrap64 (x1062000 - 1))).bind fun t1066 => (if t1066 = true then (spec_l03Is.l0 k (wrap64 (x3 + 1)) x1062000 x1062001 x1062002) else (some false))) else (none)) else (some false))) else (none)) else (some true)
end
def spec_l03Is.f (k : Nat) (a0_0 : Int) (l0_1 : List Int) (l0_2 : List Int) : Option (Bool) := (spec_l01Prime.f k a0_0).bind fun t1062 => (if t1062 = true then (if (l0_1.length : Int) < 1 then (spec_l03Is.j0 k true a0_0 l0_1 l0_2) else (if (l0_1.length : Int) > 12 then (spec_l03Is.j0 k true a0_0 l0_1 l0_2) else (spec_l03Is.j0 k ((l0_2.length : Int) != (l0_1.length : Int)) a0_0 l0_1 l0_2))) else (spec_l03Is.j0 k true a0_0 l0_1 l0_2))
def spec_l03Is.T6 : Bool × List (List Nat × List Nat) := (true, [([], []), ([0], [0]), ([], []), ([1, 2], [1, 2]), ([3], [3]), ([], []), ([5], [5]), ([6], [6]), ([4, 7], [4, 7]), ([8], [8]), ([9, 8], [9]), ([10], [10]), ([11, 10], [10, 11]), ([10], [10]), ([12, 13, 10], [10, 12, 13]), ([14, 10], [10, 14]), ([10], [10]), ([16, 10], [10, 16]), ([17, 10], [10, 17]), ([15, 18, 10, 10], [10, 15, 18]), ([19, 10], [10, 19]), ([10, 20], [10, 20])])
def spec_l03Is.B6 : List Nat := [0, 1, 0, 7, 15, 0, 32, 96, 255, 511, 1023, 2047, 4095, 2047, 16383, 32767, 2047, 67583, 198655, 524287, 1048575, 2097151]
theorem spec_l03Is.tab6 : rtab .any (opsOf Try.f56 6) = spec_l03Is.T6 := by kernel_rfl
theorem spec_l03Is.bits6 : waitsOk spec_l03Is.T6.2 spec_l03Is.B6 = true := by kernel_rfl
set_option maxHeartbeats 8000000 in
set_option maxRecDepth 100000 in
theorem spec_l03Is.calls (k : Nat) (a0_0 : Int) (A0_1 : Option Addr) (c0_1 : Nat) (l0_1 : List Int) (A0_2 : Option Addr) (c0_2 : Nat) (l0_2 : List Int) (r : Bool) (w : World) (hr0_1 : Kd.C (Kd.int .i64) w A0_1 l0_1.length l0_1) (hc0_1 : l0_1.length ≤ c0_1) (hr0_2 : Kd.C (Kd.int .i64) w A0_2 l0_2.length l0_2) (hc0_2 : l0_2.length ≤ c0_2) (h : spec_l03Is.f k a0_0 l0_1 l0_2 = some r) :
  Calls Try.prog 56 #[.agg #[.int .i64 a0_0, .slice A0_1 l0_1.length c0_1, .slice A0_2 l0_2.length c0_2]] w fun e w' => e = .returned (.bool r) ∧ Below w.heap.size w w' := by
 have hu26 := Try.underlying26
 have HR0_1 := zA hr0_1
 have HC0_1 := zA hc0_1
 clear hr0_1 hc0_1
 have HR0_2 := zA hr0_2
 have HC0_2 := zA hc0_2
 clear hr0_2 hc0_2
 have HB := zA (Below.refl w.heap.size w)
 have H : ((spec_l01Prime.f k a0_0).bind fun t1062 => (if t1062 = true then (if (l0_1.length : Int) < 1 then (spec_l03Is.j0 k true a0_0 l0_1 l0_2) else (if (l0_1.length : Int) > 12 then (spec_l03Is.j0 k true a0_0 l0_1 l0_2) else (spec_l03Is.j0 k ((l0_2.length : Int) != (l0_1.length : Int)) a0_0 l0_1 l0_2))) else (spec_l03Is.j0 k true a0_0 l0_1 l0_2))) = some r := h
 clear h
 have HC2 := zA H
 clear H
 go_enter Try.func56, Try.ntmps56
 go_upto_region 1 with (first | ((with_reducible refine gate_dst (N := 1) rfl ?_); (try (refine gate_guard (by rfl) ?_; dsimp only)); refine bx 1 #[.int .i64 a0_0, .slice A0_1 l0_1.length c0_1, .slice A0_2 l0_2.length c0_2] 26 ?_; intro gb1061 hg w3 hbox hb; have BK1061 := zA (hbox); have GW1061 := gq HB hg; have GE1061 := gq HB hg; replace HB := xH HB hb; have := geI GE1061; clear hb hbox hg))
 (try simp only [Act.put, ls, lz, ln])
 go_cut [28] (fun v28 wc => ∃ (kq : Nat) (x28_1 : Bool), v28 = .bool x28_1 ∧ Aside0 (spec_l03Is.j0 kq x28_1 a0_0 l0_1 l0_2 = some r) ∧ Aside0 (kq ≤ k) ∧ Aside0 (wc.heap[gb1061]? = some (.cells #[.int .i64 a0_0, (.slice A0_1 l0_1.length c0_1), (.slice A0_2 l0_2.length c0_2)] 26 (0, 0))) ∧ Aside0 (Below w.heap.size w wc))
 case first =>
  have H := HC2.out
  clear HC2
  replace H := Option.bind_eq_some_iff.mp H
  obtain ⟨t1062, A40, H⟩ := H
  replace H : (if t1062 = true then (if (l0_1.length : Int) < 1 then (spec_l03Is.j0 k true a0_0 l0_1 l0_2) else (if (l0_1.length : Int) > 12 then (spec_l03Is.j0 k true a0_0 l0_1 l0_2) else (spec_l03Is.j0 k ((l0_2.length : Int) != (l0_1.length : Int)) a0_0 l0_1 l0_2))) else (spec_l03Is.j0 k true a0_0 l0_1 l0_2)) = some r := H
  have A4 := zA A40
  clear A40
  by_cases c5 : t1062 = true
  ·subst c5
   have H1 : (if (l0_1.length : Int) < 1 then (spec_l03Is.j0 k true a0_0 l0_1 l0_2) else (if (l0_1.length : Int) > 12 then (spec_l03Is.j0 k true a0_0 l0_1 l0_2) else (spec_l03Is.j0 k ((l0_2.length : Int) != (l0_1.length : Int)) a0_0 l0_1 l0_2))) = some r := by rw [if_pos rfl] at H; exact H
   clear H
   have H := H1
   clear H1
   by_cases c6 : (l0_1.length : Int) < 1
   rotate_left
   ·rw [if_neg c6] at H
    have c6b0 : decide ((l0_1.length : Int) < 1) = false := decide_eq_false c6
    have c6b1 : decide (l0_1.length < 1) = false := decide_eq_false (by omega)
    clear c6
    (first | rw [c6b0] | (simp only [i64_w, i32_w]; rw [c6b0]) | skip)
    by_cases c8 : (l0_1.length : Int) > 12
    rotate_left
    ·rw [if_neg c8] at H
     have c8b0 : decide (12 < (l0_1.length : Int)) = false := decide_eq_false c8
     have c8b1 : decide (12 < l0_1.length) = false := decide_eq_false (by omega)
     clear c8
     have H' := zA H
     clear H
     have hcz10_0 := bc BK1061 0
     have hcz10_1 := bc BK1061 1
     have hcz10_2 := bc BK1061 2
     have hfz10_0 := bf BK1061 0
     have hfz10_1 := bf BK1061 1
     have hfz10_2 := bf BK1061 2
     go_wp2_with (first | ((with_reducible refine gate_callee (f := 115) rfl ?_); refine gL (some 6) Try.func115 #[.int .i64 a0_0] ?_; (with_reducible refine (spec_l01Prime.calls k a0_0 true _ A4.out).mono ?_); rintro e w' ⟨rfl, ⟨nd, rfl⟩⟩; refine ⟨_, rfl, ?_⟩))
     go_meet
     case rel => exact ⟨_, (((l0_2.length : Int) != (l0_1.length : Int))), (by first | rfl | (simp; done) | (simp [*]; done)), H', ⟨by first | omega | exact Nat.le_refl _⟩, ⟨uB BK1061.out⟩, ⟨uH HB.out⟩⟩
    rw [if_pos c8] at H
    have c8b0 : decide (12 < (l0_1.length : Int)) = true := decide_eq_true c8
    have c8b1 : decide (12 < l0_1.length) = true := decide_eq_true (by omega)
    clear c8
    have H' := zA H
    clear H
    have hcz9_0 := bc BK1061 0
    have hcz9_1 := bc BK1061 1
    have hcz9_2 := bc BK1061 2
    have hfz9_0 := bf BK1061 0
    have hfz9_1 := bf BK1061 1
    have hfz9_2 := bf BK1061 2
    go_wp2_with (first | ((with_reducible refine gate_callee (f := 115) rfl ?_); refine gL (some 6) Try.func115 #[.int .i64 a0_0] ?_; (with_reducible refine (spec_l01Prime.calls k a0_0 true _ A4.out).mono ?_); rintro e w' ⟨rfl, ⟨nd, rfl⟩⟩; refine ⟨_, rfl, ?_⟩))
    go_meet
    case rel => exact ⟨_, (true), (by first | rfl | (simp; done) | (simp [*]; done)), H', ⟨by first | omega | exact Nat.le_refl _⟩, ⟨uB BK1061.out⟩, ⟨uH HB.out⟩⟩
   rw [if_pos c6] at H
   have c6b0 : decide ((l0_1.length : Int) < 1) = true := decide_eq_true c6
   have c6b1 : decide (l0_1.length < 1) = true := decide_eq_true (by omega)
   clear c6
   (first | rw [c6b0] | (simp only [i64_w, i32_w]; rw [c6b0]) | skip)
   have H' := zA H
   clear H
   have hcz7_0 := bc BK1061 0
   have hcz7_1 := bc BK1061 1
   have hcz7_2 := bc BK1061 2
   have hfz7_0 := bf BK1061 0
   have hfz7_1 := bf BK1061 1
   have hfz7_2 := bf BK1061 2
   go_wp2_with (first | ((with_reducible refine gate_callee (f := 115) rfl ?_); refine gL (some 6) Try.func115 #[.int .i64 a0_0] ?_; (with_reducible refine (spec_l01Prime.calls k a0_0 true _ A4.out).mono ?_); rintro e w' ⟨rfl, ⟨nd, rfl⟩⟩; refine ⟨_, rfl, ?_⟩))
   go_meet
   case rel => exact ⟨_, (true), (by first | rfl | (simp; done) | (simp [*]; done)), H', ⟨by first | omega | exact Nat.le_refl _⟩, ⟨uB BK1061.out⟩, ⟨uH HB.out⟩⟩
  ·replace c5 := Bool.eq_false_iff.mpr c5
   subst c5
   have H1 : (spec_l03Is.j0 k true a0_0 l0_1 l0_2) = some r := by rw [if_neg (show ¬ (false = true) by decide)] at H; exact H
   clear H
   have H := H1
   clear H1
   have H' := zA H
   clear H
   have hcz11_0 := bc BK1061 0
   have hcz11_1 := bc BK1061 1
   have hcz11_2 := bc BK1061 2
   have hfz11_0 := bf BK1061 0
   have hfz11_1 := bf BK1061 1
   have hfz11_2 := bf BK1061 2
   go_wp2_with (first | ((with_reducible refine gate_callee (f := 115) rfl ?_); refine gL (some 6) Try.func115 #[.int .i64 a0_0] ?_; (with_reducible refine (spec_l01Prime.calls k a0_0 false _ A4.out).mono ?_); rintro e w' ⟨rfl, ⟨nd, rfl⟩⟩; refine ⟨_, rfl, ?_⟩))
   go_meet
   case rel => exact ⟨_, (true), (by first | rfl | (simp; done) | (simp [*]; done)), H', ⟨by first | omega | exact Nat.le_refl _⟩, ⟨uB BK1061.out⟩, ⟨uH HB.out⟩⟩
 case rest =>
  clear HC2
  (try clear c1);(try clear p2);(try clear c5);(try clear c6);(try clear c6b0);(try clear c6b1);(try clear c8);(try clear c8b0);(try clear c8b1);(try clear c11);(try clear hcz10_0);(try clear hcz10_1);(try clear hcz10_2);(try clear hcz11_0);(try clear hcz11_1);(try clear hcz11_2);(try clear hcz7_0);(try clear hcz7_1);(try clear hcz7_2);(try clear hcz9_0);(try clear hcz9_1);(try clear hcz9_2);(try clear hfz10_0)
  (try clear hfz10_1);(try clear hfz10_2);(try clear hfz11_0);(try clear hfz11_1);(try clear hfz11_2);(try clear hfz7_0);(try clear hfz7_1);(try clear hfz7_2);(try clear hfz9_0);(try clear hfz9_1);(try clear hfz9_2)
  obtain ⟨kq, x28_1, rfl, HA, HJ1, BK1061, HB⟩ := hcut
  cases kq with
  | zero => exact absurd HA.out (by simp [spec_l03Is.j0])
  | succ kj1 =>
   have H := HA.out
   clear HA
   simp only [spec_l03Is.j0] at H
   by_cases c12 : x28_1 = true
   ·subst c12
    have H1 : (some false) = some r := by rw [if_pos rfl] at H; exact H
    clear H
    have H := H1
    clear H1
    obtain rfl := Option.some.inj H
    go_wp2
    go_ret
    exact ⟨by first | rfl | (simp [errW_none, errW_some] <;> rfl) | (simp [*, errW_none, errW_some] <;> rfl), uH HB.out⟩
   ·replace c12 := Bool.eq_false_iff.mpr c12
    subst c12
    have H1 : (spec_l03Is.l0 kj1 0 a0_0 l0_1 l0_2) = some r := by rw [if_neg (show ¬ (false = true) by decide)] at H; exact H
    clear H
    have H := H1
    clear H1
    have H' := zA H
    clear H
    go_wp2
    go_loopg [3] kj1 (fun kq v3 w' => ∃ (x3_2 : Int), v3 = .int .i64 x3_2 ∧ Aside0 (spec_l03Is.l0 kq x3_2 a0_0 l0_1 l0_2 = some r) ∧ Aside0 (kq ≤ kj1) ∧ Aside0 (w'.heap[gb1061]? = some (.cells #[.int .i64 a0_0, (.slice A0_1 l0_1.length c0_1), (.slice A0_2 l0_2.length c0_2)] 26 (0, 0))) ∧ Aside0 (Below w.heap.size w w'))
    case atStart => exact ⟨(0), (by first | rfl | (simp; done) | (simp [*]; done)), H', ⟨Nat.le_refl _⟩, ⟨uB BK1061.out⟩, ⟨uH HB.out⟩⟩
    case round =>
     clear H'
     (try clear c1);(try clear p2);(try clear c5);(try clear c6);(try clear c6b0);(try clear c6b1);(try clear c8);(try clear c8b0);(try clear c8b1);(try clear c11);(try clear c12);(try clear hcz10_0);(try clear hcz10_1);(try clear hcz10_2);(try clear hcz11_0);(try clear hcz11_1);(try clear hcz11_2);(try clear hcz7_0);(try clear hcz7_1);(try clear hcz7_2);(try clear hcz9_0);(try clear hcz9_1);(try clear hcz9_2)
     (try clear hfz10_0);(try clear hfz10_1);(try clear hfz10_2);(try clear hfz11_0);(try clear hfz11_1);(try clear hfz11_2);(try clear hfz7_0);(try clear hfz7_1);(try clear hfz7_2);(try clear hfz9_0);(try clear hfz9_1);(try clear hfz9_2);(try clear p2)
     obtain ⟨x3_2, rfl, HA, HK2, BK1061, HB⟩ := hrel
     cases gk with
     | zero => exact absurd HA.out (by simp [spec_l03Is.l0])
     | succ k2 =>
      have H := HA.out
      clear HA
      simp only [spec_l03Is.l0] at H
      by_cases c13 : x3_2 < (l0_1.length : Int)
      rotate_left
      ·rw [if_neg c13] at H
       have c13b0 : decide (x3_2 < (l0_1.length : Int)) = false := decide_eq_false c13
       clear c13
       obtain rfl := Option.some.inj H
       have hcz26_0 := bc BK1061 0
       have hcz26_1 := bc BK1061 1
       have hcz26_2 := bc BK1061 2
       have hfz26_0 := bf BK1061 0
       have hfz26_1 := bf BK1061 1
       have hfz26_2 := bf BK1061 2
       go_wp2
       go_ret
       exact ⟨by first | rfl | (simp [errW_none, errW_some] <;> rfl) | (simp [*, errW_none, errW_some] <;> rfl), uH HB.out⟩

      rw [if_pos c13] at H
      have c13b0 : decide (x3_2 < (l0_1.length : Int)) = true := decide_eq_true c13
      clear c13
      by_cases c14 : 0 ≤ x3_2
      rotate_left
      ·rw [if_neg c14] at H
       exact absurd H (by simp)
      rw [if_pos c14] at H
      have c14b0 : decide (0 ≤ x3_2) = true := decide_eq_true c14
      clear c14
      replace H := Option.bind_eq_some_iff.mp H
      obtain ⟨t1064, A150, H⟩ := H
      replace H : (if t1064 = true then (if x3_2 < (l0_2.length : Int) then ((spec_l01In.f (rd l0_2 x3_2) 1 (wrap64 (a0_0 - 1))).bind fun t1066 => (if t1066 = true then (spec_l03Is.l0 k2 (wrap64 (x3_2 + 1)) a0_0 l0_1 l0_2) else (some false))) else (none)) else (some false)) = some r := H
      have A15 := zA A150
      clear A150
      by_cases c16 : t1064 = true
      ·subst c16
       have H1 : (if x3_2 < (l0_2.length : Int) then ((spec_l01In.f (rd l0_2 x3_2) 1 (wrap64 (a0_0 - 1))).bind fun t1066 => (if t1066 = true then (spec_l03Is.l0 k2 (wrap64 (x3_2 + 1)) a0_0 l0_1 l0_2) else (some false))) else (none)) = some r := by rw [if_pos rfl] at H; exact H
       clear H
       have H := H1
       clear H1
       by_cases c17 : x3_2 < (l0_2.length : Int)
       rotate_left
       ·rw [if_neg c17] at H
        exact absurd H (by simp)
       rw [if_pos c17] at H
       have c17b0 : decide (x3_2 < (l0_2.length : Int)) = true := decide_eq_true c17
       clear c17
       replace H := Option.bind_eq_some_iff.mp H
       obtain ⟨t1066, A180, H⟩ := H
       replace H : (if t1066 = true then (spec_l03Is.l0 k2 (wrap64 (x3_2 + 1)) a0_0 l0_1 l0_2) else (some false)) = some r := H
       have A18 := zA A180
       clear A180
       by_cases c19 : t1066 = true
       ·subst c19
        have H1 : (spec_l03Is.l0 k2 (wrap64 (x3_2 + 1)) a0_0 l0_1 l0_2) = some r := by rw [if_pos rfl] at H; exact H
        clear H
        have H := H1
        clear H1
        have H' := zA H
        clear H
        have hcz20_0 := bc BK1061 0
        have hcz20_1 := bc BK1061 1
        have hcz20_2 := bc BK1061 2
        have hfz20_0 := bf BK1061 0
        have hfz20_1 := bf BK1061 1
        have hfz20_2 := bf BK1061 2
        try go_wp2
        replace BK1061 := zA (blk_drew BK1061.out)
        replace HB := zA (below_drew1 HB.out)
        have p1063 : 0 ≤ (x3_2 : Int) := of_decide_eq_true (by first | (with_reducible assumption) | assumption)
        have q1063 : x3_2 < (l0_1.length : Int) := of_decide_eq_true (by first | (with_reducible assumption) | assumption)
        obtain ⟨ad1063, e1063, hx1063_0⟩ := Kd.at_int HR0_1.out x3_2 p1063 q1063
        have hw1063_0 := hx1063_0
        cases e1063
        replace hx1063_0 := hc HB hx1063_0
        replace p1063 := eq_true p1063
        replace q1063 := eq_true q1063
        have p1065 : 0 ≤ (x3_2 : Int) := of_decide_eq_true (by first | (with_reducible assumption) | assumption)
        have q1065 : x3_2 < (l0_2.length : Int) := of_decide_eq_true (by first | (with_reducible assumption) | assumption)
        obtain ⟨ad1065, e1065, hx1065_0⟩ := Kd.at_int HR0_2.out x3_2 p1065 q1065
        have hw1065_0 := hx1065_0
        cases e1065
        replace hx1065_0 := hc HB hx1065_0
        replace p1065 := eq_true p1065
        replace q1065 := eq_true q1065
        refine start_ (n := 22) (S := fun w' => w'.cell? ⟨gb1061, 0, none⟩ = some (.int .i64 a0_0) ∧ w'.cell? ⟨gb1061, 1, none⟩ = some (.slice (some ad1063) l0_1.length c0_1) ∧ w'.cell? ⟨gb1061, 2, none⟩ = some (.slice (some ad1065) l0_2.length c0_2) ∧ w'.cell? (ad1063.add (x3_2).toNat) = some (.int .i64 (rd l0_1 x3_2)) ∧ w'.cell? (ad1065.add (x3_2).toNat) = some (.int .i64 (rd l0_2 x3_2))) (ds := []) #[false, false, false, false, false, false, false, false, false, false, false, false, false, false, false, false, false, false, false, false, false, false] (by kernel_rfl) rfl rfl ⟨bcu BK1061 0, bcu BK1061 1, bcu BK1061 2, (hcu HB hw1063_0), (hcu HB hw1065_0)⟩ (fun hHeld => ?_); refine with_tabW spec_l03Is.tab6 spec_l03Is.bits6 (fun HT_ HW_ => ?_)
        generalize wr.drew = w21 at BK1061 HB hx1063_0 hx1065_0 hHeld ⊢
        refine pu_ 0 36 (bl 22 1) HT_ ?_
        refine pu_ 2 38 (bl 22 5) HT_ ?_
        refine pu_ 5 41 (bl 22 37) HT_ ?_
        refine ta_ 1 37 (bl 22 39) HT_ HW_ hHeld ?_
        refine pu_ 3 39 (bl 22 47) HT_ ?_
        refine ta_ 4 40 (bl 22 63) HT_ HW_ hHeld ?_
        refine ta_ 6 42 (bl 22 127) HT_ HW_ hHeld ?_
        refine pu_ 7 43 (bl 22 255) HT_ ?_
        refine on_ 8 (some 44) (bl 22 511) HT_ (fun K hK => ?_)
        refine gS Try.func107 #[.int .i64 (rd l0_1 x3_2), .int .i64 0, .int .i64 (wrap64 (a0_0 - 1))] ?_
        with_reducible refine (spec_l01In.calls (rd l0_1 x3_2) 0 (wrap64 (a0_0 - 1)) true _ A15.out).mono ?_
        rintro e w' ⟨rfl, ⟨nd, rfl⟩⟩
        refine ⟨_, rfl, ?_⟩
        refine hK.out _ _ ⟨bcu BK1061 0, bcu BK1061 1, bcu BK1061 2, (hcu HB hw1063_0), (hcu HB hw1065_0)⟩ (fun hHeld => ?_)
        clear hK K
        refine no_ 44 ?_
        refine pu_ 9 45 (bl 22 1023) HT_ ?_
        refine pu_ 10 46 (bl 22 2047) HT_ ?_
        refine pu_ 11 47 (bl 22 4095) HT_ ?_
        refine pu_ 13 49 (bl 22 12287) HT_ ?_
        refine pu_ 16 52 (bl 22 77823) HT_ ?_
        refine ta_ 12 48 (bl 22 81919) HT_ HW_ hHeld ?_
        refine pu_ 14 50 (bl 22 98303) HT_ ?_
        refine ta_ 15 51 (bl 22 131071) HT_ HW_ hHeld ?_
        refine ta_ 17 53 (bl 22 262143) HT_ HW_ hHeld ?_
        refine pu_ 18 54 (bl 22 524287) HT_ ?_
        refine on_ 19 (some 55) (bl 22 1048575) HT_ (fun K hK => ?_)
        refine gS Try.func107 #[.int .i64 (rd l0_2 x3_2), .int .i64 1, .int .i64 (wrap64 (a0_0 - 1))] ?_
        with_reducible refine (spec_l01In.calls (rd l0_2 x3_2) 1 (wrap64 (a0_0 - 1)) true _ A18.out).mono ?_
        rintro e w' ⟨rfl, ⟨nd, rfl⟩⟩
        refine ⟨_, rfl, ?_⟩
        refine hK.out _ _ ⟨bcu BK1061 0, bcu BK1061 1, bcu BK1061 2, (hcu HB hw1063_0), (hcu HB hw1065_0)⟩ (fun hHeld => ?_)
        clear hK K
        refine no_ 55 ?_
        refine pu_ 20 56 (bl 22 2097151) HT_ ?_
        refine pu_ 21 57 (bl 22 4194303) HT_ ?_
        refine done_ (done_of HT_.out (by kernel_rfl)) ?_
        try go_wp2
        go_roundg k2
        case measure => have := HJ1.out; have := HK2.out; omega
        case rel => exact ⟨(wrap64 (x3_2 + 1)), (by first | rfl | (simp; done) | (simp [*]; done)), H', ⟨by have := HJ1.out; have := HK2.out; omega⟩, ⟨uB BK1061.out⟩, ⟨uH HB.out⟩⟩
       ·replace c19 := Bool.eq_false_iff.mpr c19
        subst c19
        have H1 : (some false) = some r := by rw [if_neg (show ¬ (false = true) by decide)] at H; exact H
        clear H
        have H := H1
        clear H1
        obtain rfl := Option.some.inj H
        have hcz22_0 := bc BK1061 0
        have hcz22_1 := bc BK1061 1
        have hcz22_2 := bc BK1061 2
        have hfz22_0 := bf BK1061 0
        have hfz22_1 := bf BK1061 1
        have hfz22_2 := bf BK1061 2
        try go_wp2
        replace BK1061 := zA (blk_drew BK1061.out)
        replace HB := zA (below_drew1 HB.out)
        have p1063 : 0 ≤ (x3_2 : Int) := of_decide_eq_true (by first | (with_reducible assumption) | assumption)
        have q1063 : x3_2 < (l0_1.length : Int) := of_decide_eq_true (by first | (with_reducible assumption) | assumption)
        obtain ⟨ad1063, e1063, hx1063_0⟩ := Kd.at_int HR0_1.out x3_2 p1063 q1063
        have hw1063_0 := hx1063_0
        cases e1063
        replace hx1063_0 := hc HB hx1063_0
        replace p1063 := eq_true p1063
        replace q1063 := eq_true q1063
        have p1065 : 0 ≤ (x3_2 : Int) := of_decide_eq_true (by first | (with_reducible assumption) | assumption)
        have q1065 : x3_2 < (l0_2.length : Int) := of_decide_eq_true (by first | (with_reducible assumption) | assumption)
        obtain ⟨ad1065, e1065, hx1065_0⟩ := Kd.at_int HR0_2.out x3_2 p1065 q1065
        have hw1065_0 := hx1065_0
        cases e1065
        replace hx1065_0 := hc HB hx1065_0
        replace p1065 := eq_true p1065
        replace q1065 := eq_true q1065
        refine start_ (n := 22) (S := fun w' => w'.cell? ⟨gb1061, 0, none⟩ = some (.int .i64 a0_0) ∧ w'.cell? ⟨gb1061, 1, none⟩ = some (.slice (some ad1063) l0_1.length c0_1) ∧ w'.cell? ⟨gb1061, 2, none⟩ = some (.slice (some ad1065) l0_2.length c0_2) ∧ w'.cell? (ad1063.add (x3_2).toNat) = some (.int .i64 (rd l0_1 x3_2)) ∧ w'.cell? (ad1065.add (x3_2).toNat) = some (.int .i64 (rd l0_2 x3_2))) (ds := []) #[false, false, false, false, false, false, false, false, false, false, false, false, false, false, false, false, false, false, false, false, false, false] (by kernel_rfl) rfl rfl ⟨bcu BK1061 0, bcu BK1061 1, bcu BK1061 2, (hcu HB hw1063_0), (hcu HB hw1065_0)⟩ (fun hHeld => ?_); refine with_tabW spec_l03Is.tab6 spec_l03Is.bits6 (fun HT_ HW_ => ?_)
        generalize wr.drew = w23 at BK1061 HB hx1063_0 hx1065_0 hHeld ⊢
        refine pu_ 0 36 (bl 22 1) HT_ ?_
        refine pu_ 2 38 (bl 22 5) HT_ ?_
        refine pu_ 5 41 (bl 22 37) HT_ ?_
        refine ta_ 1 37 (bl 22 39) HT_ HW_ hHeld ?_
        refine pu_ 3 39 (bl 22 47) HT_ ?_
        refine ta_ 4 40 (bl 22 63) HT_ HW_ hHeld ?_
        refine ta_ 6 42 (bl 22 127) HT_ HW_ hHeld ?_
        refine pu_ 7 43 (bl 22 255) HT_ ?_
        refine on_ 8 (some 44) (bl 22 511) HT_ (fun K hK => ?_)
        refine gS Try.func107 #[.int .i64 (rd l0_1 x3_2), .int .i64 0, .int .i64 (wrap64 (a0_0 - 1))] ?_
        with_reducible refine (spec_l01In.calls (rd l0_1 x3_2) 0 (wrap64 (a0_0 - 1)) true _ A15.out).mono ?_
        rintro e w' ⟨rfl, ⟨nd, rfl⟩⟩
        refine ⟨_, rfl, ?_⟩
        refine hK.out _ _ ⟨bcu BK1061 0, bcu BK1061 1, bcu BK1061 2, (hcu HB hw1063_0), (hcu HB hw1065_0)⟩ (fun hHeld => ?_)
        clear hK K
        refine no_ 44 ?_
        refine pu_ 9 45 (bl 22 1023) HT_ ?_
        refine pu_ 10 46 (bl 22 2047) HT_ ?_
        refine pu_ 11 47 (bl 22 4095) HT_ ?_
        refine pu_ 13 49 (bl 22 12287) HT_ ?_
        refine pu_ 16 52 (bl 22 77823) HT_ ?_
        refine ta_ 12 48 (bl 22 81919) HT_ HW_ hHeld ?_
        refine pu_ 14 50 (bl 22 98303) HT_ ?_
        refine ta_ 15 51 (bl 22 131071) HT_ HW_ hHeld ?_
        refine ta_ 17 53 (bl 22 262143) HT_ HW_ hHeld ?_
        refine pu_ 18 54 (bl 22 524287) HT_ ?_
        refine on_ 19 (some 55) (bl 22 1048575) HT_ (fun K hK => ?_)
        refine gS Try.func107 #[.int .i64 (rd l0_2 x3_2), .int .i64 1, .int .i64 (wrap64 (a0_0 - 1))] ?_
        with_reducible refine (spec_l01In.calls (rd l0_2 x3_2) 1 (wrap64 (a0_0 - 1)) false _ A18.out).mono ?_
        rintro e w' ⟨rfl, ⟨nd, rfl⟩⟩
        refine ⟨_, rfl, ?_⟩
        refine hK.out _ _ ⟨bcu BK1061 0, bcu BK1061 1, bcu BK1061 2, (hcu HB hw1063_0), (hcu HB hw1065_0)⟩ (fun hHeld => ?_)
        clear hK K
        refine no_ 55 ?_
        refine pu_ 20 56 (bl 22 2097151) HT_ ?_
        refine pu_ 21 57 (bl 22 4194303) HT_ ?_
        refine done_ (done_of HT_.out (by kernel_rfl)) ?_
        try go_wp2
        go_ret
        exact ⟨by first | rfl | (simp [errW_none, errW_some] <;> rfl) | (simp [*, errW_none, errW_some] <;> rfl), uH HB.out⟩
      ·replace c16 := Bool.eq_false_iff.mpr c16
       subst c16
       have H1 : (some false) = some r := by rw [if_neg (show ¬ (false = true) by decide)] at H; exact H
       clear H
       have H := H1
       clear H1
       obtain rfl := Option.some.inj H
       have hcz24_0 := bc BK1061 0
       have hcz24_1 := bc BK1061 1
       have hcz24_2 := bc BK1061 2
       have hfz24_0 := bf BK1061 0
       have hfz24_1 := bf BK1061 1
       have hfz24_2 := bf BK1061 2
       try go_wp2
       replace BK1061 := zA (blk_drew BK1061.out)
       replace HB := zA (below_drew1 HB.out)
       have p1063 : 0 ≤ (x3_2 : Int) := of_decide_eq_true (by first | (with_reducible assumption) | assumption)
       have q1063 : x3_2 < (l0_1.length : Int) := of_decide_eq_true (by first | (with_reducible assumption) | assumption)
       obtain ⟨ad1063, e1063, hx1063_0⟩ := Kd.at_int HR0_1.out x3_2 p1063 q1063
       have hw1063_0 := hx1063_0
       cases e1063
       replace hx1063_0 := hc HB hx1063_0
       replace p1063 := eq_true p1063
       replace q1063 := eq_true q1063
       refine start_ (n := 22) (S := fun w' => w'.cell? ⟨gb1061, 0, none⟩ = some (.int .i64 a0_0) ∧ w'.cell? ⟨gb1061, 1, none⟩ = some (.slice (some ad1063) l0_1.length c0_1) ∧ w'.cell? ⟨gb1061, 2, none⟩ = some (.slice A0_2 l0_2.length c0_2) ∧ w'.cell? (ad1063.add (x3_2).toNat) = some (.int .i64 (rd l0_1 x3_2))) (ds := []) #[false, false, false, false, false, false, false, false, false, false, false, false, false, false, false, false, false, false, false, false, false, false] (by kernel_rfl) rfl rfl ⟨bcu BK1061 0, bcu BK1061 1, bcu BK1061 2, (hcu HB hw1063_0)⟩ (fun hHeld => ?_); refine with_tabW spec_l03Is.tab6 spec_l03Is.bits6 (fun HT_ HW_ => ?_)
       generalize wr.drew = w25 at BK1061 HB hx1063_0 hHeld ⊢
       refine pu_ 0 36 (bl 22 1) HT_ ?_
       refine pu_ 2 38 (bl 22 5) HT_ ?_
       refine pu_ 5 41 (bl 22 37) HT_ ?_
       refine ta_ 1 37 (bl 22 39) HT_ HW_ hHeld ?_
       refine pu_ 3 39 (bl 22 47) HT_ ?_
       refine ta_ 4 40 (bl 22 63) HT_ HW_ hHeld ?_
       refine ta_ 6 42 (bl 22 127) HT_ HW_ hHeld ?_
       refine pu_ 7 43 (bl 22 255) HT_ ?_
       refine on_ 8 (some 44) (bl 22 511) HT_ (fun K hK => ?_)
       refine gS Try.func107 #[.int .i64 (rd l0_1 x3_2), .int .i64 0, .int .i64 (wrap64 (a0_0 - 1))] ?_
       with_reducible refine (spec_l01In.calls (rd l0_1 x3_2) 0 (wrap64 (a0_0 - 1)) false _ A15.out).mono ?_
       rintro e w' ⟨rfl, ⟨nd, rfl⟩⟩
       refine ⟨_, rfl, ?_⟩
       refine hK.out _ _ ⟨bcu BK1061 0, bcu BK1061 1, bcu BK1061 2, (hcu HB hw1063_0)⟩ (fun hHeld => ?_)
       clear hK K
       refine no_ 44 ?_
       refine pu_ 9 45 (bl 22 1023) HT_ ?_
       refine pu_ 10 46 (bl 22 2047) HT_ ?_
       refine un_ 11 47 (bl 22 4095) HT_ ?_
       refine un_ 12 48 (bl 22 8191) HT_ ?_
       refine un_ 13 49 (bl 22 16383) HT_ ?_
       refine un_ 14 50 (bl 22 32767) HT_ ?_
       refine un_ 15 51 (bl 22 65535) HT_ ?_
       refine un_ 16 52 (bl 22 131071) HT_ ?_
       refine un_ 17 53 (bl 22 262143) HT_ ?_
       refine un_ 18 54 (bl 22 524287) HT_ ?_
       refine un_ 19 55 (bl 22 1048575) HT_ ?_
       refine un_ 20 56 (bl 22 2097151) HT_ ?_
       refine pu_ 21 57 (bl 22 4194303) HT_ ?_
       refine done_ (done_of HT_.out (by kernel_rfl)) ?_
       try go_wp2
       go_ret
       exact ⟨by first | rfl | (simp [errW_none, errW_some] <;> rfl) | (simp [*, errW_none, errW_some] <;> rfl), uH HB.out⟩
/-! ### spec_l03Step: function 127 -/
def spec_l03Step.f (k : Nat) (a0 : Int) (l1 : List Int) (l2 : List Int) (a3 : Int) (a4 : Int) : Option (List Int) := (spec_l01Mod.f a0 (wrap64 (-a3))).bind fun t1289 => ((spec_l01Times.f k a0 (([t1289, 1] : List Int)) l1).bind fun t1293 => ((spec_l01Mod.f a0 (wrap64 (-a4))).bind fun t1296 => ((spec_l01Add.f k a0 t1293 l2 t1296).bind fun t1297 => (some t1297))))
set_option maxHeartbeats 8000000 in
set_option maxRecDepth 100000 in
theorem spec_l03Step.calls (k : Nat) (a0 : Int) (A1 : Option Addr) (c1 : Nat) (l1 : List Int) (A2 : Option Addr) (c2 : Nat) (l2 : List Int) (a3 : Int) (a4 : Int) (r : List Int) (w : World) (hr1 : Kd.C (Kd.int .i64) w A1 l1.length l1) (hc1 : l1.length ≤ c1) (hr2 : Kd.C (Kd.int .i64) w A2 l2.length l2) (hc2 : l2.length ≤ c2) (h : spec_l03Step.f k a0 l1 l2 a3 a4 = some r) :
  Calls Try.prog 127 #[.int .i64 a0, .slice A1 l1.length c1, .slice A2 l2.length c2, .int .i64 a3, .int .i64 a4] w fun e w' => ∃ v0_ : Value, e = .returned (v0_) ∧ Kd.R (Kd.int .i64) 2 w' w.heap.size (fun _ => True) v0_ r ∧ Below w.heap.size w w' := by
 have HR1 := zA hr1
 have HC1 := zA hc1
 clear hr1 hc1
 have HR2 := zA hr2
 have HC2 := zA hc2
 clear hr2 hc2
 have HB := zA (Below.refl w.heap.size w)
 have H : ((spec_l01Mod.f a0 (wrap64 (-a3))).bind fun t1289 => ((spec_l01Times.f k a0 (([t1289, 1] : List Int)) l1).bind fun t1293 => ((spec_l01Mod.f a0 (wrap64 (-a4))).bind fun t1296 => ((spec_l01Add.f k a0 t1293 l2 t1296).bind fun t1297 => (some t1297))))) = some r := h
 clear h
 replace H := Option.bind_eq_some_iff.mp H
 obtain ⟨t1289, A60, H⟩ := H
 replace H : ((spec_l01Times.f k a0 (([t1289, 1] : List Int)) l1).bind fun t1293 => ((spec_l01Mod.f a0 (wrap64 (-a4))).bind fun t1296 => ((spec_l01Add.f k a0 t1293 l2 t1296).bind fun t1297 => (some t1297)))) = some r := H
 have A6 := zA A60
 clear A60
 obtain ⟨y1290, hy1290⟩ : ∃ y_ : List Int, y_ = (([t1289, 1] : List Int)) := ⟨_, rfl⟩
 replace H : ((spec_l01Times.f k a0 y1290 l1).bind fun t1293 => ((spec_l01Mod.f a0 (wrap64 (-a4))).bind fun t1296 => ((spec_l01Add.f k a0 t1293 l2 t1296).bind fun t1297 => (some t1297)))) = some r := by first | (rw [hy1290]; exact H) | exact H
 have Ny1290 := zA hy1290
 clear hy1290
 replace H := Option.bind_eq_some_iff.mp H
 obtain ⟨t1293, A70, H⟩ := H
 replace H : ((spec_l01Mod.f a0 (wrap64 (-a4))).bind fun t1296 => ((spec_l01Add.f k a0 t1293 l2 t1296).bind fun t1297 => (some t1297))) = some r := H
 have A7 := zA A70
 clear A70
 replace H := Option.bind_eq_some_iff.mp H
 obtain ⟨t1296, A80, H⟩ := H
 replace H : ((spec_l01Add.f k a0 t1293 l2 t1296).bind fun t1297 => (some t1297)) = some r := H
 have A8 := zA A80
 clear A80
 replace H := Option.bind_eq_some_iff.mp H
 obtain ⟨t1297, A90, H⟩ := H
 replace H : (some t1297) = some r := H
 have A9 := zA A90
 clear A90
 obtain rfl := Option.some.inj H
 go_enter Try.func127, Try.ntmps127
 go_wp2_with (first | ((with_reducible refine gate_callee (f := 102) rfl ?_); refine gL (some 16) Try.func102 #[.int .i64 a0, .int .i64 (wrap64 (-a3))] ?_; (with_reducible refine (spec_l01Mod.calls a0 (wrap64 (-a3)) t1289 _ A6.out).mono ?_); rintro e w' ⟨rfl, ⟨nd, rfl⟩⟩; refine ⟨_, rfl, ?_⟩) | ((with_reducible refine gate_dst (N := 17) rfl ?_); refine Kd.R_lit (Kd.int .i64) _ 2 ?hg (N := 17) ?hd (xs := ([t1289, 1] : List Int)) (inner := [.int .i64 t1289, .int .i64 1]) (ok := fun _ => True) (okp := fun _ => True) ?hr ?hp (fun _ hk => hk) trivial (Below.refl _ _) (Nat.le_refl _) (by simp) ?_; (case hd => rfl); (case hg => rfl); (case hr => first | (go_simp; done) | (go_simp; rfl)); (case hp => exact (Reps.one (show Kd.M (Kd.int .i64) _ _ _ t1289 [.int .i64 t1289] from rfl) (Reps.one (show Kd.M (Kd.int .i64) _ _ _ 1 [.int .i64 1] from rfl) (Reps.none _ _)))); intro v1291 w10 ho11 hb hg_ hnew_; clear hg_ hnew_; (first | rw [← Ny1290.out] at ho11 | (simp only [Int.reduceToNat] at ho11; rw [← Ny1290.out] at ho11)); have HO1292 := zA (Kd.R_lower ho11 (below_size (uH HB.out))); replace HB := xH HB hb; clear hb ho11; obtain ⟨Ao12, co12, eo12⟩ := Kd.R_slice HO1292.out; subst eo12) | ((with_reducible refine gate_callee (f := 113) rfl ?_); refine gL (some 19) Try.func113 #[.int .i64 a0, .slice Ao12 y1290.length co12, .slice A1 l1.length c1] ?_; (with_reducible refine (spec_l01Times.calls k a0 _ _ y1290 _ _ l1 t1293 _ ?side1 ?side2 ?side3 ?side4 A7.out).mono ?_); (case side1 => exact uC ((Kd.R_reads' HO1292.out).2.2)); (case side2 => exact (Kd.R_reads' HO1292.out).2.1); (case side3 => exact uC ((Kd.C_below HR1.out HB.out))); (case side4 => exact HC1.out); rintro e w13 ⟨v1294, rfl, ho0, hb⟩; refine ⟨_, rfl, ?_⟩; have HO1295 := zA (Kd.R_lower (Kd.R_new' ho0 (Kd.R_lt (uR HO1292.out))) (below_size (uH HB.out))); replace HO1292 := zA (Kd.R_elder' (uR HO1292.out) (Kd.R_base ho0) hb); replace HB := xH HB hb; (try clear hb); (try clear hb2); (try clear hk); (try clear hi); (try clear ho0)) | ((with_reducible refine gate_callee (f := 102) rfl ?_); refine gL (some 24) Try.func102 #[.int .i64 a0, .int .i64 (wrap64 (-a4))] ?_; (with_reducible refine (spec_l01Mod.calls a0 (wrap64 (-a4)) t1296 _ A8.out).mono ?_); rintro e w' ⟨rfl, ⟨nd, rfl⟩⟩; refine ⟨_, rfl, ?_⟩; obtain ⟨Ao14, co14, eo14⟩ := Kd.R_slice HO1295.out; subst eo14) | ((with_reducible refine gate_callee (f := 96) rfl ?_); refine gL (some 25) Try.func96 #[.int .i64 a0, .slice Ao14 t1293.length co14, .slice A2 l2.length c2, .int .i64 t1296] ?_; (with_reducible refine (spec_l01Add.calls k a0 _ _ t1293 _ _ l2 t1296 t1297 _ ?side1 ?side2 ?side3 ?side4 A9.out).mono ?_); (case side1 => exact uC ((Kd.R_reads' HO1295.out).2.2)); (case side2 => exact (Kd.R_reads' HO1295.out).2.1); (case side3 => repeat (first | exact (Kd.C_below HR2.out (uH HB.out)) | (with_reducible refine Kd.C_alloc ?_ _) | (with_reducible refine Kd.C_drewN ?_ _) | (with_reducible refine Kd.C_drew ?_))); (case side4 => exact HC2.out); rintro e w15 ⟨v1298, rfl, ho0, hb⟩; refine ⟨_, rfl, ?_⟩; have HO1299 := zA (Kd.R_lower (Kd.R_new' (Kd.R_new' ho0 (Kd.R_lt (uR HO1292.out))) (Kd.R_lt (uR HO1295.out))) (below_size (uH HB.out))); replace HO1292 := zA (Kd.R_elder' (uR HO1292.out) (Kd.R_base ho0) hb); replace HO1295 := zA (Kd.R_elder' (uR HO1295.out) (Kd.R_base ho0) hb); replace HB := xH HB hb; (try clear hb); (try clear hb2); (try clear hk); (try clear hi); (try clear ho0)))
 go_ret
 exact ⟨_, by first | rfl | (simp [errW_none, errW_some] <;> rfl) | (simp [*, errW_none, errW_some] <;> rfl), uR (Kd.R_mono HO1299.out (fun _ hk => trivial)), uH HB.out⟩
/-! ### spec_l03Poly: function 77 -/
def spec_l03Poly.l0 : Nat → Int → List Int → List Int → Int → Int → List Int → List Int → Option (List Int)
 | 0, _, _, _, _, _, _, _ => none
 | k + 1, x1, x5, x6, x7, x1301000, x1301001, x1301002 => if x7 < x1 then (if 0 ≤ x7 then (if x7 < (x1301001.length : Int) then (if x7 < (x1301002.length : Int) then ((spec_l03Step.f k x1301000 x6 x5 (rd x1301001 x7) (rd x1301002 x7)).bind fun t1309 => (spec_l03Poly.l0 k x1 x6 t1309 (wrap64 (x7 + 1)) x1301000 x1301001 x1301002)) else (none)) else (none)) else (none)) else (some x6)
def spec_l03Poly.f (k : Nat) (a0_0 : Int) (l0_1 : List Int) (l0_2 : List Int) (a1 : Int) : Option (List Int) := spec_l03Poly.l0 k a1 (([] : List Int)) (([1] : List Int)) 0 a0_0 l0_1 l0_2
def spec_l03Poly.T5 : Bool × List (List Nat × List Nat) := (true, [([], []), ([0], [0]), ([], []), ([], []), ([], []), ([4], [4]), ([], []), ([5, 6], [5, 6]), ([7], [7]), ([], []), ([9], [9]), ([], []), ([10, 11], [10, 11]), ([12], [12]), ([1, 2, 3, 8, 13], [1, 2, 3, 8, 13]), ([14, 14, 0, 1, 2, 3, 4, 5, 6, 7, 8, 9, 10, 11, 12, 13, 14], [14])])
def spec_l03Poly.B5 : List Nat := [0, 1, 0, 0, 0, 16, 0, 112, 240, 0, 512, 0, 3584, 7680, 16383, 32767]
theorem spec_l03Poly.tab5 : rtab .any (opsOf Try.f77 5) = spec_l03Poly.T5 := by kernel_rfl
theorem spec_l03Poly.bits5 : waitsOk spec_l03Poly.T5.2 spec_l03Poly.B5 = true := by kernel_rfl
set_option maxHeartbeats 8000000 in
set_option maxRecDepth 100000 in
theorem spec_l03Poly.calls (k : Nat) (a0_0 : Int) (A0_1 : Option Addr) (c0_1 : Nat) (l0_1 : List Int) (A0_2 : Option Addr) (c0_2 : Nat) (l0_2 : List Int) (a1 : Int) (r : List Int) (w : World) (hr0_1 : Kd.C (Kd.int .i64) w A0_1 l0_1.length l0_1) (hc0_1 : l0_1.length ≤ c0_1) (hr0_2 : Kd.C (Kd.int .i64) w A0_2 l0_2.length l0_2) (hc0_2 : l0_2.length ≤ c0_2) (h : spec_l03Poly.f k a0_0 l0_1 l0_2 a1 = some r) :
  Calls Try.prog 77 #[.agg #[.int .i64 a0_0, .slice A0_1 l0_1.length c0_1, .slice A0_2 l0_2.length c0_2], .int .i64 a1] w fun e w' => ∃ v0_ : Value, e = .returned (v0_) ∧ Kd.R (Kd.int .i64) 2 w' w.heap.size (fun _ => True) v0_ r ∧ Below w.heap.size w w' := by
 have hu26 := Try.underlying26
 have HR0_1 := zA hr0_1
 have HC0_1 := zA hc0_1
 clear hr0_1 hc0_1
 have HR0_2 := zA hr0_2
 have HC0_2 := zA hc0_2
 clear hr0_2 hc0_2
 have HB := zA (Below.refl w.heap.size w)
 have H : (spec_l03Poly.l0 k a1 (([] : List Int)) (([1] : List Int)) 0 a0_0 l0_1 l0_2) = some r := h
 clear h
 obtain ⟨y1301, hy1301⟩ : ∃ y_ : List Int, y_ = (([] : List Int)) := ⟨_, rfl⟩
 replace H : (spec_l03Poly.l0 k a1 y1301 (([1] : List Int)) 0 a0_0 l0_1 l0_2) = some r := by first | (rw [hy1301]; exact H) | exact H
 have Ny1301 := zA hy1301
 clear hy1301
 obtain ⟨y1304, hy1304⟩ : ∃ y_ : List Int, y_ = (([1] : List Int)) := ⟨_, rfl⟩
 replace H : (spec_l03Poly.l0 k a1 y1301 y1304 0 a0_0 l0_1 l0_2) = some r := by first | (rw [hy1304]; exact H) | exact H
 have Ny1304 := zA hy1304
 clear hy1304
 have H' := zA H
 clear H
 go_enter Try.func77, Try.ntmps77
 go_wp2_with (first | ((with_reducible refine gate_dst (N := 2) rfl ?_); refine bx 2 #[.int .i64 a0_0, .slice A0_1 l0_1.length c0_1, .slice A0_2 l0_2.length c0_2] 26 ?_; intro gb1300 hg w3 hbox hb; have BK1300 := zA (hbox); have GW1300 := gq HB hg; have GE1300 := gq HB hg; replace HB := xH HB hb; have := geI GE1300; clear hb hbox hg) | ((with_reducible refine gate_dst (N := 9) rfl ?_); refine Kd.R_lit (Kd.int .i64) _ 2 ?hg (N := 9) ?hd (xs := ([] : List Int)) (inner := []) (ok := fun _ => True) (okp := fun _ => True) ?hr ?hp (fun _ hk => hk) trivial (Below.refl _ _) (Nat.le_refl _) (by simp) ?_; (case hd => rfl); (case hg => rfl); (case hr => first | (go_simp; done) | (go_simp; rfl)); (case hp => exact (Reps.none _ _)); intro v1302 w4 ho5 hb hg_ hnew_; clear hg_ hnew_; (first | rw [← Ny1301.out] at ho5 | (simp only [Int.reduceToNat] at ho5; rw [← Ny1301.out] at ho5)); have HO1303 := zA (Kd.R_lower ho5 (below_size (uH HB.out))); replace BK1300 := xB BK1300 hb; replace HB := xH HB hb; clear hb ho5) | ((with_reducible refine gate_dst (N := 10) rfl ?_); refine Kd.R_lit (Kd.int .i64) _ 2 ?hg (N := 10) ?hd (xs := ([1] : List Int)) (inner := [.int .i64 1]) (ok := fun _ => True) (okp := fun _ => True) ?hr ?hp (fun _ hk => hk) trivial (Below.refl _ _) (Nat.le_refl _) (by simp) ?_; (case hd => rfl); (case hg => rfl); (case hr => first | (go_simp; done) | (go_simp; rfl)); (case hp => exact (Reps.one (show Kd.M (Kd.int .i64) _ _ _ 1 [.int .i64 1] from rfl) (Reps.none _ _))); intro v1305 w6 ho7 hb hg_ hnew_; clear hg_ hnew_; (first | rw [← Ny1304.out] at ho7 | (simp only [Int.reduceToNat] at ho7; rw [← Ny1304.out] at ho7)); have HO1306 := zA (Kd.R_lower (Kd.R_new' ho7 (Kd.R_lt (uR HO1303.out))) (below_size (uH HB.out))); replace HO1303 := zA (Kd.R_elder' (uR HO1303.out) (Kd.R_base ho7) hb); replace BK1300 := xB BK1300 hb; replace HB := xH HB hb; clear hb ho7))
 go_loopg [5, 6, 7] k (fun kq v5 v6 v7 w' => ∃ (x5_1 : List Int) (x6_1 : List Int) (x7_1 : Int), v7 = .int .i64 x7_1 ∧ Aside0 (spec_l03Poly.l0 kq a1 x5_1 x6_1 x7_1 a0_0 l0_1 l0_2 = some r) ∧ Aside0 (kq ≤ k) ∧ Aside0 (Kd.R (Kd.int .i64) 2 w' w.heap.size (fun k_ => some k_ ≠ (v6 : Value).ownBlock) v5 x5_1) ∧ Aside0 (Kd.R (Kd.int .i64) 2 w' w.heap.size (fun k_ => some k_ ≠ (v5 : Value).ownBlock) v6 x6_1) ∧ Aside0 (w'.heap[gb1300]? = some (.cells #[.int .i64 a0_0, (.slice A0_1 l0_1.length c0_1), (.slice A0_2 l0_2.length c0_2)] 26 (0, 0))) ∧ Aside0 (Below w.heap.size w w'))
 case atStart => exact ⟨(y1301), (y1304), (0), (by first | rfl | (simp; done) | (simp [*]; done)), H', ⟨Nat.le_refl _⟩, ⟨uR (Kd.R_mono HO1303.out (fun _ hk => hk.2))⟩, ⟨uR (Kd.R_mono HO1306.out (fun _ hk => hk.2))⟩, ⟨uB BK1300.out⟩, ⟨uH HB.out⟩⟩
 case round =>
  clear H'
  (try clear p2);(try clear c7)
  obtain ⟨x5_1, x6_1, x7_1, rfl, HA, HK1, HO_5, HO_6, BK1300, HB⟩ := hrel
  cases gk with
  | zero => exact absurd HA.out (by simp [spec_l03Poly.l0])
  | succ k1 =>
   have H := HA.out
   clear HA
   simp only [spec_l03Poly.l0] at H
   by_cases c8 : x7_1 < a1
   rotate_left
   ·rw [if_neg c8] at H
    have c8b0 : decide (x7_1 < a1) = false := decide_eq_false c8
    clear c8
    obtain rfl := Option.some.inj H
    go_wp2
    go_ret
    exact ⟨_, by first | rfl | (simp [errW_none, errW_some] <;> rfl) | (simp [*, errW_none, errW_some] <;> rfl), uR (Kd.R_mono HO_6.out (fun _ hk => trivial)), uH HB.out⟩

   rw [if_pos c8] at H
   have c8b0 : decide (x7_1 < a1) = true := decide_eq_true c8
   clear c8
   by_cases c9 : 0 ≤ x7_1
   rotate_left
   ·rw [if_neg c9] at H
    exact absurd H (by simp)
   rw [if_pos c9] at H
   have c9b0 : decide (0 ≤ x7_1) = true := decide_eq_true c9
   clear c9
   by_cases c10 : x7_1 < (l0_1.length : Int)
   rotate_left
   ·rw [if_neg c10] at H
    exact absurd H (by simp)
   rw [if_pos c10] at H
   have c10b0 : decide (x7_1 < (l0_1.length : Int)) = true := decide_eq_true c10
   clear c10
   by_cases c11 : x7_1 < (l0_2.length : Int)
   rotate_left
   ·rw [if_neg c11] at H
    exact absurd H (by simp)
   rw [if_pos c11] at H
   have c11b0 : decide (x7_1 < (l0_2.length : Int)) = true := decide_eq_true c11
   clear c11
   replace H := Option.bind_eq_some_iff.mp H
   obtain ⟨t1309, A120, H⟩ := H
   replace H : (spec_l03Poly.l0 k1 a1 x6_1 t1309 (wrap64 (x7_1 + 1)) a0_0 l0_1 l0_2) = some r := H
   have A12 := zA A120
   clear A120
   have H' := zA H
   clear H
   try go_wp2
   replace HO_5 := zA (Kd.R_drew HO_5.out)
   replace HO_6 := zA (Kd.R_drew HO_6.out)
   replace BK1300 := zA (blk_drew BK1300.out)
   replace HB := zA (below_drew1 HB.out)
   have p1307 : 0 ≤ (x7_1 : Int) := of_decide_eq_true (by first | (with_reducible assumption) | assumption)
   have q1307 : x7_1 < (l0_1.length : Int) := of_decide_eq_true (by first | (with_reducible assumption) | assumption)
   obtain ⟨ad1307, e1307, hx1307_0⟩ := Kd.at_int HR0_1.out x7_1 p1307 q1307
   have hw1307_0 := hx1307_0
   cases e1307
   replace hx1307_0 := hc HB hx1307_0
   replace p1307 := eq_true p1307
   replace q1307 := eq_true q1307
   have p1308 : 0 ≤ (x7_1 : Int) := of_decide_eq_true (by first | (with_reducible assumption) | assumption)
   have q1308 : x7_1 < (l0_2.length : Int) := of_decide_eq_true (by first | (with_reducible assumption) | assumption)
   obtain ⟨ad1308, e1308, hx1308_0⟩ := Kd.at_int HR0_2.out x7_1 p1308 q1308
   have hw1308_0 := hx1308_0
   cases e1308
   replace hx1308_0 := hc HB hx1308_0
   replace p1308 := eq_true p1308
   replace q1308 := eq_true q1308
   obtain ⟨Ao14, co14, eo14⟩ := Kd.R_slice HO_6.out
   (first | subst eo14 | (injection eo14 with f1_ f2_ f3_; have f4_ := f1_.symm; have f5_ := f3_.symm; clear f1_ f2_ f3_; subst f4_; subst f5_))
   obtain ⟨Ao15, co15, eo15⟩ := Kd.R_slice HO_5.out
   (first | subst eo15 | (injection eo15 with f1_ f2_ f3_; have f4_ := f1_.symm; have f5_ := f3_.symm; clear f1_ f2_ f3_; subst f4_; subst f5_))
   refine start_ (n := 16) (S := fun w' => w'.cell? ⟨gb1300, 0, none⟩ = some (.int .i64 a0_0) ∧ w'.cell? ⟨gb1300, 1, none⟩ = some (.slice (some ad1307) l0_1.length c0_1) ∧ w'.cell? ⟨gb1300, 2, none⟩ = some (.slice (some ad1308) l0_2.length c0_2) ∧ w'.cell? (ad1307.add (x7_1).toNat) = some (.int .i64 (rd l0_1 x7_1)) ∧ w'.cell? (ad1308.add (x7_1).toNat) = some (.int .i64 (rd l0_2 x7_1))) (ds := []) #[false, false, false, false, false, false, false, false, false, false, false, false, false, false, false, false] (by kernel_rfl) rfl rfl ⟨bcu BK1300 0, bcu BK1300 1, bcu BK1300 2, (hcu HB hw1307_0), (hcu HB hw1308_0)⟩ (fun hHeld => ?_); refine with_tabW spec_l03Poly.tab5 spec_l03Poly.bits5 (fun HT_ HW_ => ?_)
   generalize wr.drew = w13 at HO_5 HO_6 BK1300 HB hx1307_0 hx1308_0 hHeld ⊢
   refine pu_ 0 16 (bl 16 1) HT_ ?_
   refine pu_ 2 18 (bl 16 5) HT_ ?_
   refine pu_ 3 19 (bl 16 13) HT_ ?_
   refine pu_ 4 20 (bl 16 29) HT_ ?_
   refine pu_ 6 22 (bl 16 93) HT_ ?_
   refine pu_ 9 25 (bl 16 605) HT_ ?_
   refine pu_ 11 27 (bl 16 2653) HT_ ?_
   refine ta_ 1 17 (bl 16 2655) HT_ HW_ hHeld ?_
   refine ta_ 5 21 (bl 16 2687) HT_ HW_ hHeld ?_
   refine pu_ 7 23 (bl 16 2815) HT_ ?_
   refine ta_ 8 24 (bl 16 3071) HT_ HW_ hHeld ?_
   refine ta_ 10 26 (bl 16 4095) HT_ HW_ hHeld ?_
   refine pu_ 12 28 (bl 16 8191) HT_ ?_
   refine ta_ 13 29 (bl 16 16383) HT_ HW_ hHeld ?_
   refine on_ 14 (some 30) (bl 16 32767) HT_ (fun K hK => ?_)
   refine gS Try.func127 #[.int .i64 a0_0, .slice Ao14 x6_1.length co14, .slice Ao15 x5_1.length co15, .int .i64 (rd l0_1 x7_1), .int .i64 (rd l0_2 x7_1)] ?_
   with_reducible refine (spec_l03Step.calls k1 a0_0 _ _ x6_1 _ _ x5_1 (rd l0_1 x7_1) (rd l0_2 x7_1) t1309 _ ?side1 ?side2 ?side3 ?side4 A12.out).mono ?_
   (case side1 => exact uC ((Kd.R_reads' HO_6.out).2.2))
   (case side2 => exact (Kd.R_reads' HO_6.out).2.1)
   (case side3 => exact uC ((Kd.R_reads' HO_5.out).2.2))
   (case side4 => exact (Kd.R_reads' HO_5.out).2.1)
   rintro e w16 ⟨v1310, rfl, ho0, hb⟩
   refine ⟨_, rfl, ?_⟩
   have HO1311 := zA (Kd.R_lower (Kd.R_new' (Kd.R_new' ho0 (Kd.R_lt (uR HO_5.out))) (Kd.R_lt (uR HO_6.out))) (below_size (uH HB.out)))
   replace HO_5 := zA (Kd.R_elder' (uR HO_5.out) (Kd.R_base ho0) hb)
   replace HO_6 := zA (Kd.R_elder' (uR HO_6.out) (Kd.R_base ho0) hb)
   replace BK1300 := xB BK1300 hb
   replace HB := xH HB hb
   (try clear hb); (try clear hb2); (try clear hk); (try clear hi); (try clear ho0)
   refine hK.out _ _ ⟨bcu BK1300 0, bcu BK1300 1, bcu BK1300 2, (hcu HB hw1307_0), (hcu HB hw1308_0)⟩ (fun hHeld => ?_)
   clear hK K
   refine no_ 30 ?_
   refine pu_ 15 8 (bl 16 65535) HT_ ?_
   refine done_ (done_of HT_.out (by kernel_rfl)) ?_
   try go_wp2
   go_roundg k1
   case measure => have := HK1.out; omega
   case rel => exact ⟨(x6_1), (t1309), (wrap64 (x7_1 + 1)), (by first | rfl | (simp; done) | (simp [*]; done)), H', ⟨by have := HK1.out; omega⟩, ⟨uR (Kd.R_mono HO_6.out (fun _ hk => hk.2))⟩, ⟨uR (Kd.R_mono HO1311.out (fun _ hk => hk.2))⟩, ⟨uB BK1300.out⟩, ⟨uH HB.out⟩⟩
/-! ### spec_l03Second: function 129 -/
def spec_l03Second.l0 : Nat → Int → List Int → List Int → Int → Int → List Int → List Int → Option (List Int)
 | 0, _, _, _, _, _, _, _ => none
 | k + 1, x1, x5, x6, x7, x1323000, x1323001, x1323002 => if x7 < x1 then (if 0 ≤ x7 then (if x7 < (x1323001.length : Int) then (if x7 < (x1323002.length : Int) then ((spec_l03Step.f k x1323000 x6 x5 (rd x1323001 x7) (rd x1323002 x7)).bind fun t1334 => (spec_l03Second.l0 k x1 x6 t1334 (wrap64 (x7 + 1)) x1323000 x1323001 x1323002)) else (none)) else (none)) else (none)) else (some x6)
def spec_l03Second.f (k : Nat) (a0_0 : Int) (l0_1 : List Int) (l0_2 : List Int) (a1 : Int) : Option (List Int) := if a1 = 0 then (some (([] : List Int))) else (spec_l03Second.l0 k a1 (([] : List Int)) (([1] : List Int)) 1 a0_0 l0_1 l0_2)
def spec_l03Second.T7 : Bool × List (List Nat × List Nat) := (true, [([], []), ([0], [0]), ([], []), ([], []), ([], []), ([4], [4]), ([], []), ([5, 6], [5, 6]), ([7], [7]), ([], []), ([9], [9]), ([], []), ([10, 11], [10, 11]), ([12], [12]), ([1, 2, 3, 8, 13], [1, 2, 3, 8, 13]), ([14, 14, 0, 1, 2, 3, 4, 5, 6, 7, 8, 9, 10, 11, 12, 13, 14], [14])])
def spec_l03Second.B7 : List Nat := [0, 1, 0, 0, 0, 16, 0, 112, 240, 0, 512, 0, 3584, 7680, 16383, 32767]
theorem spec_l03Second.tab7 : rtab .any (opsOf Try.f129 7) = spec_l03Second.T7 := by kernel_rfl
theorem spec_l03Second.bits7 : waitsOk spec_l03Second.T7.2 spec_l03Second.B7 = true := by kernel_rfl
set_option maxHeartbeats 8000000 in
set_option maxRecDepth 100000 in
theorem spec_l03Second.calls (k : Nat) (a0_0 : Int) (A0_1 : Option Addr) (c0_1 : Nat) (l0_1 : List Int) (A0_2 : Option Addr) (c0_2 : Nat) (l0_2 : List Int) (a1 : Int) (r : List Int) (w : World) (hr0_1 : Kd.C (Kd.int .i64) w A0_1 l0_1.length l0_1) (hc0_1 : l0_1.length ≤ c0_1) (hr0_2 : Kd.C (Kd.int .i64) w A0_2 l0_2.length l0_2) (hc0_2 : l0_2.length ≤ c0_2) (h : spec_l03Second.f k a0_0 l0_1 l0_2 a1 = some r) :
  Calls Try.prog 129 #[.agg #[.int .i64 a0_0, .slice A0_1 l0_1.length c0_1, .slice A0_2 l0_2.length c0_2], .int .i64 a1] w fun e w' => ∃ v0_ : Value, e = .returned (v0_) ∧ Kd.R (Kd.int .i64) 2 w' w.heap.size (fun _ => True) v0_ r ∧ Below w.heap.size w w' := by
 have hu26 := Try.underlying26
 have HR0_1 := zA hr0_1
 have HC0_1 := zA hc0_1
 clear hr0_1 hc0_1
 have HR0_2 := zA hr0_2
 have HC0_2 := zA hc0_2
 clear hr0_2 hc0_2
 have HB := zA (Below.refl w.heap.size w)
 have H : (if a1 = 0 then (some (([] : List Int))) else (spec_l03Second.l0 k a1 (([] : List Int)) (([1] : List Int)) 1 a0_0 l0_1 l0_2)) = some r := h
 clear h
 by_cases c3 : a1 = 0
 rotate_left
 ·rw [if_neg c3] at H
  have c3b0 : (a1 == 0) = false := beq_eq_false_iff_ne.mpr c3
  have c3b1 : (a1 != 0) = true := bne_iff_ne.mpr c3
  obtain ⟨y1326, hy1326⟩ : ∃ y_ : List Int, y_ = (([] : List Int)) := ⟨_, rfl⟩
  replace H : (spec_l03Second.l0 k a1 y1326 (([1] : List Int)) 1 a0_0 l0_1 l0_2) = some r := by first | (rw [hy1326]; exact H) | exact H
  have Ny1326 := zA hy1326
  clear hy1326
  obtain ⟨y1329, hy1329⟩ : ∃ y_ : List Int, y_ = (([1] : List Int)) := ⟨_, rfl⟩
  replace H : (spec_l03Second.l0 k a1 y1326 y1329 1 a0_0 l0_1 l0_2) = some r := by first | (rw [hy1329]; exact H) | exact H
  have Ny1329 := zA hy1329
  clear hy1329
  have H' := zA H
  clear H
  go_enter Try.func129, Try.ntmps129
  go_wp2_with (first | ((with_reducible refine gate_dst (N := 2) rfl ?_); refine bx 2 #[.int .i64 a0_0, .slice A0_1 l0_1.length c0_1, .slice A0_2 l0_2.length c0_2] 26 ?_; intro gb1322 hg w7 hbox hb; have BK1322 := zA (hbox); have GW1322 := gq HB hg; have GE1322 := gq HB hg; replace HB := xH HB hb; have := geI GE1322; clear hb hbox hg) | ((with_reducible refine gate_dst (N := 12) rfl ?_); refine Kd.R_lit (Kd.int .i64) _ 2 ?hg (N := 12) ?hd (xs := ([] : List Int)) (inner := []) (ok := fun _ => True) (okp := fun _ => True) ?hr ?hp (fun _ hk => hk) trivial (Below.refl _ _) (Nat.le_refl _) (by simp) ?_; (case hd => rfl); (case hg => rfl); (case hr => first | (go_simp; done) | (go_simp; rfl)); (case hp => exact (Reps.none _ _)); intro v1327 w8 ho9 hb hg_ hnew_; clear hg_ hnew_; (first | rw [← Ny1326.out] at ho9 | (simp only [Int.reduceToNat] at ho9; rw [← Ny1326.out] at ho9)); have HO1328 := zA (Kd.R_lower ho9 (below_size (uH HB.out))); replace BK1322 := xB BK1322 hb; replace HB := xH HB hb; clear hb ho9) | ((with_reducible refine gate_dst (N := 13) rfl ?_); refine Kd.R_lit (Kd.int .i64) _ 2 ?hg (N := 13) ?hd (xs := ([1] : List Int)) (inner := [.int .i64 1]) (ok := fun _ => True) (okp := fun _ => True) ?hr ?hp (fun _ hk => hk) trivial (Below.refl _ _) (Nat.le_refl _) (by simp) ?_; (case hd => rfl); (case hg => rfl); (case hr => first | (go_simp; done) | (go_simp; rfl)); (case hp => exact (Reps.one (show Kd.M (Kd.int .i64) _ _ _ 1 [.int .i64 1] from rfl) (Reps.none _ _))); intro v1330 w10 ho11 hb hg_ hnew_; clear hg_ hnew_; (first | rw [← Ny1329.out] at ho11 | (simp only [Int.reduceToNat] at ho11; rw [← Ny1329.out] at ho11)); have HO1331 := zA (Kd.R_lower (Kd.R_new' ho11 (Kd.R_lt (uR HO1328.out))) (below_size (uH HB.out))); replace HO1328 := zA (Kd.R_elder' (uR HO1328.out) (Kd.R_base ho11) hb); replace BK1322 := xB BK1322 hb; replace HB := xH HB hb; clear hb ho11))
  go_loopg [5, 6, 7] k (fun kq v5 v6 v7 w' => ∃ (x5_1 : List Int) (x6_1 : List Int) (x7_1 : Int), v7 = .int .i64 x7_1 ∧ Aside0 (spec_l03Second.l0 kq a1 x5_1 x6_1 x7_1 a0_0 l0_1 l0_2 = some r) ∧ Aside0 (kq ≤ k) ∧ Aside0 (Kd.R (Kd.int .i64) 2 w' w.heap.size (fun k_ => some k_ ≠ (v6 : Value).ownBlock) v5 x5_1) ∧ Aside0 (Kd.R (Kd.int .i64) 2 w' w.heap.size (fun k_ => some k_ ≠ (v5 : Value).ownBlock) v6 x6_1) ∧ Aside0 (w'.heap[gb1322]? = some (.cells #[.int .i64 a0_0, (.slice A0_1 l0_1.length c0_1), (.slice A0_2 l0_2.length c0_2)] 26 (0, 0))) ∧ Aside0 (Below w.heap.size w w'))
  case atStart => exact ⟨(y1326), (y1329), (1), (by first | rfl | (simp; done) | (simp [*]; done)), H', ⟨Nat.le_refl _⟩, ⟨uR (Kd.R_mono HO1328.out (fun _ hk => hk.2))⟩, ⟨uR (Kd.R_mono HO1331.out (fun _ hk => hk.2))⟩, ⟨uB BK1322.out⟩, ⟨uH HB.out⟩⟩
  case round =>
   clear H'
   (try clear c1);(try clear p2);(try clear c3);(try clear c3b0);(try clear c3b1)
   obtain ⟨x5_1, x6_1, x7_1, rfl, HA, HK1, HO_5, HO_6, BK1322, HB⟩ := hrel
   cases gk with
   | zero => exact absurd HA.out (by simp [spec_l03Second.l0])
   | succ k1 =>
    have H := HA.out
    clear HA
    simp only [spec_l03Second.l0] at H
    by_cases c12 : x7_1 < a1
    rotate_left
    ·rw [if_neg c12] at H
     have c12b0 : decide (x7_1 < a1) = false := decide_eq_false c12
     clear c12
     obtain rfl := Option.some.inj H
     go_wp2
     go_ret
     exact ⟨_, by first | rfl | (simp [errW_none, errW_some] <;> rfl) | (simp [*, errW_none, errW_some] <;> rfl), uR (Kd.R_mono HO_6.out (fun _ hk => trivial)), uH HB.out⟩

    rw [if_pos c12] at H
    have c12b0 : decide (x7_1 < a1) = true := decide_eq_true c12
    clear c12
    by_cases c13 : 0 ≤ x7_1
    rotate_left
    ·rw [if_neg c13] at H
     exact absurd H (by simp)
    rw [if_pos c13] at H
    have c13b0 : decide (0 ≤ x7_1) = true := decide_eq_true c13
    clear c13
    by_cases c14 : x7_1 < (l0_1.length : Int)
    rotate_left
    ·rw [if_neg c14] at H
     exact absurd H (by simp)
    rw [if_pos c14] at H
    have c14b0 : decide (x7_1 < (l0_1.length : Int)) = true := decide_eq_true c14
    clear c14
    by_cases c15 : x7_1 < (l0_2.length : Int)
    rotate_left
    ·rw [if_neg c15] at H
     exact absurd H (by simp)
    rw [if_pos c15] at H
    have c15b0 : decide (x7_1 < (l0_2.length : Int)) = true := decide_eq_true c15
    clear c15
    replace H := Option.bind_eq_some_iff.mp H
    obtain ⟨t1334, A160, H⟩ := H
    replace H : (spec_l03Second.l0 k1 a1 x6_1 t1334 (wrap64 (x7_1 + 1)) a0_0 l0_1 l0_2) = some r := H
    have A16 := zA A160
    clear A160
    have H' := zA H
    clear H
    try go_wp2
    replace HO_5 := zA (Kd.R_drew HO_5.out)
    replace HO_6 := zA (Kd.R_drew HO_6.out)
    replace BK1322 := zA (blk_drew BK1322.out)
    replace HB := zA (below_drew1 HB.out)
    have p1332 : 0 ≤ (x7_1 : Int) := of_decide_eq_true (by first | (with_reducible assumption) | assumption)
    have q1332 : x7_1 < (l0_1.length : Int) := of_decide_eq_true (by first | (with_reducible assumption) | assumption)
    obtain ⟨ad1332, e1332, hx1332_0⟩ := Kd.at_int HR0_1.out x7_1 p1332 q1332
    have hw1332_0 := hx1332_0
    cases e1332
    replace hx1332_0 := hc HB hx1332_0
    replace p1332 := eq_true p1332
    replace q1332 := eq_true q1332
    have p1333 : 0 ≤ (x7_1 : Int) := of_decide_eq_true (by first | (with_reducible assumption) | assumption)
    have q1333 : x7_1 < (l0_2.length : Int) := of_decide_eq_true (by first | (with_reducible assumption) | assumption)
    obtain ⟨ad1333, e1333, hx1333_0⟩ := Kd.at_int HR0_2.out x7_1 p1333 q1333
    have hw1333_0 := hx1333_0
    cases e1333
    replace hx1333_0 := hc HB hx1333_0
    replace p1333 := eq_true p1333
    replace q1333 := eq_true q1333
    obtain ⟨Ao18, co18, eo18⟩ := Kd.R_slice HO_6.out
    (first | subst eo18 | (injection eo18 with f1_ f2_ f3_; have f4_ := f1_.symm; have f5_ := f3_.symm; clear f1_ f2_ f3_; subst f4_; subst f5_))
    obtain ⟨Ao19, co19, eo19⟩ := Kd.R_slice HO_5.out
    (first | subst eo19 | (injection eo19 with f1_ f2_ f3_; have f4_ := f1_.symm; have f5_ := f3_.symm; clear f1_ f2_ f3_; subst f4_; subst f5_))
    refine start_ (n := 16) (S := fun w' => w'.cell? ⟨gb1322, 0, none⟩ = some (.int .i64 a0_0) ∧ w'.cell? ⟨gb1322, 1, none⟩ = some (.slice (some ad1332) l0_1.length c0_1) ∧ w'.cell? ⟨gb1322, 2, none⟩ = some (.slice (some ad1333) l0_2.length c0_2) ∧ w'.cell? (ad1332.add (x7_1).toNat) = some (.int .i64 (rd l0_1 x7_1)) ∧ w'.cell? (ad1333.add (x7_1).toNat) = some (.int .i64 (rd l0_2 x7_1))) (ds := []) #[false, false, false, false, false, false, false, false, false, false, false, false, false, false, false, false] (by kernel_rfl) rfl rfl ⟨bcu BK1322 0, bcu BK1322 1, bcu BK1322 2, (hcu HB hw1332_0), (hcu HB hw1333_0)⟩ (fun hHeld => ?_); refine with_tabW spec_l03Second.tab7 spec_l03Second.bits7 (fun HT_ HW_ => ?_)
    generalize wr.drew = w17 at HO_5 HO_6 BK1322 HB hx1332_0 hx1333_0 hHeld ⊢
    refine pu_ 0 19 (bl 16 1) HT_ ?_
    refine pu_ 2 21 (bl 16 5) HT_ ?_
    refine pu_ 3 22 (bl 16 13) HT_ ?_
    refine pu_ 4 23 (bl 16 29) HT_ ?_
    refine pu_ 6 25 (bl 16 93) HT_ ?_
    refine pu_ 9 28 (bl 16 605) HT_ ?_
    refine pu_ 11 30 (bl 16 2653) HT_ ?_
    refine ta_ 1 20 (bl 16 2655) HT_ HW_ hHeld ?_
    refine ta_ 5 24 (bl 16 2687) HT_ HW_ hHeld ?_
    refine pu_ 7 26 (bl 16 2815) HT_ ?_
    refine ta_ 8 27 (bl 16 3071) HT_ HW_ hHeld ?_
    refine ta_ 10 29 (bl 16 4095) HT_ HW_ hHeld ?_
    refine pu_ 12 31 (bl 16 8191) HT_ ?_
    refine ta_ 13 32 (bl 16 16383) HT_ HW_ hHeld ?_
    refine on_ 14 (some 33) (bl 16 32767) HT_ (fun K hK => ?_)
    refine gS Try.func127 #[.int .i64 a0_0, .slice Ao18 x6_1.length co18, .slice Ao19 x5_1.length co19, .int .i64 (rd l0_1 x7_1), .int .i64 (rd l0_2 x7_1)] ?_
    with_reducible refine (spec_l03Step.calls k1 a0_0 _ _ x6_1 _ _ x5_1 (rd l0_1 x7_1) (rd l0_2 x7_1) t1334 _ ?side1 ?side2 ?side3 ?side4 A16.out).mono ?_
    (case side1 => exact uC ((Kd.R_reads' HO_6.out).2.2))
    (case side2 => exact (Kd.R_reads' HO_6.out).2.1)
    (case side3 => exact uC ((Kd.R_reads' HO_5.out).2.2))
    (case side4 => exact (Kd.R_reads' HO_5.out).2.1)
    rintro e w20 ⟨v1335, rfl, ho0, hb⟩
    refine ⟨_, rfl, ?_⟩
    have HO1336 := zA (Kd.R_lower (Kd.R_new' (Kd.R_new' ho0 (Kd.R_lt (uR HO_5.out))) (Kd.R_lt (uR HO_6.out))) (below_size (uH HB.out)))
    replace HO_5 := zA (Kd.R_elder' (uR HO_5.out) (Kd.R_base ho0) hb)
    replace HO_6 := zA (Kd.R_elder' (uR HO_6.out) (Kd.R_base ho0) hb)
    replace BK1322 := xB BK1322 hb
    replace HB := xH HB hb
    (try clear hb); (try clear hb2); (try clear hk); (try clear hi); (try clear ho0)
    refine hK.out _ _ ⟨bcu BK1322 0, bcu BK1322 1, bcu BK1322 2, (hcu HB hw1332_0), (hcu HB hw1333_0)⟩ (fun hHeld => ?_)
    clear hK K
    refine no_ 33 ?_
    refine pu_ 15 8 (bl 16 65535) HT_ ?_
    refine done_ (done_of HT_.out (by kernel_rfl)) ?_
    try go_wp2
    go_roundg k1
    case measure => have := HK1.out; omega
    case rel => exact ⟨(x6_1), (t1334), (wrap64 (x7_1 + 1)), (by first | rfl | (simp; done) | (simp [*]; done)), H', ⟨by have := HK1.out; omega⟩, ⟨uR (Kd.R_mono HO_6.out (fun _ hk => hk.2))⟩, ⟨uR (Kd.R_mono HO1336.out (fun _ hk => hk.2))⟩, ⟨uB BK1322.out⟩, ⟨uH HB.out⟩⟩
 rw [if_pos c3] at H
 have c3b0 : (a1 == 0) = true := beq_iff_eq.mpr c3
 have c3b1 : (a1 != 0) = false := bne_eq_false_iff_eq.mpr c3
 clear c3
 obtain ⟨y1323, hy1323⟩ : ∃ y_ : List Int, y_ = (([] : List Int)) := ⟨_, rfl⟩
 replace H : (some y1323) = some r := by first | (rw [hy1323]; exact H) | exact H
 have Ny1323 := zA hy1323
 clear hy1323
 obtain rfl := Option.some.inj H
 go_enter Try.func129, Try.ntmps129
 go_wp2_with (first | ((with_reducible refine gate_dst (N := 2) rfl ?_); refine bx 2 #[.int .i64 a0_0, .slice A0_1 l0_1.length c0_1, .slice A0_2 l0_2.length c0_2] 26 ?_; intro gb1322 hg w4 hbox hb; have BK1322 := zA (hbox); have GW1322 := gq HB hg; have GE1322 := gq HB hg; replace HB := xH HB hb; have := geI GE1322; clear hb hbox hg) | ((with_reducible refine gate_dst (N := 11) rfl ?_); refine Kd.R_lit (Kd.int .i64) _ 2 ?hg (N := 11) ?hd (xs := ([] : List Int)) (inner := []) (ok := fun _ => True) (okp := fun _ => True) ?hr ?hp (fun _ hk => hk) trivial (Below.refl _ _) (Nat.le_refl _) (by simp) ?_; (case hd => rfl); (case hg => rfl); (case hr => first | (go_simp; done) | (go_simp; rfl)); (case hp => exact (Reps.none _ _)); intro v1324 w5 ho6 hb hg_ hnew_; clear hg_ hnew_; (first | rw [← Ny1323.out] at ho6 | (simp only [Int.reduceToNat] at ho6; rw [← Ny1323.out] at ho6)); have HO1325 := zA (Kd.R_lower ho6 (below_size (uH HB.out))); replace BK1322 := xB BK1322 hb; replace HB := xH HB hb; clear hb ho6))
 go_ret
 exact ⟨_, by first | rfl | (simp [errW_none, errW_some] <;> rfl) | (simp [*, errW_none, errW_some] <;> rfl), uR HO1325.out, uH HB.out⟩
end Go.Proofs.Ytfbnkebgdmfcfaa.Pr
