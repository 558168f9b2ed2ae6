/- Printed by a program of this session out of the translation: what these functions of the program compute, under the conditions that each theorem names. -/
import Derived.Test.YtjdannndpfkadaaKMergeRules1
import Derived.Test.YtjdannndpfkadaaKMergeRules2
namespace Go.Proofs.Ytjdannndpfkadaa.Pr
open Go.RowKit Go.Proofs.YtjdannndpfkadaaW.PrintWords Go.Proofs.YtjdannndpfkadaaW.PrintLast Go.Proofs.YtjdannndpfkadaaW.PrintMore
attribute [local go_sem] max2_int min2_int max_two min_two max_three min_three max_four min_four   -- for this text's walks alone
set_option linter.unusedVariables false
set_option linter.unusedSimpArgs false

/-! ### spec_l07Is: function 52 -/
mutual
def spec_l07Is.j0 : Nat → Bool → Int → List Int → List Int → Option (Bool)
 | 0, _, _, _, _ => none
 | k + 1, x22, x413000, x413001, x413002 => if x22 = true then (some false) else (spec_l07Is.l0 k 0 x413000 x413001 x413002)
def spec_l07Is.l0 : Nat → Int → Int → List Int → List Int → Option (Bool)
 | 0, _, _, _, _ => none
 | k + 1, x3, x413000, x413001, x413002 => if x3 < (x413001.length : Int) then (if 0 ≤ x3 then ((spec_l01In.f (rd x413001 x3) 0 (wrap64 (x413000 - 1))).bind fun t415 => (if t415 = true then (if x3 < (x413002.length : Int) then ((spec_l01In.f (rd x413002 x3) 0 (wrap64 (x413000 - 1))).bind fun t417 => (if t417 = true then (if x3 > 0 then (if 0 ≤ (wrap64 (x3 - 1)) then (if (wrap64 (x3 - 1)) < (x413001.length : Int) then (if (rd x413001 x3) ≤ (rd x413001 (wrap64 (x3 - 1))) then (some false) else (spec_l07Is.l0 k (wrap64 (x3 + 1)) x413000 x413001 x413002)) else (none)) else (none)) else (spec_l07Is.l0 k (wrap64 (x3 + 1)) x413000 x413001 x413002)) else (some false))) else (none)) else (some false))) else (none)) else (some true)
end
def spec_l07Is.f (k : Nat) (a0_0 : Int) (l0_1 : List Int) (l0_2 : List Int) : Option (Bool) := (spec_l01Prime.f k a0_0).bind fun t413 => (if t413 = true then (if (l0_1.length : Int) > 24 then (spec_l07Is.j0 k true a0_0 l0_1 l0_2) else (spec_l07Is.j0 k ((l0_2.length : Int) != (l0_1.length : Int)) a0_0 l0_1 l0_2)) else (spec_l07Is.j0 k true a0_0 l0_1 l0_2))
def spec_l07Is.T6 : Bool × List (List Nat × List Nat) := (true, [([], []), ([0], [0]), ([], []), ([1, 2], [1, 2]), ([3], [3]), ([], []), ([5], [5]), ([6], [6]), ([4, 7], [4, 7]), ([8], [8]), ([9, 8], [9]), ([10], [10]), ([11, 10], [10, 11]), ([10], [10]), ([12, 13, 10], [10, 12, 13]), ([14, 10], [10, 14]), ([10], [10]), ([16, 10], [10, 16]), ([17, 10], [10, 17]), ([15, 18, 10, 10], [10, 15, 18]), ([19, 10], [10, 19]), ([10, 20], [10, 20]), ([21, 19], [21]), ([22], [22]), ([23, 22], [22, 23]), ([24, 22, 22], [22, 24]), ([25], [25]), ([26, 25], [25, 26]), ([25], [25]), ([27, 28, 25], [25, 27, 28]), ([29, 25], [25, 29]), ([25], [25]), ([31, 25], [25, 31]), ([25], [25]), ([33, 25], [25, 33]), ([32, 34, 25], [25, 32, 34]), ([35, 25], [25, 35]), ([30, 36, 25], [25, 30, 36]), ([25, 37, 22], [22, 25, 37]), ([22, 38], [22, 38])])
def spec_l07Is.B6 : List Nat := [0, 1, 0, 7, 15, 0, 32, 96, 255, 511, 1023, 2047, 4095, 2047, 16383, 32767, 2047, 67583, 198655, 524287, 1048575, 2097151, 4194303, 8388607, 16777215, 33554431, 67108863, 134217727, 67108863, 536870911, 1073741823, 67108863, 2214592511, 67108863, 8657043455, 32279363583, 66639101951, 137438953471, 274877906943, 549755813887]
theorem spec_l07Is.tab6 : rtab .any (opsOf Try.f52 6) = spec_l07Is.T6 := by kernel_rfl
theorem spec_l07Is.bits6 : waitsOk spec_l07Is.T6.2 spec_l07Is.B6 = true := by kernel_rfl
set_option maxHeartbeats 8000000 in
set_option maxRecDepth 100000 in
theorem spec_l07Is.calls (k : Nat) (a0_0 : Int) (A0_1 : Option Addr) (c0_1 : Nat) (l0_1 : List Int) (A0_2 : Option Addr) (c0_2 : Nat) (l0_2 : List Int) (r : Bool) (w : World) (hr0_1 : Kd.C (Kd.int .i64) w A0_1 l0_1.length l0_1) (hc0_1 : l0_1.length ≤ c0_1) (hr0_2 : Kd.C (Kd.int .i64) w A0_2 l0_2.length l0_2) (hc0_2 : l0_2.length ≤ c0_2) (h : spec_l07Is.f k a0_0 l0_1 l0_2 = some r) :
  Calls Try.prog 52 #[.agg #[.int .i64 a0_0, .slice A0_1 l0_1.length c0_1, .slice A0_2 l0_2.length c0_2]] w fun e w' => e = .returned (.bool r) ∧ Below w.heap.size w w' := by
 have hu51 := Try.underlying51
 have HR0_1 := zA hr0_1
 have HC0_1 := zA hc0_1
 clear hr0_1 hc0_1
 have HR0_2 := zA hr0_2
 have HC0_2 := zA hc0_2
 clear hr0_2 hc0_2
 have HB := zA (Below.refl w.heap.size w)
 have H : ((spec_l01Prime.f k a0_0).bind fun t413 => (if t413 = true then (if (l0_1.length : Int) > 24 then (spec_l07Is.j0 k true a0_0 l0_1 l0_2) else (spec_l07Is.j0 k ((l0_2.length : Int) != (l0_1.length : Int)) a0_0 l0_1 l0_2)) else (spec_l07Is.j0 k true a0_0 l0_1 l0_2))) = some r := h
 clear h
 have HC2 := zA H
 clear H
 go_enter Try.func52, Try.ntmps52
 go_upto_region 1 with (first | ((with_reducible refine gate_dst (N := 1) rfl ?_); (try (refine gate_guard (by rfl) ?_; dsimp only)); refine bx 1 #[.int .i64 a0_0, .slice A0_1 l0_1.length c0_1, .slice A0_2 l0_2.length c0_2] 51 ?_; intro gb412 hg w3 hbox hb; have BK412 := zA (hbox); have GW412 := gq HB hg; have GE412 := gq HB hg; replace HB := xH HB hb; have := geI GE412; clear hb hbox hg))
 (try simp only [Act.put, ls, lz, ln])
 go_cut [22] (fun v22 wc => ∃ (kq : Nat) (x22_1 : Bool), v22 = .bool x22_1 ∧ Aside0 (spec_l07Is.j0 kq x22_1 a0_0 l0_1 l0_2 = some r) ∧ Aside0 (kq ≤ k) ∧ Aside0 (wc.heap[gb412]? = some (.cells #[.int .i64 a0_0, (.slice A0_1 l0_1.length c0_1), (.slice A0_2 l0_2.length c0_2)] 51 (0, 0))) ∧ Aside0 (Below w.heap.size w wc))
 case first =>
  have H := HC2.out
  clear HC2
  replace H := Option.bind_eq_some_iff.mp H
  obtain ⟨t413, A40, H⟩ := H
  replace H : (if t413 = true then (if (l0_1.length : Int) > 24 then (spec_l07Is.j0 k true a0_0 l0_1 l0_2) else (spec_l07Is.j0 k ((l0_2.length : Int) != (l0_1.length : Int)) a0_0 l0_1 l0_2)) else (spec_l07Is.j0 k true a0_0 l0_1 l0_2)) = some r := H
  have A4 := zA A40
  clear A40
  by_cases c5 : t413 = true
  ·subst c5
   have H1 : (if (l0_1.length : Int) > 24 then (spec_l07Is.j0 k true a0_0 l0_1 l0_2) else (spec_l07Is.j0 k ((l0_2.length : Int) != (l0_1.length : Int)) a0_0 l0_1 l0_2)) = some r := by rw [if_pos rfl] at H; exact H
   clear H
   have H := H1
   clear H1
   by_cases c6 : (l0_1.length : Int) > 24
   rotate_left
   ·rw [if_neg c6] at H
    have c6b0 : decide (24 < (l0_1.length : Int)) = false := decide_eq_false c6
    have c6b1 : decide (24 < l0_1.length) = false := decide_eq_false (by omega)
    clear c6
    (first | rw [c6b0] | (simp only [i64_w, i32_w]; rw [c6b0]) | skip)
    have H' := zA H
    clear H
    have hcz8_0 := bc BK412 0
    have hcz8_1 := bc BK412 1
    have hcz8_2 := bc BK412 2
    have hfz8_0 := bf BK412 0
    have hfz8_1 := bf BK412 1
    have hfz8_2 := bf BK412 2
    go_wp2_with (first | ((with_reducible refine gate_callee (f := 62) rfl ?_); refine gL (some 6) Try.func62 #[.int .i64 a0_0] ?_; (with_reducible refine (spec_l01Prime.calls k a0_0 true _ A4.out).mono ?_); rintro e w' ⟨rfl, ⟨nd, rfl⟩⟩; refine ⟨_, rfl, ?_⟩))
    go_meet
    case rel => exact ⟨_, (((l0_2.length : Int) != (l0_1.length : Int))), (by first | rfl | (simp; done) | (simp [*]; done)), H', ⟨by first | omega | exact Nat.le_refl _⟩, ⟨uB BK412.out⟩, ⟨uH HB.out⟩⟩
   rw [if_pos c6] at H
   have c6b0 : decide (24 < (l0_1.length : Int)) = true := decide_eq_true c6
   have c6b1 : decide (24 < l0_1.length) = true := decide_eq_true (by omega)
   clear c6
   (first | rw [c6b0] | (simp only [i64_w, i32_w]; rw [c6b0]) | skip)
   have H' := zA H
   clear H
   have hcz7_0 := bc BK412 0
   have hcz7_1 := bc BK412 1
   have hcz7_2 := bc BK412 2
   have hfz7_0 := bf BK412 0
   have hfz7_1 := bf BK412 1
   have hfz7_2 := bf BK412 2
   go_wp2_with (first | ((with_reducible refine gate_callee (f := 62) rfl ?_); refine gL (some 6) Try.func62 #[.int .i64 a0_0] ?_; (with_reducible refine (spec_l01Prime.calls k a0_0 true _ A4.out).mono ?_); rintro e w' ⟨rfl, ⟨nd, rfl⟩⟩; refine ⟨_, rfl, ?_⟩))
   go_meet
   case rel => exact ⟨_, (true), (by first | rfl | (simp; done) | (simp [*]; done)), H', ⟨by first | omega | exact Nat.le_refl _⟩, ⟨uB BK412.out⟩, ⟨uH HB.out⟩⟩
  ·replace c5 := Bool.eq_false_iff.mpr c5
   subst c5
   have H1 : (spec_l07Is.j0 k true a0_0 l0_1 l0_2) = some r := by rw [if_neg (show ¬ (false = true) by decide)] at H; exact H
   clear H
   have H := H1
   clear H1
   have H' := zA H
   clear H
   have hcz9_0 := bc BK412 0
   have hcz9_1 := bc BK412 1
   have hcz9_2 := bc BK412 2
   have hfz9_0 := bf BK412 0
   have hfz9_1 := bf BK412 1
   have hfz9_2 := bf BK412 2
   go_wp2_with (first | ((with_reducible refine gate_callee (f := 62) rfl ?_); refine gL (some 6) Try.func62 #[.int .i64 a0_0] ?_; (with_reducible refine (spec_l01Prime.calls k a0_0 false _ A4.out).mono ?_); rintro e w' ⟨rfl, ⟨nd, rfl⟩⟩; refine ⟨_, rfl, ?_⟩))
   go_meet
   case rel => exact ⟨_, (true), (by first | rfl | (simp; done) | (simp [*]; done)), H', ⟨by first | omega | exact Nat.le_refl _⟩, ⟨uB BK412.out⟩, ⟨uH HB.out⟩⟩
 case rest =>
  clear HC2
  (try clear p2);(try clear c5);(try clear c6);(try clear c6b0);(try clear c6b1);(try clear hcz7_0);(try clear hcz7_1);(try clear hcz7_2);(try clear hcz8_0);(try clear hcz8_1);(try clear hcz8_2);(try clear hcz9_0);(try clear hcz9_1);(try clear hcz9_2);(try clear hfz7_0);(try clear hfz7_1);(try clear hfz7_2);(try clear hfz8_0);(try clear hfz8_1);(try clear hfz8_2);(try clear hfz9_0);(try clear hfz9_1)
  try clear hfz9_2
  obtain ⟨kq, x22_1, rfl, HA, HJ1, BK412, HB⟩ := hcut
  cases kq with
  | zero => exact absurd HA.out (by simp [spec_l07Is.j0])
  | succ kj1 =>
   have H := HA.out
   clear HA
   simp only [spec_l07Is.j0] at H
   by_cases c10 : x22_1 = true
   ·subst c10
    have H1 : (some false) = some r := by rw [if_pos rfl] at H; exact H
    clear H
    have H := H1
    clear H1
    obtain rfl := Option.some.inj H
    go_wp2
    go_ret
    exact ⟨by first | rfl | (simp [errW_none, errW_some] <;> rfl) | (simp [*, errW_none, errW_some] <;> rfl), uH HB.out⟩
   ·replace c10 := Bool.eq_false_iff.mpr c10
    subst c10
    have H1 : (spec_l07Is.l0 kj1 0 a0_0 l0_1 l0_2) = some r := by rw [if_neg (show ¬ (false = true) by decide)] at H; exact H
    clear H
    have H := H1
    clear H1
    have H' := zA H
    clear H
    go_wp2
    go_loopg [3] kj1 (fun kq v3 w' => ∃ (x3_2 : Int), v3 = .int .i64 x3_2 ∧ Aside0 (spec_l07Is.l0 kq x3_2 a0_0 l0_1 l0_2 = some r) ∧ Aside0 (kq ≤ kj1) ∧ Aside0 (w'.heap[gb412]? = some (.cells #[.int .i64 a0_0, (.slice A0_1 l0_1.length c0_1), (.slice A0_2 l0_2.length c0_2)] 51 (0, 0))) ∧ Aside0 (Below w.heap.size w w'))
    case atStart => exact ⟨(0), (by first | rfl | (simp; done) | (simp [*]; done)), H', ⟨Nat.le_refl _⟩, ⟨uB BK412.out⟩, ⟨uH HB.out⟩⟩
    case round =>
     clear H'
     (try clear c1);(try clear p2);(try clear c5);(try clear c6);(try clear c6b0);(try clear c6b1);(try clear c10);(try clear hcz7_0);(try clear hcz7_1);(try clear hcz7_2);(try clear hcz8_0);(try clear hcz8_1);(try clear hcz8_2);(try clear hcz9_0);(try clear hcz9_1);(try clear hcz9_2);(try clear hfz7_0);(try clear hfz7_1);(try clear hfz7_2);(try clear hfz8_0);(try clear hfz8_1);(try clear hfz8_2);(try clear hfz9_0)
     (try clear hfz9_1);(try clear hfz9_2);(try clear p2)
     obtain ⟨x3_2, rfl, HA, HK2, BK412, HB⟩ := hrel
     cases gk with
     | zero => exact absurd HA.out (by simp [spec_l07Is.l0])
     | succ k2 =>
      have H := HA.out
      clear HA
      simp only [spec_l07Is.l0] at H
      by_cases c11 : x3_2 < (l0_1.length : Int)
      rotate_left
      ·rw [if_neg c11] at H
       have c11b0 : decide (x3_2 < (l0_1.length : Int)) = false := decide_eq_false c11
       clear c11
       obtain rfl := Option.some.inj H
       have hcz33_0 := bc BK412 0
       have hcz33_1 := bc BK412 1
       have hcz33_2 := bc BK412 2
       have hfz33_0 := bf BK412 0
       have hfz33_1 := bf BK412 1
       have hfz33_2 := bf BK412 2
       go_wp2
       go_ret
       exact ⟨by first | rfl | (simp [errW_none, errW_some] <;> rfl) | (simp [*, errW_none, errW_some] <;> rfl), uH HB.out⟩

      rw [if_pos c11] at H
      have c11b0 : decide (x3_2 < (l0_1.length : Int)) = true := decide_eq_true c11
      clear c11
      by_cases c12 : 0 ≤ x3_2
      rotate_left
      ·rw [if_neg c12] at H
       exact absurd H (by simp)
      rw [if_pos c12] at H
      have c12b0 : decide (0 ≤ x3_2) = true := decide_eq_true c12
      clear c12
      replace H := Option.bind_eq_some_iff.mp H
      obtain ⟨t415, A130, H⟩ := H
      replace H : (if t415 = true then (if x3_2 < (l0_2.length : Int) then ((spec_l01In.f (rd l0_2 x3_2) 0 (wrap64 (a0_0 - 1))).bind fun t417 => (if t417 = true then (if x3_2 > 0 then (if 0 ≤ (wrap64 (x3_2 - 1)) then (if (wrap64 (x3_2 - 1)) < (l0_1.length : Int) then (if (rd l0_1 x3_2) ≤ (rd l0_1 (wrap64 (x3_2 - 1))) then (some false) else (spec_l07Is.l0 k2 (wrap64 (x3_2 + 1)) a0_0 l0_1 l0_2)) else (none)) else (none)) else (spec_l07Is.l0 k2 (wrap64 (x3_2 + 1)) a0_0 l0_1 l0_2)) else (some false))) else (none)) else (some false)) = some r := H
      have A13 := zA A130
      clear A130
      by_cases c14 : t415 = true
      ·subst c14
       have H1 : (if x3_2 < (l0_2.length : Int) then ((spec_l01In.f (rd l0_2 x3_2) 0 (wrap64 (a0_0 - 1))).bind fun t417 => (if t417 = true then (if x3_2 > 0 then (if 0 ≤ (wrap64 (x3_2 - 1)) then (if (wrap64 (x3_2 - 1)) < (l0_1.length : Int) then (if (rd l0_1 x3_2) ≤ (rd l0_1 (wrap64 (x3_2 - 1))) then (some false) else (spec_l07Is.l0 k2 (wrap64 (x3_2 + 1)) a0_0 l0_1 l0_2)) else (none)) else (none)) else (spec_l07Is.l0 k2 (wrap64 (x3_2 + 1)) a0_0 l0_1 l0_2)) else (some false))) else (none)) = some r := by rw [if_pos rfl] at H; exact H
       clear H
       have H := H1
       clear H1
       by_cases c15 : x3_2 < (l0_2.length : Int)
       rotate_left
       ·rw [if_neg c15] at H
        exact absurd H (by simp)
       rw [if_pos c15] at H
       have c15b0 : decide (x3_2 < (l0_2.length : Int)) = true := decide_eq_true c15
       clear c15
       replace H := Option.bind_eq_some_iff.mp H
       obtain ⟨t417, A160, H⟩ := H
       replace H : (if t417 = true then (if x3_2 > 0 then (if 0 ≤ (wrap64 (x3_2 - 1)) then (if (wrap64 (x3_2 - 1)) < (l0_1.length : Int) then (if (rd l0_1 x3_2) ≤ (rd l0_1 (wrap64 (x3_2 - 1))) then (some false) else (spec_l07Is.l0 k2 (wrap64 (x3_2 + 1)) a0_0 l0_1 l0_2)) else (none)) else (none)) else (spec_l07Is.l0 k2 (wrap64 (x3_2 + 1)) a0_0 l0_1 l0_2)) else (some false)) = some r := H
       have A16 := zA A160
       clear A160
       by_cases c17 : t417 = true
       ·subst c17
        have H1 : (if x3_2 > 0 then (if 0 ≤ (wrap64 (x3_2 - 1)) then (if (wrap64 (x3_2 - 1)) < (l0_1.length : Int) then (if (rd l0_1 x3_2) ≤ (rd l0_1 (wrap64 (x3_2 - 1))) then (some false) else (spec_l07Is.l0 k2 (wrap64 (x3_2 + 1)) a0_0 l0_1 l0_2)) else (none)) else (none)) else (spec_l07Is.l0 k2 (wrap64 (x3_2 + 1)) a0_0 l0_1 l0_2)) = some r := by rw [if_pos rfl] at H; exact H
        clear H
        have H := H1
        clear H1
        by_cases c18 : x3_2 > 0
        rotate_left
        ·rw [if_neg c18] at H
         have c18b0 : decide (0 < x3_2) = false := decide_eq_false c18
         clear c18
         have H' := zA H
         clear H
         have hcz27_0 := bc BK412 0
         have hcz27_1 := bc BK412 1
         have hcz27_2 := bc BK412 2
         have hfz27_0 := bf BK412 0
         have hfz27_1 := bf BK412 1
         have hfz27_2 := bf BK412 2
         try go_wp2
         replace BK412 := zA (blk_drew BK412.out)
         replace HB := zA (below_drew1 HB.out)
         have p414 : 0 ≤ (x3_2 : Int) := of_decide_eq_true (by first | (with_reducible assumption) | assumption)
         have q414 : x3_2 < (l0_1.length : Int) := of_decide_eq_true (by first | (with_reducible assumption) | assumption)
         obtain ⟨ad414, e414, hx414_0⟩ := Kd.at_int HR0_1.out x3_2 p414 q414
         have hw414_0 := hx414_0
         cases e414
         replace hx414_0 := hc HB hx414_0
         replace p414 := eq_true p414
         replace q414 := eq_true q414
         have p416 : 0 ≤ (x3_2 : Int) := of_decide_eq_true (by first | (with_reducible assumption) | assumption)
         have q416 : x3_2 < (l0_2.length : Int) := of_decide_eq_true (by first | (with_reducible assumption) | assumption)
         obtain ⟨ad416, e416, hx416_0⟩ := Kd.at_int HR0_2.out x3_2 p416 q416
         have hw416_0 := hx416_0
         cases e416
         replace hx416_0 := hc HB hx416_0
         replace p416 := eq_true p416
         replace q416 := eq_true q416
         refine start_ (n := 40) (S := fun w' => w'.cell? ⟨gb412, 0, none⟩ = some (.int .i64 a0_0) ∧ w'.cell? ⟨gb412, 1, none⟩ = some (.slice (some ad414) l0_1.length c0_1) ∧ w'.cell? ⟨gb412, 2, none⟩ = some (.slice (some ad416) l0_2.length c0_2) ∧ w'.cell? (ad414.add (x3_2).toNat) = some (.int .i64 (rd l0_1 x3_2)) ∧ w'.cell? (ad416.add (x3_2).toNat) = some (.int .i64 (rd l0_2 x3_2))) (ds := []) #[false, false, false, false, false, false, false, false, false, false, false, false, false, false, false, false, false, false, false, false, false, false, false, false, false, false, false, false, false, false, false, false, false, false, false, false, false, false, false, false] (by kernel_rfl) rfl rfl ⟨bcu BK412 0, bcu BK412 1, bcu BK412 2, (hcu HB hw414_0), (hcu HB hw416_0)⟩ (fun hHeld => ?_); refine with_tabW spec_l07Is.tab6 spec_l07Is.bits6 (fun HT_ HW_ => ?_)
         generalize wr.drew = w28 at BK412 HB hx414_0 hx416_0 hHeld ⊢
         refine pu_ 0 30 (bl 40 1) HT_ ?_
         refine pu_ 2 32 (bl 40 5) HT_ ?_
         refine pu_ 5 35 (bl 40 37) HT_ ?_
         refine ta_ 1 31 (bl 40 39) HT_ HW_ hHeld ?_
         refine pu_ 3 33 (bl 40 47) HT_ ?_
         refine ta_ 4 34 (bl 40 63) HT_ HW_ hHeld ?_
         refine ta_ 6 36 (bl 40 127) HT_ HW_ hHeld ?_
         refine pu_ 7 37 (bl 40 255) HT_ ?_
         refine on_ 8 (some 38) (bl 40 511) HT_ (fun K hK => ?_)
         refine gS Try.func53 #[.int .i64 (rd l0_1 x3_2), .int .i64 0, .int .i64 (wrap64 (a0_0 - 1))] ?_
         with_reducible refine (spec_l01In.calls (rd l0_1 x3_2) 0 (wrap64 (a0_0 - 1)) true _ A13.out).mono ?_
         rintro e w' ⟨rfl, ⟨nd, rfl⟩⟩
         refine ⟨_, rfl, ?_⟩
         refine hK.out _ _ ⟨bcu BK412 0, bcu BK412 1, bcu BK412 2, (hcu HB hw414_0), (hcu HB hw416_0)⟩ (fun hHeld => ?_)
         clear hK K
         refine no_ 38 ?_
         refine pu_ 9 39 (bl 40 1023) HT_ ?_
         refine pu_ 10 40 (bl 40 2047) HT_ ?_
         refine pu_ 11 41 (bl 40 4095) HT_ ?_
         refine pu_ 13 43 (bl 40 12287) HT_ ?_
         refine pu_ 16 46 (bl 40 77823) HT_ ?_
         refine ta_ 12 42 (bl 40 81919) HT_ HW_ hHeld ?_
         refine pu_ 14 44 (bl 40 98303) HT_ ?_
         refine ta_ 15 45 (bl 40 131071) HT_ HW_ hHeld ?_
         refine ta_ 17 47 (bl 40 262143) HT_ HW_ hHeld ?_
         refine pu_ 18 48 (bl 40 524287) HT_ ?_
         refine on_ 19 (some 49) (bl 40 1048575) HT_ (fun K hK => ?_)
         refine gS Try.func53 #[.int .i64 (rd l0_2 x3_2), .int .i64 0, .int .i64 (wrap64 (a0_0 - 1))] ?_
         with_reducible refine (spec_l01In.calls (rd l0_2 x3_2) 0 (wrap64 (a0_0 - 1)) true _ A16.out).mono ?_
         rintro e w' ⟨rfl, ⟨nd, rfl⟩⟩
         refine ⟨_, rfl, ?_⟩
         refine hK.out _ _ ⟨bcu BK412 0, bcu BK412 1, bcu BK412 2, (hcu HB hw414_0), (hcu HB hw416_0)⟩ (fun hHeld => ?_)
         clear hK K
         refine no_ 49 ?_
         refine pu_ 20 50 (bl 40 2097151) HT_ ?_
         refine pu_ 21 51 (bl 40 4194303) HT_ ?_
         refine pu_ 22 52 (bl 40 8388607) HT_ ?_
         refine pu_ 23 53 (bl 40 16777215) HT_ ?_
         refine pu_ 24 54 (bl 40 33554431) HT_ ?_
         refine pu_ 25 55 (bl 40 67108863) HT_ ?_
         refine un_ 26 56 (bl 40 134217727) HT_ ?_
         refine un_ 27 57 (bl 40 268435455) HT_ ?_
         refine un_ 28 58 (bl 40 536870911) HT_ ?_
         refine un_ 29 59 (bl 40 1073741823) HT_ ?_
         refine un_ 30 60 (bl 40 2147483647) HT_ ?_
         refine un_ 31 61 (bl 40 4294967295) HT_ ?_
         refine un_ 32 62 (bl 40 8589934591) HT_ ?_
         refine un_ 33 63 (bl 40 17179869183) HT_ ?_
         refine un_ 34 64 (bl 40 34359738367) HT_ ?_
         refine un_ 35 65 (bl 40 68719476735) HT_ ?_
         refine un_ 36 66 (bl 40 137438953471) HT_ ?_
         refine un_ 37 67 (bl 40 274877906943) HT_ ?_
         refine pu_ 38 68 (bl 40 549755813887) HT_ ?_
         refine pu_ 39 69 (bl 40 1099511627775) HT_ ?_
         refine done_ (done_of HT_.out (by kernel_rfl)) ?_
         try go_wp2
         go_roundg k2
         case measure => have := HJ1.out; have := HK2.out; omega
         case rel => exact ⟨(wrap64 (x3_2 + 1)), (by first | rfl | (simp; done) | (simp [*]; done)), H', ⟨by have := HJ1.out; have := HK2.out; omega⟩, ⟨uB BK412.out⟩, ⟨uH HB.out⟩⟩
        rw [if_pos c18] at H
        have c18b0 : decide (0 < x3_2) = true := decide_eq_true c18
        clear c18
        obtain ⟨ji19, hji19⟩ : ∃ j_ : Int, (wrap64 (x3_2 - 1)) = j_ := ⟨_, rfl⟩
        replace H : (if 0 ≤ (ji19) then (if (ji19) < (l0_1.length : Int) then (if (rd l0_1 x3_2) ≤ (rd l0_1 (ji19)) then (some false) else (spec_l07Is.l0 k2 (wrap64 (x3_2 + 1)) a0_0 l0_1 l0_2)) else (none)) else (none)) = some r := by first | (rw [hji19] at H; exact H) | (simp only [hji19] at H ⊢; exact H)
        (try rw [hji19] at A13)
        (try rw [hji19] at A16)
        have hji19w : (IntKind.i64.wrap (x3_2 - 1)) = ji19 := (i64_w _).trans hji19
        by_cases c20 : 0 ≤ (ji19)
        rotate_left
        ·rw [if_neg c20] at H
         exact absurd H (by simp)
        rw [if_pos c20] at H
        have c20b0 : decide (0 ≤ (ji19)) = true := decide_eq_true c20
        clear c20
        by_cases c21 : (ji19) < (l0_1.length : Int)
        rotate_left
        ·rw [if_neg c21] at H
         exact absurd H (by simp)
        rw [if_pos c21] at H
        have c21b0 : decide ((ji19) < (l0_1.length : Int)) = true := decide_eq_true c21
        clear c21
        by_cases c22 : (rd l0_1 x3_2) ≤ (rd l0_1 (ji19))
        rotate_left
        ·rw [if_neg c22] at H
         have c22b0 : decide ((rd l0_1 x3_2) ≤ (rd l0_1 (ji19))) = false := decide_eq_false c22
         clear c22
         have H' := zA H
         clear H
         have hcz25_0 := bc BK412 0
         have hcz25_1 := bc BK412 1
         have hcz25_2 := bc BK412 2
         have hfz25_0 := bf BK412 0
         have hfz25_1 := bf BK412 1
         have hfz25_2 := bf BK412 2
         try go_wp2
         replace BK412 := zA (blk_drew BK412.out)
         replace HB := zA (below_drew1 HB.out)
         have p414 : 0 ≤ (x3_2 : Int) := of_decide_eq_true (by first | (with_reducible assumption) | assumption)
         have q414 : x3_2 < (l0_1.length : Int) := of_decide_eq_true (by first | (with_reducible assumption) | assumption)
         obtain ⟨ad414, e414, hx414_0⟩ := Kd.at_int HR0_1.out x3_2 p414 q414
         have hw414_0 := hx414_0
         cases e414
         replace hx414_0 := hc HB hx414_0
         replace p414 := eq_true p414
         replace q414 := eq_true q414
         have p416 : 0 ≤ (x3_2 : Int) := of_decide_eq_true (by first | (with_reducible assumption) | assumption)
         have q416 : x3_2 < (l0_2.length : Int) := of_decide_eq_true (by first | (with_reducible assumption) | assumption)
         obtain ⟨ad416, e416, hx416_0⟩ := Kd.at_int HR0_2.out x3_2 p416 q416
         have hw416_0 := hx416_0
         cases e416
         replace hx416_0 := hc HB hx416_0
         replace p416 := eq_true p416
         replace q416 := eq_true q416
         have p418 : 0 ≤ (x3_2 : Int) := of_decide_eq_true (by first | (with_reducible assumption) | assumption)
         have q418 : x3_2 < (l0_1.length : Int) := of_decide_eq_true (by first | (with_reducible assumption) | assumption)
         obtain ⟨ad418, e418, hx418_0⟩ := Kd.at_int HR0_1.out x3_2 p418 q418
         have hw418_0 := hx418_0
         obtain rfl : ad414 = ad418 := (by injection e418)
         replace hx418_0 := hc HB hx418_0
         replace p418 := eq_true p418
         replace q418 := eq_true q418
         have p419 : 0 ≤ ((ji19) : Int) := of_decide_eq_true (by first | (with_reducible assumption) | assumption)
         have q419 : (ji19) < (l0_1.length : Int) := of_decide_eq_true (by first | (with_reducible assumption) | assumption)
         obtain ⟨ad419, e419, hx419_0⟩ := Kd.at_int HR0_1.out (ji19) p419 q419
         have hw419_0 := hx419_0
         obtain rfl : ad414 = ad419 := (by injection e419)
         replace hx419_0 := hc HB hx419_0
         replace p419 := eq_true p419
         replace q419 := eq_true q419
         refine start_ (n := 40) (S := fun w' => w'.cell? ⟨gb412, 0, none⟩ = some (.int .i64 a0_0) ∧ w'.cell? ⟨gb412, 1, none⟩ = some (.slice (some ad414) l0_1.length c0_1) ∧ w'.cell? ⟨gb412, 2, none⟩ = some (.slice (some ad416) l0_2.length c0_2) ∧ w'.cell? (ad414.add (x3_2).toNat) = some (.int .i64 (rd l0_1 x3_2)) ∧ w'.cell? (ad416.add (x3_2).toNat) = some (.int .i64 (rd l0_2 x3_2)) ∧ w'.cell? (ad414.add (x3_2).toNat) = some (.int .i64 (rd l0_1 x3_2)) ∧ w'.cell? (ad414.add ((ji19)).toNat) = some (.int .i64 (rd l0_1 (ji19)))) (ds := []) #[false, false, false, false, false, false, false, false, false, false, false, false, false, false, false, false, false, false, false, false, false, false, false, false, false, false, false, false, false, false, false, false, false, false, false, false, false, false, false, false] (by kernel_rfl) rfl rfl ⟨bcu BK412 0, bcu BK412 1, bcu BK412 2, (hcu HB hw414_0), (hcu HB hw416_0), (hcu HB hw418_0), (hcu HB hw419_0)⟩ (fun hHeld => ?_); refine with_tabW spec_l07Is.tab6 spec_l07Is.bits6 (fun HT_ HW_ => ?_)
         generalize wr.drew = w26 at BK412 HB hx414_0 hx416_0 hx418_0 hx419_0 hHeld ⊢
         refine pu_ 0 30 (bl 40 1) HT_ ?_
         refine pu_ 2 32 (bl 40 5) HT_ ?_
         refine pu_ 5 35 (bl 40 37) HT_ ?_
         refine ta_ 1 31 (bl 40 39) HT_ HW_ hHeld ?_
         refine pu_ 3 33 (bl 40 47) HT_ ?_
         refine ta_ 4 34 (bl 40 63) HT_ HW_ hHeld ?_
         refine ta_ 6 36 (bl 40 127) HT_ HW_ hHeld ?_
         refine pu_ 7 37 (bl 40 255) HT_ ?_
         refine on_ 8 (some 38) (bl 40 511) HT_ (fun K hK => ?_)
         refine gS Try.func53 #[.int .i64 (rd l0_1 x3_2), .int .i64 0, .int .i64 (wrap64 (a0_0 - 1))] ?_
         with_reducible refine (spec_l01In.calls (rd l0_1 x3_2) 0 (wrap64 (a0_0 - 1)) true _ A13.out).mono ?_
         rintro e w' ⟨rfl, ⟨nd, rfl⟩⟩
         refine ⟨_, rfl, ?_⟩
         refine hK.out _ _ ⟨bcu BK412 0, bcu BK412 1, bcu BK412 2, (hcu HB hw414_0), (hcu HB hw416_0), (hcu HB hw418_0), (hcu HB hw419_0)⟩ (fun hHeld => ?_)
         clear hK K
         refine no_ 38 ?_
         refine pu_ 9 39 (bl 40 1023) HT_ ?_
         refine pu_ 10 40 (bl 40 2047) HT_ ?_
         refine pu_ 11 41 (bl 40 4095) HT_ ?_
         refine pu_ 13 43 (bl 40 12287) HT_ ?_
         refine pu_ 16 46 (bl 40 77823) HT_ ?_
         refine ta_ 12 42 (bl 40 81919) HT_ HW_ hHeld ?_
         refine pu_ 14 44 (bl 40 98303) HT_ ?_
         refine ta_ 15 45 (bl 40 131071) HT_ HW_ hHeld ?_
         refine ta_ 17 47 (bl 40 262143) HT_ HW_ hHeld ?_
         refine pu_ 18 48 (bl 40 524287) HT_ ?_
         refine on_ 19 (some 49) (bl 40 1048575) HT_ (fun K hK => ?_)
         refine gS Try.func53 #[.int .i64 (rd l0_2 x3_2), .int .i64 0, .int .i64 (wrap64 (a0_0 - 1))] ?_
         with_reducible refine (spec_l01In.calls (rd l0_2 x3_2) 0 (wrap64 (a0_0 - 1)) true _ A16.out).mono ?_
         rintro e w' ⟨rfl, ⟨nd, rfl⟩⟩
         refine ⟨_, rfl, ?_⟩
         refine hK.out _ _ ⟨bcu BK412 0, bcu BK412 1, bcu BK412 2, (hcu HB hw414_0), (hcu HB hw416_0), (hcu HB hw418_0), (hcu HB hw419_0)⟩ (fun hHeld => ?_)
         clear hK K
         refine no_ 49 ?_
         refine pu_ 20 50 (bl 40 2097151) HT_ ?_
         refine pu_ 21 51 (bl 40 4194303) HT_ ?_
         refine pu_ 22 52 (bl 40 8388607) HT_ ?_
         refine pu_ 23 53 (bl 40 16777215) HT_ ?_
         refine pu_ 24 54 (bl 40 33554431) HT_ ?_
         refine pu_ 25 55 (bl 40 67108863) HT_ ?_
         refine pu_ 26 56 (bl 40 134217727) HT_ ?_
         refine pu_ 28 58 (bl 40 402653183) HT_ ?_
         refine pu_ 31 61 (bl 40 2550136831) HT_ ?_
         refine pu_ 33 63 (bl 40 11140071423) HT_ ?_
         refine pu_ 34 64 (bl 40 28319940607) HT_ ?_
         refine ta_ 27 57 (bl 40 28454158335) HT_ HW_ hHeld ?_
         refine pu_ 29 59 (bl 40 28991029247) HT_ ?_
         refine ta_ 30 60 (bl 40 30064771071) HT_ HW_ hHeld ?_
         refine ta_ 32 62 (bl 40 34359738367) HT_ HW_ hHeld ?_
         refine pu_ 35 65 (bl 40 68719476735) HT_ ?_
         refine ta_ 36 66 (bl 40 137438953471) HT_ HW_ hHeld ?_
         refine pu_ 37 67 (bl 40 274877906943) HT_ ?_
         refine pu_ 38 68 (bl 40 549755813887) HT_ ?_
         refine pu_ 39 69 (bl 40 1099511627775) HT_ ?_
         refine done_ (done_of HT_.out (by kernel_rfl)) ?_
         try go_wp2
         go_roundg k2
         case measure => have := HJ1.out; have := HK2.out; omega
         case rel => exact ⟨(wrap64 (x3_2 + 1)), (by first | rfl | (simp; done) | (simp [*]; done)), H', ⟨by have := HJ1.out; have := HK2.out; omega⟩, ⟨uB BK412.out⟩, ⟨uH HB.out⟩⟩
        rw [if_pos c22] at H
        have c22b0 : decide ((rd l0_1 x3_2) ≤ (rd l0_1 (ji19))) = true := decide_eq_true c22
        clear c22
        obtain rfl := Option.some.inj H
        have hcz23_0 := bc BK412 0
        have hcz23_1 := bc BK412 1
        have hcz23_2 := bc BK412 2
        have hfz23_0 := bf BK412 0
        have hfz23_1 := bf BK412 1
        have hfz23_2 := bf BK412 2
        try go_wp2
        replace BK412 := zA (blk_drew BK412.out)
        replace HB := zA (below_drew1 HB.out)
        have p414 : 0 ≤ (x3_2 : Int) := of_decide_eq_true (by first | (with_reducible assumption) | assumption)
        have q414 : x3_2 < (l0_1.length : Int) := of_decide_eq_true (by first | (with_reducible assumption) | assumption)
        obtain ⟨ad414, e414, hx414_0⟩ := Kd.at_int HR0_1.out x3_2 p414 q414
        have hw414_0 := hx414_0
        cases e414
        replace hx414_0 := hc HB hx414_0
        replace p414 := eq_true p414
        replace q414 := eq_true q414
        have p416 : 0 ≤ (x3_2 : Int) := of_decide_eq_true (by first | (with_reducible assumption) | assumption)
        have q416 : x3_2 < (l0_2.length : Int) := of_decide_eq_true (by first | (with_reducible assumption) | assumption)
        obtain ⟨ad416, e416, hx416_0⟩ := Kd.at_int HR0_2.out x3_2 p416 q416
        have hw416_0 := hx416_0
        cases e416
        replace hx416_0 := hc HB hx416_0
        replace p416 := eq_true p416
        replace q416 := eq_true q416
        have p418 : 0 ≤ (x3_2 : Int) := of_decide_eq_true (by first | (with_reducible assumption) | assumption)
        have q418 : x3_2 < (l0_1.length : Int) := of_decide_eq_true (by first | (with_reducible assumption) | assumption)
        obtain ⟨ad418, e418, hx418_0⟩ := Kd.at_int HR0_1.out x3_2 p418 q418
        have hw418_0 := hx418_0
        obtain rfl : ad414 = ad418 := (by injection e418)
        replace hx418_0 := hc HB hx418_0
        replace p418 := eq_true p418
        replace q418 := eq_true q418
        have p419 : 0 ≤ ((ji19) : Int) := of_decide_eq_true (by first | (with_reducible assumption) | assumption)
        have q419 : (ji19) < (l0_1.length : Int) := of_decide_eq_true (by first | (with_reducible assumption) | assumption)
        obtain ⟨ad419, e419, hx419_0⟩ := Kd.at_int HR0_1.out (ji19) p419 q419
        have hw419_0 := hx419_0
        obtain rfl : ad414 = ad419 := (by injection e419)
        replace hx419_0 := hc HB hx419_0
        replace p419 := eq_true p419
        replace q419 := eq_true q419
        refine start_ (n := 40) (S := fun w' => w'.cell? ⟨gb412, 0, none⟩ = some (.int .i64 a0_0) ∧ w'.cell? ⟨gb412, 1, none⟩ = some (.slice (some ad414) l0_1.length c0_1) ∧ w'.cell? ⟨gb412, 2, none⟩ = some (.slice (some ad416) l0_2.length c0_2) ∧ w'.cell? (ad414.add (x3_2).toNat) = some (.int .i64 (rd l0_1 x3_2)) ∧ w'.cell? (ad416.add (x3_2).toNat) = some (.int .i64 (rd l0_2 x3_2)) ∧ w'.cell? (ad414.add (x3_2).toNat) = some (.int .i64 (rd l0_1 x3_2)) ∧ w'.cell? (ad414.add ((ji19)).toNat) = some (.int .i64 (rd l0_1 (ji19)))) (ds := []) #[false, false, false, false, false, false, false, false, false, false, false, false, false, false, false, false, false, false, false, false, false, false, false, false, false, false, false, false, false, false, false, false, false, false, false, false, false, false, false, false] (by kernel_rfl) rfl rfl ⟨bcu BK412 0, bcu BK412 1, bcu BK412 2, (hcu HB hw414_0), (hcu HB hw416_0), (hcu HB hw418_0), (hcu HB hw419_0)⟩ (fun hHeld => ?_); refine with_tabW spec_l07Is.tab6 spec_l07Is.bits6 (fun HT_ HW_ => ?_)
        generalize wr.drew = w24 at BK412 HB hx414_0 hx416_0 hx418_0 hx419_0 hHeld ⊢
        refine pu_ 0 30 (bl 40 1) HT_ ?_
        refine pu_ 2 32 (bl 40 5) HT_ ?_
        refine pu_ 5 35 (bl 40 37) HT_ ?_
        refine ta_ 1 31 (bl 40 39) HT_ HW_ hHeld ?_
        refine pu_ 3 33 (bl 40 47) HT_ ?_
        refine ta_ 4 34 (bl 40 63) HT_ HW_ hHeld ?_
        refine ta_ 6 36 (bl 40 127) HT_ HW_ hHeld ?_
        refine pu_ 7 37 (bl 40 255) HT_ ?_
        refine on_ 8 (some 38) (bl 40 511) HT_ (fun K hK => ?_)
        refine gS Try.func53 #[.int .i64 (rd l0_1 x3_2), .int .i64 0, .int .i64 (wrap64 (a0_0 - 1))] ?_
        with_reducible refine (spec_l01In.calls (rd l0_1 x3_2) 0 (wrap64 (a0_0 - 1)) true _ A13.out).mono ?_
        rintro e w' ⟨rfl, ⟨nd, rfl⟩⟩
        refine ⟨_, rfl, ?_⟩
        refine hK.out _ _ ⟨bcu BK412 0, bcu BK412 1, bcu BK412 2, (hcu HB hw414_0), (hcu HB hw416_0), (hcu HB hw418_0), (hcu HB hw419_0)⟩ (fun hHeld => ?_)
        clear hK K
        refine no_ 38 ?_
        refine pu_ 9 39 (bl 40 1023) HT_ ?_
        refine pu_ 10 40 (bl 40 2047) HT_ ?_
        refine pu_ 11 41 (bl 40 4095) HT_ ?_
        refine pu_ 13 43 (bl 40 12287) HT_ ?_
        refine pu_ 16 46 (bl 40 77823) HT_ ?_
        refine ta_ 12 42 (bl 40 81919) HT_ HW_ hHeld ?_
        refine pu_ 14 44 (bl 40 98303) HT_ ?_
        refine ta_ 15 45 (bl 40 131071) HT_ HW_ hHeld ?_
        refine ta_ 17 47 (bl 40 262143) HT_ HW_ hHeld ?_
        refine pu_ 18 48 (bl 40 524287) HT_ ?_
        refine on_ 19 (some 49) (bl 40 1048575) HT_ (fun K hK => ?_)
        refine gS Try.func53 #[.int .i64 (rd l0_2 x3_2), .int .i64 0, .int .i64 (wrap64 (a0_0 - 1))] ?_
        with_reducible refine (spec_l01In.calls (rd l0_2 x3_2) 0 (wrap64 (a0_0 - 1)) true _ A16.out).mono ?_
        rintro e w' ⟨rfl, ⟨nd, rfl⟩⟩
        refine ⟨_, rfl, ?_⟩
        refine hK.out _ _ ⟨bcu BK412 0, bcu BK412 1, bcu BK412 2, (hcu HB hw414_0), (hcu HB hw416_0), (hcu HB hw418_0), (hcu HB hw419_0)⟩ (fun hHeld => ?_)
        clear hK K
        refine no_ 49 ?_
        refine pu_ 20 50 (bl 40 2097151) HT_ ?_
        refine pu_ 21 51 (bl 40 4194303) HT_ ?_
        refine pu_ 22 52 (bl 40 8388607) HT_ ?_
        refine pu_ 23 53 (bl 40 16777215) HT_ ?_
        refine pu_ 24 54 (bl 40 33554431) HT_ ?_
        refine pu_ 25 55 (bl 40 67108863) HT_ ?_
        refine pu_ 26 56 (bl 40 134217727) HT_ ?_
        refine pu_ 28 58 (bl 40 402653183) HT_ ?_
        refine pu_ 31 61 (bl 40 2550136831) HT_ ?_
        refine pu_ 33 63 (bl 40 11140071423) HT_ ?_
        refine pu_ 34 64 (bl 40 28319940607) HT_ ?_
        refine ta_ 27 57 (bl 40 28454158335) HT_ HW_ hHeld ?_
        refine pu_ 29 59 (bl 40 28991029247) HT_ ?_
        refine ta_ 30 60 (bl 40 30064771071) HT_ HW_ hHeld ?_
        refine ta_ 32 62 (bl 40 34359738367) HT_ HW_ hHeld ?_
        refine pu_ 35 65 (bl 40 68719476735) HT_ ?_
        refine ta_ 36 66 (bl 40 137438953471) HT_ HW_ hHeld ?_
        refine pu_ 37 67 (bl 40 274877906943) HT_ ?_
        refine pu_ 38 68 (bl 40 549755813887) HT_ ?_
        refine pu_ 39 69 (bl 40 1099511627775) HT_ ?_
        refine done_ (done_of HT_.out (by kernel_rfl)) ?_
        try go_wp2
        go_ret
        exact ⟨by first | rfl | (simp [errW_none, errW_some] <;> rfl) | (simp only [← hji19]; first | rfl | (simp [errW_none, errW_some] <;> rfl)) | (simp [*, errW_none, errW_some] <;> rfl), uH HB.out⟩
       ·replace c17 := Bool.eq_false_iff.mpr c17
        subst c17
        have H1 : (some false) = some r := by rw [if_neg (show ¬ (false = true) by decide)] at H; exact H
        clear H
        have H := H1
        clear H1
        obtain rfl := Option.some.inj H
        have hcz29_0 := bc BK412 0
        have hcz29_1 := bc BK412 1
        have hcz29_2 := bc BK412 2
        have hfz29_0 := bf BK412 0
        have hfz29_1 := bf BK412 1
        have hfz29_2 := bf BK412 2
        try go_wp2
        replace BK412 := zA (blk_drew BK412.out)
        replace HB := zA (below_drew1 HB.out)
        have p414 : 0 ≤ (x3_2 : Int) := of_decide_eq_true (by first | (with_reducible assumption) | assumption)
        have q414 : x3_2 < (l0_1.length : Int) := of_decide_eq_true (by first | (with_reducible assumption) | assumption)
        obtain ⟨ad414, e414, hx414_0⟩ := Kd.at_int HR0_1.out x3_2 p414 q414
        have hw414_0 := hx414_0
        cases e414
        replace hx414_0 := hc HB hx414_0
        replace p414 := eq_true p414
        replace q414 := eq_true q414
        have p416 : 0 ≤ (x3_2 : Int) := of_decide_eq_true (by first | (with_reducible assumption) | assumption)
        have q416 : x3_2 < (l0_2.length : Int) := of_decide_eq_true (by first | (with_reducible assumption) | assumption)
        obtain ⟨ad416, e416, hx416_0⟩ := Kd.at_int HR0_2.out x3_2 p416 q416
        have hw416_0 := hx416_0
        cases e416
        replace hx416_0 := hc HB hx416_0
        replace p416 := eq_true p416
        replace q416 := eq_true q416
        refine start_ (n := 40) (S := fun w' => w'.cell? ⟨gb412, 0, none⟩ = some (.int .i64 a0_0) ∧ w'.cell? ⟨gb412, 1, none⟩ = some (.slice (some ad414) l0_1.length c0_1) ∧ w'.cell? ⟨gb412, 2, none⟩ = some (.slice (some ad416) l0_2.length c0_2) ∧ w'.cell? (ad414.add (x3_2).toNat) = some (.int .i64 (rd l0_1 x3_2)) ∧ w'.cell? (ad416.add (x3_2).toNat) = some (.int .i64 (rd l0_2 x3_2))) (ds := []) #[false, false, false, false, false, false, false, false, false, false, false, false, false, false, false, false, false, false, false, false, false, false, false, false, false, false, false, false, false, false, false, false, false, false, false, false, false, false, false, false] (by kernel_rfl) rfl rfl ⟨bcu BK412 0, bcu BK412 1, bcu BK412 2, (hcu HB hw414_0), (hcu HB hw416_0)⟩ (fun hHeld => ?_); refine with_tabW spec_l07Is.tab6 spec_l07Is.bits6 (fun HT_ HW_ => ?_)
        generalize wr.drew = w30 at BK412 HB hx414_0 hx416_0 hHeld ⊢
        refine pu_ 0 30 (bl 40 1) HT_ ?_
        refine pu_ 2 32 (bl 40 5) HT_ ?_
        refine pu_ 5 35 (bl 40 37) HT_ ?_
        refine ta_ 1 31 (bl 40 39) HT_ HW_ hHeld ?_
        refine pu_ 3 33 (bl 40 47) HT_ ?_
        refine ta_ 4 34 (bl 40 63) HT_ HW_ hHeld ?_
        refine ta_ 6 36 (bl 40 127) HT_ HW_ hHeld ?_
        refine pu_ 7 37 (bl 40 255) HT_ ?_
        refine on_ 8 (some 38) (bl 40 511) HT_ (fun K hK => ?_)
        refine gS Try.func53 #[.int .i64 (rd l0_1 x3_2), .int .i64 0, .int .i64 (wrap64 (a0_0 - 1))] ?_
        with_reducible refine (spec_l01In.calls (rd l0_1 x3_2) 0 (wrap64 (a0_0 - 1)) true _ A13.out).mono ?_
        rintro e w' ⟨rfl, ⟨nd, rfl⟩⟩
        refine ⟨_, rfl, ?_⟩
        refine hK.out _ _ ⟨bcu BK412 0, bcu BK412 1, bcu BK412 2, (hcu HB hw414_0), (hcu HB hw416_0)⟩ (fun hHeld => ?_)
        clear hK K
        refine no_ 38 ?_
        refine pu_ 9 39 (bl 40 1023) HT_ ?_
        refine pu_ 10 40 (bl 40 2047) HT_ ?_
        refine pu_ 11 41 (bl 40 4095) HT_ ?_
        refine pu_ 13 43 (bl 40 12287) HT_ ?_
        refine pu_ 16 46 (bl 40 77823) HT_ ?_
        refine ta_ 12 42 (bl 40 81919) HT_ HW_ hHeld ?_
        refine pu_ 14 44 (bl 40 98303) HT_ ?_
        refine ta_ 15 45 (bl 40 131071) HT_ HW_ hHeld ?_
        refine ta_ 17 47 (bl 40 262143) HT_ HW_ hHeld ?_
        refine pu_ 18 48 (bl 40 524287) HT_ ?_
        refine on_ 19 (some 49) (bl 40 1048575) HT_ (fun K hK => ?_)
        refine gS Try.func53 #[.int .i64 (rd l0_2 x3_2), .int .i64 0, .int .i64 (wrap64 (a0_0 - 1))] ?_
        with_reducible refine (spec_l01In.calls (rd l0_2 x3_2) 0 (wrap64 (a0_0 - 1)) false _ A16.out).mono ?_
        rintro e w' ⟨rfl, ⟨nd, rfl⟩⟩
        refine ⟨_, rfl, ?_⟩
        refine hK.out _ _ ⟨bcu BK412 0, bcu BK412 1, bcu BK412 2, (hcu HB hw414_0), (hcu HB hw416_0)⟩ (fun hHeld => ?_)
        clear hK K
        refine no_ 49 ?_
        refine pu_ 20 50 (bl 40 2097151) HT_ ?_
        refine pu_ 21 51 (bl 40 4194303) HT_ ?_
        refine pu_ 22 52 (bl 40 8388607) HT_ ?_
        refine un_ 23 53 (bl 40 16777215) HT_ ?_
        refine un_ 24 54 (bl 40 33554431) HT_ ?_
        refine un_ 25 55 (bl 40 67108863) HT_ ?_
        refine un_ 26 56 (bl 40 134217727) HT_ ?_
        refine un_ 27 57 (bl 40 268435455) HT_ ?_
        refine un_ 28 58 (bl 40 536870911) HT_ ?_
        refine un_ 29 59 (bl 40 1073741823) HT_ ?_
        refine un_ 30 60 (bl 40 2147483647) HT_ ?_
        refine un_ 31 61 (bl 40 4294967295) HT_ ?_
        refine un_ 32 62 (bl 40 8589934591) HT_ ?_
        refine un_ 33 63 (bl 40 17179869183) HT_ ?_
        refine un_ 34 64 (bl 40 34359738367) HT_ ?_
        refine un_ 35 65 (bl 40 68719476735) HT_ ?_
        refine un_ 36 66 (bl 40 137438953471) HT_ ?_
        refine un_ 37 67 (bl 40 274877906943) HT_ ?_
        refine un_ 38 68 (bl 40 549755813887) HT_ ?_
        refine pu_ 39 69 (bl 40 1099511627775) HT_ ?_
        refine done_ (done_of HT_.out (by kernel_rfl)) ?_
        try go_wp2
        go_ret
        exact ⟨by first | rfl | (simp [errW_none, errW_some] <;> rfl) | (simp [*, errW_none, errW_some] <;> rfl), uH HB.out⟩
      ·replace c14 := Bool.eq_false_iff.mpr c14
       subst c14
       have H1 : (some false) = some r := by rw [if_neg (show ¬ (false = true) by decide)] at H; exact H
       clear H
       have H := H1
       clear H1
       obtain rfl := Option.some.inj H
       have hcz31_0 := bc BK412 0
       have hcz31_1 := bc BK412 1
       have hcz31_2 := bc BK412 2
       have hfz31_0 := bf BK412 0
       have hfz31_1 := bf BK412 1
       have hfz31_2 := bf BK412 2
       try go_wp2
       replace BK412 := zA (blk_drew BK412.out)
       replace HB := zA (below_drew1 HB.out)
       have p414 : 0 ≤ (x3_2 : Int) := of_decide_eq_true (by first | (with_reducible assumption) | assumption)
       have q414 : x3_2 < (l0_1.length : Int) := of_decide_eq_true (by first | (with_reducible assumption) | assumption)
       obtain ⟨ad414, e414, hx414_0⟩ := Kd.at_int HR0_1.out x3_2 p414 q414
       have hw414_0 := hx414_0
       cases e414
       replace hx414_0 := hc HB hx414_0
       replace p414 := eq_true p414
       replace q414 := eq_true q414
       refine start_ (n := 40) (S := fun w' => w'.cell? ⟨gb412, 0, none⟩ = some (.int .i64 a0_0) ∧ w'.cell? ⟨gb412, 1, none⟩ = some (.slice (some ad414) l0_1.length c0_1) ∧ w'.cell? ⟨gb412, 2, none⟩ = some (.slice A0_2 l0_2.length c0_2) ∧ w'.cell? (ad414.add (x3_2).toNat) = some (.int .i64 (rd l0_1 x3_2))) (ds := []) #[false, false, false, false, false, false, false, false, false, false, false, false, false, false, false, false, false, false, false, false, false, false, false, false, false, false, false, false, false, false, false, false, false, false, false, false, false, false, false, false] (by kernel_rfl) rfl rfl ⟨bcu BK412 0, bcu BK412 1, bcu BK412 2, (hcu HB hw414_0)⟩ (fun hHeld => ?_); refine with_tabW spec_l07Is.tab6 spec_l07Is.bits6 (fun HT_ HW_ => ?_)
       generalize wr.drew = w32 at BK412 HB hx414_0 hHeld ⊢
       refine pu_ 0 30 (bl 40 1) HT_ ?_
       refine pu_ 2 32 (bl 40 5) HT_ ?_
       refine pu_ 5 35 (bl 40 37) HT_ ?_
       refine ta_ 1 31 (bl 40 39) HT_ HW_ hHeld ?_
       refine pu_ 3 33 (bl 40 47) HT_ ?_
       refine ta_ 4 34 (bl 40 63) HT_ HW_ hHeld ?_
       refine ta_ 6 36 (bl 40 127) HT_ HW_ hHeld ?_
       refine pu_ 7 37 (bl 40 255) HT_ ?_
       refine on_ 8 (some 38) (bl 40 511) HT_ (fun K hK => ?_)
       refine gS Try.func53 #[.int .i64 (rd l0_1 x3_2), .int .i64 0, .int .i64 (wrap64 (a0_0 - 1))] ?_
       with_reducible refine (spec_l01In.calls (rd l0_1 x3_2) 0 (wrap64 (a0_0 - 1)) false _ A13.out).mono ?_
       rintro e w' ⟨rfl, ⟨nd, rfl⟩⟩
       refine ⟨_, rfl, ?_⟩
       refine hK.out _ _ ⟨bcu BK412 0, bcu BK412 1, bcu BK412 2, (hcu HB hw414_0)⟩ (fun hHeld => ?_)
       clear hK K
       refine no_ 38 ?_
       refine pu_ 9 39 (bl 40 1023) HT_ ?_
       refine pu_ 10 40 (bl 40 2047) HT_ ?_
       refine un_ 11 41 (bl 40 4095) HT_ ?_
       refine un_ 12 42 (bl 40 8191) HT_ ?_
       refine un_ 13 43 (bl 40 16383) HT_ ?_
       refine un_ 14 44 (bl 40 32767) HT_ ?_
       refine un_ 15 45 (bl 40 65535) HT_ ?_
       refine un_ 16 46 (bl 40 131071) HT_ ?_
       refine un_ 17 47 (bl 40 262143) HT_ ?_
       refine un_ 18 48 (bl 40 524287) HT_ ?_
       refine un_ 19 49 (bl 40 1048575) HT_ ?_
       refine un_ 20 50 (bl 40 2097151) HT_ ?_
       refine pu_ 21 51 (bl 40 4194303) HT_ ?_
       refine pu_ 22 52 (bl 40 8388607) HT_ ?_
       refine un_ 23 53 (bl 40 16777215) HT_ ?_
       refine un_ 24 54 (bl 40 33554431) HT_ ?_
       refine un_ 25 55 (bl 40 67108863) HT_ ?_
       refine un_ 26 56 (bl 40 134217727) HT_ ?_
       refine un_ 27 57 (bl 40 268435455) HT_ ?_
       refine un_ 28 58 (bl 40 536870911) HT_ ?_
       refine un_ 29 59 (bl 40 1073741823) HT_ ?_
       refine un_ 30 60 (bl 40 2147483647) HT_ ?_
       refine un_ 31 61 (bl 40 4294967295) HT_ ?_
       refine un_ 32 62 (bl 40 8589934591) HT_ ?_
       refine un_ 33 63 (bl 40 17179869183) HT_ ?_
       refine un_ 34 64 (bl 40 34359738367) HT_ ?_
       refine un_ 35 65 (bl 40 68719476735) HT_ ?_
       refine un_ 36 66 (bl 40 137438953471) HT_ ?_
       refine un_ 37 67 (bl 40 274877906943) HT_ ?_
       refine un_ 38 68 (bl 40 549755813887) HT_ ?_
       refine pu_ 39 69 (bl 40 1099511627775) HT_ ?_
       refine done_ (done_of HT_.out (by kernel_rfl)) ?_
       try go_wp2
       go_ret
       exact ⟨by first | rfl | (simp [errW_none, errW_some] <;> rfl) | (simp [*, errW_none, errW_some] <;> rfl), uH HB.out⟩
end Go.Proofs.Ytjdannndpfkadaa.Pr
