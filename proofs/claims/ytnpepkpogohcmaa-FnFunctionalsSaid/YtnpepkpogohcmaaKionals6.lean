/- Texts of this session in one: what functions of the program compute, and plain facts of it, under the conditions that each theorem names. -/
import Derived.Test.YtnpepkpogohcmaaKionals1
import Derived.Test.YtnpepkpogohcmaaKionals3
import Derived.Test.YtnpepkpogohcmaaKionals4
import Derived.Test.YtnpepkpogohcmaaKionals5
namespace Go.Proofs.Ytnpepkpogohcmaa.Pr
open Go.RowKit Go.Proofs.YtnpepkpogohcmaaW.PrintWords Go.Proofs.YtnpepkpogohcmaaW.PrintLast Go.Proofs.YtnpepkpogohcmaaW.PrintMore
attribute [local go_sem] max2_int min2_int max_two min_two max_three min_three max_four min_four   -- for this text's walks alone
set_option linter.unusedVariables false
set_option linter.unusedSimpArgs false
/-! ### spec_l02Code: function 34 -/
def spec_l02Code.j0 : Nat → List Int → Bool → Int → List Int → Option (Int)
 | 0, _, _, _, _ => none
 | k + 1, x1, x5, x478000, x478001 => if x5 = true then (some 1) else (if (x1.length : Int) > (x478001.length : Int) then (some 2) else (some 0))
def spec_l02Code.f (k : Nat) (a0_0 : Int) (l0_1 : List Int) (l1 : List Int) : Option (Int) := (spec_l02Are.f k a0_0 l0_1).bind fun t478 => (if t478 = true then ((spec_l01Poly.f k a0_0 l1).bind fun t479 => (spec_l02Code.j0 k l1 (!t479) a0_0 l0_1)) else (spec_l02Code.j0 k l1 true a0_0 l0_1))
set_option maxHeartbeats 8000000 in
set_option maxRecDepth 100000 in
theorem spec_l02Code.calls (k : Nat) (a0_0 : Int) (A0_1 : Option Addr) (c0_1 : Nat) (l0_1 : List Int) (A1 : Option Addr) (c1 : Nat) (l1 : List Int) (r : Int) (w : World) (hr0_1 : Kd.C (Kd.int .i64) w A0_1 l0_1.length l0_1) (hc0_1 : l0_1.length ≤ c0_1) (hr1 : Kd.C (Kd.int .i64) w A1 l1.length l1) (hc1 : l1.length ≤ c1) (h : spec_l02Code.f k a0_0 l0_1 l1 = some r) :
  Calls Try.prog 34 #[.agg #[.int .i64 a0_0, .slice A0_1 l0_1.length c0_1], .slice A1 l1.length c1] w fun e w' => e = .returned (.int .i64 r) ∧ Below w.heap.size w w' := by
 have hu26 := Try.underlying26
 have HR0_1 := zA hr0_1
 have HC0_1 := zA hc0_1
 clear hr0_1 hc0_1
 have HR1 := zA hr1
 have HC1 := zA hc1
 clear hr1 hc1
 have HB := zA (Below.refl w.heap.size w)
 have H : ((spec_l02Are.f k a0_0 l0_1).bind fun t478 => (if t478 = true then ((spec_l01Poly.f k a0_0 l1).bind fun t479 => (spec_l02Code.j0 k l1 (!t479) a0_0 l0_1)) else (spec_l02Code.j0 k l1 true a0_0 l0_1))) = some r := h
 clear h
 have HC3 := zA H
 clear H
 go_enter Try.func34, Try.ntmps34
 go_upto_region 1 with (first | ((with_reducible refine gate_dst (N := 2) rfl ?_); refine bx 2 #[.int .i64 a0_0, .slice A0_1 l0_1.length c0_1] 26 ?_; intro gb477 hg w4 hbox hb; have BK477 := zA (hbox); have GW477 := gq HB hg; have GE477 := gq HB hg; replace HB := xH HB hb; have := geI GE477; clear hb hbox hg))
 (try simp only [Act.put, ls, lz, ln])
 go_cut [5] (fun v5 wc => ∃ (kq : Nat) (x5_2 : Bool), v5 = .bool x5_2 ∧ Aside0 (spec_l02Code.j0 kq l1 x5_2 a0_0 l0_1 = some r) ∧ Aside0 (kq ≤ k) ∧ Aside0 (wc.heap[gb477]? = some (.cells #[.int .i64 a0_0, (.slice A0_1 l0_1.length c0_1)] 26 (0, 0))) ∧ Aside0 (Below w.heap.size w wc))
 case first =>
  have H := HC3.out
  clear HC3
  replace H := Option.bind_eq_some_iff.mp H
  obtain ⟨t478, A50, H⟩ := H
  replace H : (if t478 = true then ((spec_l01Poly.f k a0_0 l1).bind fun t479 => (spec_l02Code.j0 k l1 (!t479) a0_0 l0_1)) else (spec_l02Code.j0 k l1 true a0_0 l0_1)) = some r := H
  have A5 := zA A50
  clear A50
  by_cases c6 : t478 = true
  ·subst c6
   have H1 : ((spec_l01Poly.f k a0_0 l1).bind fun t479 => (spec_l02Code.j0 k l1 (!t479) a0_0 l0_1)) = some r := by rw [if_pos rfl] at H; exact H
   clear H
   have H := H1
   clear H1
   replace H := Option.bind_eq_some_iff.mp H
   obtain ⟨t479, A70, H⟩ := H
   replace H : (spec_l02Code.j0 k l1 (!t479) a0_0 l0_1) = some r := H
   have A7 := zA A70
   clear A70
   have H' := zA H
   clear H
   have hcz8_0 := bc BK477 0
   have hcz8_1 := bc BK477 1
   have hfz8_0 := bf BK477 0
   have hfz8_1 := bf BK477 1
   go_wp2_with (first | ((with_reducible refine gate_callee (f := 42) rfl ?_); refine gL (some 7) Try.func42 #[.agg #[.int .i64 a0_0, .slice A0_1 l0_1.length c0_1]] ?_; (with_reducible refine (spec_l02Are.calls k a0_0 _ _ l0_1 true _ ?side1 ?side2 A5.out).mono ?_); (case side1 => exact uC ((Kd.C_below HR0_1.out HB.out))); (case side2 => exact HC0_1.out); rintro e w9 ⟨rfl, hb⟩; refine ⟨_, rfl, ?_⟩; replace BK477 := xB BK477 hb; replace HB := xH HB hb; (try clear hb); (try clear hb2); (try clear hk); (try clear hi); have hcz10_0 := bc BK477 0; have hcz10_1 := bc BK477 1; have hfz10_0 := bf BK477 0; have hfz10_1 := bf BK477 1) | (go_at_call 64; (with_reducible refine (spec_l01Poly.calls k a0_0 _ _ l1 t479 _ ?side1 ?side2 A7.out).mono ?_); (case side1 => exact uC ((Kd.C_below HR1.out HB.out))); (case side2 => exact HC1.out); rintro e w' ⟨rfl, ⟨nd, rfl⟩⟩))
   go_meet
   case rel => exact ⟨_, (!t479), (by first | rfl | (simp; done) | (simp [*]; done)), H', ⟨by first | omega | exact Nat.le_refl _⟩, ⟨uB BK477.out⟩, ⟨uH HB.out⟩⟩
  ·replace c6 := Bool.eq_false_iff.mpr c6
   subst c6
   have H1 : (spec_l02Code.j0 k l1 true a0_0 l0_1) = some r := by rw [if_neg (show ¬ (false = true) by decide)] at H; exact H
   clear H
   have H := H1
   clear H1
   have H' := zA H
   clear H
   have hcz11_0 := bc BK477 0
   have hcz11_1 := bc BK477 1
   have hfz11_0 := bf BK477 0
   have hfz11_1 := bf BK477 1
   go_wp2_with (first | ((with_reducible refine gate_callee (f := 42) rfl ?_); refine gL (some 7) Try.func42 #[.agg #[.int .i64 a0_0, .slice A0_1 l0_1.length c0_1]] ?_; (with_reducible refine (spec_l02Are.calls k a0_0 _ _ l0_1 false _ ?side1 ?side2 A5.out).mono ?_); (case side1 => exact uC ((Kd.C_below HR0_1.out HB.out))); (case side2 => exact HC0_1.out); rintro e w12 ⟨rfl, hb⟩; refine ⟨_, rfl, ?_⟩; replace BK477 := xB BK477 hb; replace HB := xH HB hb; (try clear hb); (try clear hb2); (try clear hk); (try clear hi)))
   go_meet
   case rel => exact ⟨_, (true), (by first | rfl | (simp; done) | (simp [*]; done)), H', ⟨by first | omega | exact Nat.le_refl _⟩, ⟨uB BK477.out⟩, ⟨uH HB.out⟩⟩
 case rest =>
  clear HC3
  (try clear c1);(try clear p2);(try clear c3);(try clear c4);(try clear c6);(try clear hcz10_0);(try clear hcz10_1);(try clear hcz11_0);(try clear hcz11_1);(try clear hcz8_0);(try clear hcz8_1);(try clear hfz10_0);(try clear hfz10_1);(try clear hfz11_0);(try clear hfz11_1);(try clear hfz8_0);(try clear hfz8_1)
  obtain ⟨kq, x5_2, rfl, HA, HJ2, BK477, HB⟩ := hcut
  cases kq with
  | zero => exact absurd HA.out (by simp [spec_l02Code.j0])
  | succ kj2 =>
   have H := HA.out
   clear HA
   simp only [spec_l02Code.j0] at H
   by_cases c13 : x5_2 = true
   ·subst c13
    have H1 : (some 1) = some r := by rw [if_pos rfl] at H; exact H
    clear H
    have H := H1
    clear H1
    obtain rfl := Option.some.inj H
    go_wp2
    go_ret
    exact ⟨by first | rfl | (simp [errW_none, errW_some] <;> rfl) | (simp [*, errW_none, errW_some] <;> rfl), uH HB.out⟩
   ·replace c13 := Bool.eq_false_iff.mpr c13
    subst c13
    have H1 : (if (l1.length : Int) > (l0_1.length : Int) then (some 2) else (some 0)) = some r := by rw [if_neg (show ¬ (false = true) by decide)] at H; exact H
    clear H
    have H := H1
    clear H1
    by_cases c14 : (l1.length : Int) > (l0_1.length : Int)
    rotate_left
    ·rw [if_neg c14] at H
     have c14b0 : decide ((l0_1.length : Int) < (l1.length : Int)) = false := decide_eq_false c14
     have c14b1 : decide (l0_1.length < l1.length) = false := decide_eq_false (fun h => c14 (Int.ofNat_lt.mpr h))
     clear c14
     obtain rfl := Option.some.inj H
     have hcz16_0 := bc BK477 0
     have hcz16_1 := bc BK477 1
     have hfz16_0 := bf BK477 0
     have hfz16_1 := bf BK477 1
     go_wp2
     go_ret
     exact ⟨by first | rfl | (simp [errW_none, errW_some] <;> rfl) | (simp [*, errW_none, errW_some] <;> rfl), uH HB.out⟩

    rw [if_pos c14] at H
    have c14b0 : decide ((l0_1.length : Int) < (l1.length : Int)) = true := decide_eq_true c14
    have c14b1 : decide (l0_1.length < l1.length) = true := decide_eq_true (Int.ofNat_lt.mp c14)
    clear c14
    obtain rfl := Option.some.inj H
    have hcz15_0 := bc BK477 0
    have hcz15_1 := bc BK477 1
    have hfz15_0 := bf BK477 0
    have hfz15_1 := bf BK477 1
    go_wp2
    go_ret
    exact ⟨by first | rfl | (simp [errW_none, errW_some] <;> rfl) | (simp [*, errW_none, errW_some] <;> rfl), uH HB.out⟩
/-! ### spec_ApplyFunctional: function 8 -/
def spec_ApplyFunctional.f (k : Nat) (a0_0 : Int) (l0_1 : List Int) (l1 : List Int) : Option (Int × Int) := (spec_l02Code.f k a0_0 l0_1 l1).bind fun t484 => (if t484 = 0 then ((spec_l02Apply.f k a0_0 l0_1 l1 0).bind fun t485 => (some (t485, 0))) else (some (0, t484)))
set_option maxHeartbeats 8000000 in
set_option maxRecDepth 100000 in
theorem spec_ApplyFunctional.calls (k : Nat) (a0_0 : Int) (A0_1 : Option Addr) (c0_1 : Nat) (l0_1 : List Int) (A1 : Option Addr) (c1 : Nat) (l1 : List Int) (r1 : Int) (r2 : Int) (w : World) (hr0_1 : Kd.C (Kd.int .i64) w A0_1 l0_1.length l0_1) (hc0_1 : l0_1.length ≤ c0_1) (hr1 : Kd.C (Kd.int .i64) w A1 l1.length l1) (hc1 : l1.length ≤ c1) (h : spec_ApplyFunctional.f k a0_0 l0_1 l1 = some (r1, r2)) :
  Calls Try.prog 8 #[.agg #[.int .i64 a0_0, .slice A0_1 l0_1.length c0_1], .slice A1 l1.length c1] w fun e w' => e = .returned (.tuple #[.int .i64 r1, .int .i64 r2]) ∧ Below w.heap.size w w' := by
 have hu26 := Try.underlying26
 have HR0_1 := zA hr0_1
 have HC0_1 := zA hc0_1
 clear hr0_1 hc0_1
 have HR1 := zA hr1
 have HC1 := zA hc1
 clear hr1 hc1
 have HB := zA (Below.refl w.heap.size w)
 have H : ((spec_l02Code.f k a0_0 l0_1 l1).bind fun t484 => (if t484 = 0 then ((spec_l02Apply.f k a0_0 l0_1 l1 0).bind fun t485 => (some (t485, 0))) else (some (0, t484)))) = some (r1, r2) := h
 clear h
 replace H := Option.bind_eq_some_iff.mp H
 obtain ⟨t484, A30, H⟩ := H
 replace H : (if t484 = 0 then ((spec_l02Apply.f k a0_0 l0_1 l1 0).bind fun t485 => (some (t485, 0))) else (some (0, t484))) = some (r1, r2) := H
 have A3 := zA A30
 clear A30
 by_cases c4 : t484 = 0
 rotate_left
 ·rw [if_neg c4] at H
  have c4b0 : (t484 == 0) = false := beq_eq_false_iff_ne.mpr c4
  have c4b1 : (t484 != 0) = true := bne_iff_ne.mpr c4
  simp only [Option.some.injEq, Prod.mk.injEq] at H
  obtain ⟨rfl, rfl⟩ := H
  go_enter Try.func8, Try.ntmps8
  go_wp2_with (first | ((with_reducible refine gate_dst (N := 2) rfl ?_); refine bx 2 #[.int .i64 a0_0, .slice A0_1 l0_1.length c0_1] 26 ?_; intro gb483 hg w11 hbox hb; have BK483 := zA (hbox); have GW483 := gq HB hg; have GE483 := gq HB hg; replace HB := xH HB hb; have := geI GE483; clear hb hbox hg; have hcz12_0 := bc BK483 0; have hcz12_1 := bc BK483 1; have hfz12_0 := bf BK483 0; have hfz12_1 := bf BK483 1) | ((with_reducible refine gate_callee (f := 34) rfl ?_); refine gL (some 9) Try.func34 #[.agg #[.int .i64 a0_0, .slice A0_1 l0_1.length c0_1], .slice A1 l1.length c1] ?_; (with_reducible refine (spec_l02Code.calls k a0_0 _ _ l0_1 _ _ l1 t484 _ ?side1 ?side2 ?side3 ?side4 A3.out).mono ?_); (case side1 => exact uC ((Kd.C_below HR0_1.out HB.out))); (case side2 => exact HC0_1.out); (case side3 => exact uC ((Kd.C_below HR1.out HB.out))); (case side4 => exact HC1.out); rintro e w13 ⟨rfl, hb⟩; refine ⟨_, rfl, ?_⟩; replace BK483 := xB BK483 hb; replace HB := xH HB hb; (try clear hb); (try clear hb2); (try clear hk); (try clear hi)))
  go_ret2
  exact ⟨by first | rfl | (simp [errW_none, errW_some] <;> rfl) | (simp [*, errW_none, errW_some] <;> rfl), uH HB.out⟩

 rw [if_pos c4] at H
 have c4b0 : (t484 == 0) = true := beq_iff_eq.mpr c4
 have c4b1 : (t484 != 0) = false := bne_eq_false_iff_eq.mpr c4
 clear c4
 replace H := Option.bind_eq_some_iff.mp H
 obtain ⟨t485, A50, H⟩ := H
 replace H : (some (t485, 0)) = some (r1, r2) := H
 have A5 := zA A50
 clear A50
 simp only [Option.some.injEq, Prod.mk.injEq] at H
 obtain ⟨rfl, rfl⟩ := H
 go_enter Try.func8, Try.ntmps8
 go_wp2_with (first | ((with_reducible refine gate_dst (N := 2) rfl ?_); refine bx 2 #[.int .i64 a0_0, .slice A0_1 l0_1.length c0_1] 26 ?_; intro gb483 hg w6 hbox hb; have BK483 := zA (hbox); have GW483 := gq HB hg; have GE483 := gq HB hg; replace HB := xH HB hb; have := geI GE483; clear hb hbox hg; have hcz7_0 := bc BK483 0; have hcz7_1 := bc BK483 1; have hfz7_0 := bf BK483 0; have hfz7_1 := bf BK483 1) | ((with_reducible refine gate_callee (f := 34) rfl ?_); refine gL (some 9) Try.func34 #[.agg #[.int .i64 a0_0, .slice A0_1 l0_1.length c0_1], .slice A1 l1.length c1] ?_; (with_reducible refine (spec_l02Code.calls k a0_0 _ _ l0_1 _ _ l1 t484 _ ?side1 ?side2 ?side3 ?side4 A3.out).mono ?_); (case side1 => exact uC ((Kd.C_below HR0_1.out HB.out))); (case side2 => exact HC0_1.out); (case side3 => exact uC ((Kd.C_below HR1.out HB.out))); (case side4 => exact HC1.out); rintro e w8 ⟨rfl, hb⟩; refine ⟨_, rfl, ?_⟩; replace BK483 := xB BK483 hb; replace HB := xH HB hb; (try clear hb); (try clear hb2); (try clear hk); (try clear hi); have hcz9_0 := bc BK483 0; have hcz9_1 := bc BK483 1; have hfz9_0 := bf BK483 0; have hfz9_1 := bf BK483 1) | ((with_reducible refine gate_callee (f := 35) rfl ?_); refine gL (some 15) Try.func35 #[.agg #[.int .i64 a0_0, .slice A0_1 l0_1.length c0_1], .slice A1 l1.length c1, .int .i64 0] ?_; (with_reducible refine (spec_l02Apply.calls k a0_0 _ _ l0_1 _ _ l1 0 t485 _ ?side1 ?side2 ?side3 ?side4 A5.out).mono ?_); (case side1 => exact uC ((Kd.C_below HR0_1.out HB.out))); (case side2 => exact HC0_1.out); (case side3 => exact uC ((Kd.C_below HR1.out HB.out))); (case side4 => exact HC1.out); rintro e w10 ⟨rfl, hb⟩; refine ⟨_, rfl, ?_⟩; replace BK483 := xB BK483 hb; replace HB := xH HB hb; (try clear hb); (try clear hb2); (try clear hk); (try clear hi)))
 go_ret2
 exact ⟨by first | rfl | (simp [errW_none, errW_some] <;> rfl) | (simp [*, errW_none, errW_some] <;> rfl), uH HB.out⟩
/-! ### spec_l02Of: function 107 -/
mutual
def spec_l02Of.l0 : Nat → Int → List Int → Int → List Int → Int → Int → List Int → Option (Int × List Int)
 | 0, _, _, _, _, _, _, _ => none
 | k + 1, x0, x1, x3, x10, x11, x171000, x171001 => if x11 < x3 then (spec_l02Of.l1 k x0 x1 x3 x10 x11 0 0 x171000 x171001) else (some (x171000, x171001))
def spec_l02Of.l1 : Nat → Int → List Int → Int → List Int → Int → Int → Int → Int → List Int → Option (Int × List Int)
 | 0, _, _, _, _, _, _, _, _, _ => none
 | k + 1, x0, x1, x3, x10, x11, x12, x13, x171000, x171001 => if x13 < (x1.length : Int) then (if 0 ≤ x13 then (if x13 < (x10.length : Int) then (if x0 = 0 then (none) else (spec_l02Of.l1 k x0 x1 x3 (x10.set (x13 : Int).toNat (Int.tmod (wrap64 ((rd x10 x13) * (rd x1 x13))) x0)) x11 (Int.tmod (wrap64 (x12 + (rd x10 x13))) x0) (wrap64 (x13 + 1)) x171000 x171001)) else (none)) else (none)) else (if x171001.length < 17592186044416 then (spec_l02Of.l0 k x0 x1 x3 x10 (wrap64 (x11 + 1)) x171000 (x171001 ++ [x12])) else (none))
end
def spec_l02Of.f (k : Nat) (a0 : Int) (l1 : List Int) (l2 : List Int) (a3 : Int) : Option (Int × List Int) := (spec_l01Own.f l2).bind fun t167 => (spec_l02Of.l0 k a0 l1 a3 t167 0 a0 (([] : List Int)))
def spec_l02Of.T10 : Bool × List (List Nat × List Nat) := (true, [([], []), ([], []), ([], []), ([], []), ([2, 3], [2, 3]), ([4], [4]), ([], []), ([], []), ([6, 7], [6, 7]), ([8], [8]), ([5, 9], [5, 9]), ([], []), ([10, 11], [10, 11]), ([0, 1, 0, 1, 2, 3, 4, 5, 6, 7, 8, 9, 10, 11, 12], [0, 1]), ([13, 12, 0, 1, 2, 3, 4, 5, 6, 7, 8, 9, 10, 11, 12], [12, 13])])
def spec_l02Of.B10 : List Nat := [0, 0, 0, 0, 12, 28, 0, 0, 192, 448, 1020, 0, 4092, 8191, 16383]
theorem spec_l02Of.tab10 : rtab .any (opsOf Try.f107 10) = spec_l02Of.T10 := by kernel_rfl
theorem spec_l02Of.bits10 : waitsOk spec_l02Of.T10.2 spec_l02Of.B10 = true := by kernel_rfl
set_option maxHeartbeats 8000000 in
set_option maxRecDepth 100000 in
theorem spec_l02Of.calls (k : Nat) (a0 : Int) (A1 : Option Addr) (c1 : Nat) (l1 : List Int) (A2 : Option Addr) (c2 : Nat) (l2 : List Int) (a3 : Int) (r1 : Int) (r2 : List Int) (w : World) (hr1 : Kd.C (Kd.int .i64) w A1 l1.length l1) (hc1 : l1.length ≤ c1) (hr2 : Kd.C (Kd.int .i64) w A2 l2.length l2) (hc2 : l2.length ≤ c2) (h : spec_l02Of.f k a0 l1 l2 a3 = some (r1, r2)) :
  Calls Try.prog 107 #[.int .i64 a0, .slice A1 l1.length c1, .slice A2 l2.length c2, .int .i64 a3] w fun e w' => ∃ v1_ : Value, e = .returned (.agg #[.int .i64 r1, v1_]) ∧ Kd.R (Kd.int .i64) 2 w' w.heap.size (fun _ => True) v1_ r2 ∧ Below w.heap.size w w' := by
 have hu26 := Try.underlying26
 have HR1 := zA hr1
 have HC1 := zA hc1
 clear hr1 hc1
 have HR2 := zA hr2
 have HC2 := zA hc2
 clear hr2 hc2
 have HB := zA (Below.refl w.heap.size w)
 have H : ((spec_l01Own.f l2).bind fun t167 => (spec_l02Of.l0 k a0 l1 a3 t167 0 a0 (([] : List Int)))) = some (r1, r2) := h
 clear h
 obtain ⟨y164, hy164⟩ : ∃ y_ : List Int, y_ = (([] : List Int)) := ⟨_, rfl⟩
 replace H : ((spec_l01Own.f l2).bind fun t167 => (spec_l02Of.l0 k a0 l1 a3 t167 0 a0 y164)) = some (r1, r2) := by first | (rw [hy164]; exact H) | exact H
 have Ny164 := zA hy164
 clear hy164
 replace H := Option.bind_eq_some_iff.mp H
 obtain ⟨t167, A50, H⟩ := H
 replace H : (spec_l02Of.l0 k a0 l1 a3 t167 0 a0 y164) = some (r1, r2) := H
 have A5 := zA A50
 clear A50
 have H' := zA H
 clear H
 go_enter Try.func107, Try.ntmps107
 go_wp2_with (first | ((with_reducible refine gate_dst (N := 8) rfl ?_); refine bx 8 #[.int .i64 0, .slice none 0 0] 26 ?_; intro gb163 hg w6 hbox hb; have BK163 := zA (hbox); have GW163 := gq HB hg; have GE163 := gq HB hg; replace HB := xH HB hb; have := geI GE163; clear hb hbox hg) | ((with_reducible refine gate_dst (N := 15) rfl ?_); refine Kd.R_lit (Kd.int .i64) _ 2 ?hg (N := 15) ?hd (xs := ([] : List Int)) (inner := []) (ok := fun _ => True) (okp := fun _ => True) ?hr ?hp (fun _ hk => hk) trivial (Below.refl _ _) (Nat.le_refl _) (by simp) ?_; (case hd => rfl); (case hg => rfl); (case hr => first | (go_simp; done) | (go_simp; rfl)); (case hp => exact (Reps.none _ _)); intro v165 w7 ho8 hb hg_ hnew_; clear hg_ hnew_; (first | rw [← Ny164.out] at ho8 | (simp only [Int.reduceToNat] at ho8; rw [← Ny164.out] at ho8)); have HO166 := zA (Kd.R_lower ho8 (below_size (uH HB.out))); replace BK163 := xB BK163 hb; replace HB := xH HB hb; clear hb ho8; obtain ⟨Ao9, co9, eo9⟩ := Kd.R_slice HO166.out; subst eo9) | ((with_reducible refine gate_callee (f := 50) rfl ?_); refine gL (some 18) Try.func50 #[.slice A2 l2.length c2] ?_; (with_reducible refine (spec_l01Own.calls _ _ l2 t167 _ ?side1 ?side2 A5.out).mono ?_); (case side1 => exact uC ((Kd.C_below HR2.out HB.out))); (case side2 => exact HC2.out); rintro e w10 ⟨v168, rfl, ho0, hb⟩; refine ⟨_, rfl, ?_⟩; have HO169 := zA (Kd.R_lower (Kd.R_new' ho0 (Kd.R_lt (uR HO166.out))) (below_size (uH HB.out))); replace HO166 := zA (Kd.R_elder' (uR HO166.out) (Kd.R_base ho0) hb); replace BK163 := xB BK163 hb; replace HB := xH HB hb; (try clear hb); (try clear hb2); (try clear hk); (try clear hi); (try clear ho0)) | ((with_reducible refine gate_dst (N := 9) rfl ?_); refine bx 9 #[.int .i64 0, .slice none 0 0] 26 ?_; intro gb170 hg w11 hbox hb; replace HO166 := xR HO166 hb; replace HO169 := xR HO169 hb; have BK170 := zA (hbox); have GW170 := gq HB hg; have GE170 := gq HB hg; replace HB := xH HB hb; have NB163_170 := zA ((by rw [hg]; exact neL BK163 : gb163 ≠ gb170)); have NB170_163 := zA ((by rw [hg]; exact neG BK163 : gb170 ≠ gb163)); replace BK163 := xB BK163 hb; have := geI GE170; clear hb hbox hg; have hnb12 := NB170_163.out; have hnc12 := NB163_170.out; have hcz13_0 := bc BK170 0; have hcz13_1 := bc BK170 1; have hfz13_0 := bf BK170 0; have hfz13_1 := bf BK170 1))
 go_loopg [11] k (fun kq v11 w' => ∃ (x10_1 : List Int) (x11_1 : Int) (x171001_1 : List Int) (u171001 : Value), v11 = .int .i64 x11_1 ∧ Aside0 (spec_l02Of.l0 kq a0 l1 a3 x10_1 x11_1 a0 x171001_1 = some (r1, r2)) ∧ Aside0 (kq ≤ k) ∧ Aside0 (Kd.R (Kd.int .i64) 2 w' w.heap.size (fun k_ => some k_ ≠ (u171001 : Value).ownBlock) v168 x10_1) ∧ Aside0 (Kd.R (Kd.int .i64) 2 w' w.heap.size (fun k_ => some k_ ≠ (v168 : Value).ownBlock) u171001 x171001_1) ∧ Aside0 (w'.heap[gb163]? = some (.cells #[.int .i64 0, (.slice none 0 0)] 26 (0, 0))) ∧ Aside0 (w'.heap[gb170]? = some (.cells #[.int .i64 a0, u171001] 26 (0, 0))) ∧ Aside0 (Below w.heap.size w w'))
 case atStart => exact ⟨(t167), (0), (y164), (.slice Ao9 y164.length co9), (by first | rfl | (simp; done) | (simp [*]; done)), H', ⟨Nat.le_refl _⟩, ⟨uR (Kd.R_mono (Kd.R_far (p := ⟨gb170, 1, none⟩) (Kd.R_far (p := ⟨gb170, 0, none⟩) (Kd.R_types HO169.out BK170.out (by decide)) (fun _ hk => hk.2) (.int .i64 a0)) (fun _ hk => hk.2) (.slice Ao9 y164.length co9)) (fun _ hk => hk.1.2))⟩, ⟨uR (Kd.R_mono (Kd.R_far (p := ⟨gb170, 1, none⟩) (Kd.R_far (p := ⟨gb170, 0, none⟩) (Kd.R_types HO166.out BK170.out (by decide)) (fun _ hk => hk.2) (.int .i64 a0)) (fun _ hk => hk.2) (.slice Ao9 y164.length co9)) (fun _ hk => hk.1.2))⟩, ⟨by (repeat refine up1 ?_); refine blk_far ?_ NB163_170.out _; (repeat refine up1 ?_); refine blk_far ?_ NB163_170.out _; (repeat refine up1 ?_); exact BK163.out⟩, ⟨by (repeat refine up1 ?_); refine blk_put (cs := #[.int .i64 a0, .slice none 0 0]) ?_ 1 _ rfl; (repeat refine up1 ?_); refine blk_put (cs := #[.int .i64 0, .slice none 0 0]) ?_ 0 _ rfl; (repeat refine up1 ?_); exact BK170.out⟩, ⟨uH HB.out⟩⟩
 case round =>
  clear H'
  (try clear c1);(try clear c2);(try clear p2);(try clear c5);(try clear c10);(try clear c12);(try clear hcz13_0);(try clear hcz13_1);(try clear hfz13_0);(try clear hfz13_1)
  obtain ⟨x10_1, x11_1, x171001_1, u171001, rfl, HA, HK1, HO_10, HO_171001, BK163, BK170, HB⟩ := hrel
  cases gk with
  | zero => exact absurd HA.out (by simp [spec_l02Of.l0])
  | succ k1 =>
   have H := HA.out
   clear HA
   simp only [spec_l02Of.l0] at H
   by_cases c14 : x11_1 < a3
   rotate_left
   ·rw [if_neg c14] at H
    have c14b0 : decide (x11_1 < a3) = false := decide_eq_false c14
    clear c14
    simp only [Option.some.injEq, Prod.mk.injEq] at H
    obtain ⟨rfl, rfl⟩ := H
    have hnb29 := NB170_163.out; have hnc29 := NB163_170.out
    have hcz30_0 := bc BK170 0
    have hcz30_1 := bc BK170 1
    have hfz30_0 := bf BK170 0
    have hfz30_1 := bf BK170 1
    have hcz31_0 := bc BK163 0
    have hcz31_1 := bc BK163 1
    have hfz31_0 := bf BK163 0
    have hfz31_1 := bf BK163 1
    obtain ⟨Ao32, co32, eo32⟩ := Kd.R_slice HO_171001.out
    subst eo32
    go_wp2
    refine bodyPost_ret (results_cell_row rfl _ _ gb163 26 #[.int .i64 a0, .slice Ao32 x171001_1.length co32] (0, 0) _ rfl (by (repeat refine up1 ?_); refine blk_put (cs := #[.int .i64 a0, .slice none 0 0]) ?_ 1 _ rfl; (repeat refine up1 ?_); refine blk_put (cs := #[.int .i64 0, .slice none 0 0]) ?_ 0 _ rfl; (repeat refine up1 ?_); exact BK163.out) Try.underlying26 rfl (by kernel_rfl)) rfl ?_
    exact ⟨_, by first | rfl | (simp [errW_none, errW_some] <;> rfl) | (simp [*, errW_none, errW_some] <;> rfl), uR (Kd.R_mono (Kd.R_far (p := ⟨gb163, 1, none⟩) (Kd.R_far (p := ⟨gb163, 0, none⟩) (Kd.R_types HO_171001.out BK163.out (by decide)) (fun _ hk => hk.2) (.int .i64 a0)) (fun _ hk => hk.2) (.slice Ao32 x171001_1.length co32)) (fun _ hk => trivial)), uH HB.out⟩

   rw [if_pos c14] at H
   have c14b0 : decide (x11_1 < a3) = true := decide_eq_true c14
   clear c14
   have H' := zA H
   clear H
   go_wp2
   go_loopg [12, 13] k1 (fun kq v12 v13 w' => ∃ (x10_2 : List Int) (x12_2 : Int) (x13_2 : Int), v12 = .int .i64 x12_2 ∧ v13 = .int .i64 x13_2 ∧ Aside0 (spec_l02Of.l1 kq a0 l1 a3 x10_2 x11_1 x12_2 x13_2 a0 x171001_1 = some (r1, r2)) ∧ Aside0 (kq ≤ k1) ∧ Aside0 (Kd.R (Kd.int .i64) 2 w' w.heap.size (fun k_ => some k_ ≠ (u171001 : Value).ownBlock) v168 x10_2) ∧ Aside0 (Kd.R (Kd.int .i64) 2 w' w.heap.size (fun k_ => some k_ ≠ (v168 : Value).ownBlock) u171001 x171001_1) ∧ Aside0 (w'.heap[gb163]? = some (.cells #[.int .i64 0, (.slice none 0 0)] 26 (0, 0))) ∧ Aside0 (w'.heap[gb170]? = some (.cells #[.int .i64 a0, u171001] 26 (0, 0))) ∧ Aside0 (Below w.heap.size w w'))
   case atStart => exact ⟨(x10_1), (0), (0), (by first | rfl | (simp; done) | (simp [*]; done)), (by first | rfl | (simp; done) | (simp [*]; done)), H', ⟨Nat.le_refl _⟩, ⟨uR HO_10.out⟩, ⟨uR HO_171001.out⟩, ⟨uB BK163.out⟩, ⟨uB BK170.out⟩, ⟨uH HB.out⟩⟩
   case round =>
    clear H'
    (try clear c1);(try clear c2);(try clear p2);(try clear c5);(try clear c10);(try clear c12);(try clear c14);(try clear c14b0);(try clear hcz13_0);(try clear hcz13_1);(try clear hfz13_0);(try clear hfz13_1);(try clear p2)
    obtain ⟨x10_2, x12_2, x13_2, rfl, rfl, HA, HK2, HO_10, HO_171001, BK163, BK170, HB⟩ := hrel
    cases gk with
    | zero => exact absurd HA.out (by simp [spec_l02Of.l1])
    | succ k2 =>
     have H := HA.out
     clear HA
     simp only [spec_l02Of.l1] at H
     by_cases c15 : x13_2 < (l1.length : Int)
     rotate_left
     ·rw [if_neg c15] at H
      have c15b0 : decide (x13_2 < (l1.length : Int)) = false := decide_eq_false c15
      clear c15
      by_cases c23 : x171001_1.length < 17592186044416
      rotate_left
      ·rw [if_neg c23] at H
       exact absurd H (by simp)
      rw [if_pos c23] at H
      have LMc23 := zA c23
      clear c23
      obtain ⟨y175, hy175⟩ : ∃ y_ : List Int, y_ = (x171001_1 ++ [x12_2]) := ⟨_, rfl⟩
      replace H : (spec_l02Of.l0 k2 a0 l1 a3 x10_2 (wrap64 (x11_1 + 1)) a0 y175) = some (r1, r2) := by first | (rw [hy175]; exact H) | exact H
      have Ny175 := zA hy175
      clear hy175
      have H' := zA H
      clear H
      have hnb24 := NB170_163.out; have hnc24 := NB163_170.out
      have hcz25_0 := bc BK170 0
      have hcz25_1 := bc BK170 1
      have hfz25_0 := bf BK170 0
      have hfz25_1 := bf BK170 1
      go_wp2_with (first | ((with_reducible refine gate_builtin (b := .append) (xs := #[.tmp 53, .tmp 55]) rfl ?_); at_builtin; refine Kd.R_append (Kd.int .i64) (w0 := w) w.heap.size rfl (.tmp 53) (.tmp 55) 24 2 (.int .i64 0) 8 rfl Try.underlying24 info2 rfl (by decide) (by omega) u171001 x171001_1 x12_2 [.int .i64 x12_2] (fun k_ => some k_ ≠ (v168 : Value).ownBlock) (fun _ => False) rfl rfl ?aP (fun _ hk => hk.elim) ?aF ?aO ?aB ?aS ?aL ?_; (case aP => exact rfl); (case aB => exact (uH HB.out)); (case aF => exact (fun k_ hk => Kd.fresh' (Kd.R_lt (uR HO_10.out)) k_ hk)); (case aO => exact (uR HO_171001.out)); (case aS => exact (below_size (uH HB.out))); (case aL => have := LMc23.out; omega); intro v176 w26 ho hb hg hat; rw [← Ny175.out] at ho; replace HO_10 := zA (Kd.R_after (ok := (fun _ => True)) (uR (Kd.R_mono HO_10.out (fun _ hk => ⟨trivial, hk⟩))) hg hat); replace BK163 := zA (blk_grown (g := gb163) (o := .cells #[.int .i64 0, .slice none 0 0] 26 (0, 0)) (uB BK163.out) hg (Kd.R_ne HO_171001.out BK163.out (by decide))); replace BK170 := zA (blk_grown (g := gb170) (o := .cells #[.int .i64 a0, u171001] 26 (0, 0)) (uB BK170.out) hg (Kd.R_ne HO_171001.out BK170.out (by decide))); replace HB := zA (hb); have HO177 := zA (ho); clear HO_171001 ho hb hg hat; obtain ⟨Ao27, co27, eo27⟩ := Kd.R_slice HO177.out; subst eo27; have hcz28_0 := bc BK170 0; have hcz28_1 := bc BK170 1; have hfz28_0 := bf BK170 0; have hfz28_1 := bf BK170 1))
      go_roundg k2
      case measure => have := HK1.out; have := HK2.out; omega
      case rel => exact ⟨(x10_2), (wrap64 (x11_1 + 1)), (y175), (.slice Ao27 y175.length co27), (by first | rfl | (simp; done) | (simp [*]; done)), H', ⟨by have := HK1.out; have := HK2.out; omega⟩, ⟨uR (Kd.R_mono (Kd.R_far (p := ⟨gb170, 1, none⟩) (Kd.R_types HO_10.out BK170.out (by decide)) (fun _ hk => hk.2) (.slice Ao27 y175.length co27)) (fun _ hk => hk.1.2))⟩, ⟨uR (Kd.R_mono (Kd.R_far (p := ⟨gb170, 1, none⟩) (Kd.R_types HO177.out BK170.out (by decide)) (fun _ hk => hk.2) (.slice Ao27 y175.length co27)) (fun _ hk => hk.1))⟩, ⟨by (repeat refine up1 ?_); refine blk_far ?_ NB163_170.out _; (repeat refine up1 ?_); exact BK163.out⟩, ⟨by (repeat refine up1 ?_); refine blk_put (cs := #[.int .i64 a0, u171001]) ?_ 1 _ rfl; (repeat refine up1 ?_); exact BK170.out⟩, ⟨uH HB.out⟩⟩
     rw [if_pos c15] at H
     have c15b0 : decide (x13_2 < (l1.length : Int)) = true := decide_eq_true c15
     clear c15
     by_cases c16 : 0 ≤ x13_2
     rotate_left
     ·rw [if_neg c16] at H
      exact absurd H (by simp)
     rw [if_pos c16] at H
     have c16b0 : decide (0 ≤ x13_2) = true := decide_eq_true c16
     clear c16
     by_cases c17 : x13_2 < (x10_2.length : Int)
     rotate_left
     ·rw [if_neg c17] at H
      exact absurd H (by simp)
     rw [if_pos c17] at H
     have c17b0 : decide (x13_2 < (x10_2.length : Int)) = true := decide_eq_true c17
     clear c17
     by_cases c18 : a0 = 0
     rotate_left
     ·rw [if_neg c18] at H
      have c18b0 : (a0 == 0) = false := beq_eq_false_iff_ne.mpr c18
      have c18b1 : (a0 != 0) = true := bne_iff_ne.mpr c18
      obtain ⟨y174, hy174⟩ : ∃ y_ : List Int, y_ = (x10_2.set (x13_2 : Int).toNat (Int.tmod (wrap64 ((rd x10_2 x13_2) * (rd l1 x13_2))) a0)) := ⟨_, rfl⟩
      replace H : (spec_l02Of.l1 k2 a0 l1 a3 y174 x11_1 (Int.tmod (wrap64 (x12_2 + (rd x10_2 x13_2))) a0) (wrap64 (x13_2 + 1)) a0 x171001_1) = some (r1, r2) := by first | (rw [hy174]; exact H) | exact H
      have Ny174 := zA hy174
      clear hy174
      have H' := zA H
      clear H
      obtain ⟨Ao20, co20, eo20⟩ := Kd.R_slice HO_10.out
      subst eo20
      have p171 : 0 ≤ (x13_2 : Int) := of_decide_eq_true (by first | (with_reducible assumption) | assumption)
      have q171 : x13_2 < (x10_2.length : Int) := of_decide_eq_true (by first | (with_reducible assumption) | assumption)
      obtain ⟨ad171, e171, hx171_0⟩ := Kd.at_int (Kd.R_reads' HO_10.out).2.2 x13_2 p171 q171
      cases e171
      replace p171 := eq_true p171
      replace q171 := eq_true q171
      try go_wp2
      replace HO_10 := zA (Kd.R_drew HO_10.out)
      replace HO_171001 := zA (Kd.R_drew HO_171001.out)
      replace BK163 := zA (blk_drew BK163.out)
      replace BK170 := zA (blk_drew BK170.out)
      replace HB := zA (below_drew1 HB.out)
      have p172 : 0 ≤ (x13_2 : Int) := of_decide_eq_true (by first | (with_reducible assumption) | assumption)
      have q172 : x13_2 < (x10_2.length : Int) := of_decide_eq_true (by first | (with_reducible assumption) | assumption)
      obtain ⟨ad172, e172, hx172_0⟩ := Kd.at_int (Kd.R_reads' HO_10.out).2.2 x13_2 p172 q172
      obtain rfl : ad171 = ad172 := (by injection e172)
      replace p172 := eq_true p172
      replace q172 := eq_true q172
      have p173 : 0 ≤ (x13_2 : Int) := of_decide_eq_true (by first | (with_reducible assumption) | assumption)
      have q173 : x13_2 < (l1.length : Int) := of_decide_eq_true (by first | (with_reducible assumption) | assumption)
      obtain ⟨ad173, e173, hx173_0⟩ := Kd.at_int HR1.out x13_2 p173 q173
      have hw173_0 := hx173_0
      cases e173
      replace hx173_0 := hc HB hx173_0
      replace p173 := eq_true p173
      replace q173 := eq_true q173
      have p19 : 0 ≤ (x13_2 : Int) := of_decide_eq_true (by first | (with_reducible assumption) | assumption)
      have q19 : (x13_2 : Int) < ((x10_2.length : Int) : Int) := of_decide_eq_true (by first | (with_reducible assumption) | assumption)
      obtain ⟨go19, co19, eo19, gb19, gl19, cl19, HG19⟩ := Kd.R_form HO_10.out (by omega)
      (first | cases eo19 | (injection eo19 with ea_ en_ ec_; (first | subst ea_ | (injection ea_ with ea_; subst ea_)); subst ec_; clear en_))
      have GB19 := zA gb19; have := geI GB19
      have GG19 := zA HG19
      clear gb19 gl19 HG19
      (first | simp only [add_plain] at hx171_0 | skip)
      (first | simp only [add_plain] at hx172_0 | skip)
      obtain ⟨hx19_0, hf19_0⟩ := Kd.R_celln 0 HO_10.out (x13_2 : Int) p19 q19
      replace p19 := eq_true p19
      replace q19 := eq_true q19
      have HP22 := Kd.R_putn HO_10.out (x13_2 : Int) (Int.tmod (wrap64 ((rd x10_2 x13_2) * (rd l1 x13_2))) a0)
      rw [← Ny174.out] at HP22
      have HQ22 := zA HP22
      clear HP22
      refine start_ (n := 15) (S := fun w' => w'.cell? ⟨go19, (x13_2).toNat, none⟩ = some (.int .i64 (rd x10_2 x13_2)) ∧ w'.cell? (ad173.add (x13_2).toNat) = some (.int .i64 (rd l1 x13_2))) (ds := [14]) #[false, false, false, false, false, false, false, false, false, false, false, false, false, false, false] (by kernel_rfl) rfl rfl ⟨hx172_0, (hcu HB hw173_0)⟩ (fun hHeld => ?_); refine with_tabW spec_l02Of.tab10 spec_l02Of.bits10 (fun HT_ HW_ => ?_)
      generalize wr.drew = w21 at HO_10 HO_171001 BK163 BK170 HB GG19 HQ22 hf19_0 hx171_0 hx172_0 hx173_0 hx19_0 hHeld ⊢
      refine pu_ 0 38 (bl 15 1) HT_ ?_
      refine pu_ 1 39 (bl 15 3) HT_ ?_
      refine pu_ 2 40 (bl 15 7) HT_ ?_
      refine pu_ 3 41 (bl 15 15) HT_ ?_
      refine pu_ 4 42 (bl 15 31) HT_ ?_
      refine pu_ 6 44 (bl 15 95) HT_ ?_
      refine pu_ 7 45 (bl 15 223) HT_ ?_
      refine pu_ 8 46 (bl 15 479) HT_ ?_
      refine pu_ 11 49 (bl 15 2527) HT_ ?_
      refine ta_ 5 43 (bl 15 2559) HT_ HW_ hHeld ?_
      refine ta_ 9 47 (bl 15 3071) HT_ HW_ hHeld ?_
      refine pu_ 10 48 (bl 15 4095) HT_ ?_
      refine pu_ 12 50 (bl 15 8191) HT_ ?_
      refine pu_ 13 51 (bl 15 16383) HT_ ?_
      refine last_ (i := 14) (N := none) (bl 15 32767) rfl rfl (one_of HT_.out (by kernel_rfl)) (by decide) (fun K hK => ?_)
      refine skip_ (w1 := ?_) (by rfl) rfl ?_ ?_
      rotate_left
      ·go_simp
       rfl
      refine hK.out _ _ ?_
      clear hK K
      refine done_ (done_of HT_.out (by kernel_rfl)) ?_
      try go_wp2
      go_roundg k2
      case measure => have := HK1.out; have := HK2.out; omega
      case rel => exact ⟨(y174), (Int.tmod (wrap64 (x12_2 + (rd x10_2 x13_2))) a0), (wrap64 (x13_2 + 1)), (by first | rfl | (simp; done) | (simp [*]; done)), (by first | rfl | (simp; done) | (simp [*]; done)), H', ⟨by have := HK1.out; have := HK2.out; omega⟩, ⟨uR HQ22.out⟩, ⟨uR (Kd.R_mono (Kd.R_far (p := ⟨go19, (x13_2 : Int).toNat, none⟩) (Kd.R_mono HO_171001.out (fun k_ hk => (⟨hk, fun e_ => hk (by rw [e_]; rfl)⟩ : _ ∧ k_ ≠ go19))) (fun _ hk => hk.2) (.int .i64 (Int.tmod (wrap64 ((rd x10_2 x13_2) * (rd l1 x13_2))) a0))) (fun _ hk => hk.1))⟩, ⟨by (repeat refine up1 ?_); refine blk_far ?_ (by have h_ := Kd.R_ne HO_10.out BK163.out (by decide); intro e_; exact h_ (by rw [e_]; rfl)) _; (repeat refine up1 ?_); exact BK163.out⟩, ⟨by (repeat refine up1 ?_); refine blk_far ?_ (by have h_ := Kd.R_ne HO_10.out BK170.out (by decide); intro e_; exact h_ (by rw [e_]; rfl)) _; (repeat refine up1 ?_); exact BK170.out⟩, ⟨uH HB.out⟩⟩
     rw [if_pos c18] at H
     exact absurd H (by simp)
/-! ### spec_l02Pascal: function 116 -/
def spec_l02Pascal.l0 : Nat → Int → List Int → List Int → Int → Option (List Int)
 | 0, _, _, _, _ => none
 | k + 1, x0, x1, x5, x6 => if x6 < (x1.length : Int) then (if 0 ≤ (wrap64 (x6 - 1)) then (if (wrap64 (x6 - 1)) < (x1.length : Int) then (if 0 ≤ x6 then (if x0 = 0 then (none) else (if x5.length < 17592186044416 then (spec_l02Pascal.l0 k x0 x1 (x5 ++ [Int.tmod (wrap64 ((rd x1 (wrap64 (x6 - 1))) + (rd x1 x6))) x0]) (wrap64 (x6 + 1))) else (none))) else (none)) else (none)) else (none)) else (if x0 = 0 then (none) else (if x5.length < 17592186044416 then (some (x5 ++ [(1 : Int) % x0])) else (none)))
def spec_l02Pascal.f (k : Nat) (a0 : Int) (l1 : List Int) : Option (List Int) := if a0 = 0 then (none) else (spec_l02Pascal.l0 k a0 l1 (([(1 : Int) % a0] : List Int)) 1)
def spec_l02Pascal.T5 : Bool × List (List Nat × List Nat) := (true, [([], []), ([], []), ([], []), ([2], [2]), ([1, 3], [1, 3]), ([4], [4]), ([], []), ([], []), ([6, 7], [6, 7]), ([8], [8]), ([5, 9], [5, 9]), ([], []), ([10, 11], [10, 11]), ([12], [12]), ([0, 13], [0, 13]), ([14, 14, 0, 1, 2, 3, 4, 5, 6, 7, 8, 9, 10, 11, 12, 13, 14], [0, 14])])
def spec_l02Pascal.B5 : List Nat := [0, 0, 0, 4, 14, 30, 0, 0, 192, 448, 1022, 0, 4094, 8190, 16383, 32767]
theorem spec_l02Pascal.tab5 : rtab .any (opsOf Try.f116 5) = spec_l02Pascal.T5 := by kernel_rfl
theorem spec_l02Pascal.bits5 : waitsOk spec_l02Pascal.T5.2 spec_l02Pascal.B5 = true := by kernel_rfl
set_option maxHeartbeats 8000000 in
set_option maxRecDepth 100000 in
theorem spec_l02Pascal.calls (k : Nat) (a0 : Int) (A1 : Option Addr) (c1 : Nat) (l1 : List Int) (r : List Int) (w : World) (hr1 : Kd.C (Kd.int .i64) w A1 l1.length l1) (hc1 : l1.length ≤ c1) (h : spec_l02Pascal.f k a0 l1 = some r) :
  Calls Try.prog 116 #[.int .i64 a0, .slice A1 l1.length c1] w fun e w' => ∃ v0_ : Value, e = .returned (v0_) ∧ Kd.R (Kd.int .i64) 2 w' w.heap.size (fun _ => True) v0_ r ∧ Below w.heap.size w w' := by
 have HR1 := zA hr1
 have HC1 := zA hc1
 clear hr1 hc1
 have HB := zA (Below.refl w.heap.size w)
 have H : (if a0 = 0 then (none) else (spec_l02Pascal.l0 k a0 l1 (([(1 : Int) % a0] : List Int)) 1)) = some r := h
 clear h
 by_cases c3 : a0 = 0
 rotate_left
 ·rw [if_neg c3] at H
  have c3b0 : (a0 == 0) = false := beq_eq_false_iff_ne.mpr c3
  have c3b1 : (a0 != 0) = true := bne_iff_ne.mpr c3
  obtain ⟨y204, hy204⟩ : ∃ y_ : List Int, y_ = (([(1 : Int) % a0] : List Int)) := ⟨_, rfl⟩
  replace H : (spec_l02Pascal.l0 k a0 l1 y204 1) = some r := by first | (rw [hy204]; exact H) | exact H
  have Ny204 := zA hy204
  clear hy204
  have H' := zA H
  clear H
  go_enter Try.func116, Try.ntmps116
  go_wp2_with (first | ((with_reducible refine gate_dst (N := 9) rfl ?_); refine Kd.R_lit (Kd.int .i64) _ 2 ?hg (N := 9) ?hd (xs := ([(1 : Int) % a0] : List Int)) (inner := [.int .i64 ((1 : Int) % a0)]) (ok := fun _ => True) (okp := fun _ => True) ?hr ?hp (fun _ hk => hk) trivial (Below.refl _ _) (Nat.le_refl _) (by simp) ?_; (case hd => rfl); (case hg => rfl); (case hr => first | (go_simp; done) | (go_simp; rfl)); (case hp => exact (Reps.one (show Kd.M (Kd.int .i64) _ _ _ ((1 : Int) % a0) [.int .i64 ((1 : Int) % a0)] from rfl) (Reps.none _ _))); intro v205 w4 ho5 hb hg_ hnew_; clear hg_ hnew_; (first | rw [← Ny204.out] at ho5 | (simp only [Int.reduceToNat] at ho5; rw [← Ny204.out] at ho5)); have HO206 := zA (Kd.R_lower ho5 (below_size (uH HB.out))); replace HB := xH HB hb; clear hb ho5))
  go_loopg [5, 6] k (fun kq v5 v6 w' => ∃ (x5_1 : List Int) (x6_1 : Int), v6 = .int .i64 x6_1 ∧ Aside0 (spec_l02Pascal.l0 kq a0 l1 x5_1 x6_1 = some r) ∧ Aside0 (kq ≤ k) ∧ Aside0 (Kd.R (Kd.int .i64) 2 w' w.heap.size (fun _ => True) v5 x5_1) ∧ Aside0 (Below w.heap.size w w'))
  case atStart => exact ⟨(y204), (1), (by first | rfl | (simp; done) | (simp [*]; done)), H', ⟨Nat.le_refl _⟩, ⟨uR HO206.out⟩, ⟨uH HB.out⟩⟩
  case round =>
   clear H'
   (try clear c1);(try clear p2);(try clear c3);(try clear c3b0);(try clear c3b1)
   obtain ⟨x5_1, x6_1, rfl, HA, HK1, HO_5, HB⟩ := hrel
   cases gk with
   | zero => exact absurd HA.out (by simp [spec_l02Pascal.l0])
   | succ k1 =>
    have H := HA.out
    clear HA
    simp only [spec_l02Pascal.l0] at H
    by_cases c6 : x6_1 < (l1.length : Int)
    rotate_left
    ·rw [if_neg c6] at H
     have c6b0 : decide (x6_1 < (l1.length : Int)) = false := decide_eq_false c6
     clear c6
     by_cases c15 : a0 = 0
     rotate_left
     ·rw [if_neg c15] at H
      have c15b0 : (a0 == 0) = false := beq_eq_false_iff_ne.mpr c15
      have c15b1 : (a0 != 0) = true := bne_iff_ne.mpr c15
      by_cases c16 : x5_1.length < 17592186044416
      rotate_left
      ·rw [if_neg c16] at H
       exact absurd H (by simp)

      rw [if_pos c16] at H
      have LMc16 := zA c16
      clear c16
      obtain ⟨y212, hy212⟩ : ∃ y_ : List Int, y_ = (x5_1 ++ [(1 : Int) % a0]) := ⟨_, rfl⟩
      replace H : (some y212) = some r := by first | (rw [hy212]; exact H) | exact H
      have Ny212 := zA hy212
      clear hy212
      obtain rfl := Option.some.inj H
      go_wp2_with (first | ((with_reducible refine gate_builtin (b := .append) (xs := #[.tmp 31, .tmp 34]) rfl ?_); at_builtin; refine Kd.R_append (Kd.int .i64) (w0 := w) w.heap.size rfl (.tmp 31) (.tmp 34) 24 2 (.int .i64 0) 8 rfl Try.underlying24 info2 rfl (by decide) (by omega) u5 x5_1 ((1 : Int) % a0) [.int .i64 ((1 : Int) % a0)] (fun _ => True) (fun _ => False) rfl rfl ?aP (fun _ hk => hk.elim) ?aF ?aO ?aB ?aS ?aL ?_; (case aP => exact rfl); (case aB => exact (uH HB.out)); (case aF => exact (fun _ _ => trivial)); (case aO => exact (uR HO_5.out)); (case aS => exact (below_size (uH HB.out))); (case aL => have := LMc16.out; omega); intro v213 w17 ho hb hg hat; rw [← Ny212.out] at ho; replace HB := zA (hb); have HO214 := zA (ho); clear HO_5 ho hb hg hat))
      go_ret
      exact ⟨_, by first | rfl | (simp [errW_none, errW_some] <;> rfl) | (simp [*, errW_none, errW_some] <;> rfl), uR HO214.out, uH HB.out⟩
     rw [if_pos c15] at H
     exact absurd H (by simp)
    rw [if_pos c6] at H
    have c6b0 : decide (x6_1 < (l1.length : Int)) = true := decide_eq_true c6
    clear c6
    obtain ⟨ji7, hji7⟩ : ∃ j_ : Int, (wrap64 (x6_1 - 1)) = j_ := ⟨_, rfl⟩
    replace H : (if 0 ≤ (ji7) then (if (ji7) < (l1.length : Int) then (if 0 ≤ x6_1 then (if a0 = 0 then (none) else (if x5_1.length < 17592186044416 then (spec_l02Pascal.l0 k1 a0 l1 (x5_1 ++ [Int.tmod (wrap64 ((rd l1 (ji7)) + (rd l1 x6_1))) a0]) (wrap64 (x6_1 + 1))) else (none))) else (none)) else (none)) else (none)) = some r := by first | (rw [hji7] at H; exact H) | (simp only [hji7] at H ⊢; exact H)
    have hji7w : (IntKind.i64.wrap (x6_1 - 1)) = ji7 := (i64_w _).trans hji7
    by_cases c8 : 0 ≤ (ji7)
    rotate_left
    ·rw [if_neg c8] at H
     exact absurd H (by simp)
    rw [if_pos c8] at H
    have c8b0 : decide (0 ≤ (ji7)) = true := decide_eq_true c8
    clear c8
    by_cases c9 : (ji7) < (l1.length : Int)
    rotate_left
    ·rw [if_neg c9] at H
     exact absurd H (by simp)
    rw [if_pos c9] at H
    have c9b0 : decide ((ji7) < (l1.length : Int)) = true := decide_eq_true c9
    clear c9
    by_cases c10 : 0 ≤ x6_1
    rotate_left
    ·rw [if_neg c10] at H
     exact absurd H (by simp)
    rw [if_pos c10] at H
    have c10b0 : decide (0 ≤ x6_1) = true := decide_eq_true c10
    clear c10
    by_cases c11 : a0 = 0
    rotate_left
    ·rw [if_neg c11] at H
     have c11b0 : (a0 == 0) = false := beq_eq_false_iff_ne.mpr c11
     have c11b1 : (a0 != 0) = true := bne_iff_ne.mpr c11
     by_cases c12 : x5_1.length < 17592186044416
     rotate_left
     ·rw [if_neg c12] at H
      exact absurd H (by simp)
     rw [if_pos c12] at H
     have LMc12 := zA c12
     clear c12
     obtain ⟨y209, hy209⟩ : ∃ y_ : List Int, y_ = (x5_1 ++ [Int.tmod (wrap64 ((rd l1 (ji7)) + (rd l1 x6_1))) a0]) := ⟨_, rfl⟩
     replace H : (spec_l02Pascal.l0 k1 a0 l1 y209 (wrap64 (x6_1 + 1))) = some r := by first | (rw [hy209]; exact H) | exact H
     have Ny209 := zA hy209
     clear hy209
     have H' := zA H
     clear H
     try go_wp2
     replace HO_5 := zA (Kd.R_drew HO_5.out)
     replace HB := zA (below_drew1 HB.out)
     have p207 : 0 ≤ ((ji7) : Int) := of_decide_eq_true (by first | (with_reducible assumption) | assumption)
     have q207 : (ji7) < (l1.length : Int) := of_decide_eq_true (by first | (with_reducible assumption) | assumption)
     obtain ⟨ad207, e207, hx207_0⟩ := Kd.at_int HR1.out (ji7) p207 q207
     have hw207_0 := hx207_0
     cases e207
     replace hx207_0 := hc HB hx207_0
     replace p207 := eq_true p207
     replace q207 := eq_true q207
     have p208 : 0 ≤ (x6_1 : Int) := of_decide_eq_true (by first | (with_reducible assumption) | assumption)
     have q208 : x6_1 < (l1.length : Int) := of_decide_eq_true (by first | (with_reducible assumption) | assumption)
     obtain ⟨ad208, e208, hx208_0⟩ := Kd.at_int HR1.out x6_1 p208 q208
     have hw208_0 := hx208_0
     obtain rfl : ad207 = ad208 := (by injection e208)
     replace hx208_0 := hc HB hx208_0
     replace p208 := eq_true p208
     replace q208 := eq_true q208
     refine start_ (n := 16) (S := fun w' => w'.cell? (ad207.add ((ji7)).toNat) = some (.int .i64 (rd l1 (ji7))) ∧ w'.cell? (ad207.add (x6_1).toNat) = some (.int .i64 (rd l1 x6_1))) (ds := []) #[false, false, false, false, false, false, false, false, false, false, false, false, false, false, false, false] (by kernel_rfl) rfl rfl ⟨(hcu HB hw207_0), (hcu HB hw208_0)⟩ (fun hHeld => ?_); refine with_tabW spec_l02Pascal.tab5 spec_l02Pascal.bits5 (fun HT_ HW_ => ?_)
     generalize wr.drew = w13 at HO_5 HB hx207_0 hx208_0 hHeld ⊢
     refine pu_ 0 16 (bl 16 1) HT_ ?_
     refine pu_ 1 17 (bl 16 3) HT_ ?_
     refine pu_ 2 18 (bl 16 7) HT_ ?_
     refine pu_ 3 19 (bl 16 15) HT_ ?_
     refine pu_ 4 20 (bl 16 31) HT_ ?_
     refine pu_ 6 22 (bl 16 95) HT_ ?_
     refine pu_ 7 23 (bl 16 223) HT_ ?_
     refine pu_ 8 24 (bl 16 479) HT_ ?_
     refine pu_ 11 27 (bl 16 2527) HT_ ?_
     refine ta_ 5 21 (bl 16 2559) HT_ HW_ hHeld ?_
     refine ta_ 9 25 (bl 16 3071) HT_ HW_ hHeld ?_
     refine pu_ 10 26 (bl 16 4095) HT_ ?_
     refine pu_ 12 28 (bl 16 8191) HT_ ?_
     refine on_ 13 (some 29) (bl 16 16383) HT_ (fun K hK => ?_)
     refine value_ (w1 := ?_) (v := ?_) (by rfl) rfl ?_ ?_
     rotate_left 2
     ·go_simp
      constructor
      ·rfl
      ·rfl
     refine hK.out _ _ ⟨(World.cell?_alloc_lt _ _ _ (World.block_lt_of_cell? _ _ ((hcu HB hw207_0)))).trans ((hcu HB hw207_0)), (World.cell?_alloc_lt _ _ _ (World.block_lt_of_cell? _ _ ((hcu HB hw208_0)))).trans ((hcu HB hw208_0))⟩ (fun hHeld => ?_)
     clear hK K
     refine no_ 29 ?_
     refine on_ 14 (some 30) (bl 16 32767) HT_ (fun K hK => ?_)
     refine Kd.R_append_step (Kd.int .i64) (w0 := w) w.heap.size (by rfl) (.tmp 16) (.tmp 29) 24 2 (.int .i64 0) 8 rfl Try.underlying24 info2 rfl (by decide) (by omega) u5 x5_1 (Int.tmod (wrap64 ((rd l1 (ji7)) + (rd l1 x6_1))) a0) [.int .i64 (Int.tmod (wrap64 ((rd l1 (ji7)) + (rd l1 x6_1))) a0)] (fun _ => True) (fun _ => False) rfl rfl ?aP (fun _ hk => hk.elim) ?aF ?aO ?aB ?aS ?aL ?_
     (case aP => exact rfl)
     (case aB => exact (uH HB.out))
     (case aF => exact (fun _ _ => trivial))
     (case aO => exact (uR HO_5.out))
     (case aS => exact (below_size (uH HB.out)))
     (case aL => have := LMc12.out; omega)
     intro v210 w14 ho hb hg hat
     rw [← Ny209.out] at ho
     replace HB := zA (hb)
     have HO211 := zA (ho)
     clear HO_5
     clear ho hb hg hat
     refine hK.out _ _ ⟨(hcu HB hw207_0), (hcu HB hw208_0)⟩ (fun hHeld => ?_)
     clear hK K
     refine no_ 30 ?_
     refine pu_ 15 5 (bl 16 65535) HT_ ?_
     refine done_ (done_of HT_.out (by kernel_rfl)) ?_
     try go_wp2
     go_roundg k1
     case measure => have := HK1.out; omega
     case rel => exact ⟨(y209), (wrap64 (x6_1 + 1)), (by first | rfl | (simp; done) | (simp [*]; done)), H', ⟨by have := HK1.out; omega⟩, ⟨uR HO211.out⟩, ⟨uH HB.out⟩⟩
    rw [if_pos c11] at H
    exact absurd H (by simp)
 rw [if_pos c3] at H
 exact absurd H (by simp)
/-! ### spec_l02Product: function 45 -/
def spec_l02Product.l0 : Nat → List Int → Int → Int → List Int → Int → List Int → Option (Int × List Int)
 | 0, _, _, _, _, _, _ => none
 | k + 1, x1, x6, x518000, x518001, x523000, x523001 => if (wrap64 (x6 + (mx (x1.length : Int) 1))) ≤ (x518001.length : Int) then ((spec_l02Apply.f k x518000 x518001 x1 x6).bind fun t523 => (if x523001.length < 17592186044416 then (spec_l02Product.l0 k x1 (wrap64 (x6 + 1)) x518000 x518001 x523000 (x523001 ++ [t523])) else (none))) else (some (x523000, x523001))
def spec_l02Product.f (k : Nat) (a0_0 : Int) (l0_1 : List Int) (l1 : List Int) : Option (Int × List Int) := spec_l02Product.l0 k l1 0 a0_0 l0_1 a0_0 (([] : List Int))
def spec_l02Product.T5 : Bool × List (List Nat × List Nat) := (true, [([], []), ([0], [0]), ([], []), ([], []), ([], []), ([2, 3, 4], [2, 3, 4]), ([5], [5]), ([1, 6, 5], [1, 6]), ([0, 1, 2, 3, 4, 5, 6, 7], []), ([8, 7, 7, 0, 1, 2, 3, 4, 5, 6, 7], [7, 8])])
def spec_l02Product.B5 : List Nat := [0, 1, 0, 0, 0, 28, 60, 127, 255, 511]
theorem spec_l02Product.tab5 : rtab .any (opsOf Try.f45 5) = spec_l02Product.T5 := by kernel_rfl
theorem spec_l02Product.bits5 : waitsOk spec_l02Product.T5.2 spec_l02Product.B5 = true := by kernel_rfl
set_option maxHeartbeats 8000000 in
set_option maxRecDepth 100000 in
theorem spec_l02Product.calls (k : Nat) (a0_0 : Int) (A0_1 : Option Addr) (c0_1 : Nat) (l0_1 : List Int) (A1 : Option Addr) (c1 : Nat) (l1 : List Int) (r1 : Int) (r2 : List Int) (w : World) (hr0_1 : Kd.C (Kd.int .i64) w A0_1 l0_1.length l0_1) (hc0_1 : l0_1.length ≤ c0_1) (hr1 : Kd.C (Kd.int .i64) w A1 l1.length l1) (hc1 : l1.length ≤ c1) (h : spec_l02Product.f k a0_0 l0_1 l1 = some (r1, r2)) :
  Calls Try.prog 45 #[.agg #[.int .i64 a0_0, .slice A0_1 l0_1.length c0_1], .slice A1 l1.length c1] w fun e w' => ∃ v1_ : Value, e = .returned (.agg #[.int .i64 r1, v1_]) ∧ Kd.R (Kd.int .i64) 2 w' w.heap.size (fun _ => True) v1_ r2 ∧ Below w.heap.size w w' := by
 have hu26 := Try.underlying26
 have HR0_1 := zA hr0_1
 have HC0_1 := zA hc0_1
 clear hr0_1 hc0_1
 have HR1 := zA hr1
 have HC1 := zA hc1
 clear hr1 hc1
 have HB := zA (Below.refl w.heap.size w)
 have H : (spec_l02Product.l0 k l1 0 a0_0 l0_1 a0_0 (([] : List Int))) = some (r1, r2) := h
 clear h
 obtain ⟨y519, hy519⟩ : ∃ y_ : List Int, y_ = (([] : List Int)) := ⟨_, rfl⟩
 replace H : (spec_l02Product.l0 k l1 0 a0_0 l0_1 a0_0 y519) = some (r1, r2) := by first | (rw [hy519]; exact H) | exact H
 have Ny519 := zA hy519
 clear hy519
 have H' := zA H
 clear H
 go_enter Try.func45, Try.ntmps45
 go_wp2_with (first | ((with_reducible refine gate_dst (N := 2) rfl ?_); refine bx 2 #[.int .i64 a0_0, .slice A0_1 l0_1.length c0_1] 26 ?_; intro gb517 hg w3 hbox hb; have BK517 := zA (hbox); have GW517 := gq HB hg; have GE517 := gq HB hg; replace HB := xH HB hb; have := geI GE517; clear hb hbox hg) | ((with_reducible refine gate_dst (N := 4) rfl ?_); refine bx 4 #[.int .i64 0, .slice none 0 0] 26 ?_; intro gb518 hg w4 hbox hb; have BK518 := zA (hbox); have GW518 := gq HB hg; have GE518 := gq HB hg; replace HB := xH HB hb; have NB517_518 := zA ((by rw [hg]; exact neL BK517 : gb517 ≠ gb518)); have NB518_517 := zA ((by rw [hg]; exact neG BK517 : gb518 ≠ gb517)); replace BK517 := xB BK517 hb; have := geI GE518; clear hb hbox hg; have hnb5 := NB517_518.out; have hnc5 := NB518_517.out; have hcz6_0 := bc BK517 0; have hcz6_1 := bc BK517 1; have hfz6_0 := bf BK517 0; have hfz6_1 := bf BK517 1) | ((with_reducible refine gate_dst (N := 9) rfl ?_); refine Kd.R_lit (Kd.int .i64) _ 2 ?hg (N := 9) ?hd (xs := ([] : List Int)) (inner := []) (ok := fun _ => True) (okp := fun _ => True) ?hr ?hp (fun _ hk => hk) trivial (Below.refl _ _) (Nat.le_refl _) (by simp) ?_; (case hd => rfl); (case hg => rfl); (case hr => first | (go_simp; done) | (go_simp; rfl)); (case hp => exact (Reps.none _ _)); intro v520 w7 ho8 hb hg_ hnew_; clear hg_ hnew_; (first | rw [← Ny519.out] at ho8 | (simp only [Int.reduceToNat] at ho8; rw [← Ny519.out] at ho8)); have HO521 := zA (Kd.R_lower ho8 (below_size (uH HB.out))); replace BK517 := xB BK517 hb; replace BK518 := xB BK518 hb; replace HB := xH HB hb; clear hb ho8; obtain ⟨Ao9, co9, eo9⟩ := Kd.R_slice HO521.out; subst eo9) | ((with_reducible refine gate_dst (N := 5) rfl ?_); refine bx 5 #[.int .i64 0, .slice none 0 0] 26 ?_; intro gb522 hg w10 hbox hb; replace HO521 := xR HO521 hb; have BK522 := zA (hbox); have GW522 := gq HB hg; have GE522 := gq HB hg; replace HB := xH HB hb; have NB517_522 := zA ((by rw [hg]; exact neL BK517 : gb517 ≠ gb522)); have NB522_517 := zA ((by rw [hg]; exact neG BK517 : gb522 ≠ gb517)); replace BK517 := xB BK517 hb; have NB518_522 := zA ((by rw [hg]; exact neL BK518 : gb518 ≠ gb522)); have NB522_518 := zA ((by rw [hg]; exact neG BK518 : gb522 ≠ gb518)); replace BK518 := xB BK518 hb; have := geI GE522; clear hb hbox hg; have hnb11 := NB522_517.out; have hnc11 := NB517_522.out; have hnb12 := NB522_518.out; have hnc12 := NB518_522.out; have hcz13_0 := bc BK522 0; have hcz13_1 := bc BK522 1; have hfz13_0 := bf BK522 0; have hfz13_1 := bf BK522 1))
 go_loopg [6] k (fun kq v6 w' => ∃ (x6_1 : Int) (x523001_1 : List Int) (u523001 : Value), v6 = .int .i64 x6_1 ∧ Aside0 (spec_l02Product.l0 kq l1 x6_1 a0_0 l0_1 a0_0 x523001_1 = some (r1, r2)) ∧ Aside0 (kq ≤ k) ∧ Aside0 (Kd.R (Kd.int .i64) 2 w' w.heap.size (fun _ => True) u523001 x523001_1) ∧ Aside0 (w'.heap[gb517]? = some (.cells #[.int .i64 a0_0, (.slice A0_1 l0_1.length c0_1)] 26 (0, 0))) ∧ Aside0 (w'.heap[gb518]? = some (.cells #[.int .i64 0, (.slice none 0 0)] 26 (0, 0))) ∧ Aside0 (w'.heap[gb522]? = some (.cells #[.int .i64 a0_0, u523001] 26 (0, 0))) ∧ Aside0 (Below w.heap.size w w'))
 case atStart => exact ⟨(0), (y519), (.slice Ao9 y519.length co9), (by first | rfl | (simp; done) | (simp [*]; done)), H', ⟨Nat.le_refl _⟩, ⟨uR (Kd.R_mono (Kd.R_far (p := ⟨gb522, 1, none⟩) (Kd.R_far (p := ⟨gb522, 0, none⟩) (Kd.R_types HO521.out BK522.out (by decide)) (fun _ hk => hk.2) (.int .i64 a0_0)) (fun _ hk => hk.2) (.slice Ao9 y519.length co9)) (fun _ hk => trivial))⟩, ⟨by (repeat refine up1 ?_); refine blk_far ?_ NB517_522.out _; (repeat refine up1 ?_); refine blk_far ?_ NB517_522.out _; (repeat refine up1 ?_); exact BK517.out⟩, ⟨by (repeat refine up1 ?_); refine blk_far ?_ NB518_522.out _; (repeat refine up1 ?_); refine blk_far ?_ NB518_522.out _; (repeat refine up1 ?_); exact BK518.out⟩, ⟨by (repeat refine up1 ?_); refine blk_put (cs := #[.int .i64 a0_0, .slice none 0 0]) ?_ 1 _ rfl; (repeat refine up1 ?_); refine blk_put (cs := #[.int .i64 0, .slice none 0 0]) ?_ 0 _ rfl; (repeat refine up1 ?_); exact BK522.out⟩, ⟨uH HB.out⟩⟩
 case round =>
  clear H'
  (try clear c1);(try clear p2);(try clear c4);(try clear c5);(try clear c11);(try clear c12);(try clear hcz13_0);(try clear hcz13_1);(try clear hcz6_0);(try clear hcz6_1);(try clear hfz13_0);(try clear hfz13_1);(try clear hfz6_0);(try clear hfz6_1)
  obtain ⟨x6_1, x523001_1, u523001, rfl, HA, HK1, HO_523001, BK517, BK518, BK522, HB⟩ := hrel
  cases gk with
  | zero => exact absurd HA.out (by simp [spec_l02Product.l0])
  | succ k1 =>
   have H := HA.out
   clear HA
   simp only [spec_l02Product.l0] at H
   obtain ⟨ji14, hji14⟩ : ∃ j_ : Int, (mx (l1.length : Int) 1) = j_ := ⟨_, rfl⟩
   replace H : (if (wrap64 (x6_1 + (ji14))) ≤ (l0_1.length : Int) then ((spec_l02Apply.f k1 a0_0 l0_1 l1 x6_1).bind fun t523 => (if x523001_1.length < 17592186044416 then (spec_l02Product.l0 k1 l1 (wrap64 (x6_1 + 1)) a0_0 l0_1 a0_0 (x523001_1 ++ [t523])) else (none))) else (some (a0_0, x523001_1))) = some (r1, r2) := by first | (rw [hji14] at H; exact H) | (simp only [hji14] at H ⊢; exact H)
   have hji14_ : (if (l1.length : Int) < 1 then 1 else (l1.length : Int)) = ji14 := hji14
   by_cases c15 : (wrap64 (x6_1 + (ji14))) ≤ (l0_1.length : Int)
   rotate_left
   ·rw [if_neg c15] at H
    have c15b0 : decide ((wrap64 (x6_1 + (ji14))) ≤ (l0_1.length : Int)) = false := decide_eq_false c15
    clear c15
    simp only [Option.some.injEq, Prod.mk.injEq] at H
    obtain ⟨rfl, rfl⟩ := H
    have hnb26 := NB517_518.out; have hnc26 := NB518_517.out; have hnb27 := NB517_522.out; have hnc27 := NB522_517.out
    have hcz28_0 := bc BK517 0
    have hcz28_1 := bc BK517 1
    have hfz28_0 := bf BK517 0
    have hfz28_1 := bf BK517 1
    have hnb29 := NB522_518.out; have hnc29 := NB518_522.out
    have hcz30_0 := bc BK522 0
    have hcz30_1 := bc BK522 1
    have hfz30_0 := bf BK522 0
    have hfz30_1 := bf BK522 1
    have hcz31_0 := bc BK518 0
    have hcz31_1 := bc BK518 1
    have hfz31_0 := bf BK518 0
    have hfz31_1 := bf BK518 1
    obtain ⟨Ao32, co32, eo32⟩ := Kd.R_slice HO_523001.out
    subst eo32
    go_wp2
    refine bodyPost_ret (results_cell_row rfl _ _ gb518 26 #[.int .i64 a0_0, .slice Ao32 x523001_1.length co32] (0, 0) _ rfl (by (repeat refine up1 ?_); refine blk_put (cs := #[.int .i64 a0_0, .slice none 0 0]) ?_ 1 _ rfl; (repeat refine up1 ?_); refine blk_put (cs := #[.int .i64 0, .slice none 0 0]) ?_ 0 _ rfl; (repeat refine up1 ?_); exact BK518.out) Try.underlying26 rfl (by kernel_rfl)) rfl ?_
    exact ⟨_, by first | rfl | (simp [errW_none, errW_some] <;> rfl) | (simp only [← hji14]; first | rfl | (simp [errW_none, errW_some] <;> rfl)) | (simp [*, errW_none, errW_some] <;> rfl), uR (Kd.R_mono (Kd.R_far (p := ⟨gb518, 1, none⟩) (Kd.R_far (p := ⟨gb518, 0, none⟩) (Kd.R_types HO_523001.out BK518.out (by decide)) (fun _ hk => hk.2) (.int .i64 a0_0)) (fun _ hk => hk.2) (.slice Ao32 x523001_1.length co32)) (fun _ hk => trivial)), uH HB.out⟩

   rw [if_pos c15] at H
   have c15b0 : decide ((wrap64 (x6_1 + (ji14))) ≤ (l0_1.length : Int)) = true := decide_eq_true c15
   clear c15
   replace H := Option.bind_eq_some_iff.mp H
   obtain ⟨t523, A160, H⟩ := H
   replace H : (if x523001_1.length < 17592186044416 then (spec_l02Product.l0 k1 l1 (wrap64 (x6_1 + 1)) a0_0 l0_1 a0_0 (x523001_1 ++ [t523])) else (none)) = some (r1, r2) := H
   have A16 := zA A160
   clear A160
   by_cases c17 : x523001_1.length < 17592186044416
   rotate_left
   ·rw [if_neg c17] at H
    exact absurd H (by simp)
   rw [if_pos c17] at H
   have LMc17 := zA c17
   clear c17
   obtain ⟨y524, hy524⟩ : ∃ y_ : List Int, y_ = (x523001_1 ++ [t523]) := ⟨_, rfl⟩
   replace H : (spec_l02Product.l0 k1 l1 (wrap64 (x6_1 + 1)) a0_0 l0_1 a0_0 y524) = some (r1, r2) := by first | (rw [hy524]; exact H) | exact H
   have Ny524 := zA hy524
   clear hy524
   have H' := zA H
   clear H
   have hnb18 := NB517_518.out; have hnc18 := NB518_517.out; have hnb19 := NB517_522.out; have hnc19 := NB522_517.out
   have hcz20_0 := bc BK517 0
   have hcz20_1 := bc BK517 1
   have hfz20_0 := bf BK517 0
   have hfz20_1 := bf BK517 1
   try go_wp2
   replace HO_523001 := zA (Kd.R_drew HO_523001.out)
   replace BK517 := zA (blk_drew BK517.out)
   replace BK518 := zA (blk_drew BK518.out)
   replace BK522 := zA (blk_drew BK522.out)
   replace HB := zA (below_drew1 HB.out)
   refine start_ (n := 10) (S := fun w' => w'.cell? ⟨gb522, 0, none⟩ = some (.int .i64 a0_0) ∧ w'.cell? ⟨gb522, 1, none⟩ = some (u523001) ∧ w'.cell? ⟨gb517, 0, none⟩ = some (.int .i64 a0_0) ∧ w'.cell? ⟨gb517, 1, none⟩ = some (.slice A0_1 l0_1.length c0_1)) (ds := [9]) #[false, false, false, false, false, false, false, false, false, false] (by kernel_rfl) rfl rfl ⟨bcu BK522 0, bcu BK522 1, bcu BK517 0, bcu BK517 1⟩ (fun hHeld => ?_); refine with_tabW spec_l02Product.tab5 spec_l02Product.bits5 (fun HT_ HW_ => ?_)
   generalize wr.drew = w21 at HO_523001 BK517 BK518 BK522 HB hHeld ⊢
   refine pu_ 0 22 (bl 10 1) HT_ ?_
   refine pu_ 3 25 (bl 10 9) HT_ ?_
   refine pu_ 4 26 (bl 10 25) HT_ ?_
   refine ta_ 1 23 (bl 10 27) HT_ HW_ hHeld ?_
   refine ta_ 2 24 (bl 10 31) HT_ HW_ hHeld ?_
   refine on_ 5 (some 27) (bl 10 63) HT_ (fun K hK => ?_)
   refine gS Try.func35 #[.agg #[.int .i64 a0_0, .slice A0_1 l0_1.length c0_1], .slice A1 l1.length c1, .int .i64 x6_1] ?_
   with_reducible refine (spec_l02Apply.calls k1 a0_0 _ _ l0_1 _ _ l1 x6_1 t523 _ ?side1 ?side2 ?side3 ?side4 A16.out).mono ?_
   (case side1 => exact uC ((Kd.C_below HR0_1.out HB.out)))
   (case side2 => exact HC0_1.out)
   (case side3 => exact uC ((Kd.C_below HR1.out HB.out)))
   (case side4 => exact HC1.out)
   rintro e w22 ⟨rfl, hb⟩
   refine ⟨_, rfl, ?_⟩
   replace HO_523001 := xR HO_523001 hb
   replace BK517 := xB BK517 hb
   replace BK518 := xB BK518 hb
   replace BK522 := xB BK522 hb
   replace HB := xH HB hb
   (try clear hb); (try clear hb2); (try clear hk); (try clear hi)
   refine hK.out _ _ ⟨bcu BK522 0, bcu BK522 1, bcu BK517 0, bcu BK517 1⟩ (fun hHeld => ?_)
   clear hK K
   refine no_ 27 ?_
   refine on_ 6 (some 28) (bl 10 127) HT_ (fun K hK => ?_)
   refine value_ (w1 := ?_) (v := ?_) (by rfl) rfl ?_ ?_
   rotate_left 2
   ·go_simp
    constructor
    ·rfl
    ·rfl
   refine hK.out _ _ ⟨(blk_cell (blk_alloc BK522.out _) 0).trans rfl, (blk_cell (blk_alloc BK522.out _) 1).trans rfl, (blk_cell (blk_alloc BK517.out _) 0).trans rfl, (blk_cell (blk_alloc BK517.out _) 1).trans rfl⟩ (fun hHeld => ?_)
   clear hK K
   refine no_ 28 ?_
   refine on_ 7 (some 29) (bl 10 255) HT_ (fun K hK => ?_)
   refine Kd.R_append_step (Kd.int .i64) (w0 := w) w.heap.size (by rfl) (.tmp 23) (.tmp 28) 24 2 (.int .i64 0) 8 rfl Try.underlying24 info2 rfl (by decide) (by omega) u523001 x523001_1 t523 [.int .i64 t523] (fun _ => True) (fun _ => False) rfl rfl ?aP (fun _ hk => hk.elim) ?aF ?aO ?aB ?aS ?aL ?_
   (case aP => exact rfl)
   (case aB => exact (uH HB.out))
   (case aF => exact (fun _ _ => trivial))
   (case aO => exact (uR HO_523001.out))
   (case aS => exact (below_size (uH HB.out)))
   (case aL => have := LMc17.out; omega)
   intro v525 w23 ho hb hg hat
   rw [← Ny524.out] at ho
   replace BK517 := zA (blk_grown (g := gb517) (o := .cells #[.int .i64 a0_0, .slice A0_1 l0_1.length c0_1] 26 (0, 0)) (uB BK517.out) hg (Kd.R_ne HO_523001.out BK517.out (by decide)))
   replace BK518 := zA (blk_grown (g := gb518) (o := .cells #[.int .i64 0, .slice none 0 0] 26 (0, 0)) (uB BK518.out) hg (Kd.R_ne HO_523001.out BK518.out (by decide)))
   replace BK522 := zA (blk_grown (g := gb522) (o := .cells #[.int .i64 a0_0, u523001] 26 (0, 0)) (uB BK522.out) hg (Kd.R_ne HO_523001.out BK522.out (by decide)))
   replace HB := zA (hb)
   have HO526 := zA (ho)
   clear HO_523001
   clear ho hb hg hat
   obtain ⟨Ao24, co24, eo24⟩ := Kd.R_slice HO526.out
   (first | subst eo24 | (injection eo24 with f1_ f2_ f3_; have f4_ := f1_.symm; have f5_ := f3_.symm; clear f1_ f2_ f3_; subst f4_; subst f5_))
   refine hK.out _ _ ⟨bcu BK522 0, bcu BK522 1, bcu BK517 0, bcu BK517 1⟩ (fun hHeld => ?_)
   clear hK K
   refine no_ 29 ?_
   refine pu_ 8 30 (bl 10 511) HT_ ?_
   refine last_ (i := 9) (N := none) (bl 10 1023) rfl rfl (one_of HT_.out (by kernel_rfl)) (by decide) (fun K hK => ?_)
   have hs25 : w23.cell? ⟨gb522, 1, none⟩ = some (u523001) := (blk_cell BK522.out 1).trans rfl
   have hfs25 := bf BK522 1
   have hns25_0 := NB517_522.out; have hns25_1 := NB518_522.out; have hms25_0 := NB522_517.out; have hms25_1 := NB522_518.out
   refine skip_ (w1 := ?_) (by rfl) rfl ?_ ?_
   rotate_left
   ·go_simp
    rfl
   refine hK.out _ _ ?_
   clear hK K
   refine done_ (done_of HT_.out (by kernel_rfl)) ?_
   try go_wp2
   go_roundg k1
   case measure => have := HK1.out; omega
   case rel => exact ⟨(wrap64 (x6_1 + 1)), (y524), (.slice Ao24 y524.length co24), (by first | rfl | (simp; done) | (simp [*]; done)), H', ⟨by have := HK1.out; omega⟩, ⟨uR (Kd.R_mono (Kd.R_far (p := ⟨gb522, 1, none⟩) (Kd.R_types HO526.out BK522.out (by decide)) (fun _ hk => hk.2) (.slice Ao24 y524.length co24)) (fun _ hk => trivial))⟩, ⟨by (repeat refine up1 ?_); refine blk_far ?_ NB517_522.out _; (repeat refine up1 ?_); exact BK517.out⟩, ⟨by (repeat refine up1 ?_); refine blk_far ?_ NB518_522.out _; (repeat refine up1 ?_); exact BK518.out⟩, ⟨by (repeat refine up1 ?_); refine blk_put (cs := #[.int .i64 a0_0, u523001]) ?_ 1 _ rfl; (repeat refine up1 ?_); exact BK522.out⟩, ⟨uH HB.out⟩⟩
/-! ### spec_ProductMoments: function 13 -/
def spec_ProductMoments.f (k : Nat) (a0_0 : Int) (l0_1 : List Int) (l1 : List Int) : Option (Int × List Int × Int) := (spec_l02Code.f k a0_0 l0_1 l1).bind fun t529 => (if t529 = 0 then ((spec_l02Product.f k a0_0 l0_1 l1).bind fun bt530 => (some (bt530.1, bt530.2, 0))) else (some (0, ([] : List Int), t529)))
set_option maxHeartbeats 8000000 in
set_option maxRecDepth 100000 in
theorem spec_ProductMoments.calls (k : Nat) (a0_0 : Int) (A0_1 : Option Addr) (c0_1 : Nat) (l0_1 : List Int) (A1 : Option Addr) (c1 : Nat) (l1 : List Int) (r1 : Int) (r2 : List Int) (r3 : Int) (w : World) (hr0_1 : Kd.C (Kd.int .i64) w A0_1 l0_1.length l0_1) (hc0_1 : l0_1.length ≤ c0_1) (hr1 : Kd.C (Kd.int .i64) w A1 l1.length l1) (hc1 : l1.length ≤ c1) (h : spec_ProductMoments.f k a0_0 l0_1 l1 = some (r1, r2, r3)) :
  Calls Try.prog 13 #[.agg #[.int .i64 a0_0, .slice A0_1 l0_1.length c0_1], .slice A1 l1.length c1] w fun e w' => ∃ v1_ : Value, e = .returned (.tuple #[.agg #[.int .i64 r1, v1_], .int .i64 r3]) ∧ Kd.R (Kd.int .i64) 2 w' w.heap.size (fun _ => True) v1_ r2 ∧ Below w.heap.size w w' := by
 have hu26 := Try.underlying26
 have HR0_1 := zA hr0_1
 have HC0_1 := zA hc0_1
 clear hr0_1 hc0_1
 have HR1 := zA hr1
 have HC1 := zA hc1
 clear hr1 hc1
 have HB := zA (Below.refl w.heap.size w)
 have H : ((spec_l02Code.f k a0_0 l0_1 l1).bind fun t529 => (if t529 = 0 then ((spec_l02Product.f k a0_0 l0_1 l1).bind fun bt530 => (some (bt530.1, bt530.2, 0))) else (some (0, ([] : List Int), t529)))) = some (r1, r2, r3) := h
 clear h
 replace H := Option.bind_eq_some_iff.mp H
 obtain ⟨t529, A30, H⟩ := H
 replace H : (if t529 = 0 then ((spec_l02Product.f k a0_0 l0_1 l1).bind fun bt530 => (some (bt530.1, bt530.2, 0))) else (some (0, ([] : List Int), t529))) = some (r1, r2, r3) := H
 have A3 := zA A30
 clear A30
 by_cases c4 : t529 = 0
 rotate_left
 ·rw [if_neg c4] at H
  have c4b0 : (t529 == 0) = false := beq_eq_false_iff_ne.mpr c4
  have c4b1 : (t529 != 0) = true := bne_iff_ne.mpr c4
  simp only [Option.some.injEq, Prod.mk.injEq] at H
  obtain ⟨rfl, rfl, rfl⟩ := H
  go_enter Try.func13, Try.ntmps13
  go_wp2_with (first | ((with_reducible refine gate_dst (N := 2) rfl ?_); refine bx 2 #[.int .i64 a0_0, .slice A0_1 l0_1.length c0_1] 26 ?_; intro gb527 hg w15 hbox hb; have BK527 := zA (hbox); have GW527 := gq HB hg; have GE527 := gq HB hg; replace HB := xH HB hb; have := geI GE527; clear hb hbox hg) | ((with_reducible refine gate_dst (N := 4) rfl ?_); refine bx 4 #[.int .i64 0, .slice none 0 0] 26 ?_; intro gb528 hg w16 hbox hb; have BK528 := zA (hbox); have GW528 := gq HB hg; have GE528 := gq HB hg; replace HB := xH HB hb; have NB527_528 := zA ((by rw [hg]; exact neL BK527 : gb527 ≠ gb528)); have NB528_527 := zA ((by rw [hg]; exact neG BK527 : gb528 ≠ gb527)); replace BK527 := xB BK527 hb; have := geI GE528; clear hb hbox hg; have hnb17 := NB527_528.out; have hnc17 := NB528_527.out; have hcz18_0 := bc BK527 0; have hcz18_1 := bc BK527 1; have hfz18_0 := bf BK527 0; have hfz18_1 := bf BK527 1) | ((with_reducible refine gate_callee (f := 34) rfl ?_); refine gL (some 9) Try.func34 #[.agg #[.int .i64 a0_0, .slice A0_1 l0_1.length c0_1], .slice A1 l1.length c1] ?_; (with_reducible refine (spec_l02Code.calls k a0_0 _ _ l0_1 _ _ l1 t529 _ ?side1 ?side2 ?side3 ?side4 A3.out).mono ?_); (case side1 => exact uC ((Kd.C_below HR0_1.out HB.out))); (case side2 => exact HC0_1.out); (case side3 => exact uC ((Kd.C_below HR1.out HB.out))); (case side4 => exact HC1.out); rintro e w19 ⟨rfl, hb⟩; refine ⟨_, rfl, ?_⟩; replace BK527 := xB BK527 hb; replace BK528 := xB BK528 hb; replace HB := xH HB hb; (try clear hb); (try clear hb2); (try clear hk); (try clear hi); have hcz20_0 := bc BK528 0; have hcz20_1 := bc BK528 1; have hfz20_0 := bf BK528 0; have hfz20_1 := bf BK528 1))
  refine bodyPost_ret (results_ct rfl _ _ gb528 26 #[.int .i64 0, .slice none 0 0] (0, 0) _ rfl (by (repeat refine up1 ?_); refine blk_put (cs := #[.int .i64 0, .slice none 0 0]) ?_ 1 _ rfl; (repeat refine up1 ?_); refine blk_put (cs := #[.int .i64 0, .slice none 0 0]) ?_ 0 _ rfl; (repeat refine up1 ?_); exact BK528.out) Try.underlying26 rfl (by kernel_rfl)) rfl ?_
  exact ⟨_, by first | rfl | (simp [errW_none, errW_some] <;> rfl) | (simp [*, errW_none, errW_some] <;> rfl), by first | exact Kd.R_nil _ _ _ _ _ | exact Kd.N_nil _ _ _ _ _ | exact Kd.V_nil _ _ _ _ _ | exact Kd.Q_nil _ _ _ _ _ | exact Kd.S_nil _ _ _ _ _, uH HB.out⟩

 rw [if_pos c4] at H
 have c4b0 : (t529 == 0) = true := beq_iff_eq.mpr c4
 have c4b1 : (t529 != 0) = false := bne_eq_false_iff_eq.mpr c4
 clear c4
 replace H := Option.bind_eq_some_iff.mp H
 obtain ⟨⟨t530, t531⟩, A50, H⟩ := H
 replace H : (some (t530, t531, 0)) = some (r1, r2, r3) := H
 have A5 := zA A50
 clear A50
 simp only [Option.some.injEq, Prod.mk.injEq] at H
 obtain ⟨rfl, rfl, rfl⟩ := H
 go_enter Try.func13, Try.ntmps13
 go_wp2_with (first | ((with_reducible refine gate_dst (N := 2) rfl ?_); refine bx 2 #[.int .i64 a0_0, .slice A0_1 l0_1.length c0_1] 26 ?_; intro gb527 hg w6 hbox hb; have BK527 := zA (hbox); have GW527 := gq HB hg; have GE527 := gq HB hg; replace HB := xH HB hb; have := geI GE527; clear hb hbox hg) | ((with_reducible refine gate_dst (N := 4) rfl ?_); refine bx 4 #[.int .i64 0, .slice none 0 0] 26 ?_; intro gb528 hg w7 hbox hb; have BK528 := zA (hbox); have GW528 := gq HB hg; have GE528 := gq HB hg; replace HB := xH HB hb; have NB527_528 := zA ((by rw [hg]; exact neL BK527 : gb527 ≠ gb528)); have NB528_527 := zA ((by rw [hg]; exact neG BK527 : gb528 ≠ gb527)); replace BK527 := xB BK527 hb; have := geI GE528; clear hb hbox hg; have hnb8 := NB527_528.out; have hnc8 := NB528_527.out; have hcz9_0 := bc BK527 0; have hcz9_1 := bc BK527 1; have hfz9_0 := bf BK527 0; have hfz9_1 := bf BK527 1) | ((with_reducible refine gate_callee (f := 34) rfl ?_); refine gL (some 9) Try.func34 #[.agg #[.int .i64 a0_0, .slice A0_1 l0_1.length c0_1], .slice A1 l1.length c1] ?_; (with_reducible refine (spec_l02Code.calls k a0_0 _ _ l0_1 _ _ l1 t529 _ ?side1 ?side2 ?side3 ?side4 A3.out).mono ?_); (case side1 => exact uC ((Kd.C_below HR0_1.out HB.out))); (case side2 => exact HC0_1.out); (case side3 => exact uC ((Kd.C_below HR1.out HB.out))); (case side4 => exact HC1.out); rintro e w10 ⟨rfl, hb⟩; refine ⟨_, rfl, ?_⟩; replace BK527 := xB BK527 hb; replace BK528 := xB BK528 hb; replace HB := xH HB hb; (try clear hb); (try clear hb2); (try clear hk); (try clear hi); have hcz11_0 := bc BK527 0; have hcz11_1 := bc BK527 1; have hfz11_0 := bf BK527 0; have hfz11_1 := bf BK527 1) | ((with_reducible refine gate_callee (f := 45) rfl ?_); refine gL (some 16) Try.func45 #[.agg #[.int .i64 a0_0, .slice A0_1 l0_1.length c0_1], .slice A1 l1.length c1] ?_; (with_reducible refine (spec_l02Product.calls k a0_0 _ _ l0_1 _ _ l1 t530 t531 _ ?side1 ?side2 ?side3 ?side4 A5.out).mono ?_); (case side1 => exact uC ((Kd.C_below HR0_1.out HB.out))); (case side2 => exact HC0_1.out); (case side3 => exact uC ((Kd.C_below HR1.out HB.out))); (case side4 => exact HC1.out); rintro e w12 ⟨v532, rfl, ho0, hb⟩; refine ⟨_, rfl, ?_⟩; have HO533 := zA (Kd.R_lower ho0 (below_size (uH HB.out))); replace BK527 := xB BK527 hb; replace BK528 := xB BK528 hb; replace HB := xH HB hb; (try clear hb); (try clear hb2); (try clear hk); (try clear hi); (try clear ho0); have hcz13_0 := bc BK528 0; have hcz13_1 := bc BK528 1; have hfz13_0 := bf BK528 0; have hfz13_1 := bf BK528 1; obtain ⟨Ao14, co14, eo14⟩ := Kd.R_slice HO533.out; subst eo14))
 refine bodyPost_ret (results_ct rfl _ _ gb528 26 #[.int .i64 t530, .slice Ao14 t531.length co14] (0, 0) _ rfl (by (repeat refine up1 ?_); refine blk_put (cs := #[.int .i64 t530, .slice none 0 0]) ?_ 1 _ rfl; (repeat refine up1 ?_); refine blk_put (cs := #[.int .i64 0, .slice none 0 0]) ?_ 0 _ rfl; (repeat refine up1 ?_); exact BK528.out) Try.underlying26 rfl (by kernel_rfl)) rfl ?_
 exact ⟨_, by first | rfl | (simp [errW_none, errW_some] <;> rfl) | (simp [*, errW_none, errW_some] <;> rfl), uR (Kd.R_mono (Kd.R_far (p := ⟨gb528, 1, none⟩) (Kd.R_far (p := ⟨gb528, 0, none⟩) (Kd.R_types HO533.out BK528.out (by decide)) (fun _ hk => hk.2) (.int .i64 t530)) (fun _ hk => hk.2) (.slice Ao14 t531.length co14)) (fun _ hk => trivial)), uH HB.out⟩
end Go.Proofs.Ytnpepkpogohcmaa.Pr
