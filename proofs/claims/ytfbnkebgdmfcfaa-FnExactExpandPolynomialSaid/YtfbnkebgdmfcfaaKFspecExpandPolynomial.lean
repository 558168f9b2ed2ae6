/- Printed by a program of this session out of the translation: what these functions of the program compute, under the conditions that each theorem names. -/
import Derived.Test.YtfbnkebgdmfcfaaKC01
import Derived.Test.YtfbnkebgdmfcfaaKC05
import Derived.Test.YtfbnkebgdmfcfaaKC03
import Derived.Test.YtfbnkebgdmfcfaaKC08
import Derived.Test.YtfbnkebgdmfcfaaKC04
import Derived.Test.YtfbnkebgdmfcfaaKFspecl04Polys
namespace Go.Proofs.Ytfbnkebgdmfcfaa.Pr
open Go.RowKit Go.Proofs.YtfbnkebgdmfcfaaW.PrintWords Go.Proofs.YtfbnkebgdmfcfaaW.PrintLast Go.Proofs.YtfbnkebgdmfcfaaW.PrintMore
attribute [local go_sem] max2_int min2_int max_two min_two max_three min_three max_four min_four   -- for this text's walks alone
set_option linter.unusedVariables false
set_option linter.unusedSimpArgs false

/-! ### spec_ExpandPolynomial: function 45 -/
mutual
def spec_ExpandPolynomial.j1 : Nat → List Int → Int → List Int → Option (List Int × Int)
 | 0, _, _, _ => none
 | k + 1, x1, x685000, x685001 => if 0 ≤ (x1.length : Int) then (if ((x1.length : Int) : Int).toNat ≤ 35184372088832 then ((some (List.replicate ((x1.length : Int) : Int).toNat 0 : List Int)).bind fun y688 => (if (x1.length : Int) = 0 then (some (y688, 0)) else ((spec_l04Polys.f k x685000 x685001 (wrap64 ((x1.length : Int) - 1))).bind fun t691 => (spec_ExpandPolynomial.l0 k x1 y688 t691 x685000 x685001)))) else (none)) else (none)
def spec_ExpandPolynomial.l0 : Nat → List Int → List Int → List (List Int) → Int → List Int → Option (List Int × Int)
 | 0, _, _, _, _, _ => none
 | k + 1, x1, x6, x7, x685000, x685001 => if (x1.length : Int) > 0 then (if 0 ≤ (wrap64 ((x1.length : Int) - 1)) then (if (wrap64 ((x1.length : Int) - 1)) < (x1.length : Int) then (if (wrap64 ((x1.length : Int) - 1)) < (x6.length : Int) then (if (wrap64 ((x1.length : Int) - 1)) < (x7.length : Int) then ((spec_l01Mod.f x685000 (wrap64 (-(rd x1 (wrap64 ((x1.length : Int) - 1)))))).bind fun t698 => ((spec_l01Add.f k x685000 x1 (rd_L1 x7 (wrap64 ((x1.length : Int) - 1))) t698).bind fun t699 => (spec_ExpandPolynomial.l0 k t699 (x6.set ((wrap64 ((x1.length : Int) - 1)) : Int).toNat (rd x1 (wrap64 ((x1.length : Int) - 1)))) x7 x685000 x685001))) else (none)) else (none)) else (none)) else (none)) else (some (x6, 0))
def spec_ExpandPolynomial.j0 : Nat → List Int → Bool → Int → List Int → Option (List Int × Int)
 | 0, _, _, _, _ => none
 | k + 1, x1, x9, x685000, x685001 => if x9 = true then (some (([] : List Int), 1)) else (if (x1.length : Int) > 12 then (some (([] : List Int), 2)) else (if (x1.length : Int) > 0 then ((spec_l04Regular.f k x685000 x685001 (wrap64 ((x1.length : Int) - 1))).bind fun t687 => (if t687 = true then (spec_ExpandPolynomial.j1 k x1 x685000 x685001) else (some (([] : List Int), 5)))) else (spec_ExpandPolynomial.j1 k x1 x685000 x685001)))
end
def spec_ExpandPolynomial.f (k : Nat) (a0_0 : Int) (l0_1 : List Int) (l1 : List Int) : Option (List Int × Int) := (spec_l02Are.f k a0_0 l0_1).bind fun t685 => (if t685 = true then ((spec_l01Poly.f k a0_0 l1).bind fun t686 => (spec_ExpandPolynomial.j0 k l1 (!t686) a0_0 l0_1)) else (spec_ExpandPolynomial.j0 k l1 true a0_0 l0_1))
def spec_ExpandPolynomial.T14 : Bool × List (List Nat × List Nat) := (true, [([], []), ([0], [0]), ([], []), ([], []), ([], []), ([3, 4], [3, 4]), ([5], [5]), ([], []), ([7], [7]), ([], []), ([], []), ([9, 10], [9, 10]), ([11], [11]), ([12], [12]), ([8, 13], [8, 13]), ([1, 2, 6, 14, 14], [1, 2, 6, 14]), ([15, 15, 0, 1, 2, 3, 4, 5, 6, 7, 8, 9, 10, 11, 12, 13, 14, 15], [2, 9, 15])])
def spec_ExpandPolynomial.B14 : List Nat := [0, 1, 0, 0, 0, 24, 56, 0, 128, 0, 0, 1536, 3584, 7680, 16256, 32767, 65535]
theorem spec_ExpandPolynomial.tab14 : rtab .any (opsOf Try.f45 14) = spec_ExpandPolynomial.T14 := by kernel_rfl
theorem spec_ExpandPolynomial.bits14 : waitsOk spec_ExpandPolynomial.T14.2 spec_ExpandPolynomial.B14 = true := by kernel_rfl
set_option maxHeartbeats 8000000 in
set_option maxRecDepth 100000 in
theorem spec_ExpandPolynomial.calls (k : Nat) (a0_0 : Int) (A0_1 : Option Addr) (c0_1 : Nat) (l0_1 : List Int) (P1_ : Nat → Prop) (A1 : Option Addr) (c1 : Nat) (l1 : List Int) (r1 : List Int) (r2 : Int) (w : World) (hr0_1 : Kd.C (Kd.int .i64) w A0_1 l0_1.length l0_1) (hc0_1 : l0_1.length ≤ c0_1) (hs1 : Kd.V (Kd.int .i64) 2 w w.heap.size (fun k_ => P1_ k_) (.slice A1 l1.length c1) l1) (h : spec_ExpandPolynomial.f k a0_0 l0_1 l1 = some (r1, r2)) :
  Calls Try.prog 45 #[.agg #[.int .i64 a0_0, .slice A0_1 l0_1.length c0_1], .slice A1 l1.length c1] w fun e w' => ∃ v0_ : Value, e = .returned (.tuple #[v0_, .int .i64 r2]) ∧ Kd.R (Kd.int .i64) 2 w' w.heap.size (fun k_ => (w.heap.size ≤ k_)) v0_ r1 ∧ Below w.heap.size w w' := by
 have hu40 := Try.underlying40
 have HR0_1 := zA hr0_1
 have HC0_1 := zA hc0_1
 clear hr0_1 hc0_1
 have HO1 := zA (show Kd.V (Kd.int .i64) 2 w w.heap.size (fun k_ => (P1_ k_ ∨ w.heap.size ≤ k_)) (.slice A1 l1.length c1) l1 from Kd.V_mono hs1 (fun k_ hk => .inl hk))
 have HB := zA (Below.refl w.heap.size w)
 have H : ((spec_l02Are.f k a0_0 l0_1).bind fun t685 => (if t685 = true then ((spec_l01Poly.f k a0_0 l1).bind fun t686 => (spec_ExpandPolynomial.j0 k l1 (!t686) a0_0 l0_1)) else (spec_ExpandPolynomial.j0 k l1 true a0_0 l0_1))) = some (r1, r2) := h
 clear h
 have HC3 := zA H
 clear H
 go_enter Try.func45, Try.ntmps45
 go_upto_block 0 with (first | ((with_reducible refine gate_dst (N := 2) rfl ?_); (try (refine gate_guard (by rfl) ?_; dsimp only)); refine bx 2 #[.int .i64 a0_0, .slice A0_1 l0_1.length c0_1] 40 ?_; intro gb684 hg w4 hbox hb; replace HO1 := zA (Kd.V_below (Kd.V_elderB (by (with_reducible repeat (first | apply Kd.V_alloc | apply Kd.V_drewN | apply Kd.V_drew)); exact HO1.out) gb684 (Nat.le_of_eq hg.symm)) hb); have BK684 := zA (hbox); have GW684 := gq HB hg; have GE684 := gq HB hg; replace HB := xH HB hb; have := geI GE684; clear hb hbox hg))
 (try simp only [Act.put, ls, lz, ln])
 go_cut [] (fun wc => ∃ (kq : Nat), Aside0 (spec_ExpandPolynomial.j1 kq l1 a0_0 l0_1 = some (r1, r2)) ∧ Aside0 (kq ≤ k) ∧ Aside0 (Kd.V (Kd.int .i64) 2 wc w.heap.size (fun k_ => (P1_ k_ ∨ w.heap.size ≤ k_) ∧ k_ ≠ gb684) (.slice A1 l1.length c1) l1) ∧ Aside0 (wc.heap[gb684]? = some (.cells #[.int .i64 a0_0, (.slice A0_1 l0_1.length c0_1)] 40 (0, 0))) ∧ Aside0 (Below w.heap.size w wc))
 case first =>
  have H := HC3.out
  clear HC3
  have HC5 := zA H
  clear H
  go_upto_region 1 with (fail)
  go_cut [9] (fun v9 wc => ∃ (kq : Nat) (x9_4 : Bool), v9 = .bool x9_4 ∧ Aside0 (spec_ExpandPolynomial.j0 kq l1 x9_4 a0_0 l0_1 = some (r1, r2)) ∧ Aside0 (kq ≤ k) ∧ Aside0 (Kd.V (Kd.int .i64) 2 wc w.heap.size (fun k_ => (P1_ k_ ∨ w.heap.size ≤ k_) ∧ k_ ≠ gb684) (.slice A1 l1.length c1) l1) ∧ Aside0 (wc.heap[gb684]? = some (.cells #[.int .i64 a0_0, (.slice A0_1 l0_1.length c0_1)] 40 (0, 0))) ∧ Aside0 (Below w.heap.size w wc))
  case first =>
   have H := HC5.out
   clear HC5
   replace H := Option.bind_eq_some_iff.mp H
   obtain ⟨t685, A60, H⟩ := H
   replace H : (if t685 = true then ((spec_l01Poly.f k a0_0 l1).bind fun t686 => (spec_ExpandPolynomial.j0 k l1 (!t686) a0_0 l0_1)) else (spec_ExpandPolynomial.j0 k l1 true a0_0 l0_1)) = some (r1, r2) := H
   have A6 := zA A60
   clear A60
   by_cases c7 : t685 = true
   ·subst c7
    have H1 : ((spec_l01Poly.f k a0_0 l1).bind fun t686 => (spec_ExpandPolynomial.j0 k l1 (!t686) a0_0 l0_1)) = some (r1, r2) := by rw [if_pos rfl] at H; exact H
    clear H
    have H := H1
    clear H1
    replace H := Option.bind_eq_some_iff.mp H
    obtain ⟨t686, A80, H⟩ := H
    replace H : (spec_ExpandPolynomial.j0 k l1 (!t686) a0_0 l0_1) = some (r1, r2) := H
    have A8 := zA A80
    clear A80
    have H' := zA H
    clear H
    have hcz9_0 := bc BK684 0
    have hcz9_1 := bc BK684 1
    have hfz9_0 := bf BK684 0
    have hfz9_1 := bf BK684 1
    go_wp2_with (first | ((with_reducible refine gate_callee (f := 61) rfl ?_); refine gL (some 11) Try.func61 #[.agg #[.int .i64 a0_0, .slice A0_1 l0_1.length c0_1]] ?_; (with_reducible refine (spec_l02Are.calls k a0_0 _ _ l0_1 true _ ?side1 ?side2 A6.out).mono ?_); (case side1 => exact uC ((Kd.C_below HR0_1.out HB.out))); (case side2 => exact HC0_1.out); rintro e w10 ⟨rfl, hb⟩; refine ⟨_, rfl, ?_⟩; replace HO1 := zA (Kd.V_below (by (with_reducible repeat (first | apply Kd.V_alloc | apply Kd.V_drewN | apply Kd.V_drew)); exact HO1.out) hb); replace BK684 := xB BK684 hb; replace HB := xH HB hb; (try clear hb); (try clear hb2); (try clear hk); (try clear hi); have hcz11_0 := bc BK684 0; have hcz11_1 := bc BK684 1; have hfz11_0 := bf BK684 0; have hfz11_1 := bf BK684 1) | (go_at_call 101; (with_reducible refine (spec_l01Poly.calls k a0_0 _ _ l1 t686 _ ?side1 ?side2 A8.out).mono ?_); (case side1 => exact uC ((Kd.V_reads' HO1.out).2.2)); (case side2 => exact (Kd.V_reads' HO1.out).2.1); rintro e w' ⟨rfl, ⟨nd, rfl⟩⟩))
    go_meet
    case rel => exact ⟨_, (!t686), (by first | rfl | (simp; done) | (simp [*]; done)), H', ⟨by first | omega | exact Nat.le_refl _⟩, ⟨by (with_reducible repeat (first | apply Kd.V_alloc | apply Kd.V_drewN | apply Kd.V_drew)); exact HO1.out⟩, ⟨uB BK684.out⟩, ⟨uH HB.out⟩⟩
   ·replace c7 := Bool.eq_false_iff.mpr c7
    subst c7
    have H1 : (spec_ExpandPolynomial.j0 k l1 true a0_0 l0_1) = some (r1, r2) := by rw [if_neg (show ¬ (false = true) by decide)] at H; exact H
    clear H
    have H := H1
    clear H1
    have H' := zA H
    clear H
    have hcz12_0 := bc BK684 0
    have hcz12_1 := bc BK684 1
    have hfz12_0 := bf BK684 0
    have hfz12_1 := bf BK684 1
    go_wp2_with (first | ((with_reducible refine gate_callee (f := 61) rfl ?_); refine gL (some 11) Try.func61 #[.agg #[.int .i64 a0_0, .slice A0_1 l0_1.length c0_1]] ?_; (with_reducible refine (spec_l02Are.calls k a0_0 _ _ l0_1 false _ ?side1 ?side2 A6.out).mono ?_); (case side1 => exact uC ((Kd.C_below HR0_1.out HB.out))); (case side2 => exact HC0_1.out); rintro e w13 ⟨rfl, hb⟩; refine ⟨_, rfl, ?_⟩; replace HO1 := zA (Kd.V_below (by (with_reducible repeat (first | apply Kd.V_alloc | apply Kd.V_drewN | apply Kd.V_drew)); exact HO1.out) hb); replace BK684 := xB BK684 hb; replace HB := xH HB hb; (try clear hb); (try clear hb2); (try clear hk); (try clear hi)))
    go_meet
    case rel => exact ⟨_, (true), (by first | rfl | (simp; done) | (simp [*]; done)), H', ⟨by first | omega | exact Nat.le_refl _⟩, ⟨by (with_reducible repeat (first | apply Kd.V_alloc | apply Kd.V_drewN | apply Kd.V_drew)); exact HO1.out⟩, ⟨uB BK684.out⟩, ⟨uH HB.out⟩⟩
  case rest =>
   clear HC5
   (try clear c1);(try clear p2);(try clear c4);(try clear c6);(try clear c7);(try clear hcz11_0);(try clear hcz11_1);(try clear hcz12_0);(try clear hcz12_1);(try clear hcz9_0);(try clear hcz9_1);(try clear hfz11_0);(try clear hfz11_1);(try clear hfz12_0);(try clear hfz12_1);(try clear hfz9_0);(try clear hfz9_1)
   obtain ⟨kq, x9_4, rfl, HA, HJ4, HO_1, BK684, HB⟩ := hcut
   cases kq with
   | zero => exact absurd HA.out (by simp [spec_ExpandPolynomial.j0])
   | succ kj4 =>
    have H := HA.out
    clear HA
    simp only [spec_ExpandPolynomial.j0] at H
    by_cases c14 : x9_4 = true
    ·subst c14
     have H1 : (some (([] : List Int), 1)) = some (r1, r2) := by rw [if_pos rfl] at H; exact H
     clear H
     have H := H1
     clear H1
     simp only [Option.some.injEq, Prod.mk.injEq] at H
     obtain ⟨rfl, rfl⟩ := H
     go_wp2
     go_ret2
     exact ⟨_, by first | rfl | (simp [errW_none, errW_some] <;> rfl) | (simp [*, errW_none, errW_some] <;> rfl), by first | exact Kd.R_nil _ _ _ _ _ | exact Kd.N_nil _ _ _ _ _ | exact Kd.V_nil _ _ _ _ _ | exact Kd.Q_nil _ _ _ _ _ | exact Kd.S_nil _ _ _ _ _, uH HB.out⟩
    ·replace c14 := Bool.eq_false_iff.mpr c14
     subst c14
     have H1 : (if (l1.length : Int) > 12 then (some (([] : List Int), 2)) else (if (l1.length : Int) > 0 then ((spec_l04Regular.f kj4 a0_0 l0_1 (wrap64 ((l1.length : Int) - 1))).bind fun t687 => (if t687 = true then (spec_ExpandPolynomial.j1 kj4 l1 a0_0 l0_1) else (some (([] : List Int), 5)))) else (spec_ExpandPolynomial.j1 kj4 l1 a0_0 l0_1))) = some (r1, r2) := by rw [if_neg (show ¬ (false = true) by decide)] at H; exact H
     clear H
     have H := H1
     clear H1
     by_cases c15 : (l1.length : Int) > 12
     rotate_left
     ·rw [if_neg c15] at H
      have c15b0 : decide (12 < (l1.length : Int)) = false := decide_eq_false c15
      have c15b1 : decide (12 < l1.length) = false := decide_eq_false (by omega)
      clear c15
      by_cases c16 : (l1.length : Int) > 0
      rotate_left
      ·rw [if_neg c16] at H
       have c16b0 : decide (0 < (l1.length : Int)) = false := decide_eq_false c16
       have c16b1 : decide (0 < l1.length) = false := decide_eq_false (by omega)
       clear c16
       have H' := zA H
       clear H
       go_wp2
       go_meet
       case rel => exact ⟨_, H', ⟨by have := HJ4.out; first | omega | exact Nat.le_refl _⟩, ⟨by (with_reducible repeat (first | apply Kd.V_alloc | apply Kd.V_drewN | apply Kd.V_drew)); exact HO_1.out⟩, ⟨uB BK684.out⟩, ⟨uH HB.out⟩⟩
      rw [if_pos c16] at H
      have c16b0 : decide (0 < (l1.length : Int)) = true := decide_eq_true c16
      have c16b1 : decide (0 < l1.length) = true := decide_eq_true (by omega)
      clear c16
      replace H := Option.bind_eq_some_iff.mp H
      obtain ⟨t687, A170, H⟩ := H
      replace H : (if t687 = true then (spec_ExpandPolynomial.j1 kj4 l1 a0_0 l0_1) else (some (([] : List Int), 5))) = some (r1, r2) := H
      have A17 := zA A170
      clear A170
      by_cases c18 : t687 = true
      ·subst c18
       have H1 : (spec_ExpandPolynomial.j1 kj4 l1 a0_0 l0_1) = some (r1, r2) := by rw [if_pos rfl] at H; exact H
       clear H
       have H := H1
       clear H1
       have H' := zA H
       clear H
       have hcz19_0 := bc BK684 0
       have hcz19_1 := bc BK684 1
       have hfz19_0 := bf BK684 0
       have hfz19_1 := bf BK684 1
       go_wp2_with (first | (go_at_call 95; (with_reducible refine (spec_l04Regular.calls kj4 a0_0 _ _ l0_1 (wrap64 ((l1.length : Int) - 1)) true _ ?side1 ?side2 A17.out).mono ?_); (case side1 => exact uC ((Kd.C_below HR0_1.out HB.out))); (case side2 => exact HC0_1.out); rintro e w20 ⟨rfl, hb⟩; replace HO_1 := zA (Kd.V_below (by (with_reducible repeat (first | apply Kd.V_alloc | apply Kd.V_drewN | apply Kd.V_drew)); exact HO_1.out) hb); replace BK684 := xB BK684 hb; replace HB := xH HB hb; (try clear hb); (try clear hb2); (try clear hk); (try clear hi)))
       go_meet
       case rel => exact ⟨_, H', ⟨by have := HJ4.out; first | omega | exact Nat.le_refl _⟩, ⟨by (with_reducible repeat (first | apply Kd.V_alloc | apply Kd.V_drewN | apply Kd.V_drew)); exact HO_1.out⟩, ⟨uB BK684.out⟩, ⟨uH HB.out⟩⟩
      ·replace c18 := Bool.eq_false_iff.mpr c18
       subst c18
       have H1 : (some (([] : List Int), 5)) = some (r1, r2) := by rw [if_neg (show ¬ (false = true) by decide)] at H; exact H
       clear H
       have H := H1
       clear H1
       simp only [Option.some.injEq, Prod.mk.injEq] at H
       obtain ⟨rfl, rfl⟩ := H
       have hcz21_0 := bc BK684 0
       have hcz21_1 := bc BK684 1
       have hfz21_0 := bf BK684 0
       have hfz21_1 := bf BK684 1
       go_wp2_with (first | (go_at_call 95; (with_reducible refine (spec_l04Regular.calls kj4 a0_0 _ _ l0_1 (wrap64 ((l1.length : Int) - 1)) false _ ?side1 ?side2 A17.out).mono ?_); (case side1 => exact uC ((Kd.C_below HR0_1.out HB.out))); (case side2 => exact HC0_1.out); rintro e w22 ⟨rfl, hb⟩; replace HO_1 := zA (Kd.V_below (by (with_reducible repeat (first | apply Kd.V_alloc | apply Kd.V_drewN | apply Kd.V_drew)); exact HO_1.out) hb); replace BK684 := xB BK684 hb; replace HB := xH HB hb; (try clear hb); (try clear hb2); (try clear hk); (try clear hi)))
       go_ret2
       exact ⟨_, by first | rfl | (simp [errW_none, errW_some] <;> rfl) | (simp [*, errW_none, errW_some] <;> rfl), by first | exact Kd.R_nil _ _ _ _ _ | exact Kd.N_nil _ _ _ _ _ | exact Kd.V_nil _ _ _ _ _ | exact Kd.Q_nil _ _ _ _ _ | exact Kd.S_nil _ _ _ _ _, uH HB.out⟩
     rw [if_pos c15] at H
     have c15b0 : decide (12 < (l1.length : Int)) = true := decide_eq_true c15
     have c15b1 : decide (12 < l1.length) = true := decide_eq_true (by omega)
     clear c15
     simp only [Option.some.injEq, Prod.mk.injEq] at H
     obtain ⟨rfl, rfl⟩ := H
     go_wp2
     go_ret2
     exact ⟨_, by first | rfl | (simp [errW_none, errW_some] <;> rfl) | (simp [*, errW_none, errW_some] <;> rfl), by first | exact Kd.R_nil _ _ _ _ _ | exact Kd.N_nil _ _ _ _ _ | exact Kd.V_nil _ _ _ _ _ | exact Kd.Q_nil _ _ _ _ _ | exact Kd.S_nil _ _ _ _ _, uH HB.out⟩
 case rest =>
  clear HC3
  (try clear c1);(try clear p2);(try clear c4);(try clear c6);(try clear p6);(try clear c7);(try clear c14);(try clear c15);(try clear c15b0);(try clear c15b1);(try clear c16);(try clear c16b0);(try clear c16b1);(try clear c18);(try clear hcz11_0);(try clear hcz11_1);(try clear hcz12_0);(try clear hcz12_1);(try clear hcz19_0);(try clear hcz19_1);(try clear hcz21_0);(try clear hcz21_1);(try clear hcz9_0)
  (try clear hcz9_1);(try clear hfz11_0);(try clear hfz11_1);(try clear hfz12_0);(try clear hfz12_1);(try clear hfz19_0);(try clear hfz19_1);(try clear hfz21_0);(try clear hfz21_1);(try clear hfz9_0);(try clear hfz9_1);(try clear p2)
  obtain ⟨kq, HA, HJ2, HO_1, BK684, HB⟩ := hcut
  cases kq with
  | zero => exact absurd HA.out (by simp [spec_ExpandPolynomial.j1])
  | succ kj2 =>
   have H := HA.out
   clear HA
   simp only [spec_ExpandPolynomial.j1] at H
   by_cases c23 : 0 ≤ (l1.length : Int)
   rotate_left
   ·rw [if_neg c23] at H
    exact absurd H (by simp)

   rw [if_pos c23] at H
   have c23b0 := eq_true c23
   have c23b1 : decide (0 ≤ (l1.length : Int)) = true := decide_eq_true c23
   clear c23
   by_cases c24 : ((l1.length : Int) : Int).toNat ≤ 35184372088832
   rotate_left
   ·rw [if_neg c24] at H
    exact absurd H (by simp)
   rw [if_pos c24] at H
   have c24b0 := eq_true c24
   have c24b1 : decide (((l1.length : Int) : Int).toNat ≤ 35184372088832) = true := decide_eq_true c24
   clear c24
   obtain ⟨y688, hy688⟩ : ∃ y_ : List Int, y_ = (List.replicate ((l1.length : Int) : Int).toNat 0) := ⟨_, rfl⟩
   replace H : (if (l1.length : Int) = 0 then (some (y688, 0)) else ((spec_l04Polys.f kj2 a0_0 l0_1 (wrap64 ((l1.length : Int) - 1))).bind fun t691 => (spec_ExpandPolynomial.l0 kj2 l1 y688 t691 a0_0 l0_1))) = some (r1, r2) := by first | (rw [hy688]; exact H) | exact H
   have Ny688 := zA hy688
   clear hy688
   by_cases c25 : (l1.length : Int) = 0
   rotate_left
   ·rw [if_neg c25] at H
    have c25b0 : ((l1.length : Int) == 0) = false := beq_eq_false_iff_ne.mpr c25
    have c25b1 : ((l1.length : Int) != 0) = true := bne_iff_ne.mpr c25
    have c25b2 : ¬ (l1 = []) := fun h_ => c25 (by rw [h_]; rfl)
    replace H := Option.bind_eq_some_iff.mp H
    obtain ⟨t691, A280, H⟩ := H
    replace H : (spec_ExpandPolynomial.l0 kj2 l1 y688 t691 a0_0 l0_1) = some (r1, r2) := H
    have A28 := zA A280
    clear A280
    have H' := zA H
    clear H
    go_wp2_with (first | ((with_reducible refine gate_dst (N := 38) rfl ?_); (try (refine gate_guard (by rfl) ?_; dsimp only)); refine Kd.R_make (Kd.int .i64) _ 2 rfl (N := 38) rfl 22 _ _ rfl (l1.length : Int) rfl rfl Try.underlying22 (.int .i64 0) 8 info2 rfl (by decide) (by omega) 0 (ok := fun _ => True) (okp := fun _ => True) rfl (fun _ hk => hk) trivial (of_decide_eq_true (by first | (with_reducible assumption) | assumption)) (Nat.le_trans (Nat.mul_le_mul_right _ (of_decide_eq_true (by first | (with_reducible assumption) | assumption) : (l1.length : Int).toNat ≤ 35184372088832)) (by omega)) (Below.refl _ _) (Nat.le_refl _) ?_; intro v689 w29 ho30 hb hg_ hnew_; clear hg_ hnew_; (first | rw [← Ny688.out] at ho30 | (simp only [Int.reduceToNat] at ho30; rw [← Ny688.out] at ho30)); replace HO_1 := zA (Kd.V_elder' (by (with_reducible repeat (first | apply Kd.V_alloc | apply Kd.V_drewN | apply Kd.V_drew)); exact HO_1.out) (Kd.R_base ho30) hb); have HO690 := zA (Kd.R_lower (Kd.R_newM (M := fun k_ => (w.heap.size ≤ k_)) ho30 (below_size (uH HB.out)) (fun k_ h_ => h_)) (below_size (uH HB.out))); replace BK684 := xB BK684 hb; replace HB := xH HB hb; clear hb ho30; have hcz31_0 := bc BK684 0; have hcz31_1 := bc BK684 1; have hfz31_0 := bf BK684 0; have hfz31_1 := bf BK684 1) | ((with_reducible refine gate_callee (f := 85) rfl ?_); refine gL (some 47) Try.func85 #[.agg #[.int .i64 a0_0, .slice A0_1 l0_1.length c0_1], .int .i64 (wrap64 ((l1.length : Int) - 1))] ?_; (with_reducible refine (spec_l04Polys.calls kj2 a0_0 _ _ l0_1 (wrap64 ((l1.length : Int) - 1)) t691 _ ?side1 ?side2 A28.out).mono ?_); (case side1 => exact uC ((Kd.C_below HR0_1.out HB.out))); (case side2 => exact HC0_1.out); rintro e w32 ⟨v692, rfl, ho0, hb⟩; refine ⟨_, rfl, ?_⟩; replace HO_1 := zA (Kd.V_elder' (by (with_reducible repeat (first | apply Kd.V_alloc | apply Kd.V_drewN | apply Kd.V_drew)); exact HO_1.out) (Kd.N_base ho0) hb); have HO693 := zA (Kd.N_lower (Kd.N_mono (ok' := fun k_ => (P1_ k_ ∨ w.heap.size ≤ k_) ∧ some k_ ≠ (v689 : Value).ownBlock ∧ k_ ≠ gb684) ho0 (fun k_ hk_ => ⟨(.inr (Nat.le_trans (below_size (uH HB.out)) hk_)), (Kd.fresh' (Kd.R_lt (uR HO690.out)) k_ hk_), (Kd.freshB (g := gb684) (o := .cells #[.int .i64 a0_0, .slice A0_1 l0_1.length c0_1] 40 (0, 0)) (uB BK684.out) k_ hk_)⟩)) (below_size (uH HB.out))); replace HO690 := xR HO690 hb; replace BK684 := xB BK684 hb; replace HB := xH HB hb; (try clear hb); (try clear hb2); (try clear hk); (try clear hi); (try clear ho0)))
    go_loopg [1] kj2 (fun kq v1 w' => ∃ (x1_2 : List Int) (x6_2 : List Int), Aside0 (spec_ExpandPolynomial.l0 kq x1_2 x6_2 t691 a0_0 l0_1 = some (r1, r2)) ∧ Aside0 (kq ≤ kj2) ∧ Aside0 (Kd.V (Kd.int .i64) 2 w' w.heap.size (fun k_ => (P1_ k_ ∨ w.heap.size ≤ k_) ∧ some k_ ≠ (v689 : Value).ownBlock ∧ some k_ ≠ (v692 : Value).ownBlock ∧ k_ ≠ gb684) v1 x1_2) ∧ Aside0 (Kd.R (Kd.int .i64) 2 w' w.heap.size (fun k_ => (w.heap.size ≤ k_)) v689 x6_2) ∧ Aside0 (Kd.N (Kd.slice 2 (Kd.int .i64)) 22 w' w.heap.size (fun k_ => (P1_ k_ ∨ w.heap.size ≤ k_) ∧ some k_ ≠ (v689 : Value).ownBlock ∧ k_ ≠ gb684) v692 t691) ∧ Aside0 (w'.heap[gb684]? = some (.cells #[.int .i64 a0_0, (.slice A0_1 l0_1.length c0_1)] 40 (0, 0))) ∧ Aside0 (Below w.heap.size w w'))
    case atStart => exact ⟨(l1), (y688), H', ⟨Nat.le_refl _⟩, ⟨by (with_reducible repeat (first | apply Kd.V_alloc | apply Kd.V_drewN | apply Kd.V_drew)); exact Kd.V_mono HO_1.out (fun _ hk => ⟨hk.1.1.1, ⟨hk.1.2, ⟨hk.2, hk.1.1.2⟩⟩⟩)⟩, ⟨uR (Kd.R_mono HO690.out (fun _ hk => hk.1))⟩, ⟨by (with_reducible repeat (first | apply Kd.N_alloc | apply Kd.N_drewN | apply Kd.N_drew)); exact HO693.out⟩, ⟨uB BK684.out⟩, ⟨uH HB.out⟩⟩
    case round =>
     clear H'
     (try clear c1);(try clear c2);(try clear p2);(try clear c4);(try clear c6);(try clear p6);(try clear c7);(try clear c8);(try clear c14);(try clear c15);(try clear c15b0);(try clear c15b1);(try clear c16);(try clear c16b0);(try clear c16b1);(try clear c18);(try clear c23);(try clear c23b0);(try clear c23b1);(try clear c24);(try clear c24b0);(try clear c24b1);(try clear c25);(try clear c25b0);(try clear c25b1)
     (try clear c25b2);(try clear hcz11_0);(try clear hcz11_1);(try clear hcz12_0);(try clear hcz12_1);(try clear hcz19_0);(try clear hcz19_1);(try clear hcz21_0);(try clear hcz21_1);(try clear hcz31_0);(try clear hcz31_1);(try clear hcz9_0);(try clear hcz9_1);(try clear hfz11_0);(try clear hfz11_1);(try clear hfz12_0);(try clear hfz12_1);(try clear hfz19_0);(try clear hfz19_1);(try clear hfz21_0)
     (try clear hfz21_1);(try clear hfz31_0);(try clear hfz31_1);(try clear hfz9_0);(try clear hfz9_1);(try clear p2);(try clear p6)
     obtain ⟨x1_2, x6_2, HA, HK2, HO_1, HO_6, HO_7, BK684, HB⟩ := hrel
     cases gk with
     | zero => exact absurd HA.out (by simp [spec_ExpandPolynomial.l0])
     | succ k2 =>
      have H := HA.out
      clear HA
      simp only [spec_ExpandPolynomial.l0] at H
      by_cases c33 : (x1_2.length : Int) > 0
      rotate_left
      ·rw [if_neg c33] at H
       have c33b0 : decide (0 < (x1_2.length : Int)) = false := decide_eq_false c33
       have c33b1 : decide (0 < x1_2.length) = false := decide_eq_false (by omega)
       clear c33
       simp only [Option.some.injEq, Prod.mk.injEq] at H
       obtain ⟨rfl, rfl⟩ := H
       obtain ⟨Ao48, co48, eo48⟩ := Kd.V_slice HO_1.out
       subst eo48
       go_wp2
       go_ret2
       exact ⟨_, by first | rfl | (simp [errW_none, errW_some] <;> rfl) | (simp [*, errW_none, errW_some] <;> rfl), uR HO_6.out, uH HB.out⟩
      rw [if_pos c33] at H
      have c33b0 : decide (0 < (x1_2.length : Int)) = true := decide_eq_true c33
      have c33b1 : decide (0 < x1_2.length) = true := decide_eq_true (by omega)
      clear c33
      obtain ⟨ji34, hji34⟩ : ∃ j_ : Int, (wrap64 ((x1_2.length : Int) - 1)) = j_ := ⟨_, rfl⟩
      replace H : (if 0 ≤ (ji34) then (if (ji34) < (x1_2.length : Int) then (if (ji34) < (x6_2.length : Int) then (if (ji34) < (t691.length : Int) then ((spec_l01Mod.f a0_0 (wrap64 (-(rd x1_2 (ji34))))).bind fun t698 => ((spec_l01Add.f k2 a0_0 x1_2 (rd_L1 t691 (ji34)) t698).bind fun t699 => (spec_ExpandPolynomial.l0 k2 t699 (x6_2.set ((ji34) : Int).toNat (rd x1_2 (ji34))) t691 a0_0 l0_1))) else (none)) else (none)) else (none)) else (none)) = some (r1, r2) := by first | (rw [hji34] at H; exact H) | (simp only [hji34] at H ⊢; exact H)
      have hji34w : (IntKind.i64.wrap ((x1_2.length : Int) - 1)) = ji34 := (i64_w _).trans hji34
      by_cases c35 : 0 ≤ (ji34)
      rotate_left
      ·rw [if_neg c35] at H
       exact absurd H (by simp)
      rw [if_pos c35] at H
      have c35b0 : decide (0 ≤ (ji34)) = true := decide_eq_true c35
      clear c35
      by_cases c36 : (ji34) < (x1_2.length : Int)
      rotate_left
      ·rw [if_neg c36] at H
       exact absurd H (by simp)
      rw [if_pos c36] at H
      have c36b0 : decide ((ji34) < (x1_2.length : Int)) = true := decide_eq_true c36
      clear c36
      by_cases c37 : (ji34) < (x6_2.length : Int)
      rotate_left
      ·rw [if_neg c37] at H
       exact absurd H (by simp)
      rw [if_pos c37] at H
      have c37b0 : decide ((ji34) < (x6_2.length : Int)) = true := decide_eq_true c37
      clear c37
      obtain ⟨y695, hy695⟩ : ∃ y_ : List Int, y_ = (x6_2.set ((ji34) : Int).toNat (rd x1_2 (ji34))) := ⟨_, rfl⟩
      replace H : (if (ji34) < (t691.length : Int) then ((spec_l01Mod.f a0_0 (wrap64 (-(rd x1_2 (ji34))))).bind fun t698 => ((spec_l01Add.f k2 a0_0 x1_2 (rd_L1 t691 (ji34)) t698).bind fun t699 => (spec_ExpandPolynomial.l0 k2 t699 y695 t691 a0_0 l0_1))) else (none)) = some (r1, r2) := by first | (rw [hy695]; exact H) | exact H
      have Ny695 := zA hy695
      clear hy695
      by_cases c39 : (ji34) < (t691.length : Int)
      rotate_left
      ·rw [if_neg c39] at H
       exact absurd H (by simp)
      rw [if_pos c39] at H
      have c39b0 : decide ((ji34) < (t691.length : Int)) = true := decide_eq_true c39
      clear c39
      replace H := Option.bind_eq_some_iff.mp H
      obtain ⟨t698, A400, H⟩ := H
      replace H : ((spec_l01Add.f k2 a0_0 x1_2 (rd_L1 t691 (ji34)) t698).bind fun t699 => (spec_ExpandPolynomial.l0 k2 t699 y695 t691 a0_0 l0_1)) = some (r1, r2) := H
      have A40 := zA A400
      clear A400
      replace H := Option.bind_eq_some_iff.mp H
      obtain ⟨t699, A410, H⟩ := H
      replace H : (spec_ExpandPolynomial.l0 k2 t699 y695 t691 a0_0 l0_1) = some (r1, r2) := H
      have A41 := zA A410
      clear A410
      have H' := zA H
      clear H
      obtain ⟨Ao42, co42, eo42⟩ := Kd.V_slice HO_1.out
      subst eo42
      have p694 : 0 ≤ ((ji34) : Int) := of_decide_eq_true (by first | (with_reducible assumption) | assumption)
      have q694 : (ji34) < (x1_2.length : Int) := of_decide_eq_true (by first | (with_reducible assumption) | assumption)
      obtain ⟨ad694, e694, hx694_0⟩ := Kd.at_int (Kd.V_reads' HO_1.out).2.2 (ji34) p694 q694
      cases e694
      replace p694 := eq_true p694
      replace q694 := eq_true q694
      have p38 : 0 ≤ ((ji34) : Int) := of_decide_eq_true (by first | (with_reducible assumption) | assumption)
      have q38 : ((ji34) : Int) < ((x6_2.length : Int) : Int) := of_decide_eq_true (by first | (with_reducible assumption) | assumption)
      obtain ⟨go38, co38, eo38, gb38, gl38, cl38, HG38⟩ := Kd.R_form HO_6.out (by omega)
      (first | cases eo38 | (injection eo38 with ea_ en_ ec_; (first | subst ea_ | (injection ea_ with ea_; subst ea_)); subst ec_; clear en_))
      have GB38 := zA gb38; have := geI GB38
      have GG38 := zA HG38
      clear gb38 gl38 HG38
      obtain ⟨hx38_0, hf38_0⟩ := Kd.R_celln 0 HO_6.out ((ji34) : Int) p38 q38
      replace p38 := eq_true p38
      replace q38 := eq_true q38
      have HP43 := Kd.R_putg HO_6.out ((ji34) : Int) (rd x1_2 (ji34))
      try go_wp2_with (first | ((with_reducible refine gate_store (t := 2) (p := 60) rfl ?_); refine store_event (t := 2) (p := 60) (v := ?vo_w44) (w1 := (wr.setCell ⟨go38, ((ji34) : Int).toNat, none⟩ (.int .i64 (rd x1_2 (ji34))))) ?hg ?ho ?hn ?hr ?_; (case ho => rfl); (case hg => rfl); (case hn => rfl); (case hr => first | (go_simp; done) | (go_simp; rfl)); intro w44 hw; have hg : wr.grownBy w44 (some go38) := (by rw [hw]; exact HP43.2); have hp_ : Kd.R (Kd.int .i64) 2 w44 w.heap.size (fun k_ => (w.heap.size ≤ k_)) (.slice (some ⟨go38, 0, none⟩) x6_2.length co38) y695 := (by rw [hw, Ny695.out]; exact HP43.1); clear HP43; replace HO_1 := zA (Kd.V_afterv (v := (.slice (some ⟨go38, 0, none⟩) x6_2.length co38)) (v1 := (.slice (some ⟨go38, 0, none⟩) x6_2.length co38)) (ok := (fun k_ => (P1_ k_ ∨ w.heap.size ≤ k_) ∧ some k_ ≠ (v692 : Value).ownBlock ∧ k_ ≠ gb684)) (by (with_reducible repeat (first | apply Kd.V_alloc | apply Kd.V_drewN | apply Kd.V_drew)); exact Kd.V_mono HO_1.out (fun _ hk => ⟨⟨hk.1, ⟨hk.2.2.1, hk.2.2.2⟩⟩, hk.2.1⟩)) hg (.inl rfl)); replace HO_7 := zA (Kd.N_afterv (v := (.slice (some ⟨go38, 0, none⟩) x6_2.length co38)) (v1 := (.slice (some ⟨go38, 0, none⟩) x6_2.length co38)) (ok := (fun k_ => (P1_ k_ ∨ w.heap.size ≤ k_) ∧ k_ ≠ gb684)) (by (with_reducible repeat (first | apply Kd.N_alloc | apply Kd.N_drewN | apply Kd.N_drew)); exact Kd.N_mono HO_7.out (fun _ hk => ⟨⟨hk.1, hk.2.2⟩, hk.2.1⟩)) hg (.inl rfl)); replace BK684 := zA (blk_grown (g := gb684) (o := .cells #[.int .i64 a0_0, .slice A0_1 l0_1.length c0_1] 40 (0, 0)) (uB BK684.out) hg (Kd.R_ne HO_6.out BK684.out (by decide))); replace HO_6 := zA (hp_); replace HB := zA ((by rw [hw]; exact below_set (HB.out) GB38.out : Below w.heap.size w w44)); clear hg hw hp_))
      replace HO_1 := zA (Kd.V_drew HO_1.out)
      replace HO_6 := zA (Kd.R_drew HO_6.out)
      replace HO_7 := zA (Kd.N_drew HO_7.out)
      replace BK684 := zA (blk_drew BK684.out)
      replace HB := zA (below_drew1 HB.out)
      obtain ⟨Ao46, co46, eo46⟩ := Kd.N_slice HO_7.out
      (first | subst eo46 | (injection eo46 with f1_ f2_ f3_; have f4_ := f1_.symm; have f5_ := f3_.symm; clear f1_ f2_ f3_; subst f4_; subst f5_))
      have p696 : 0 ≤ ((ji34) : Int) := of_decide_eq_true (by first | (with_reducible assumption) | assumption)
      have q696 : (ji34) < (t691.length : Int) := of_decide_eq_true (by first | (with_reducible assumption) | assumption)
      obtain ⟨ad696, A696_0, c696_0, e696, hx696_0, hl696_0, hi696_0⟩ := at_L1 (Kd.N_reads' HO_7.out).2.2 (ji34) p696 q696
      cases e696
      obtain ⟨ce696, hce696, hMe696, hcc696⟩ := Kd.N_get HO_7.out [] (ji34) p696 (by first | exact q696 | exact of_decide_eq_true (by first | (with_reducible assumption) | assumption) | (have e_ := (Kd.N_reads' HO_7.out).1; omega))
      obtain ⟨ua696_0, uc696_0, rfl, ul696_0, ge696_0⟩ := Kd.FK_slice_open hMe696
      have hv696_0 := hcc696 0 _ rfl
      rw [Nat.add_zero, show ((Kd.slice 2 (Kd.int .i64))).sz = 1 from rfl, Nat.mul_one] at hv696_0
      replace hv696_0 := Option.some.inj (hv696_0.symm.trans hx696_0)
      injection hv696_0 with hva_ hvn_ hvc_
      rw [hva_] at ge696_0
      rw [hvc_] at ul696_0
      have HL696_0 := zA (show Kd.V (Kd.int .i64) 2 _ w.heap.size _ _ (rd_L1 t691 (ji34)) from Kd.V_mk ul696_0 ge696_0)
      clear hva_ hvn_ hvc_ ge696_0 ul696_0
      clear hcc696 hce696
      have HR696_0 := zA hi696_0
      have HC696_0 := zA hl696_0
      clear hi696_0 hl696_0
      replace p696 := eq_true p696
      replace q696 := eq_true q696
      have p697 : 0 ≤ ((ji34) : Int) := of_decide_eq_true (by first | (with_reducible assumption) | assumption)
      have q697 : (ji34) < (x1_2.length : Int) := of_decide_eq_true (by first | (with_reducible assumption) | assumption)
      obtain ⟨ad697, e697, hx697_0⟩ := Kd.at_int (Kd.V_reads' HO_1.out).2.2 (ji34) p697 q697
      obtain rfl : ad694 = ad697 := (by injection e697)
      replace p697 := eq_true p697
      replace q697 := eq_true q697
      refine start_ (n := 17) (S := fun w' => w'.cell? ⟨gb684, 0, none⟩ = some (.int .i64 a0_0) ∧ w'.cell? ⟨gb684, 1, none⟩ = some (.slice A0_1 l0_1.length c0_1) ∧ w'.cell? (ad696.add ((ji34)).toNat) = some (.slice A696_0 (rd_L1 t691 (ji34)).length c696_0) ∧ w'.cell? (ad694.add ((ji34)).toNat) = some (.int .i64 (rd x1_2 (ji34)))) (ds := []) #[false, false, false, false, false, false, false, false, false, false, false, false, false, false, false, false, false] (by kernel_rfl) rfl rfl ⟨bcu BK684 0, bcu BK684 1, hx696_0, hx697_0⟩ (fun hHeld => ?_); refine with_tabW spec_ExpandPolynomial.tab14 spec_ExpandPolynomial.bits14 (fun HT_ HW_ => ?_)
      generalize w44.drew = w45 at HO_1 HO_6 HO_7 BK684 HB HL696_0 HR696_0 hx696_0 hx697_0 hHeld ⊢
      refine pu_ 0 61 (bl 17 1) HT_ ?_
      refine pu_ 2 63 (bl 17 5) HT_ ?_
      refine pu_ 3 64 (bl 17 13) HT_ ?_
      refine pu_ 4 65 (bl 17 29) HT_ ?_
      refine pu_ 5 66 (bl 17 61) HT_ ?_
      refine pu_ 7 68 (bl 17 189) HT_ ?_
      refine pu_ 9 70 (bl 17 701) HT_ ?_
      refine pu_ 10 71 (bl 17 1725) HT_ ?_
      refine pu_ 11 72 (bl 17 3773) HT_ ?_
      refine ta_ 1 62 (bl 17 3775) HT_ HW_ hHeld ?_
      refine ta_ 6 67 (bl 17 3839) HT_ HW_ hHeld ?_
      refine ta_ 8 69 (bl 17 4095) HT_ HW_ hHeld ?_
      refine ta_ 12 73 (bl 17 8191) HT_ HW_ hHeld ?_
      refine pu_ 13 74 (bl 17 16383) HT_ ?_
      refine on_ 14 (some 75) (bl 17 32767) HT_ (fun K hK => ?_)
      refine goes_ Try.func102 (by kernel_rfl) rfl #[.int .i64 a0_0, .int .i64 (wrap64 (-(rd x1_2 (ji34))))] (by rfl) rfl rfl (by (try simp only [la, lb, lc]); first | done | (simp only [hji34]; rfl) | rfl | (simp only [ld, le]; rfl)) ?_
      with_reducible refine (spec_l01Mod.calls a0_0 (wrap64 (-(rd x1_2 (ji34)))) t698 _ A40.out).mono ?_
      rintro e w' ⟨rfl, ⟨nd, rfl⟩⟩
      refine ⟨_, rfl, ?_⟩
      refine hK.out _ _ ⟨bcu BK684 0, bcu BK684 1, hHeld.2.2.1, hHeld.2.2.2⟩ (fun hHeld => ?_)
      clear hK K
      refine no_ 75 ?_
      refine on_ 15 (some 76) (bl 17 65535) HT_ (fun K hK => ?_)
      refine goes_ Try.func96 (by kernel_rfl) rfl #[.int .i64 a0_0, .slice (some ad694) x1_2.length co42, .slice A696_0 (rd_L1 t691 (ji34)).length c696_0, .int .i64 t698] (by rfl) rfl rfl (by (try simp only [la, lb, lc]); first | done | (simp only [hji34]; rfl) | rfl | (simp only [ld, le]; rfl)) ?_
      with_reducible refine (spec_l01Add.calls k2 a0_0 _ _ x1_2 _ _ (rd_L1 t691 (ji34)) t698 t699 _ ?side1 ?side2 ?side3 ?side4 A41.out).mono ?_
      (case side1 => exact uC ((Kd.V_reads' HO_1.out).2.2))
      (case side2 => exact (Kd.V_reads' HO_1.out).2.1)
      (case side3 => repeat (first | exact (by repeat (first | (with_reducible exact HR696_0.out) | (with_reducible refine Kd.C_alloc ?_ _) | (with_reducible refine Kd.C_drewN ?_ _) | (with_reducible refine Kd.C_drew ?_) | exact HR696_0.out)) | (with_reducible refine Kd.C_alloc ?_ _) | (with_reducible refine Kd.C_drewN ?_ _) | (with_reducible refine Kd.C_drew ?_)))
      (case side4 => exact HC696_0.out)
      rintro e w47 ⟨v700, rfl, ho0, hb⟩
      have HS2_ := (hb.cell (World.block_lt_of_cell? _ _ (hHeld.2.2.1))).trans (hHeld.2.2.1)
      have HS3_ := (hb.cell (World.block_lt_of_cell? _ _ (hHeld.2.2.2))).trans (hHeld.2.2.2)
      refine ⟨_, rfl, ?_⟩
      replace HO_1 := zA (Kd.V_elder' (by (with_reducible repeat (first | apply Kd.V_alloc | apply Kd.V_drewN | apply Kd.V_drew)); exact HO_1.out) (Kd.R_base ho0) hb)
      replace HO_7 := zA (Kd.N_elder' (by (with_reducible repeat (first | apply Kd.N_alloc | apply Kd.N_drewN | apply Kd.N_drew)); exact HO_7.out) (Kd.R_base ho0) hb)
      replace HL696_0 := zA (Kd.V_elder' (by (with_reducible repeat (first | apply Kd.V_alloc | apply Kd.V_drewN | apply Kd.V_drew)); exact HL696_0.out) (Kd.R_base ho0) hb)
      have HO701 := zA (Kd.R_lower (Kd.R_new' (Kd.R_newM (M := fun k_ => (w.heap.size ≤ k_)) ho0 (below_size (uH HB.out)) (fun k_ h_ => h_)) (Kd.R_lt (uR HO_6.out))) (below_size (uH HB.out)))
      replace HO_6 := zA (Kd.R_elder' (uR HO_6.out) (Kd.R_base ho0) hb)
      replace BK684 := xB BK684 hb
      replace HR696_0 := zA (Kd.C_below (by repeat (first | (with_reducible exact HR696_0.out) | (with_reducible refine Kd.C_alloc ?_ _) | (with_reducible refine Kd.C_drewN ?_ _) | (with_reducible refine Kd.C_drew ?_) | exact HR696_0.out)) hb)
      replace HB := xH HB hb
      (try clear hb); (try clear hb2); (try clear hk); (try clear hi); (try clear ho0)
      refine hK.out _ _ ⟨bcu BK684 0, bcu BK684 1, HS2_, HS3_⟩ (fun hHeld => ?_)
      clear hK K
      refine no_ 76 ?_
      refine pu_ 16 1 (bl 17 131071) HT_ ?_
      refine done_ (done_of HT_.out (by kernel_rfl)) ?_
      try go_wp2
      go_roundg k2
      case measure => have := HJ2.out; have := HK2.out; omega
      case rel => exact ⟨(t699), (y695), H', ⟨by have := HJ2.out; have := HK2.out; omega⟩, ⟨Kd.V_mono (Kd.R_V (uR (Kd.R_types (Kd.R_apart' HO701.out (Kd.N_typed HO_7.out) (by decide)) BK684.out (by decide)))) (fun k_ hk => by first | exact ⟨.inr hk.1.1.1.1, ⟨hk.1.1.2, ⟨hk.1.2, hk.2⟩⟩⟩ | exact .inr (⟨hk.1.1.1.1, ⟨hk.1.1.2, ⟨hk.1.2, hk.2⟩⟩⟩))⟩, ⟨uR (Kd.R_mono HO_6.out (fun _ hk => hk.1))⟩, ⟨by (with_reducible repeat (first | apply Kd.N_alloc | apply Kd.N_drewN | apply Kd.N_drew)); exact Kd.N_mono HO_7.out (fun _ hk => ⟨hk.1.1.1, ⟨hk.1.2, hk.1.1.2⟩⟩)⟩, ⟨uB BK684.out⟩, ⟨uH HB.out⟩⟩
   rw [if_pos c25] at H
   have c25b0 : ((l1.length : Int) == 0) = true := beq_iff_eq.mpr c25
   have c25b1 : ((l1.length : Int) != 0) = false := bne_eq_false_iff_eq.mpr c25
   clear c25
   simp only [Option.some.injEq, Prod.mk.injEq] at H
   obtain ⟨rfl, rfl⟩ := H
   go_wp2_with (first | ((with_reducible refine gate_dst (N := 38) rfl ?_); (try (refine gate_guard (by rfl) ?_; dsimp only)); refine Kd.R_make (Kd.int .i64) _ 2 rfl (N := 38) rfl 22 _ _ rfl (l1.length : Int) rfl rfl Try.underlying22 (.int .i64 0) 8 info2 rfl (by decide) (by omega) 0 (ok := fun _ => True) (okp := fun _ => True) rfl (fun _ hk => hk) trivial (of_decide_eq_true (by first | (with_reducible assumption) | assumption)) (Nat.le_trans (Nat.mul_le_mul_right _ (of_decide_eq_true (by first | (with_reducible assumption) | assumption) : (l1.length : Int).toNat ≤ 35184372088832)) (by omega)) (Below.refl _ _) (Nat.le_refl _) ?_; intro v689 w26 ho27 hb hg_ hnew_; clear hg_ hnew_; (first | rw [← Ny688.out] at ho27 | (simp only [Int.reduceToNat] at ho27; rw [← Ny688.out] at ho27)); replace HO_1 := zA (Kd.V_elder' (by (with_reducible repeat (first | apply Kd.V_alloc | apply Kd.V_drewN | apply Kd.V_drew)); exact HO_1.out) (Kd.R_base ho27) hb); have HO690 := zA (Kd.R_lower (Kd.R_newM (M := fun k_ => (w.heap.size ≤ k_)) ho27 (below_size (uH HB.out)) (fun k_ h_ => h_)) (below_size (uH HB.out))); replace BK684 := xB BK684 hb; replace HB := xH HB hb; clear hb ho27))
   go_ret2
   exact ⟨_, by first | rfl | (simp [errW_none, errW_some] <;> rfl) | (simp [*, errW_none, errW_some] <;> rfl), uR (Kd.R_mono HO690.out (fun _ hk => hk.1)), uH HB.out⟩
end Go.Proofs.Ytfbnkebgdmfcfaa.Pr
