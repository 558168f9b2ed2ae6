/- Texts of this session in one: what functions of the program compute, and plain facts of it, under the conditions that each theorem names. -/
import Derived.Below
import Derived.ChangeOld
import Derived.Lib.SmallJoins
import Derived.OpenShut
import Derived.ProofKit
import Derived.ShutString
import Derived.SizedLaws
import Derived.Test.YtfbnkebgdmfcfaaRows
import Derived.WalkKit
import Derived.Test.YtfbnkebgdmfcfaaKFimplNormOf
import Derived.Test.YtfbnkebgdmfcfaaKFspecl04Polys
import Derived.Test.YtfbnkebgdmfcfaaKC01
import Derived.Test.YtfbnkebgdmfcfaaKC010
import Derived.Test.YtfbnkebgdmfcfaaKC02
import Derived.Test.YtfbnkebgdmfcfaaKC03
import Derived.Test.YtfbnkebgdmfcfaaKC05
import Derived.Test.YtfbnkebgdmfcfaaKC06
import Derived.Test.YtfbnkebgdmfcfaaKC08
import Derived.Test.YtfbnkebgdmfcfaaWSized
namespace Go.Proofs.Ytfbnkebgdmfcfaa.Pr
open Go.RowKit Go.Proofs.YtfbnkebgdmfcfaaW.PrintWords Go.Proofs.YtfbnkebgdmfcfaaW.PrintLast Go.Proofs.YtfbnkebgdmfcfaaW.PrintMore
attribute [local go_sem] max2_int min2_int max_two min_two max_three min_three max_four min_four   -- for this text's walks alone
set_option linter.unusedVariables false
set_option linter.unusedSimpArgs false
/-! ### spec_NormOf: function 36 -/
mutual
def spec_NormOf.j0 : Nat → Int → Int → Bool → Int → List Int → Option (Int × Int)
 | 0, _, _, _, _, _ => none
 | k + 1, x1, x6, x20, x221000, x221001 => if x20 = true then (spec_NormOf.j1 k x1 5 x221000 x221001) else (spec_NormOf.j1 k x1 x6 x221000 x221001)
def spec_NormOf.j1 : Nat → Int → Int → Int → List Int → Option (Int × Int)
 | 0, _, _, _, _ => none
 | k + 1, x1, x6, x221000, x221001 => if x6 = 0 then ((spec_l04Polys.f k x221000 x221001 x1).bind fun t222 => (if 0 ≤ x1 then (if x1 < (t222.length : Int) then ((spec_l04Norm.f k x221000 x221001 (rd_L1 t222 x1) 0).bind fun t226 => (some (t226, 0))) else (none)) else (none))) else (some (0, x6))
end
def spec_NormOf.f (k : Nat) (a0_0 : Int) (l0_1 : List Int) (a1 : Int) : Option (Int × Int) := (spec_l04Code.f k a0_0 l0_1 a1 0).bind fun t221 => (if t221 = 0 then (spec_NormOf.j0 k a1 t221 (decide ((l0_1.length : Int) < (wrap64 ((wrap64 (2 * a1)) + 1)))) a0_0 l0_1) else (spec_NormOf.j0 k a1 t221 false a0_0 l0_1))
def spec_NormOf.T6 : Bool × List (List Nat × List Nat) := (true, [([], []), ([], []), ([], []), ([1, 2], [1, 2]), ([], []), ([3, 4], [3, 4]), ([5], [5]), ([0, 6, 3], [0, 6]), ([7, 7, 0, 1, 2, 3, 4, 5, 6, 7], [7]), ([8, 0, 1, 2, 3, 4, 5, 6, 7, 8], [])])
def spec_NormOf.B6 : List Nat := [0, 0, 0, 6, 0, 30, 62, 127, 255, 511]
theorem spec_NormOf.tab6 : rtab .any (opsOf Try.f36 6) = spec_NormOf.T6 := by kernel_rfl
theorem spec_NormOf.bits6 : waitsOk spec_NormOf.T6.2 spec_NormOf.B6 = true := by kernel_rfl
set_option maxHeartbeats 8000000 in
set_option maxRecDepth 100000 in
theorem spec_NormOf.calls (k : Nat) (a0_0 : Int) (A0_1 : Option Addr) (c0_1 : Nat) (l0_1 : List Int) (a1 : Int) (r1 : Int) (r2 : Int) (w : World) (hr0_1 : Kd.C (Kd.int .i64) w A0_1 l0_1.length l0_1) (hc0_1 : l0_1.length ≤ c0_1) (h : spec_NormOf.f k a0_0 l0_1 a1 = some (r1, r2)) :
  Calls Try.prog 36 #[.agg #[.int .i64 a0_0, .slice A0_1 l0_1.length c0_1], .int .i64 a1] w fun e w' => e = .returned (.tuple #[.int .i64 r1, .int .i64 r2]) ∧ Below w.heap.size w w' := by
 have hu40 := Try.underlying40
 have HR0_1 := zA hr0_1
 have HC0_1 := zA hc0_1
 clear hr0_1 hc0_1
 have HB := zA (Below.refl w.heap.size w)
 have H : ((spec_l04Code.f k a0_0 l0_1 a1 0).bind fun t221 => (if t221 = 0 then (spec_NormOf.j0 k a1 t221 (decide ((l0_1.length : Int) < (wrap64 ((wrap64 (2 * a1)) + 1)))) a0_0 l0_1) else (spec_NormOf.j0 k a1 t221 false a0_0 l0_1))) = some (r1, r2) := h
 clear h
 replace H := Option.bind_eq_some_iff.mp H
 obtain ⟨t221, A30, H⟩ := H
 replace H : (if t221 = 0 then (spec_NormOf.j0 k a1 t221 (decide ((l0_1.length : Int) < (wrap64 ((wrap64 (2 * a1)) + 1)))) a0_0 l0_1) else (spec_NormOf.j0 k a1 t221 false a0_0 l0_1)) = some (r1, r2) := H
 have A3 := zA A30
 clear A30
 have HC4 := zA H
 clear H
 go_enter Try.func36, Try.ntmps36
 go_upto_region 2 with (first | ((with_reducible refine gate_dst (N := 2) rfl ?_); (try (refine gate_guard (by rfl) ?_; dsimp only)); refine bx 2 #[.int .i64 a0_0, .slice A0_1 l0_1.length c0_1] 40 ?_; intro gb220 hg w5 hbox hb; have BK220 := zA (hbox); have GW220 := gq HB hg; have GE220 := gq HB hg; replace HB := xH HB hb; have := geI GE220; clear hb hbox hg; have hcz6_0 := bc BK220 0; have hcz6_1 := bc BK220 1; have hfz6_0 := bf BK220 0; have hfz6_1 := bf BK220 1) | ((with_reducible refine gate_callee (f := 83) rfl ?_); refine gL (some 9) Try.func83 #[.agg #[.int .i64 a0_0, .slice A0_1 l0_1.length c0_1], .int .i64 a1, .int .i64 0] ?_; (with_reducible refine (spec_l04Code.calls k a0_0 _ _ l0_1 a1 0 t221 _ ?side1 ?side2 A3.out).mono ?_); (case side1 => exact uC ((Kd.C_below HR0_1.out HB.out))); (case side2 => exact HC0_1.out); rintro e w7 ⟨rfl, hb⟩; refine ⟨_, rfl, ?_⟩; replace BK220 := xB BK220 hb; replace HB := xH HB hb; (try clear hb); (try clear hb2); (try clear hk); (try clear hi)))
 (try simp only [Act.put, ls, lz, ln])
 go_cut [20] (fun v20 wc => ∃ (kq : Nat) (x20_3 : Bool), v20 = .bool x20_3 ∧ Aside0 (spec_NormOf.j0 kq a1 t221 x20_3 a0_0 l0_1 = some (r1, r2)) ∧ Aside0 (kq ≤ k) ∧ Aside0 (wc.heap[gb220]? = some (.cells #[.int .i64 a0_0, (.slice A0_1 l0_1.length c0_1)] 40 (0, 0))) ∧ Aside0 (Below w.heap.size w wc))
 case first =>
  have H := HC4.out
  clear HC4
  by_cases c8 : t221 = 0
  rotate_left
  ·rw [if_neg c8] at H
   have c8b0 : (t221 == 0) = false := beq_eq_false_iff_ne.mpr c8
   have c8b1 : (t221 != 0) = true := bne_iff_ne.mpr c8
   (first | rw [c8b0] | (simp only [i64_w, i32_w]; rw [c8b0]) | skip)
   have H' := zA H
   clear H
   go_wp2
   go_meet
   case rel => exact ⟨_, (false), (by first | rfl | (simp; done) | (simp [*]; done)), H', ⟨by first | omega | exact Nat.le_refl _⟩, ⟨uB BK220.out⟩, ⟨uH HB.out⟩⟩
  rw [if_pos c8] at H
  have c8b0 : (t221 == 0) = true := beq_iff_eq.mpr c8
  have c8b1 : (t221 != 0) = false := bne_eq_false_iff_eq.mpr c8
  clear c8
  (first | rw [c8b0] | (simp only [i64_w, i32_w]; rw [c8b0]) | skip)
  have H' := zA H
  clear H
  have hcz9_0 := bc BK220 0
  have hcz9_1 := bc BK220 1
  have hfz9_0 := bf BK220 0
  have hfz9_1 := bf BK220 1
  go_wp2
  go_meet
  case rel => exact ⟨_, (decide ((l0_1.length : Int) < (wrap64 ((wrap64 (2 * a1)) + 1)))), (by first | rfl | (simp; done) | (simp [*]; done)), H', ⟨by first | omega | exact Nat.le_refl _⟩, ⟨uB BK220.out⟩, ⟨uH HB.out⟩⟩
 case rest =>
  clear HC4
  (try clear p2);(try clear c3);(try clear p6);(try clear c8);(try clear c8b0);(try clear c8b1);(try clear hcz6_0);(try clear hcz6_1);(try clear hcz9_0);(try clear hcz9_1);(try clear hfz6_0);(try clear hfz6_1);(try clear hfz9_0);(try clear hfz9_1)
  obtain ⟨kq, x20_3, rfl, HA, HJ3, BK220, HB⟩ := hcut
  cases kq with
  | zero => exact absurd HA.out (by simp [spec_NormOf.j0])
  | succ kj3 =>
   have H := HA.out
   clear HA
   simp only [spec_NormOf.j0] at H
   have HC10 := zA H
   clear H
   go_upto_if 20 with (fail)
   go_cut [6] (fun v6 wc => ∃ (kq : Nat) (x6_9 : Int), v6 = .int .i64 x6_9 ∧ Aside0 (spec_NormOf.j1 kq a1 x6_9 a0_0 l0_1 = some (r1, r2)) ∧ Aside0 (kq ≤ kj3) ∧ Aside0 (wc.heap[gb220]? = some (.cells #[.int .i64 a0_0, (.slice A0_1 l0_1.length c0_1)] 40 (0, 0))) ∧ Aside0 (Below w.heap.size w wc))
   case first =>
    have H := HC10.out
    clear HC10
    by_cases c11 : x20_3 = true
    ·subst c11
     have H1 : (spec_NormOf.j1 kj3 a1 5 a0_0 l0_1) = some (r1, r2) := by rw [if_pos rfl] at H; exact H
     clear H
     have H := H1
     clear H1
     have H' := zA H
     clear H
     go_wp2
     go_meet
     case rel => exact ⟨_, (5), (by first | rfl | (simp; done) | (simp [*]; done)), H', ⟨by have := HJ3.out; first | omega | exact Nat.le_refl _⟩, ⟨uB BK220.out⟩, ⟨uH HB.out⟩⟩
    ·replace c11 := Bool.eq_false_iff.mpr c11
     subst c11
     have H1 : (spec_NormOf.j1 kj3 a1 t221 a0_0 l0_1) = some (r1, r2) := by rw [if_neg (show ¬ (false = true) by decide)] at H; exact H
     clear H
     have H := H1
     clear H1
     have H' := zA H
     clear H
     go_wp2
     go_meet
     case rel => exact ⟨_, (t221), (by first | rfl | (simp; done) | (simp [*]; done)), H', ⟨by have := HJ3.out; first | omega | exact Nat.le_refl _⟩, ⟨uB BK220.out⟩, ⟨uH HB.out⟩⟩
   case rest =>
    clear HC10
    (try clear c1);(try clear p2);(try clear c3);(try clear p6);(try clear c8);(try clear c8b0);(try clear c8b1);(try clear c11);(try clear hcz6_0);(try clear hcz6_1);(try clear hcz9_0);(try clear hcz9_1);(try clear hfz6_0);(try clear hfz6_1);(try clear hfz9_0);(try clear hfz9_1);(try clear p2);(try clear p6)
    obtain ⟨kq, x6_9, rfl, HA, HJ9, BK220, HB⟩ := hcut
    cases kq with
    | zero => exact absurd HA.out (by simp [spec_NormOf.j1])
    | succ kj9 =>
     have H := HA.out
     clear HA
     simp only [spec_NormOf.j1] at H
     by_cases c12 : x6_9 = 0
     rotate_left
     ·rw [if_neg c12] at H
      have c12b0 : (x6_9 == 0) = false := beq_eq_false_iff_ne.mpr c12
      have c12b1 : (x6_9 != 0) = true := bne_iff_ne.mpr c12
      simp only [Option.some.injEq, Prod.mk.injEq] at H
      obtain ⟨rfl, rfl⟩ := H
      go_wp2
      go_ret2
      exact ⟨by first | rfl | (simp [errW_none, errW_some] <;> rfl) | (simp [*, errW_none, errW_some] <;> rfl), uH HB.out⟩

     rw [if_pos c12] at H
     have c12b0 : (x6_9 == 0) = true := beq_iff_eq.mpr c12
     have c12b1 : (x6_9 != 0) = false := bne_eq_false_iff_eq.mpr c12
     clear c12
     replace H := Option.bind_eq_some_iff.mp H
     obtain ⟨t222, A130, H⟩ := H
     replace H : (if 0 ≤ a1 then (if a1 < (t222.length : Int) then ((spec_l04Norm.f kj9 a0_0 l0_1 (rd_L1 t222 a1) 0).bind fun t226 => (some (t226, 0))) else (none)) else (none)) = some (r1, r2) := H
     have A13 := zA A130
     clear A130
     by_cases c14 : 0 ≤ a1
     rotate_left
     ·rw [if_neg c14] at H
      exact absurd H (by simp)
     rw [if_pos c14] at H
     have c14b0 : decide (0 ≤ a1) = true := decide_eq_true c14
     clear c14
     by_cases c15 : a1 < (t222.length : Int)
     rotate_left
     ·rw [if_neg c15] at H
      exact absurd H (by simp)
     rw [if_pos c15] at H
     have c15b0 : decide (a1 < (t222.length : Int)) = true := decide_eq_true c15
     clear c15
     replace H := Option.bind_eq_some_iff.mp H
     obtain ⟨t226, A160, H⟩ := H
     replace H : (some (t226, 0)) = some (r1, r2) := H
     have A16 := zA A160
     clear A160
     simp only [Option.some.injEq, Prod.mk.injEq] at H
     obtain ⟨rfl, rfl⟩ := H
     try go_wp2
     replace BK220 := zA (blk_drew BK220.out)
     replace HB := zA (below_drew1 HB.out)
     refine start_ (n := 10) (S := fun w' => w'.cell? ⟨gb220, 0, none⟩ = some (.int .i64 a0_0) ∧ w'.cell? ⟨gb220, 1, none⟩ = some (.slice A0_1 l0_1.length c0_1)) (ds := []) #[false, false, false, false, false, false, false, false, false, false] (by kernel_rfl) rfl rfl ⟨bcu BK220 0, bcu BK220 1⟩ (fun hHeld => ?_); refine with_tabW spec_NormOf.tab6 spec_NormOf.bits6 (fun HT_ HW_ => ?_)
     generalize wc.drew = w17 at BK220 HB hHeld ⊢
     refine pu_ 2 26 (bl 10 4) HT_ ?_
     refine pu_ 4 28 (bl 10 20) HT_ ?_
     refine ta_ 0 24 (bl 10 21) HT_ HW_ hHeld ?_
     refine ta_ 1 25 (bl 10 23) HT_ HW_ hHeld ?_
     refine on_ 3 (some 27) (bl 10 31) HT_ (fun K hK => ?_)
     refine gS Try.func85 #[.agg #[.int .i64 a0_0, .slice A0_1 l0_1.length c0_1], .int .i64 a1] ?_
     with_reducible refine (spec_l04Polys.calls kj9 a0_0 _ _ l0_1 a1 t222 _ ?side1 ?side2 A13.out).mono ?_
     (case side1 => exact uC ((Kd.C_below HR0_1.out HB.out)))
     (case side2 => exact HC0_1.out)
     rintro e w18 ⟨v223, rfl, ho0, hb⟩
     refine ⟨_, rfl, ?_⟩
     have HO224 := zA (Kd.N_lower (Kd.N_mono (ok' := fun k_ => k_ ≠ gb220) ho0 (fun k_ hk_ => (Kd.freshB (g := gb220) (o := .cells #[.int .i64 a0_0, .slice A0_1 l0_1.length c0_1] 40 (0, 0)) (uB BK220.out) k_ hk_))) (below_size (uH HB.out)))
     replace BK220 := xB BK220 hb
     replace HB := xH HB hb
     (try clear hb); (try clear hb2); (try clear hk); (try clear hi); (try clear ho0)
     obtain ⟨Ao19, co19, eo19⟩ := Kd.N_slice HO224.out
     (first | subst eo19 | (injection eo19 with f1_ f2_ f3_; have f4_ := f1_.symm; have f5_ := f3_.symm; clear f1_ f2_ f3_; subst f4_; subst f5_))
     have p225 : 0 ≤ (a1 : Int) := of_decide_eq_true (by first | (with_reducible assumption) | assumption)
     have q225 : a1 < (t222.length : Int) := of_decide_eq_true (by first | (with_reducible assumption) | assumption)
     obtain ⟨ad225, A225_0, c225_0, e225, hx225_0, hl225_0, hi225_0⟩ := at_L1 (Kd.N_reads' HO224.out).2.2 a1 p225 q225
     cases e225
     obtain ⟨ce225, hce225, hMe225, hcc225⟩ := Kd.N_get HO224.out [] a1 p225 (by first | exact q225 | exact of_decide_eq_true (by first | (with_reducible assumption) | assumption) | (have e_ := (Kd.N_reads' HO224.out).1; omega))
     obtain ⟨ua225_0, uc225_0, rfl, ul225_0, ge225_0⟩ := Kd.FK_slice_open hMe225
     have hv225_0 := hcc225 0 _ rfl
     rw [Nat.add_zero, show ((Kd.slice 2 (Kd.int .i64))).sz = 1 from rfl, Nat.mul_one] at hv225_0
     replace hv225_0 := Option.some.inj (hv225_0.symm.trans hx225_0)
     injection hv225_0 with hva_ hvn_ hvc_
     rw [hva_] at ge225_0
     rw [hvc_] at ul225_0
     have HL225_0 := zA (show Kd.V (Kd.int .i64) 2 _ w.heap.size _ _ (rd_L1 t222 a1) from Kd.V_mk ul225_0 ge225_0)
     clear hva_ hvn_ hvc_ ge225_0 ul225_0
     clear hcc225 hce225
     have HR225_0 := zA hi225_0
     have HC225_0 := zA hl225_0
     clear hi225_0 hl225_0
     replace p225 := eq_true p225
     replace q225 := eq_true q225
     refine hK.out _ _ ⟨bcu BK220 0, bcu BK220 1⟩ (fun hHeld => ?_)
     clear hK K
     refine no_ 27 ?_
     refine pu_ 5 29 (bl 10 63) HT_ ?_
     refine lo_ 6 30 (bl 10 127) HT_ hHeld ?_
     refine on_ 7 (some 31) (bl 10 255) HT_ (fun K hK => ?_)
     refine gS Try.func84 #[.agg #[.int .i64 a0_0, .slice A0_1 l0_1.length c0_1], .slice A225_0 (rd_L1 t222 a1).length c225_0, .int .i64 0] ?_
     with_reducible refine (spec_l04Norm.calls kj9 a0_0 _ _ l0_1 _ _ (rd_L1 t222 a1) 0 t226 _ ?side1 ?side2 ?side3 ?side4 A16.out).mono ?_
     (case side1 => exact uC ((Kd.C_below HR0_1.out HB.out)))
     (case side2 => exact HC0_1.out)
     (case side3 => repeat (first | exact (by repeat (first | (with_reducible exact HR225_0.out) | (with_reducible refine Kd.C_alloc ?_ _) | (with_reducible refine Kd.C_drewN ?_ _) | (with_reducible refine Kd.C_drew ?_) | exact HR225_0.out)) | (with_reducible refine Kd.C_alloc ?_ _) | (with_reducible refine Kd.C_drewN ?_ _) | (with_reducible refine Kd.C_drew ?_)))
     (case side4 => exact HC225_0.out)
     rintro e w20 ⟨rfl, hb⟩
     refine ⟨_, rfl, ?_⟩
     replace HO224 := zA (Kd.N_below (by (with_reducible repeat (first | apply Kd.N_alloc | apply Kd.N_drewN | apply Kd.N_drew)); exact HO224.out) hb)
     replace HL225_0 := zA (Kd.V_below (by (with_reducible repeat (first | apply Kd.V_alloc | apply Kd.V_drewN | apply Kd.V_drew)); exact HL225_0.out) hb)
     replace BK220 := xB BK220 hb
     replace HR225_0 := zA (Kd.C_below (by repeat (first | (with_reducible exact HR225_0.out) | (with_reducible refine Kd.C_alloc ?_ _) | (with_reducible refine Kd.C_drewN ?_ _) | (with_reducible refine Kd.C_drew ?_) | exact HR225_0.out)) hb)
     replace HB := xH HB hb
     (try clear hb); (try clear hb2); (try clear hk); (try clear hi)
     refine hK.out _ _ ⟨bcu BK220 0, bcu BK220 1⟩ (fun hHeld => ?_)
     clear hK K
     refine no_ 31 ?_
     refine pu_ 8 4 (bl 10 511) HT_ ?_
     refine pu_ 9 5 (bl 10 1023) HT_ ?_
     refine done_ (done_of HT_.out (by kernel_rfl)) ?_
     try go_wp2
     go_ret2
     exact ⟨by first | rfl | (simp [errW_none, errW_some] <;> rfl) | (simp [*, errW_none, errW_some] <;> rfl), uH HB.out⟩
/-! ### laws_FnExactNormOf: function 6 -/
def laws_FnExactNormOf.j0 : Nat → Bool → Int → List Int → Int → List Int → Option (Bool)
 | 0, _, _, _, _, _ => none
 | k + 1, x38, x437000, x437001, x449000, x449001 => if x38 = true then (some false) else ((laws_toMoments.f k x437000 x437001).bind fun bt451 => ((laws_eqMoments.f k x449000 x449001 bt451.1 bt451.2).bind fun t455 => (if t455 = true then (some true) else (some false))))
def laws_FnExactNormOf.f (k : Nat) (a0_0 : Int) (l0_1 : List Int) (a1 : Int) : Option (Bool) := (laws_szMoments.f a0_0 l0_1 1048576).bind fun t437 => (if t437 < 0 then (some true) else ((laws_toMoments.f k a0_0 l0_1).bind fun bt438 => ((spec_NormOf.f k bt438.1 bt438.2 a1).bind fun bt442 => ((laws_toMoments.f k a0_0 l0_1).bind fun bt444 => ((impl_NormOf.f k bt444.1 bt444.2 a1).bind fun bt449 => (if bt449.1 = bt442.1 then (laws_FnExactNormOf.j0 k (bt449.2 != bt442.2) a0_0 l0_1 bt444.1 bt444.2) else (laws_FnExactNormOf.j0 k true a0_0 l0_1 bt444.1 bt444.2)))))))
set_option maxHeartbeats 8000000 in
set_option maxRecDepth 100000 in
theorem laws_FnExactNormOf.calls (k : Nat) (a0_0 : Int) (A0_1 : Option Addr) (c0_1 : Nat) (l0_1 : List Int) (a1 : Int) (r : Bool) (hr_ : r = true) (w : World) (hr0_1 : Kd.C (Kd.int .i64) w A0_1 l0_1.length l0_1) (hc0_1 : l0_1.length ≤ c0_1) (h : laws_FnExactNormOf.f k a0_0 l0_1 a1 = some r) :
  Calls Try.prog 6 #[.agg #[.int .i64 a0_0, .slice A0_1 l0_1.length c0_1], .int .i64 a1] w fun e w' => e = .returned (.bool r) ∧ Below w.heap.size w w' := by
 have hu34 := Try.underlying34
 have hu40 := Try.underlying40
 have HRT := zA hr_
 clear hr_
 have HR0_1 := zA hr0_1
 have HC0_1 := zA hc0_1
 clear hr0_1 hc0_1
 have HB := zA (Below.refl w.heap.size w)
 have H : ((laws_szMoments.f a0_0 l0_1 1048576).bind fun t437 => (if t437 < 0 then (some true) else ((laws_toMoments.f k a0_0 l0_1).bind fun bt438 => ((spec_NormOf.f k bt438.1 bt438.2 a1).bind fun bt442 => ((laws_toMoments.f k a0_0 l0_1).bind fun bt444 => ((impl_NormOf.f k bt444.1 bt444.2 a1).bind fun bt449 => (if bt449.1 = bt442.1 then (laws_FnExactNormOf.j0 k (bt449.2 != bt442.2) a0_0 l0_1 bt444.1 bt444.2) else (laws_FnExactNormOf.j0 k true a0_0 l0_1 bt444.1 bt444.2)))))))) = some r := h
 clear h
 replace H := Option.bind_eq_some_iff.mp H
 obtain ⟨t437, A30, H⟩ := H
 replace H : (if t437 < 0 then (some true) else ((laws_toMoments.f k a0_0 l0_1).bind fun bt438 => ((spec_NormOf.f k bt438.1 bt438.2 a1).bind fun bt442 => ((laws_toMoments.f k a0_0 l0_1).bind fun bt444 => ((impl_NormOf.f k bt444.1 bt444.2 a1).bind fun bt449 => (if bt449.1 = bt442.1 then (laws_FnExactNormOf.j0 k (bt449.2 != bt442.2) a0_0 l0_1 bt444.1 bt444.2) else (laws_FnExactNormOf.j0 k true a0_0 l0_1 bt444.1 bt444.2))))))) = some r := H
 have A3 := zA A30
 clear A30
 by_cases c4 : t437 < 0
 rotate_left
 ·rw [if_neg c4] at H
  have c4b0 : decide (t437 < 0) = false := decide_eq_false c4
  clear c4
  replace H := Option.bind_eq_some_iff.mp H
  obtain ⟨⟨t438, t439⟩, A80, H⟩ := H
  replace H : ((spec_NormOf.f k t438 t439 a1).bind fun bt442 => ((laws_toMoments.f k a0_0 l0_1).bind fun bt444 => ((impl_NormOf.f k bt444.1 bt444.2 a1).bind fun bt449 => (if bt449.1 = bt442.1 then (laws_FnExactNormOf.j0 k (bt449.2 != bt442.2) a0_0 l0_1 bt444.1 bt444.2) else (laws_FnExactNormOf.j0 k true a0_0 l0_1 bt444.1 bt444.2))))) = some r := H
  have A8 := zA A80
  clear A80
  replace H := Option.bind_eq_some_iff.mp H
  obtain ⟨⟨t442, t443⟩, A90, H⟩ := H
  replace H : ((laws_toMoments.f k a0_0 l0_1).bind fun bt444 => ((impl_NormOf.f k bt444.1 bt444.2 a1).bind fun bt449 => (if bt449.1 = t442 then (laws_FnExactNormOf.j0 k (bt449.2 != t443) a0_0 l0_1 bt444.1 bt444.2) else (laws_FnExactNormOf.j0 k true a0_0 l0_1 bt444.1 bt444.2)))) = some r := H
  have A9 := zA A90
  clear A90
  replace H := Option.bind_eq_some_iff.mp H
  obtain ⟨⟨t444, t445⟩, A100, H⟩ := H
  replace H : ((impl_NormOf.f k t444 t445 a1).bind fun bt449 => (if bt449.1 = t442 then (laws_FnExactNormOf.j0 k (bt449.2 != t443) a0_0 l0_1 t444 t445) else (laws_FnExactNormOf.j0 k true a0_0 l0_1 t444 t445))) = some r := H
  have A10 := zA A100
  clear A100
  replace H := Option.bind_eq_some_iff.mp H
  obtain ⟨⟨t449, t450⟩, A110, H⟩ := H
  replace H : (if t449 = t442 then (laws_FnExactNormOf.j0 k (t450 != t443) a0_0 l0_1 t444 t445) else (laws_FnExactNormOf.j0 k true a0_0 l0_1 t444 t445)) = some r := H
  have A11 := zA A110
  clear A110
  have HC12 := zA H
  clear H
  go_enter Try.func6, Try.ntmps6
  go_upto_region 8 with (first | ((with_reducible refine gate_dst (N := 2) rfl ?_); refine bx 2 #[.int .i64 a0_0, .slice A0_1 l0_1.length c0_1] 34 ?_; intro gb436 hg w13 hbox hb; have BK436 := zA (hbox); have GW436 := gq HB hg; have GE436 := gq HB hg; replace HB := xH HB hb; have := geI GE436; clear hb hbox hg; have hcz14_0 := bc BK436 0; have hcz14_1 := bc BK436 1; have hfz14_0 := bf BK436 0; have hfz14_1 := bf BK436 1) | ((with_reducible refine gate_callee (f := 22) rfl ?_); refine gL (some 13) Try.func22 #[.agg #[.int .i64 a0_0, .slice A0_1 l0_1.length c0_1], .int .i64 1048576] ?_; (with_reducible refine (laws_szMoments.calls a0_0 _ _ l0_1 1048576 t437 _ ?side1 ?side2 A3.out).mono ?_); (case side1 => exact uC ((Kd.C_below HR0_1.out HB.out))); (case side2 => exact HC0_1.out); rintro e w15 ⟨rfl, hb⟩; refine ⟨_, rfl, ?_⟩; replace BK436 := xB BK436 hb; replace HB := xH HB hb; (try clear hb); (try clear hb2); (try clear hk); (try clear hi); have hcz16_0 := bc BK436 0; have hcz16_1 := bc BK436 1; have hfz16_0 := bf BK436 0; have hfz16_1 := bf BK436 1) | ((with_reducible refine gate_callee (f := 24) rfl ?_); refine gL (some 18) Try.func24 #[.agg #[.int .i64 a0_0, .slice A0_1 l0_1.length c0_1]] ?_; (with_reducible refine (laws_toMoments.calls k a0_0 _ _ l0_1 t438 t439 _ ?side1 ?side2 A8.out).mono ?_); (case side1 => exact uC ((Kd.C_below HR0_1.out HB.out))); (case side2 => exact HC0_1.out); rintro e w17 ⟨v440, rfl, ho0, hb⟩; refine ⟨_, rfl, ?_⟩; have HO441 := zA (Kd.R_lower ho0 (below_size (uH HB.out))); replace BK436 := xB BK436 hb; replace HB := xH HB hb; (try clear hb); (try clear hb2); (try clear hk); (try clear hi); (try clear ho0); obtain ⟨Ao18, co18, eo18⟩ := Kd.R_slice HO441.out; subst eo18) | ((with_reducible refine gate_callee (f := 36) rfl ?_); refine gL (some 20) Try.func36 #[.agg #[.int .i64 t438, .slice Ao18 t439.length co18], .int .i64 a1] ?_; (with_reducible refine (spec_NormOf.calls k t438 _ _ t439 a1 t442 t443 _ ?side1 ?side2 A9.out).mono ?_); (case side1 => exact uC ((Kd.R_reads' HO441.out).2.2)); (case side2 => exact (Kd.R_reads' HO441.out).2.1); rintro e w19 ⟨rfl, hb⟩; refine ⟨_, rfl, ?_⟩; replace HO441 := xR HO441 hb; replace BK436 := xB BK436 hb; replace HB := xH HB hb; (try clear hb); (try clear hb2); (try clear hk); (try clear hi); have hcz20_0 := bc BK436 0; have hcz20_1 := bc BK436 1; have hfz20_0 := bf BK436 0; have hfz20_1 := bf BK436 1) | ((with_reducible refine gate_callee (f := 24) rfl ?_); refine gL (some 24) Try.func24 #[.agg #[.int .i64 a0_0, .slice A0_1 l0_1.length c0_1]] ?_; (with_reducible refine (laws_toMoments.calls k a0_0 _ _ l0_1 t444 t445 _ ?side1 ?side2 A10.out).mono ?_); (case side1 => exact uC ((Kd.C_below HR0_1.out HB.out))); (case side2 => exact HC0_1.out); rintro e w21 ⟨v446, rfl, ho0, hb⟩; refine ⟨_, rfl, ?_⟩; have HO447 := zA (Kd.R_lower (Kd.R_new' ho0 (Kd.R_lt (uR HO441.out))) (below_size (uH HB.out))); replace HO441 := zA (Kd.R_elder' (uR HO441.out) (Kd.R_base ho0) hb); replace BK436 := xB BK436 hb; replace HB := xH HB hb; (try clear hb); (try clear hb2); (try clear hk); (try clear hi); (try clear ho0)) | ((with_reducible refine gate_dst (N := 8) rfl ?_); refine bx 8 #[.int .i64 0, .slice none 0 0] 40 ?_; intro gb448 hg w22 hbox hb; replace HO441 := xR HO441 hb; replace HO447 := xR HO447 hb; have BK448 := zA (hbox); have GW448 := gq HB hg; have GE448 := gq HB hg; replace HB := xH HB hb; have NB436_448 := zA ((by rw [hg]; exact neL BK436 : gb436 ≠ gb448)); have NB448_436 := zA ((by rw [hg]; exact neG BK436 : gb448 ≠ gb436)); replace BK436 := xB BK436 hb; have := geI GE448; clear hb hbox hg; have hnb23 := NB448_436.out; have hnc23 := NB436_448.out; have hcz24_0 := bc BK448 0; have hcz24_1 := bc BK448 1; have hfz24_0 := bf BK448 0; have hfz24_1 := bf BK448 1; obtain ⟨Ao25, co25, eo25⟩ := Kd.R_slice HO447.out; subst eo25) | ((with_reducible refine gate_callee (f := 37) rfl ?_); refine gL (some 28) Try.func37 #[.agg #[.int .i64 t444, .slice Ao25 t445.length co25], .int .i64 a1] ?_; (with_reducible refine (impl_NormOf.calls k t444 _ _ t445 a1 t449 t450 _ ?side1 ?side2 A11.out).mono ?_); (case side1 => refine (Kd.R_reads' (e := 2) (base := w.heap.size) (ok := fun k_ => (True ∧ ax k_ (.slice Ao18 t439.length co18))) (n := t445.length) (c := co25) ?_).2.2; exact (uR ((rf2 HO447 BK448 (by decide) (.int .i64 t444) (.slice Ao25 t445.length co25))))); (case side2 => exact (Kd.R_reads' HO447.out).2.1); rintro e w26 ⟨rfl, hb⟩; refine ⟨_, rfl, ?_⟩; replace HO441 := zA (Kd.R_below (uR ((rf2 HO441 BK448 (by decide) (.int .i64 t444) (.slice Ao25 t445.length co25)))) hb); replace HO447 := zA (Kd.R_below (uR ((rf2 HO447 BK448 (by decide) (.int .i64 t444) (.slice Ao25 t445.length co25)))) hb); replace BK436 := zA (blk_below (g := gb436) (o := .cells #[.int .i64 a0_0, .slice A0_1 l0_1.length c0_1] 34 (0, 0)) (by (repeat refine up1 ?_); refine blk_far ?_ NB436_448.out _; (repeat refine up1 ?_); refine blk_far ?_ NB436_448.out _; (repeat refine up1 ?_); exact BK436.out) hb); replace BK448 := zA (blk_below (g := gb448) (o := .cells #[.int .i64 t444, .slice Ao25 t445.length co25] 40 (0, 0)) (by (repeat refine up1 ?_); refine blk_put (cs := #[.int .i64 t444, .slice none 0 0]) ?_ 1 _ rfl; (repeat refine up1 ?_); refine blk_put (cs := #[.int .i64 0, .slice none 0 0]) ?_ 0 _ rfl; (repeat refine up1 ?_); exact BK448.out) hb); replace HB := xH HB hb; (try clear hb); (try clear hb2); (try clear hk); (try clear hi)))
  (try simp only [Act.put, ls, lz, ln])
  go_cut [38] (fun v38 wc => ∃ (kq : Nat) (x38_11 : Bool), v38 = .bool x38_11 ∧ Aside0 (laws_FnExactNormOf.j0 kq x38_11 a0_0 l0_1 t444 t445 = some r) ∧ Aside0 (kq ≤ k) ∧ Aside0 (Kd.R (Kd.int .i64) 2 wc w.heap.size (fun _ => True) (.slice Ao25 t445.length co25) t445) ∧ Aside0 (wc.heap[gb436]? = some (.cells #[.int .i64 a0_0, (.slice A0_1 l0_1.length c0_1)] 34 (0, 0))) ∧ Aside0 (wc.heap[gb448]? = some (.cells #[.int .i64 t444, (.slice Ao25 t445.length co25)] 40 (0, 0))) ∧ Aside0 (Below w.heap.size w wc))
  case first =>
   have H := HC12.out
   clear HC12
   by_cases c27 : t449 = t442
   rotate_left
   ·rw [if_neg c27] at H
    have c27b0 : (t449 == t442) = false := beq_eq_false_iff_ne.mpr c27
    have c27b1 : (t449 != t442) = true := bne_iff_ne.mpr c27
    (first | rw [c27b0] | (simp only [i64_w, i32_w]; rw [c27b0]) | skip)
    have H' := zA H
    clear H
    go_wp2
    go_meet
    case rel => exact ⟨_, (true), (by first | rfl | (simp; done) | (simp [*]; done)), H', ⟨by first | omega | exact Nat.le_refl _⟩, ⟨uR (Kd.R_mono HO447.out (fun _ hk => trivial))⟩, ⟨uB BK436.out⟩, ⟨uB BK448.out⟩, ⟨uH HB.out⟩⟩
   rw [if_pos c27] at H
   have c27b0 : (t449 == t442) = true := beq_iff_eq.mpr c27
   have c27b1 : (t449 != t442) = false := bne_eq_false_iff_eq.mpr c27
   clear c27
   (first | rw [c27b0] | (simp only [i64_w, i32_w]; rw [c27b0]) | skip)
   have H' := zA H
   clear H
   go_wp2
   go_meet
   case rel => exact ⟨_, ((t450 != t443)), (by first | rfl | (simp; done) | (simp [*]; done)), H', ⟨by first | omega | exact Nat.le_refl _⟩, ⟨uR (Kd.R_mono HO447.out (fun _ hk => trivial))⟩, ⟨uB BK436.out⟩, ⟨uB BK448.out⟩, ⟨uH HB.out⟩⟩
  case rest =>
   clear HC12
   (try clear c2);(try clear p2);(try clear c3);(try clear c4);(try clear c4b0);(try clear c6);(try clear c22);(try clear c23);(try clear c24);(try clear c27);(try clear c27b0);(try clear c27b1);(try clear hcz14_0);(try clear hcz14_1);(try clear hcz16_0);(try clear hcz16_1);(try clear hcz20_0);(try clear hcz20_1);(try clear hcz24_0);(try clear hcz24_1);(try clear hcz6_0);(try clear hcz6_1);(try clear hfz14_0)
   (try clear hfz14_1);(try clear hfz16_0);(try clear hfz16_1);(try clear hfz20_0);(try clear hfz20_1);(try clear hfz24_0);(try clear hfz24_1);(try clear hfz6_0);(try clear hfz6_1)
   obtain ⟨kq, x38_11, rfl, HA, HJ11, HO_449001, BK436, BK448, HB⟩ := hcut
   cases kq with
   | zero => exact absurd HA.out (by simp [laws_FnExactNormOf.j0])
   | succ kj11 =>
    have H := HA.out
    clear HA
    simp only [laws_FnExactNormOf.j0] at H
    by_cases c28 : x38_11 = true
    ·subst c28
     have H1 : (some false) = some r := by rw [if_pos rfl] at H; exact H
     clear H
     have H := H1
     clear H1
     rw [HRT.out] at H
     exact absurd H (by simp)
    ·replace c28 := Bool.eq_false_iff.mpr c28
     subst c28
     have H1 : ((laws_toMoments.f kj11 a0_0 l0_1).bind fun bt451 => ((laws_eqMoments.f kj11 t444 t445 bt451.1 bt451.2).bind fun t455 => (if t455 = true then (some true) else (some false)))) = some r := by rw [if_neg (show ¬ (false = true) by decide)] at H; exact H
     clear H
     have H := H1
     clear H1
     replace H := Option.bind_eq_some_iff.mp H
     obtain ⟨⟨t451, t452⟩, A290, H⟩ := H
     replace H : ((laws_eqMoments.f kj11 t444 t445 t451 t452).bind fun t455 => (if t455 = true then (some true) else (some false))) = some r := H
     have A29 := zA A290
     clear A290
     replace H := Option.bind_eq_some_iff.mp H
     obtain ⟨t455, A300, H⟩ := H
     replace H : (if t455 = true then (some true) else (some false)) = some r := H
     have A30 := zA A300
     clear A300
     by_cases c31 : t455 = true
     ·subst c31
      have H1 : (some true) = some r := by rw [if_pos rfl] at H; exact H
      clear H
      have H := H1
      clear H1
      obtain rfl := Option.some.inj H
      try go_wp2
      replace HO_449001 := zA (Kd.R_drew HO_449001.out)
      replace BK436 := zA (blk_drew BK436.out)
      replace BK448 := zA (blk_drew BK448.out)
      replace HB := zA (below_drew1 HB.out)
      refine start_ (n := 5) (S := fun w' => w'.cell? ⟨gb448, 0, none⟩ = some (.int .i64 t444) ∧ w'.cell? ⟨gb448, 1, none⟩ = some (.slice Ao25 t445.length co25) ∧ w'.cell? ⟨gb436, 0, none⟩ = some (.int .i64 a0_0) ∧ w'.cell? ⟨gb436, 1, none⟩ = some (.slice A0_1 l0_1.length c0_1)) (ds := []) #[false, false, false, false, false] (by kernel_rfl) rfl rfl ⟨bcu BK448 0, bcu BK448 1, bcu BK436 0, bcu BK436 1⟩ (fun hHeld => ?_)
      generalize wc.drew = w32 at HO_449001 BK436 BK448 HB hHeld ⊢
      refine take_ (i := 0) (N := some 39) (v := ?_) (a' := ?_) (bl 5 1) rfl rfl (by kernel_rfl) (fun _ _ _ h => h) (Or.inl ⟨by rfl, ?_⟩) hHeld ?_ ?_
      rotate_left
      ·rintro w' ⟨s0, s1, s2, s3⟩
       go_simp
       with_reducible rfl
      rotate_left
      ·simp only [Act.put, ls, lz, ln, i64_w, i32_w]
       rfl
      refine take_ (i := 1) (N := some 40) (v := ?_) (a' := ?_) (bl 5 3) rfl rfl (by kernel_rfl) (fun _ _ _ h => h) (Or.inl ⟨by rfl, ?_⟩) hHeld ?_ ?_
      rotate_left
      ·rintro w' ⟨s0, s1, s2, s3⟩
       go_simp
       with_reducible rfl
      rotate_left
      ·simp only [Act.put, ls, lz, ln, i64_w, i32_w]
       rfl
      refine one_ (i := 2) (N := some 41) (bl 5 7) rfl rfl (by kernel_rfl) (by decide) (fun K hK => ?_)
      refine gS Try.func24 #[.agg #[.int .i64 a0_0, .slice A0_1 l0_1.length c0_1]] ?_
      with_reducible refine (laws_toMoments.calls kj11 a0_0 _ _ l0_1 t451 t452 _ ?side1 ?side2 A29.out).mono ?_
      (case side1 => exact uC ((Kd.C_below HR0_1.out HB.out)))
      (case side2 => exact HC0_1.out)
      rintro e w33 ⟨v453, rfl, ho0, hb⟩
      refine ⟨_, rfl, ?_⟩
      have HO454 := zA (Kd.R_lower (Kd.R_new' ho0 (Kd.R_lt (uR HO_449001.out))) (below_size (uH HB.out)))
      replace HO_449001 := zA (Kd.R_elder' (uR HO_449001.out) (Kd.R_base ho0) hb)
      replace BK436 := xB BK436 hb
      replace BK448 := xB BK448 hb
      replace HB := xH HB hb
      (try clear hb); (try clear hb2); (try clear hk); (try clear hi); (try clear ho0)
      obtain ⟨Ao34, co34, eo34⟩ := Kd.R_slice HO454.out
      (first | subst eo34 | (injection eo34 with f1_ f2_ f3_; have f4_ := f1_.symm; have f5_ := f3_.symm; clear f1_ f2_ f3_; subst f4_; subst f5_))
      refine hK.out _ _ ⟨bcu BK448 0, bcu BK448 1, bcu BK436 0, bcu BK436 1⟩ (fun hHeld => ?_)
      clear hK K
      refine no_ 41 ?_
      refine one_ (i := 3) (N := some 42) (bl 5 15) rfl rfl (by kernel_rfl) (by decide) (fun K hK => ?_)
      refine gS Try.func28 #[.agg #[.int .i64 t444, .slice Ao25 t445.length co25], .agg #[.int .i64 t451, .slice Ao34 t452.length co34]] ?_
      with_reducible refine (laws_eqMoments.calls kj11 t444 _ _ t445 t451 _ _ t452 true _ ?side1 ?side2 ?side3 ?side4 A30.out).mono ?_
      (case side1 => exact uC ((Kd.R_reads' HO_449001.out).2.2))
      (case side2 => exact (Kd.R_reads' HO_449001.out).2.1)
      (case side3 => exact uC ((Kd.R_reads' HO454.out).2.2))
      (case side4 => exact (Kd.R_reads' HO454.out).2.1)
      rintro e w35 ⟨rfl, hb⟩
      refine ⟨_, rfl, ?_⟩
      replace HO_449001 := xR HO_449001 hb
      replace HO454 := xR HO454 hb
      replace BK436 := xB BK436 hb
      replace BK448 := xB BK448 hb
      replace HB := xH HB hb
      (try clear hb); (try clear hb2); (try clear hk); (try clear hi)
      refine hK.out _ _ ⟨bcu BK448 0, bcu BK448 1, bcu BK436 0, bcu BK436 1⟩ (fun hHeld => ?_)
      clear hK K
      refine no_ 42 ?_
      refine pure_ (i := 4) (N := some 43) (v := ?_) (a' := ?_) (bl 5 31) rfl rfl (by kernel_rfl) (fun _ _ _ h => h) (Or.inl ⟨by rfl, ?_⟩) ?_ ?_
      rotate_left
      ·intro w'
       go_simp
       with_reducible rfl
      rotate_left
      ·simp only [Act.put, ls, lz, ln, i64_w, i32_w]
       rfl
      refine done_ (by kernel_rfl) ?_
      try go_wp2
      go_ret
      exact ⟨by first | rfl | (simp [errW_none, errW_some] <;> rfl) | (simp [*, errW_none, errW_some] <;> rfl), uH HB.out⟩
     ·replace c31 := Bool.eq_false_iff.mpr c31
      subst c31
      have H1 : (some false) = some r := by rw [if_neg (show ¬ (false = true) by decide)] at H; exact H
      clear H
      have H := H1
      clear H1
      rw [HRT.out] at H
      exact absurd H (by simp)

 rw [if_pos c4] at H
 have c4b0 : decide (t437 < 0) = true := decide_eq_true c4
 clear c4
 obtain rfl := Option.some.inj H
 go_enter Try.func6, Try.ntmps6
 go_wp2_with (first | ((with_reducible refine gate_dst (N := 2) rfl ?_); refine bx 2 #[.int .i64 a0_0, .slice A0_1 l0_1.length c0_1] 34 ?_; intro gb436 hg w5 hbox hb; have BK436 := zA (hbox); have GW436 := gq HB hg; have GE436 := gq HB hg; replace HB := xH HB hb; have := geI GE436; clear hb hbox hg; have hcz6_0 := bc BK436 0; have hcz6_1 := bc BK436 1; have hfz6_0 := bf BK436 0; have hfz6_1 := bf BK436 1) | ((with_reducible refine gate_callee (f := 22) rfl ?_); refine gL (some 13) Try.func22 #[.agg #[.int .i64 a0_0, .slice A0_1 l0_1.length c0_1], .int .i64 1048576] ?_; (with_reducible refine (laws_szMoments.calls a0_0 _ _ l0_1 1048576 t437 _ ?side1 ?side2 A3.out).mono ?_); (case side1 => exact uC ((Kd.C_below HR0_1.out HB.out))); (case side2 => exact HC0_1.out); rintro e w7 ⟨rfl, hb⟩; refine ⟨_, rfl, ?_⟩; replace BK436 := xB BK436 hb; replace HB := xH HB hb; (try clear hb); (try clear hb2); (try clear hk); (try clear hi)))
 go_ret
 exact ⟨by first | rfl | (simp [errW_none, errW_some] <;> rfl) | (simp [*, errW_none, errW_some] <;> rfl), uH HB.out⟩
/-- THE ONE PURE STATEMENT of laws_FnExactNormOf: yours. -/
def laws_FnExactNormOf.Pure : Prop := ∀ (a0_0 : Int) (l0_1 : List Int) (a1 : Int), (Lit.int .i64 a0_0).wf = true → l0_1.length ≤ maxLen → (∀ x ∈ l0_1, (Lit.int .i64 x).wf = true) → (Lit.int .i64 a1).wf = true → ∃ k, laws_FnExactNormOf.f k a0_0 l0_1 a1 = some true
theorem laws_FnExactNormOf.walk (P : laws_FnExactNormOf.Pure) (a0_0 : Int) (a0_1 : Option Addr) (len0_1 cap0_1 : Nat) (z0_1 : List Int) (a1 : Int) (w : World) (w0_0 : (Lit.int .i64 a0_0).wf = true) (w0_1 : (a0_1 = none ∧ len0_1 = 0 ∧ cap0_1 = 0 ∧ z0_1 = []) ∨ ∃ x, a0_1 = some x ∧ len0_1 ≤ cap0_1 ∧ cap0_1 ≤ maxLen ∧ z0_1.length = cap0_1 ∧ (∀ i, i < z0_1.length → w.cell? (x.add i) = some (.int .i64 (z0_1.getD i 0))) ∧ ∀ n ∈ z0_1, (Lit.int .i64 n).wf = true) (w1 : (Lit.int .i64 a1).wf = true) :
  Calls Try.prog 6 #[.agg #[.int .i64 a0_0, .slice a0_1 len0_1 cap0_1], .int .i64 a1] w fun e w' => e = .returned (.bool true) ∧ Below w.heap.size w w' := by
 obtain ⟨l0_1, rfl, hr0_1, hm0_1, hw0_1, hc0_1⟩ := ReadsInt.ofRowC w0_1
 obtain ⟨k, h⟩ := P a0_0 l0_1 a1 w0_0 hm0_1 hw0_1 w1
 refine (laws_FnExactNormOf.calls k a0_0 _ _ l0_1 a1 true rfl w (Kd.C_of_reads (d := (0 : Int)) (h1 := fun _ => rfl) hr0_1) hc0_1 h).mono ?_
 rintro e w' ⟨rfl, hd⟩
 exact ⟨rfl, hd⟩
/- NormOf: for all arguments the program and the reference come to one value; no condition. -/
theorem NormOf_both (p : Int) (l : List Int) (a : Int) (hl : Sm l.length) : ∃ v : Int × Int, Ev (fun k => spec_NormOf.f k p l a) v ∧ Ev (fun k => impl_NormOf.f k p l a) v := by
  have hc := momentsCode_ev p l hl (decide (0 ≤ a ∧ a ≤ 12)) [] (by simp [Sm]) (fun l h => by cases h)
  have hs := specCode04_ev p l hl a 0
  have h1 : impl_NormOf_1.f a = some (decide (0 ≤ a ∧ a ≤ 12)) := by
    unfold impl_NormOf_1.f
    rw [order12]; rfl
  have bad : ∀ c : Int, c ≠ 0 → Ev (fun k => spec_l04Code.f k p l a ((0 : Nat) : Int)) c → Ev (fun k => spec_NormOf.f k p l a) (0, c) := fun c hc0 hcode => by
    unfold spec_NormOf.f
    refine Ev.bind hcode (Ev.neg hc0 (Ev.step (fun k => by rw [spec_NormOf.j0]) ?_))
    refine Ev.neg (by decide) (Ev.step (fun k => by rw [spec_NormOf.j1]) ?_)
    exact Ev.neg hc0 (Ev.now _)
  by_cases h : momB p l = true
  · rw [h] at hc
    rw [if_pos h] at hs
    by_cases ha : 0 ≤ a ∧ a ≤ 12
    · rw [decide_eq_true ha] at hc h1
      rw [if_pos (by exact ha)] at hs
      have hp := momB.pm h
      have nl := momB.nm h
      have hlen := momB.len h
      obtain ⟨k, rfl⟩ := Int.eq_ofNat_of_zero_le ha.1
      have hu := implUpTo_ev hp nl hlen.2 hlen.1 k (by omega)
      have e1 : wrap64 (2 * (k : Int)) = 2 * (k : Int) := wrap_id (by omega) (by omega)
      have e2 : wrap64 (2 * (k : Int) + 1) = 2 * (k : Int) + 1 := wrap_id (by omega) (by omega)
      by_cases c : (k : Int) ≤ ordV p l ∧ 2 * k ≤ l.length
      · rw [if_pos c] at hu
        rw [if_pos ⟨c.1, by omega⟩] at hs
        by_cases c3 : 2 * k + 1 ≤ l.length
        · have hol := mP_len hp l k
          refine ⟨(mNorm p l (mP p l k) 0, 0), ?_, ?_⟩
          · unfold spec_NormOf.f
            refine Ev.bind hs (Ev.pos rfl (Ev.step (fun k => by rw [spec_NormOf.j0]) ?_))
            rw [e1, e2, decide_eq_false (by omega)]
            refine Ev.neg (by decide) (Ev.step (fun k => by rw [spec_NormOf.j1]) (Ev.pos rfl (Ev.bind (specPolys_ev hp nl hlen.2 c.2) ?_)))
            rw [mPolys_len, rdL_nat, mPolys_get p l (Nat.le_refl k)]
            exact Ev.pos (by omega) (Ev.pos (by omega) (Ev.bind (specNorm_ev hp nl hlen.2 (mP_nm hp l k) 0 (by omega)) (Ev.now _)))
          · unfold impl_NormOf.f
            refine Ev.bindE h1 (Ev.bind hc (Ev.pos rfl (Ev.bind hu (Ev.pos rfl (Ev.bindE (a := (l.length : Int)) rfl (Ev.step (fun k => by rw [impl_NormOf.j0]) ?_))))))
            rw [e1, e2, decide_eq_false (by omega)]
            refine Ev.neg (by decide) (Ev.bindE (a := p) rfl ?_)
            simp only [mPolys_len]
            rw [rdL_nat, mPolys_get p l (Nat.le_refl k)]
            have h2 := mP_nm hp l k
            exact Ev.pos (by omega) (Ev.pos (by omega) (Ev.bind (implMul_ev hp _ _ h2 h2 (by unfold Sm; omega) (by unfold Sm; omega) (by unfold Sm; omega)) (Ev.bind (implNormP_ev hp nl hlen.2 (by omega)) (Ev.now _))))
        · refine ⟨(0, 5), ?_, ?_⟩
          · unfold spec_NormOf.f
            refine Ev.bind hs (Ev.pos rfl (Ev.step (fun k => by rw [spec_NormOf.j0]) ?_))
            rw [e1, e2, decide_eq_true (by omega)]
            refine Ev.pos rfl (Ev.step (fun k => by rw [spec_NormOf.j1]) ?_)
            exact Ev.neg (by decide) (Ev.now _)
          · unfold impl_NormOf.f
            refine Ev.bindE h1 (Ev.bind hc (Ev.pos rfl (Ev.bind hu (Ev.pos rfl (Ev.bindE (a := (l.length : Int)) rfl (Ev.step (fun k => by rw [impl_NormOf.j0]) ?_))))))
            rw [e1, e2, decide_eq_true (by omega)]
            exact Ev.pos rfl (Ev.now _)
      · rw [if_neg c] at hu
        rw [if_neg (fun g => c ⟨g.1, by omega⟩)] at hs
        refine ⟨(0, 5), bad 5 (by decide) hs, ?_⟩
        unfold impl_NormOf.f
        refine Ev.bindE h1 (Ev.bind hc (Ev.pos rfl (Ev.bind hu (Ev.neg (by simp) (Ev.step (fun k => by rw [impl_NormOf.j0]) ?_)))))
        exact Ev.pos rfl (Ev.now _)
    · rw [decide_eq_false ha] at hc h1
      rw [if_neg (by exact ha)] at hs
      refine ⟨(0, 2), bad 2 (by decide) hs, ?_⟩
      unfold impl_NormOf.f
      exact Ev.bindE h1 (Ev.bind hc (Ev.neg (by simp) (Ev.now _)))
  · rw [Bool.eq_false_iff.2 h] at hc
    rw [if_neg h] at hs
    refine ⟨(0, 1), bad 1 (by decide) hs, ?_⟩
    unfold impl_NormOf.f
    exact Ev.bindE h1 (Ev.bind hc (Ev.neg (by simp) (Ev.now _)))
end Go.Proofs.Ytfbnkebgdmfcfaa.Pr
namespace Go.Proofs.Ytfbnkebgdmfcfaa.Pure
/- FnExactNormOf: for every input the law answers true: the program's NormOf and the reference's come to one value, and the law's own copies, marks and comparisons answer as they have to. No condition. -/
open Go.RowKit Go.Proofs.Ytfbnkebgdmfcfaa.Pr Go.Proofs.YtfbnkebgdmfcfaaW.PrintWords Go.Proofs.YtfbnkebgdmfcfaaW.PrintLast
theorem FnExactNormOf : laws_FnExactNormOf.Pure := by
  intro a0_0 l0_1 a1 w0_0 ml0_1 wl0_1 w1
  have main : Ev (fun k => laws_FnExactNormOf.f k a0_0 l0_1 a1) true := by
    unfold laws_FnExactNormOf.f
    by_cases z0 : l0_1.length ≤ 1048576
    case neg => exact Ev.bindE (szMoments_no _ l0_1 (by unfold maxLen at ml0_1; omega) (1048576) (by omega) (by omega)) (Ev.pos (by omega) (Ev.now _))
    refine Ev.bindE (szMoments_yes _ l0_1 (1048576) (by omega) z0) (Ev.neg (by omega) ?_)
    have sl0_1 : Sm l0_1.length := by unfold Sm; omega
    have bw0_0 := wf64 w0_0
    have bw1 := wf64 w1
    obtain ⟨v, hspec, himpl⟩ := NormOf_both a0_0 l0_1 a1 sl0_1
    repeat' first
      | exact Ev.now _
      | refine Ev.bind hspec ?_
      | refine Ev.bind himpl ?_
      | refine Ev.bind (toMoments_ev _ _ (by first | assumption | (rw [marks_length]; assumption))) ?_
      | refine Ev.bind (eqMoments_ev _ _ (by first | assumption | (rw [marks_length]; assumption))) ?_
      | refine Ev.pos (by first | rfl | omega | (dsimp only; omega)) ?_
      | refine Ev.neg (by first | exact ne_self _ | omega | (dsimp only; omega) | decide) ?_
      | refine Ev.step (fun k => by rw [laws_FnExactNormOf.j0]) ?_
      | refine Ev.step (fun k => by rw [laws_FnExactNormOf.j1]) ?_
      | refine Ev.step (fun k => by rw [laws_FnExactNormOf.j2]) ?_
      | refine Ev.step (fun k => by rw [laws_FnExactNormOf.j3]) ?_
      | refine Ev.step (fun k => by rw [laws_FnExactNormOf.j4]) ?_
      | refine Ev.step (fun k => by rw [laws_FnExactNormOf.j5]) ?_
  exact main.rounds
end Go.Proofs.Ytfbnkebgdmfcfaa.Pure
namespace Go.Proofs.Ytfbnkebgdmfcfaa.fnExactNormOf
open Go.ChangeShapes Go.WideShapes Go.ChangeAt Go.RowKit
open Go.ChangeMaps (open_string shut_string)
set_option linter.unusedVariables false
theorem own : ownKnob Try.prog.godebug = none := by kernel_rfl
theorem laidOut : laidOutB Try.prog = true := by kernel_rfl
def IsRow (k : IntKind) (w : World) (a : Option Addr) (len cap : Nat) (zs : List Int) : Prop :=
  (a = none ∧ len = 0 ∧ cap = 0 ∧ zs = []) ∨
  ∃ x, a = some x ∧ len ≤ cap ∧ cap ≤ maxLen ∧ zs.length = cap ∧ (∀ i, i < zs.length → w.cell? (x.add i) = some (.int k (zs.getD i 0))) ∧ ∀ n ∈ zs, (Lit.int k n).wf = true
set_option maxRecDepth 100000 in
theorem lifted (os : Os) (started : os.Started) (H : Type) (enc : TypeId × Value → H) :
    ReturnsInHanded {} Try.checked os 6 .any (Rows.fnExactNormOfSpec.pre6 enc Try.prog Try.f6 Rows.fnExactNormOfRow.domain false) (Rows.fnExactNormOfSpec.post enc Try.prog Try.f6 false true false false) := by
  refine returnsInHanded_of_change_sized (C := Try.checked) own started (by kernel_rfl) Try.func6
    (ChangeSpec.witness6 (enc := enc) (C := Try.checked) false ⟨#[], #[.agg #[.int .i64 0, .slice none 0 0], .int .i64 0], []⟩ 8 (by kernel_rfl) (by kernel_rfl) (by kernel_rfl) (by kernel_rfl)) ?_
  intro W base args ds gs before hval0 hW hcnd hsz0 _
  have hsz : (DataW.weightsEach Try.prog (Try.f6.params.toList ++ Rows.fnExactNormOfSpec.plain.varTypes Try.prog) (ds ++ gs)).all (· ≤ reachBytes) = true := hsz0
  have hval : ∀ (j : Nat) t v, Try.f6.params[j]? = some t → args[j]? = some v → Value.okWide Try.prog W .any base t v := hval0
  have hW' := hW
  obtain ⟨p, q, hA0, hV, rfl, hfz, hnd⟩ := hW
  have hA : DataW.TrodAll enc Try.prog W 0 (fun _ => true) true Try.f6.params.toList args.toList ds p := hA0
  rw [Try.params6] at hA hval hsz
  obtain ⟨v0, vs0, d0, ds0, p0, q0, hargs, rfl, rfl, h0, r0⟩ := trodAll_cons hA
  obtain ⟨v1, vs1, d1, ds1, p1, q1, rfl, rfl, rfl, h1, r1⟩ := trodAll_cons r0
  obtain ⟨rfl, rfl, rfl⟩ := trodAll_nil r1
  obtain rfl : args = #[v0, v1] := by cases args; simp_all
  obtain ⟨rfl, rfl⟩ := trodVars_none hV
  have k0 := h0
  have lt0 : ∀ x ∈ p0, x.block < W.heap.size := by obtain ⟨m, hm⟩ := k0; exact DataW.trod_lt m _ _ _ hm
  obtain ⟨c0_0, c0_1, y0_0, y0_1, n0, rfl, rfl, rfl, e0_0, e0_1⟩ := Go.Joins.open_agg2 Try.underlying34 (by kernel_rfl) (by kernel_rfl) (hval 0 34 v0 rfl rfl) h0
  obtain ⟨a0_0, f0_0, _, w0_0⟩ := DataW.trod_int Try.underlying2 e0_0
  simp only [List.cons.injEq, and_true] at f0_0
  subst f0_0
  obtain ⟨a0_1, len0_1, cap0_1, z0_1, f0_1, w0_1⟩ : ∃ a len cap zs, c0_1 = .slice a len cap ∧ IsRow .i64 W a len cap zs := by
    rcases open_ints Try.underlying22 Try.underlying2 (by kernel_rfl) e0_1 with ⟨hcs, _⟩ | ⟨x, l, c, zs, hcs, _, hl, hm, hz, _, hcell, hwz⟩
    · simp only [List.cons.injEq, and_true] at hcs
      exact ⟨none, 0, 0, [], hcs, .inl ⟨rfl, rfl, rfl, rfl⟩⟩
    · simp only [List.cons.injEq, and_true] at hcs
      exact ⟨some x, l, c, zs, hcs, .inr ⟨_, rfl, hl, hm, by simpa using hz, hcell, hwz⟩⟩
  subst f0_1
  obtain ⟨a1, rfl, rfl, rfl, w1⟩ := open_int Try.underlying2 (hval 1 2 v1 rfl rfl) h1
  clear hA0 hval0 hsz0 hsz
  refine (Pr.laws_FnExactNormOf.walk Pure.FnExactNormOf a0_0 a0_1 len0_1 cap0_1 z0_1 a1 W w0_0 w0_1 w1).mono fun e W' ⟨he, bel⟩ => ?_
  subst he
  exact ⟨_, rfl, _, _, _, [], _, [], hW', trodAll_mk1 (shut_bool Try.underlying4 _), (trodAll_cons_mk (Below.trod laidOut (by kernel_rfl) (of_decide_eq_true (by kernel_rfl)) k0 bel lt0) (trodAll_cons_mk (shut_int Try.underlying2 w1) trodAll_mk0)), rfl, bel.frame _, fun h => by cases h⟩
theorem over : Rows.fnExactNormOfRow.holds Try.pinned (OpenSpec.ofChange Rows.fnExactNormOfSpec) :=
  OpenClaim.holds_of_wide 6 Try.f6 rfl rfl rfl rfl rfl rfl rfl ⟨rfl, rfl, rfl, rfl, rfl⟩ rfl rfl rfl rfl rfl (by kernel_rfl) Try.func6 (by kernel_rfl)
    (of_decide_eq_true (by kernel_rfl)) (by unfold Func.isWrapper; first | (rw [if_pos (by decide +kernel)]; kernel_rfl) | (rw [if_neg (by decide +kernel)]; exact ⟨rfl, rfl⟩))
    (fun os started H enc _ => lifted os started H enc)
theorem proved : Rows.FnExactNormOfSaid := over
#print axioms proved
end Go.Proofs.Ytfbnkebgdmfcfaa.fnExactNormOf
namespace Go.Proofs.Ytfbnkebgdmfcfaa
/-- The row, under a short name, for the claim. -/
theorem fnExactNormOf_holds : Rows.FnExactNormOfSaid := fnExactNormOf.proved
end Go.Proofs.Ytfbnkebgdmfcfaa
