/- Printed by a program of this session out of the translation: what these functions of the program compute, under the conditions that each theorem names. -/
import Derived.Test.YtfbnkebgdmfcfaaKOrthogonalPolynomial1
import Derived.Test.YtfbnkebgdmfcfaaKOrthogonalPolynomial8
import Derived.Test.YtfbnkebgdmfcfaaKFspecl04Polys
namespace Go.Proofs.Ytfbnkebgdmfcfaa.Pr
open Go.RowKit Go.Proofs.YtfbnkebgdmfcfaaW.PrintWords Go.Proofs.YtfbnkebgdmfcfaaW.PrintLast Go.Proofs.YtfbnkebgdmfcfaaW.PrintMore
attribute [local go_sem] max2_int min2_int max_two min_two max_three min_three max_four min_four   -- for this text's walks alone
set_option linter.unusedVariables false
set_option linter.unusedSimpArgs false

/-! ### spec_OrthogonalPolynomial: function 38 -/
def spec_OrthogonalPolynomial.f (k : Nat) (a0_0 : Int) (l0_1 : List Int) (a1 : Int) : Option (List Int × Int) := (spec_l04Code.f k a0_0 l0_1 a1 0).bind fun t461 => (if t461 = 0 then ((spec_l04Polys.f k a0_0 l0_1 a1).bind fun t462 => (if 0 ≤ a1 then (if a1 < (t462.length : Int) then (some (rd_L1 t462 a1, 0)) else (none)) else (none))) else (some (([] : List Int), t461)))
set_option maxHeartbeats 8000000 in
set_option maxRecDepth 100000 in
theorem spec_OrthogonalPolynomial.calls (k : Nat) (a0_0 : Int) (A0_1 : Option Addr) (c0_1 : Nat) (l0_1 : List Int) (a1 : Int) (r1 : List Int) (r2 : Int) (w : World) (hr0_1 : Kd.C (Kd.int .i64) w A0_1 l0_1.length l0_1) (hc0_1 : l0_1.length ≤ c0_1) (h : spec_OrthogonalPolynomial.f k a0_0 l0_1 a1 = some (r1, r2)) :
  Calls Try.prog 38 #[.agg #[.int .i64 a0_0, .slice A0_1 l0_1.length c0_1], .int .i64 a1] w fun e w' => ∃ v0_ : Value, e = .returned (.tuple #[v0_, .int .i64 r2]) ∧ Kd.V (Kd.int .i64) 2 w' w.heap.size (fun k_ => (w.heap.size ≤ k_)) v0_ r1 ∧ Below w.heap.size w w' := by
 have hu40 := Try.underlying40
 have HR0_1 := zA hr0_1
 have HC0_1 := zA hc0_1
 clear hr0_1 hc0_1
 have HB := zA (Below.refl w.heap.size w)
 have H : ((spec_l04Code.f k a0_0 l0_1 a1 0).bind fun t461 => (if t461 = 0 then ((spec_l04Polys.f k a0_0 l0_1 a1).bind fun t462 => (if 0 ≤ a1 then (if a1 < (t462.length : Int) then (some (rd_L1 t462 a1, 0)) else (none)) else (none))) else (some (([] : List Int), t461)))) = some (r1, r2) := h
 clear h
 replace H := Option.bind_eq_some_iff.mp H
 obtain ⟨t461, A30, H⟩ := H
 replace H : (if t461 = 0 then ((spec_l04Polys.f k a0_0 l0_1 a1).bind fun t462 => (if 0 ≤ a1 then (if a1 < (t462.length : Int) then (some (rd_L1 t462 a1, 0)) else (none)) else (none))) else (some (([] : List Int), t461))) = some (r1, r2) := H
 have A3 := zA A30
 clear A30
 by_cases c4 : t461 = 0
 rotate_left
 ·rw [if_neg c4] at H
  have c4b0 : (t461 == 0) = false := beq_eq_false_iff_ne.mpr c4
  have c4b1 : (t461 != 0) = true := bne_iff_ne.mpr c4
  simp only [Option.some.injEq, Prod.mk.injEq] at H
  obtain ⟨rfl, rfl⟩ := H
  go_enter Try.func38, Try.ntmps38
  go_wp2_with (first | ((with_reducible refine gate_dst (N := 2) rfl ?_); refine bx 2 #[.int .i64 a0_0, .slice A0_1 l0_1.length c0_1] 40 ?_; intro gb460 hg w14 hbox hb; have BK460 := zA (hbox); have GW460 := gq HB hg; have GE460 := gq HB hg; replace HB := xH HB hb; have := geI GE460; clear hb hbox hg; have hcz15_0 := bc BK460 0; have hcz15_1 := bc BK460 1; have hfz15_0 := bf BK460 0; have hfz15_1 := bf BK460 1) | ((with_reducible refine gate_callee (f := 83) rfl ?_); refine gL (some 9) Try.func83 #[.agg #[.int .i64 a0_0, .slice A0_1 l0_1.length c0_1], .int .i64 a1, .int .i64 0] ?_; (with_reducible refine (spec_l04Code.calls k a0_0 _ _ l0_1 a1 0 t461 _ ?side1 ?side2 A3.out).mono ?_); (case side1 => exact uC ((Kd.C_below HR0_1.out HB.out))); (case side2 => exact HC0_1.out); rintro e w16 ⟨rfl, hb⟩; refine ⟨_, rfl, ?_⟩; replace BK460 := xB BK460 hb; replace HB := xH HB hb; (try clear hb); (try clear hb2); (try clear hk); (try clear hi)))
  go_ret2
  exact ⟨_, by first | rfl | (simp [errW_none, errW_some] <;> rfl) | (simp [*, errW_none, errW_some] <;> rfl), Kd.V_nil _ _ _ _ _, uH HB.out⟩

 rw [if_pos c4] at H
 have c4b0 : (t461 == 0) = true := beq_iff_eq.mpr c4
 have c4b1 : (t461 != 0) = false := bne_eq_false_iff_eq.mpr c4
 clear c4
 replace H := Option.bind_eq_some_iff.mp H
 obtain ⟨t462, A50, H⟩ := H
 replace H : (if 0 ≤ a1 then (if a1 < (t462.length : Int) then (some (rd_L1 t462 a1, 0)) else (none)) else (none)) = some (r1, r2) := H
 have A5 := zA A50
 clear A50
 by_cases c6 : 0 ≤ a1
 rotate_left
 ·rw [if_neg c6] at H
  exact absurd H (by simp)
 rw [if_pos c6] at H
 have c6b0 : decide (0 ≤ a1) = true := decide_eq_true c6
 clear c6
 by_cases c7 : a1 < (t462.length : Int)
 rotate_left
 ·rw [if_neg c7] at H
  exact absurd H (by simp)
 rw [if_pos c7] at H
 have c7b0 : decide (a1 < (t462.length : Int)) = true := decide_eq_true c7
 clear c7
 simp only [Option.some.injEq, Prod.mk.injEq] at H
 obtain ⟨rfl, rfl⟩ := H
 go_enter Try.func38, Try.ntmps38
 go_wp2_with (first | ((with_reducible refine gate_dst (N := 2) rfl ?_); refine bx 2 #[.int .i64 a0_0, .slice A0_1 l0_1.length c0_1] 40 ?_; intro gb460 hg w8 hbox hb; have BK460 := zA (hbox); have GW460 := gq HB hg; have GE460 := gq HB hg; replace HB := xH HB hb; have := geI GE460; clear hb hbox hg; have hcz9_0 := bc BK460 0; have hcz9_1 := bc BK460 1; have hfz9_0 := bf BK460 0; have hfz9_1 := bf BK460 1) | ((with_reducible refine gate_callee (f := 83) rfl ?_); refine gL (some 9) Try.func83 #[.agg #[.int .i64 a0_0, .slice A0_1 l0_1.length c0_1], .int .i64 a1, .int .i64 0] ?_; (with_reducible refine (spec_l04Code.calls k a0_0 _ _ l0_1 a1 0 t461 _ ?side1 ?side2 A3.out).mono ?_); (case side1 => exact uC ((Kd.C_below HR0_1.out HB.out))); (case side2 => exact HC0_1.out); rintro e w10 ⟨rfl, hb⟩; refine ⟨_, rfl, ?_⟩; replace BK460 := xB BK460 hb; replace HB := xH HB hb; (try clear hb); (try clear hb2); (try clear hk); (try clear hi); have hcz11_0 := bc BK460 0; have hcz11_1 := bc BK460 1; have hfz11_0 := bf BK460 0; have hfz11_1 := bf BK460 1) | ((with_reducible refine gate_callee (f := 85) rfl ?_); refine gL (some 15) Try.func85 #[.agg #[.int .i64 a0_0, .slice A0_1 l0_1.length c0_1], .int .i64 a1] ?_; (with_reducible refine (spec_l04Polys.calls k a0_0 _ _ l0_1 a1 t462 _ ?side1 ?side2 A5.out).mono ?_); (case side1 => exact uC ((Kd.C_below HR0_1.out HB.out))); (case side2 => exact HC0_1.out); rintro e w12 ⟨v463, rfl, ho0, hb⟩; refine ⟨_, rfl, ?_⟩; have HO464 := zA (Kd.N_lower (Kd.N_mono (ok' := fun k_ => (w.heap.size ≤ k_) ∧ k_ ≠ gb460) ho0 (fun k_ hk_ => ⟨(Nat.le_trans (below_size (uH HB.out)) hk_), (Kd.freshB (g := gb460) (o := .cells #[.int .i64 a0_0, .slice A0_1 l0_1.length c0_1] 40 (0, 0)) (uB BK460.out) k_ hk_)⟩)) (below_size (uH HB.out))); replace BK460 := xB BK460 hb; replace HB := xH HB hb; (try clear hb); (try clear hb2); (try clear hk); (try clear hi); (try clear ho0); obtain ⟨Ao13, co13, eo13⟩ := Kd.N_slice HO464.out; subst eo13; have p465 : 0 ≤ (a1 : Int) := of_decide_eq_true (by first | (with_reducible assumption) | assumption); have q465 : a1 < (t462.length : Int) := of_decide_eq_true (by first | (with_reducible assumption) | assumption); obtain ⟨ad465, A465_0, c465_0, e465, hx465_0, hl465_0, hi465_0⟩ := at_L1 (Kd.N_reads' HO464.out).2.2 a1 p465 q465; cases e465; obtain ⟨ce465, hce465, hMe465, hcc465⟩ := Kd.N_get HO464.out [] a1 p465 (by first | exact q465 | exact of_decide_eq_true (by first | (with_reducible assumption) | assumption) | (have e_ := (Kd.N_reads' HO464.out).1; omega)); obtain ⟨ua465_0, uc465_0, rfl, ul465_0, ge465_0⟩ := Kd.FK_slice_open hMe465; have hv465_0 := hcc465 0 _ rfl; rw [Nat.add_zero, show ((Kd.slice 2 (Kd.int .i64))).sz = 1 from rfl, Nat.mul_one] at hv465_0; replace hv465_0 := Option.some.inj (hv465_0.symm.trans hx465_0); injection hv465_0 with hva_ hvn_ hvc_; rw [hva_] at ge465_0; rw [hvc_] at ul465_0; have HL465_0 := zA (show Kd.V (Kd.int .i64) 2 _ w.heap.size _ _ (rd_L1 t462 a1) from Kd.V_mk ul465_0 ge465_0); clear hva_ hvn_ hvc_ ge465_0 ul465_0 hcc465 hce465; have HR465_0 := zA hi465_0; have HC465_0 := zA hl465_0; clear hi465_0 hl465_0; replace p465 := eq_true p465; replace q465 := eq_true q465))
 go_ret2
 exact ⟨_, by first | rfl | (simp [errW_none, errW_some] <;> rfl) | (simp [*, errW_none, errW_some] <;> rfl), by (with_reducible repeat (first | apply Kd.V_alloc | apply Kd.V_drewN | apply Kd.V_drew)); exact Kd.V_mono HL465_0.out (fun _ hk => hk.1.1), uH HB.out⟩
end Go.Proofs.Ytfbnkebgdmfcfaa.Pr
