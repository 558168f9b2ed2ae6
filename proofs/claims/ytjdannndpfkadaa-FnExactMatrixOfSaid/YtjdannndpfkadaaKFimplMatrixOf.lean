/- Printed by a program of this session out of the translation: what these functions of the program compute, under the conditions that each theorem names. -/
import Derived.Test.YtjdannndpfkadaaKMatrixOf1
import Derived.Test.YtjdannndpfkadaaKMatrixOf4
import Derived.Test.YtjdannndpfkadaaKFimplJacobimatrix
namespace Go.Proofs.Ytjdannndpfkadaa.Pr
open Go.RowKit Go.Proofs.YtjdannndpfkadaaW.PrintWords Go.Proofs.YtjdannndpfkadaaW.PrintLast Go.Proofs.YtjdannndpfkadaaW.PrintMore
attribute [local go_sem] max2_int min2_int max_two min_two max_three min_three max_four min_four   -- for this text's walks alone
set_option linter.unusedVariables false
set_option linter.unusedSimpArgs false

/-! ### impl_MatrixOf: function 10 -/
def impl_MatrixOf.f (k : Nat) (a0_0 : Int) (l0_1 : List Int) (l0_2 : List Int) : Option ((List (List Int)) × Int) := (impl_jacobiCode.f k a0_0 l0_1 l0_2 true).bind fun t200 => (if t200 = 0 then ((impl_Jacobi_matrix.f k a0_0 l0_1 l0_2).bind fun t201 => (some (t201, 0))) else (some (([] : List (List Int)), t200)))
theorem impl_MatrixOf.mono : ∀ a0 a1 a2 k, LeO (impl_MatrixOf.f k a0 a1 a2) (impl_MatrixOf.f (k + 1) a0 a1 a2) := by
 intro a0 a1 a2 k
 unfold impl_MatrixOf.f
 repeat' first
   | (with_reducible exact impl_Jacobi_matrix.mono _ _ _ _)
   | (with_reducible exact impl_jacobiCode.mono _ _ _ _ _)
   | (with_reducible exact LeO.refl _)
   | (with_reducible exact LeO.none _)
   | (with_reducible refine LeO.ite ?_ ?_)
   | (with_reducible refine LeO.bind ?_ (fun _ => ?_))
   | exact impl_Jacobi_matrix.mono _ _ _ _
   | exact impl_jacobiCode.mono _ _ _ _ _
   | exact LeO.none _
   | refine LeO.ite ?_ ?_
   | refine LeO.bind ?_ (fun _ => ?_)
set_option maxHeartbeats 8000000 in
set_option maxRecDepth 100000 in
theorem impl_MatrixOf.calls (k : Nat) (a0_0 : Int) (A0_1 : Option Addr) (c0_1 : Nat) (l0_1 : List Int) (A0_2 : Option Addr) (c0_2 : Nat) (l0_2 : List Int) (r1 : List (List Int)) (r2 : Int) (w : World) (hr0_1 : Kd.C (Kd.int .i64) w A0_1 l0_1.length l0_1) (hc0_1 : l0_1.length ≤ c0_1) (hr0_2 : Kd.C (Kd.int .i64) w A0_2 l0_2.length l0_2) (hc0_2 : l0_2.length ≤ c0_2) (h : impl_MatrixOf.f k a0_0 l0_1 l0_2 = some (r1, r2)) :
  Calls Try.prog 10 #[.agg #[.int .i64 a0_0, .slice A0_1 l0_1.length c0_1, .slice A0_2 l0_2.length c0_2]] w fun e w' => ∃ v0_ : Value, e = .returned (.tuple #[v0_, .int .i64 r2]) ∧ Kd.S (Kd.slice 2 (Kd.int .i64)) 22 w' w.heap.size (fun _ => True) v0_ r1 ∧ Below w.heap.size w w' := by
 have hu29 := Try.underlying29
 have HR0_1 := zA hr0_1
 have HC0_1 := zA hc0_1
 clear hr0_1 hc0_1
 have HR0_2 := zA hr0_2
 have HC0_2 := zA hc0_2
 clear hr0_2 hc0_2
 have HB := zA (Below.refl w.heap.size w)
 have H : ((impl_jacobiCode.f k a0_0 l0_1 l0_2 true).bind fun t200 => (if t200 = 0 then ((impl_Jacobi_matrix.f k a0_0 l0_1 l0_2).bind fun t201 => (some (t201, 0))) else (some (([] : List (List Int)), t200)))) = some (r1, r2) := h
 clear h
 replace H := Option.bind_eq_some_iff.mp H
 obtain ⟨t200, A20, H⟩ := H
 replace H : (if t200 = 0 then ((impl_Jacobi_matrix.f k a0_0 l0_1 l0_2).bind fun t201 => (some (t201, 0))) else (some (([] : List (List Int)), t200))) = some (r1, r2) := H
 have A2 := zA A20
 clear A20
 by_cases c3 : t200 = 0
 rotate_left
 ·rw [if_neg c3] at H
  have c3b0 : (t200 == 0) = false := beq_eq_false_iff_ne.mpr c3
  have c3b1 : (t200 != 0) = true := bne_iff_ne.mpr c3
  simp only [Option.some.injEq, Prod.mk.injEq] at H
  obtain ⟨rfl, rfl⟩ := H
  go_enter Try.func10, Try.ntmps10
  go_wp2_with (first | ((with_reducible refine gate_dst (N := 1) rfl ?_); refine bx 1 #[.int .i64 a0_0, .slice A0_1 l0_1.length c0_1, .slice A0_2 l0_2.length c0_2] 29 ?_; intro gb199 hg w10 hbox hb; have BK199 := zA (hbox); have GW199 := gq HB hg; have GE199 := gq HB hg; replace HB := xH HB hb; have := geI GE199; clear hb hbox hg; have hcz11_0 := bc BK199 0; have hcz11_1 := bc BK199 1; have hcz11_2 := bc BK199 2; have hfz11_0 := bf BK199 0; have hfz11_1 := bf BK199 1; have hfz11_2 := bf BK199 2) | ((with_reducible refine gate_callee (f := 38) rfl ?_); refine gL (some 6) Try.func38 #[.agg #[.int .i64 a0_0, .slice A0_1 l0_1.length c0_1, .slice A0_2 l0_2.length c0_2], .bool true] ?_; (with_reducible refine (impl_jacobiCode.calls k a0_0 _ _ l0_1 _ _ l0_2 true t200 _ ?side1 ?side2 ?side3 ?side4 A2.out).mono ?_); (case side1 => exact uC ((Kd.C_below HR0_1.out HB.out))); (case side2 => exact HC0_1.out); (case side3 => exact uC ((Kd.C_below HR0_2.out HB.out))); (case side4 => exact HC0_2.out); rintro e w12 ⟨rfl, hb⟩; refine ⟨_, rfl, ?_⟩; replace BK199 := xB BK199 hb; replace HB := xH HB hb; (try clear hb); (try clear hb2); (try clear hk); (try clear hi)))
  go_ret2
  exact ⟨_, by first | rfl | (simp [errW_none, errW_some] <;> rfl) | (simp [*, errW_none, errW_some] <;> rfl), by first | exact Kd.S_nil _ _ _ _ _ | exact Kd.N_nil _ _ _ _ _ | exact Kd.V_nil _ _ _ _ _ | exact Kd.Q_nil _ _ _ _ _ | exact Kd.R_nil _ _ _ _ _, uH HB.out⟩

 rw [if_pos c3] at H
 have c3b0 : (t200 == 0) = true := beq_iff_eq.mpr c3
 have c3b1 : (t200 != 0) = false := bne_eq_false_iff_eq.mpr c3
 clear c3
 replace H := Option.bind_eq_some_iff.mp H
 obtain ⟨t201, A40, H⟩ := H
 replace H : (some (t201, 0)) = some (r1, r2) := H
 have A4 := zA A40
 clear A40
 simp only [Option.some.injEq, Prod.mk.injEq] at H
 obtain ⟨rfl, rfl⟩ := H
 go_enter Try.func10, Try.ntmps10
 go_wp2_with (first | ((with_reducible refine gate_dst (N := 1) rfl ?_); refine bx 1 #[.int .i64 a0_0, .slice A0_1 l0_1.length c0_1, .slice A0_2 l0_2.length c0_2] 29 ?_; intro gb199 hg w5 hbox hb; have BK199 := zA (hbox); have GW199 := gq HB hg; have GE199 := gq HB hg; replace HB := xH HB hb; have := geI GE199; clear hb hbox hg; have hcz6_0 := bc BK199 0; have hcz6_1 := bc BK199 1; have hcz6_2 := bc BK199 2; have hfz6_0 := bf BK199 0; have hfz6_1 := bf BK199 1; have hfz6_2 := bf BK199 2) | ((with_reducible refine gate_callee (f := 38) rfl ?_); refine gL (some 6) Try.func38 #[.agg #[.int .i64 a0_0, .slice A0_1 l0_1.length c0_1, .slice A0_2 l0_2.length c0_2], .bool true] ?_; (with_reducible refine (impl_jacobiCode.calls k a0_0 _ _ l0_1 _ _ l0_2 true t200 _ ?side1 ?side2 ?side3 ?side4 A2.out).mono ?_); (case side1 => exact uC ((Kd.C_below HR0_1.out HB.out))); (case side2 => exact HC0_1.out); (case side3 => exact uC ((Kd.C_below HR0_2.out HB.out))); (case side4 => exact HC0_2.out); rintro e w7 ⟨rfl, hb⟩; refine ⟨_, rfl, ?_⟩; replace BK199 := xB BK199 hb; replace HB := xH HB hb; (try clear hb); (try clear hb2); (try clear hk); (try clear hi); have hcz8_0 := bc BK199 0; have hcz8_1 := bc BK199 1; have hcz8_2 := bc BK199 2; have hfz8_0 := bf BK199 0; have hfz8_1 := bf BK199 1; have hfz8_2 := bf BK199 2) | ((with_reducible refine gate_callee (f := 39) rfl ?_); refine gL (some 11) Try.func39 #[.agg #[.int .i64 a0_0, .slice A0_1 l0_1.length c0_1, .slice A0_2 l0_2.length c0_2]] ?_; (with_reducible refine (impl_Jacobi_matrix.calls k a0_0 _ _ l0_1 _ _ l0_2 t201 _ ?side1 ?side2 ?side3 ?side4 A4.out).mono ?_); (case side1 => exact uC ((Kd.C_below HR0_1.out HB.out))); (case side2 => exact HC0_1.out); (case side3 => exact uC ((Kd.C_below HR0_2.out HB.out))); (case side4 => exact HC0_2.out); rintro e w9 ⟨v202, rfl, ho0, hb⟩; refine ⟨_, rfl, ?_⟩; have HO203 := zA (Kd.S_lower ho0 (below_size (uH HB.out))); replace BK199 := xB BK199 hb; replace HB := xH HB hb; (try clear hb); (try clear hb2); (try clear hk); (try clear hi); (try clear ho0)))
 go_ret2
 exact ⟨_, by first | rfl | (simp [errW_none, errW_some] <;> rfl) | (simp [*, errW_none, errW_some] <;> rfl), by (with_reducible repeat (first | apply Kd.S_alloc | apply Kd.S_drewN | apply Kd.S_drew)); exact HO203.out, uH HB.out⟩
end Go.Proofs.Ytjdannndpfkadaa.Pr
