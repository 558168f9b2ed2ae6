/- Texts of this session in one: what functions of the program compute, and plain facts of it, under the conditions that each theorem names. -/
import Derived.Test.YtjdannndpfkadaaKFimplJacobimatrix
import Derived.Test.YtjdannndpfkadaaKFimplMatrixOf
import Derived.Test.YtjdannndpfkadaaKFspecl03Matrix
import Derived.Test.YtjdannndpfkadaaKMatrixOf1
import Derived.Test.YtjdannndpfkadaaKMatrixOf3
import Derived.Test.YtjdannndpfkadaaKMatrixOf4
import Derived.Test.YtjdannndpfkadaaKMatrixOf5
namespace Go.Proofs.Ytjdannndpfkadaa.Pr
open Go.RowKit Go.Proofs.YtjdannndpfkadaaW.PrintWords Go.Proofs.YtjdannndpfkadaaW.PrintLast Go.Proofs.YtjdannndpfkadaaW.PrintMore
attribute [local go_sem] max2_int min2_int max_two min_two max_three min_three max_four min_four   -- for this text's walks alone
set_option linter.unusedVariables false
set_option linter.unusedSimpArgs false
/-! ### spec_MatrixOf: function 8 -/
def spec_MatrixOf.f (k : Nat) (a0_0 : Int) (l0_1 : List Int) (l0_2 : List Int) : Option ((List (List Int)) × Int) := (spec_l03Is.f k a0_0 l0_1 l0_2).bind fun t137 => (if t137 = true then ((spec_l03Matrix.f k a0_0 l0_1 l0_2).bind fun t138 => (some (t138, 0))) else (some (([] : List (List Int)), 1)))
theorem spec_MatrixOf.mono : ∀ a0 a1 a2 k, LeO (spec_MatrixOf.f k a0 a1 a2) (spec_MatrixOf.f (k + 1) a0 a1 a2) := by
 intro a0 a1 a2 k
 unfold spec_MatrixOf.f
 repeat' first
   | (with_reducible exact spec_l03Is.mono _ _ _ _)
   | (with_reducible exact spec_l03Matrix.mono _ _ _ _)
   | (with_reducible exact LeO.refl _)
   | (with_reducible exact LeO.none _)
   | (with_reducible refine LeO.ite ?_ ?_)
   | (with_reducible refine LeO.bind ?_ (fun _ => ?_))
   | exact spec_l03Is.mono _ _ _ _
   | exact spec_l03Matrix.mono _ _ _ _
   | exact LeO.none _
   | refine LeO.ite ?_ ?_
   | refine LeO.bind ?_ (fun _ => ?_)
set_option maxHeartbeats 8000000 in
set_option maxRecDepth 100000 in
theorem spec_MatrixOf.calls (k : Nat) (a0_0 : Int) (A0_1 : Option Addr) (c0_1 : Nat) (l0_1 : List Int) (A0_2 : Option Addr) (c0_2 : Nat) (l0_2 : List Int) (r1 : List (List Int)) (r2 : Int) (w : World) (hr0_1 : Kd.C (Kd.int .i64) w A0_1 l0_1.length l0_1) (hc0_1 : l0_1.length ≤ c0_1) (hr0_2 : Kd.C (Kd.int .i64) w A0_2 l0_2.length l0_2) (hc0_2 : l0_2.length ≤ c0_2) (h : spec_MatrixOf.f k a0_0 l0_1 l0_2 = some (r1, r2)) :
  Calls Try.prog 8 #[.agg #[.int .i64 a0_0, .slice A0_1 l0_1.length c0_1, .slice A0_2 l0_2.length c0_2]] w fun e w' => ∃ v0_ : Value, e = .returned (.tuple #[v0_, .int .i64 r2]) ∧ Kd.S (Kd.slice 2 (Kd.int .i64)) 22 w' w.heap.size (fun _ => True) v0_ r1 ∧ Below w.heap.size w w' := by
 have hu29 := Try.underlying29
 have HR0_1 := zA hr0_1
 have HC0_1 := zA hc0_1
 clear hr0_1 hc0_1
 have HR0_2 := zA hr0_2
 have HC0_2 := zA hc0_2
 clear hr0_2 hc0_2
 have HB := zA (Below.refl w.heap.size w)
 have H : ((spec_l03Is.f k a0_0 l0_1 l0_2).bind fun t137 => (if t137 = true then ((spec_l03Matrix.f k a0_0 l0_1 l0_2).bind fun t138 => (some (t138, 0))) else (some (([] : List (List Int)), 1)))) = some (r1, r2) := h
 clear h
 replace H := Option.bind_eq_some_iff.mp H
 obtain ⟨t137, A20, H⟩ := H
 replace H : (if t137 = true then ((spec_l03Matrix.f k a0_0 l0_1 l0_2).bind fun t138 => (some (t138, 0))) else (some (([] : List (List Int)), 1))) = some (r1, r2) := H
 have A2 := zA A20
 clear A20
 by_cases c3 : t137 = true
 ·subst c3
  have H1 : ((spec_l03Matrix.f k a0_0 l0_1 l0_2).bind fun t138 => (some (t138, 0))) = some (r1, r2) := by rw [if_pos rfl] at H; exact H
  clear H
  have H := H1
  clear H1
  replace H := Option.bind_eq_some_iff.mp H
  obtain ⟨t138, A40, H⟩ := H
  replace H : (some (t138, 0)) = some (r1, r2) := H
  have A4 := zA A40
  clear A40
  simp only [Option.some.injEq, Prod.mk.injEq] at H
  obtain ⟨rfl, rfl⟩ := H
  go_enter Try.func8, Try.ntmps8
  go_wp2_with (first | ((with_reducible refine gate_dst (N := 1) rfl ?_); refine bx 1 #[.int .i64 a0_0, .slice A0_1 l0_1.length c0_1, .slice A0_2 l0_2.length c0_2] 29 ?_; intro gb136 hg w5 hbox hb; have BK136 := zA (hbox); have GW136 := gq HB hg; have GE136 := gq HB hg; replace HB := xH HB hb; have := geI GE136; clear hb hbox hg; have hcz6_0 := bc BK136 0; have hcz6_1 := bc BK136 1; have hcz6_2 := bc BK136 2; have hfz6_0 := bf BK136 0; have hfz6_1 := bf BK136 1; have hfz6_2 := bf BK136 2) | ((with_reducible refine gate_callee (f := 35) rfl ?_); refine gL (some 5) Try.func35 #[.agg #[.int .i64 a0_0, .slice A0_1 l0_1.length c0_1, .slice A0_2 l0_2.length c0_2]] ?_; (with_reducible refine (spec_l03Is.calls k a0_0 _ _ l0_1 _ _ l0_2 true _ ?side1 ?side2 ?side3 ?side4 A2.out).mono ?_); (case side1 => exact uC ((Kd.C_below HR0_1.out HB.out))); (case side2 => exact HC0_1.out); (case side3 => exact uC ((Kd.C_below HR0_2.out HB.out))); (case side4 => exact HC0_2.out); rintro e w7 ⟨rfl, hb⟩; refine ⟨_, rfl, ?_⟩; replace BK136 := xB BK136 hb; replace HB := xH HB hb; (try clear hb); (try clear hb2); (try clear hk); (try clear hi); have hcz8_0 := bc BK136 0; have hcz8_1 := bc BK136 1; have hcz8_2 := bc BK136 2; have hfz8_0 := bf BK136 0; have hfz8_1 := bf BK136 1; have hfz8_2 := bf BK136 2) | ((with_reducible refine gate_callee (f := 36) rfl ?_); refine gL (some 8) Try.func36 #[.agg #[.int .i64 a0_0, .slice A0_1 l0_1.length c0_1, .slice A0_2 l0_2.length c0_2]] ?_; (with_reducible refine (spec_l03Matrix.calls k a0_0 _ _ l0_1 _ _ l0_2 t138 _ ?side1 ?side2 ?side3 ?side4 A4.out).mono ?_); (case side1 => exact uC ((Kd.C_below HR0_1.out HB.out))); (case side2 => exact HC0_1.out); (case side3 => exact uC ((Kd.C_below HR0_2.out HB.out))); (case side4 => exact HC0_2.out); rintro e w9 ⟨v139, rfl, ho0, hb⟩; refine ⟨_, rfl, ?_⟩; have HO140 := zA (Kd.S_lower ho0 (below_size (uH HB.out))); replace BK136 := xB BK136 hb; replace HB := xH HB hb; (try clear hb); (try clear hb2); (try clear hk); (try clear hi); (try clear ho0)))
  go_ret2
  exact ⟨_, by first | rfl | (simp [errW_none, errW_some] <;> rfl) | (simp [*, errW_none, errW_some] <;> rfl), by (with_reducible repeat (first | apply Kd.S_alloc | apply Kd.S_drewN | apply Kd.S_drew)); exact HO140.out, uH HB.out⟩
 ·replace c3 := Bool.eq_false_iff.mpr c3
  subst c3
  have H1 : (some (([] : List (List Int)), 1)) = some (r1, r2) := by rw [if_neg (show ¬ (false = true) by decide)] at H; exact H
  clear H
  have H := H1
  clear H1
  simp only [Option.some.injEq, Prod.mk.injEq] at H
  obtain ⟨rfl, rfl⟩ := H
  go_enter Try.func8, Try.ntmps8
  go_wp2_with (first | ((with_reducible refine gate_dst (N := 1) rfl ?_); refine bx 1 #[.int .i64 a0_0, .slice A0_1 l0_1.length c0_1, .slice A0_2 l0_2.length c0_2] 29 ?_; intro gb136 hg w10 hbox hb; have BK136 := zA (hbox); have GW136 := gq HB hg; have GE136 := gq HB hg; replace HB := xH HB hb; have := geI GE136; clear hb hbox hg; have hcz11_0 := bc BK136 0; have hcz11_1 := bc BK136 1; have hcz11_2 := bc BK136 2; have hfz11_0 := bf BK136 0; have hfz11_1 := bf BK136 1; have hfz11_2 := bf BK136 2) | ((with_reducible refine gate_callee (f := 35) rfl ?_); refine gL (some 5) Try.func35 #[.agg #[.int .i64 a0_0, .slice A0_1 l0_1.length c0_1, .slice A0_2 l0_2.length c0_2]] ?_; (with_reducible refine (spec_l03Is.calls k a0_0 _ _ l0_1 _ _ l0_2 false _ ?side1 ?side2 ?side3 ?side4 A2.out).mono ?_); (case side1 => exact uC ((Kd.C_below HR0_1.out HB.out))); (case side2 => exact HC0_1.out); (case side3 => exact uC ((Kd.C_below HR0_2.out HB.out))); (case side4 => exact HC0_2.out); rintro e w12 ⟨rfl, hb⟩; refine ⟨_, rfl, ?_⟩; replace BK136 := xB BK136 hb; replace HB := xH HB hb; (try clear hb); (try clear hb2); (try clear hk); (try clear hi)))
  go_ret2
  exact ⟨_, by first | rfl | (simp [errW_none, errW_some] <;> rfl) | (simp [*, errW_none, errW_some] <;> rfl), by first | exact Kd.S_nil _ _ _ _ _ | exact Kd.N_nil _ _ _ _ _ | exact Kd.V_nil _ _ _ _ _ | exact Kd.Q_nil _ _ _ _ _ | exact Kd.R_nil _ _ _ _ _, uH HB.out⟩
/- The matrix of data: row i has alpha at i, 1 behind it and beta ahead of it; for the program and for the reference. -/
def matRow0 (a : List Int) (i : Nat) : List Int := (List.replicate a.length (0 : Int)).set i (a.getD i 0)
def matRow1 (a : List Int) (i : Nat) : List Int := if i + 1 < a.length then (matRow0 a i).set (i + 1) 1 else matRow0 a i
def matRow (a b : List Int) (i : Nat) : List Int := if 0 < i then (matRow1 a i).set (i - 1) (b.getD i 0) else matRow1 a i
def matAll (a b : List Int) (n : Nat) : List (List Int) := (List.range n).map (matRow a b)
theorem matRow0_len (a : List Int) (i : Nat) : (matRow0 a i).length = a.length := by simp [matRow0]
theorem matRow1_len (a : List Int) (i : Nat) : (matRow1 a i).length = a.length := by unfold matRow1; split <;> simp [matRow0]
theorem matRow_len (a b : List Int) (i : Nat) : (matRow a b i).length = a.length := by unfold matRow; split <;> simp [matRow1_len]
theorem matAll_len (a b : List Int) (n : Nat) : (matAll a b n).length = n := by simp [matAll]
theorem matAll_succ (a b : List Int) (n : Nat) : matAll a b (n + 1) = matAll a b n ++ [matRow a b n] := by simp [matAll, List.range_succ]

theorem specMatrix_l0 (p : Int) (a b : List Int) (ha : a.length ≤ 12) (hb : b.length = a.length) (d : Nat) : ∀ i, i + d = a.length →
    Ev (fun k => spec_l03Matrix.l0 k (a.length : Int) (matAll a b i) (i : Int) p a b) (matAll a b a.length) := by
  induction d with
  | zero =>
    intro i hi
    refine Ev.step (fun k => by rw [spec_l03Matrix.l0]) ?_
    refine Ev.neg (by omega) (Ev.some' ?_)
    rw [show i = a.length by omega]
  | succ d ih =>
    intro i hi
    refine Ev.step (fun k => by rw [spec_l03Matrix.l0]) ?_
    refine Ev.pos (by omega) (Ev.pos (by omega) (Ev.pos (by rw [toNat_nat]; omega) (Ev.bindE rfl ?_)))
    refine Ev.pos (by omega) (Ev.pos (by omega) (Ev.pos (by rw [List.length_replicate, toNat_nat]; omega) (Ev.bindE rfl ?_)))
    rw [toNat_nat, toNat_nat, rd_nat, wsucc (i := i) (n := a.length) (by omega) (by omega)]
    have h := ih (i + 1) (by omega)
    rw [matAll_succ] at h
    change Ev _ _
    by_cases g : 0 < i
    · rw [rd_nat, wpred (i := i) g (by omega), toNat_nat]
      refine Ev.pos (by omega) (Ev.pos (by omega) (Ev.pos (by omega) (Ev.pos (by rw [List.length_replicate]; omega) (Ev.bindE rfl ?_))))
      by_cases l : i + 1 < a.length
      · rw [toNat_nat]
        refine Ev.pos (by omega) (Ev.pos (by omega) (Ev.pos (by rw [List.length_replicate]; omega) (Ev.pos (by rw [matAll_len]; omega) ?_)))
        have e : matRow a b i = ((matRow0 a i).set (i - 1) (b.getD i 0)).set (i + 1) 1 := by
          unfold matRow matRow1
          rw [if_pos g, if_pos l, List.set_comm _ _ (by omega)]
        rw [e] at h
        exact h
      · refine Ev.neg (by omega) (Ev.pos (by rw [matAll_len]; omega) ?_)
        have e : matRow a b i = (matRow0 a i).set (i - 1) (b.getD i 0) := by
          unfold matRow matRow1
          rw [if_pos g, if_neg l]
        rw [e] at h
        exact h
    · refine Ev.neg (by omega) ?_
      by_cases l : i + 1 < a.length
      · rw [toNat_nat]
        refine Ev.pos (by omega) (Ev.pos (by omega) (Ev.pos (by rw [List.length_replicate]; omega) (Ev.pos (by rw [matAll_len]; omega) ?_)))
        have e : matRow a b i = (matRow0 a i).set (i + 1) 1 := by
          unfold matRow matRow1
          rw [if_neg g, if_pos l]
        rw [e] at h
        exact h
      · refine Ev.neg (by omega) (Ev.pos (by rw [matAll_len]; omega) ?_)
        have e : matRow a b i = matRow0 a i := by
          unfold matRow matRow1
          rw [if_neg g, if_neg l]
        rw [e] at h
        exact h
theorem specMatrix_ev (p : Int) (a b : List Int) (ha : a.length ≤ 12) (hb : b.length = a.length) : Ev (fun k => spec_l03Matrix.f k p a b) (matAll a b a.length) := by
  unfold spec_l03Matrix.f
  exact specMatrix_l0 p a b ha hb a.length 0 (by omega)

theorem implMatrix_l0 (p : Int) (a b : List Int) (ha : a.length ≤ 12) (hb : b.length = a.length) (d : Nat) : ∀ i, i + d = a.length →
    Ev (fun k => impl_Jacobi_matrix.l0 k (matAll a b i) a (a.length : Int) (i : Int) p a b) (matAll a b a.length) := by
  induction d with
  | zero =>
    intro i hi
    refine Ev.step (fun k => by rw [impl_Jacobi_matrix.l0]) ?_
    refine Ev.neg (by omega) (Ev.some' ?_)
    rw [show i = a.length by omega]
  | succ d ih =>
    intro i hi
    refine Ev.step (fun k => by rw [impl_Jacobi_matrix.l0]) ?_
    refine Ev.pos (by omega) (Ev.pos (by omega) (Ev.pos (by omega) (Ev.pos (by omega) (Ev.pos (by rw [toNat_nat]; omega) (Ev.bindE rfl ?_)))))
    refine Ev.pos (by rw [List.length_replicate, toNat_nat]; omega) (Ev.bindE rfl ?_)
    rw [toNat_nat, toNat_nat, rd_nat, wsucc (i := i) (n := a.length) (by omega) (by omega), rd_nat]
    have h := ih (i + 1) (by omega)
    rw [matAll_succ] at h
    by_cases l : i + 1 < a.length
    · rw [toNat_nat]
      refine Ev.pos (by rw [List.length_replicate]; omega) (Ev.pos (by omega) (Ev.bindE rfl ?_))
      by_cases g : 0 < i
      · rw [wpred (i := i) g (by omega), toNat_nat]
        refine Ev.pos (by omega) (Ev.pos (by omega) (Ev.pos (by omega) (Ev.pos (by rw [List.length_replicate]; omega) (Ev.pos (by rw [matAll_len]; omega) ?_))))
        have e : matRow a b i = ((matRow0 a i).set (i + 1) 1).set (i - 1) (b.getD i 0) := by
          unfold matRow matRow1
          rw [if_pos g, if_pos l]
        rw [e] at h
        exact h
      · refine Ev.neg (by omega) (Ev.pos (by rw [matAll_len]; omega) ?_)
        have e : matRow a b i = (matRow0 a i).set (i + 1) 1 := by
          unfold matRow matRow1
          rw [if_neg g, if_pos l]
        rw [e] at h
        exact h
    · refine Ev.neg (by rw [List.length_replicate]; omega) ?_
      by_cases g : 0 < i
      · rw [wpred (i := i) g (by omega), toNat_nat]
        refine Ev.pos (by omega) (Ev.pos (by omega) (Ev.pos (by omega) (Ev.pos (by rw [List.length_replicate]; omega) (Ev.pos (by rw [matAll_len]; omega) ?_))))
        have e : matRow a b i = (matRow0 a i).set (i - 1) (b.getD i 0) := by
          unfold matRow matRow1
          rw [if_pos g, if_neg l]
        rw [e] at h
        exact h
      · refine Ev.neg (by omega) (Ev.pos (by rw [matAll_len]; omega) ?_)
        have e : matRow a b i = matRow0 a i := by
          unfold matRow matRow1
          rw [if_neg g, if_neg l]
        rw [e] at h
        exact h
theorem implMatrix_ev (p : Int) (a b : List Int) (ha : a.length ≤ 12) (hb : b.length = a.length) : Ev (fun k => impl_Jacobi_matrix.f k p a b) (matAll a b a.length) := by
  unfold impl_Jacobi_matrix.f
  exact implMatrix_l0 p a b ha hb a.length 0 (by omega)
/- MatrixOf: for all arguments the program and the reference come to one value; no condition. -/
theorem MatrixOf_both (p : Int) (a b : List Int) (ha : Sm a.length) (hb : Sm b.length) :
    ∃ v : List (List Int) × Int, Ev (fun n => spec_MatrixOf.f n p a b) v ∧ Ev (fun n => impl_MatrixOf.f n p a b) v ∧ SmR v.1 := by
  have hs := specJac_ev p a b ha hb
  have hi := implJacCode_ev p a b true ha hb
  by_cases h : jacB p a b = true
  · obtain ⟨⟨⟨h4, h5⟩, h6⟩, h7, h8⟩ := jacB.all h
    have hc : jacC p a b true = 0 := by rw [jacC, if_pos h, if_pos rfl]
    refine ⟨(matAll a b a.length, 0), ?_, ?_, ?_⟩
    · unfold spec_MatrixOf.f
      exact Ev.bind hs (Ev.pos h (Ev.bind (specMatrix_ev p a b h5 h6) (Ev.now _)))
    · unfold impl_MatrixOf.f
      exact Ev.bind hi (Ev.pos hc (Ev.bind (implMatrix_ev p a b h5 h6) (Ev.now _)))
    · refine ⟨by rw [matAll_len]; exact ha, fun r hr => ?_⟩
      obtain ⟨i, _, rfl⟩ := List.mem_map.1 hr
      rw [matRow_len]; exact ha
  · have hc : jacC p a b true = 1 := by rw [jacC, if_neg h]
    refine ⟨([], 1), ?_, ?_, ⟨Nat.zero_le _, fun r hr => by cases hr⟩⟩
    · unfold spec_MatrixOf.f
      exact Ev.bind hs (Ev.neg h (Ev.now _))
    · unfold impl_MatrixOf.f
      refine Ev.bind hi ?_
      rw [hc]
      exact Ev.neg (by decide) (Ev.now _)
end Go.Proofs.Ytjdannndpfkadaa.Pr
