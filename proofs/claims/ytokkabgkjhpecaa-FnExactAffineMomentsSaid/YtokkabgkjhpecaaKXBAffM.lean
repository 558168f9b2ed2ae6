/- AffineMoments: for all arguments the program and the reference come to one value; no condition. -/
import Derived.Test.YtokkabgkjhpecaaKAffineMoments6
import Derived.Test.YtokkabgkjhpecaaKFspecAffineMoments
import Derived.Test.YtokkabgkjhpecaaKFimplAffineMoments
namespace Go.Proofs.Ytokkabgkjhpecaa.Pr
open Go.RowKit Go.Proofs.YtokkabgkjhpecaaW.PrintWords Go.Proofs.YtokkabgkjhpecaaW.PrintLast Go.Proofs.YtokkabgkjhpecaaW.PrintMore

/-- The powers of a polynomial of degree 1 at most. -/
def powA (p : Int) (st : List Int) : Nat → List Int
  | 0 => [1]
  | k + 1 => pmul p (powA p st k) st
theorem powA_ok {p : Int} (hp : Pm p) (st : List Int) (hst : st.length ≤ 2) (k : Nat) : Nm p (powA p st k) ∧ (powA p st k).length ≤ k + 1 := by
  have := hp.two
  induction k with
  | zero => exact ⟨Nm.cons (by omega) (by omega) (Nm.nil p), by simp [powA]⟩
  | succ k ih =>
    refine ⟨pmul_nm hp.pos _ _, ?_⟩
    have h := pmul_len p (powA p st k) st
    have h2 := ih.2
    rw [powA]
    omega
def affL (p : Int) (l st : List Int) (n : Nat) : List Int := (List.range n).map fun k => applyM p l (powA p st k) 0
theorem affL_len (p : Int) (l st : List Int) (n : Nat) : (affL p l st n).length = n := by simp [affL]
theorem affL_succ (p : Int) (l st : List Int) (n : Nat) : affL p l st (n + 1) = affL p l st n ++ [applyM p l (powA p st n) 0] := by simp [affL, List.range_succ]
theorem specAff_l0 {p : Int} (hp : Pm p) (l st : List Int) (nl : Nm p l) (ns : Nm p st) (h24 : l.length ≤ 24) (hst : st.length ≤ 2) (d : Nat) : ∀ i : Nat, i + d = l.length →
    Ev (fun k => spec_AffineMoments.l0 k (powA p st i) st (i : Int) p l p (affL p l st i)) (p, affL p l st l.length, 0) := by
  induction d with
  | zero =>
    intro i hi
    refine Ev.step (fun k => by rw [spec_AffineMoments.l0]) ?_
    refine Ev.neg (by omega) (Ev.some' ?_)
    rw [show i = l.length from by omega]
  | succ d ih =>
    intro i hi
    have o := powA_ok hp st hst i
    have o2 := o.2
    refine Ev.step (fun k => by rw [spec_AffineMoments.l0]) ?_
    refine Ev.pos (by omega) (Ev.bind (specApply_ev hp l _ nl o.1 0 (.inl (by omega)) (by unfold Sm; omega) (by unfold Sm; omega)) (Ev.pos (by rw [affL_len]; omega) ?_))
    refine Ev.bind (specMul_ev hp _ _ o.1 ns (by unfold Sm; omega) (by unfold Sm; omega) (by unfold Sm; omega)) ?_
    rw [← affL_succ, wsucc (i := i) (n := l.length) (by omega) (by omega)]
    exact ih (i + 1) (by omega)
theorem implAff_l0 {p : Int} (hp : Pm p) (l st : List Int) (nl : Nm p l) (ns : Nm p st) (h24 : l.length ≤ 24) (hst : st.length ≤ 2) (d : Nat) : ∀ i : Nat, i + d = l.length →
    Ev (fun k => impl_AffineMoments.l0 k (powA p st i) st (l.length : Int) (i : Int) p l p (affL p l st i)) (p, affL p l st l.length, 0) := by
  induction d with
  | zero =>
    intro i hi
    refine Ev.step (fun k => by rw [impl_AffineMoments.l0]) ?_
    refine Ev.neg (by omega) (Ev.some' ?_)
    rw [show i = l.length from by omega]
  | succ d ih =>
    intro i hi
    have o := powA_ok hp st hst i
    have o2 := o.2
    refine Ev.step (fun k => by rw [impl_AffineMoments.l0]) ?_
    refine Ev.pos (by omega) (Ev.bind (implApply_ev hp l _ nl o.1 (by omega) (by unfold Sm; omega)) (Ev.pos (by rw [affL_len]; omega) (Ev.bindE (a := p) rfl ?_)))
    refine Ev.bind (implMul_ev hp _ _ o.1 ns (by unfold Sm; omega) (by unfold Sm; omega) (by unfold Sm; omega)) ?_
    rw [← affL_succ, wsucc (i := i) (n := l.length) (by omega) (by omega)]
    exact ih (i + 1) (by omega)
theorem AffineMoments_both (p : Int) (l : List Int) (a b : Int) (hl : Sm l.length) :
    ∃ v : Int × List Int × Int, Ev (fun k => spec_AffineMoments.f k p l a b) v ∧ Ev (fun k => impl_AffineMoments.f k p l a b) v ∧ Sm v.2.1.length := by
  have h1 : impl_AffineMoments_1.f p l a b = some (decide ((0 ≤ a ∧ a < p) ∧ (0 ≤ b ∧ b < p))) := by
    unfold impl_AffineMoments_1.f
    rw [show impl_Moments_field.f p l = some p from rfl, Option.bind_some, has_eq, Option.bind_some]
    by_cases h : 0 ≤ a ∧ a < p
    · rw [if_pos (decide_eq_true h), Option.bind_some, has_eq]
      simp [h]
    · rw [if_neg (by simp only [decide_eq_true_eq]; exact h)]
      simp only [h, false_and, decide_false]
  have hc := momentsCode_ev p l hl (decide ((0 ≤ a ∧ a < p) ∧ (0 ≤ b ∧ b < p))) [] (by simp [Sm]) (fun g h => by cases h)
  simp only [List.all_nil, Bool.and_true] at hc
  by_cases hm : momB p l = true
  · have hp := momB.pm hm
    have hp2 := hp.two
    have hpt := hp.top
    have hll := momB.len hm
    have hw : wrap64 (p - 1) = p - 1 := wrap_id (by omega) (by omega)
    rw [if_pos hm] at hc
    by_cases h : (0 ≤ a ∧ a < p) ∧ (0 ≤ b ∧ b < p)
    · rw [if_pos (decide_eq_true h)] at hc
      have hst : (trim [b, a]).length ≤ 2 := trim_len [b, a]
      have hsn : Nm p (trim [b, a]) := (Nm.cons h.2.1 h.2.2 (Nm.cons h.1.1 h.1.2 (Nm.nil p))).trim
      refine ⟨(p, affL p l (trim [b, a]) l.length, 0), ?_, ?_, by dsimp only; rw [affL_len]; exact hl⟩
      · unfold spec_AffineMoments.f
        rw [hw]
        exact Ev.bind (specAre_ev p l hl) (Ev.pos hm (Ev.bindE (in_eq _ _ _) (Ev.pos (decide_eq_true (by omega)) (Ev.bindE (in_eq _ _ _) (Ev.pos (decide_eq_true (by omega)) (Ev.bind (specTrim_ev [b, a] (by simp [Sm])) (specAff_l0 hp l _ (momB.nm hm) hsn hll.2 hst l.length 0 (by omega))))))))
      · unfold impl_AffineMoments.f
        exact Ev.bindE h1 (Ev.bind hc (Ev.pos rfl (Ev.bind (implTrim_ev [b, a] (by simp [Sm])) (implAff_l0 hp l _ (momB.nm hm) hsn hll.2 hst l.length 0 (by omega)))))
    · rw [if_neg (by simp only [decide_eq_true_eq]; exact h)] at hc
      refine ⟨(0, [], 2), ?_, ?_, Sm0⟩
      · unfold spec_AffineMoments.f
        rw [hw]
        refine Ev.bind (specAre_ev p l hl) (Ev.pos hm (Ev.bindE (in_eq _ _ _) ?_))
        by_cases g : 0 ≤ a ∧ a ≤ p - 1
        · refine Ev.pos (decide_eq_true g) (Ev.bindE (in_eq _ _ _) (Ev.neg (by simp only [decide_eq_true_eq]; omega) (Ev.now _)))
        · exact Ev.neg (by simp only [decide_eq_true_eq]; exact g) (Ev.now _)
      · unfold impl_AffineMoments.f
        exact Ev.bindE h1 (Ev.bind hc (Ev.neg (by decide) (Ev.now _)))
  · rw [if_neg hm] at hc
    refine ⟨(0, [], 1), ?_, ?_, Sm0⟩
    · unfold spec_AffineMoments.f
      exact Ev.bind (specAre_ev p l hl) (Ev.neg hm (Ev.now _))
    · unfold impl_AffineMoments.f
      exact Ev.bindE h1 (Ev.bind hc (Ev.neg (by decide) (Ev.now _)))
end Go.Proofs.Ytokkabgkjhpecaa.Pr
