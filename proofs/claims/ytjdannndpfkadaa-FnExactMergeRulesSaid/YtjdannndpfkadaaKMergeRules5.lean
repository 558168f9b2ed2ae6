/- Texts of this session in one: what functions of the program compute, and plain facts of it, under the conditions that each theorem names. -/
import Derived.Test.YtjdannndpfkadaaKFspecl07Is
import Derived.Test.YtjdannndpfkadaaKMergeRules2
import Derived.Test.YtjdannndpfkadaaKMergeRules3
namespace Go.Proofs.Ytjdannndpfkadaa.Pr
/- Rules: what the program and the reference take for one. -/
open Go.RowKit Go.Proofs.YtjdannndpfkadaaW.PrintWords Go.Proofs.YtjdannndpfkadaaW.PrintLast Go.Proofs.YtjdannndpfkadaaW.PrintMore
def ascFrom (l : List Int) (i : Nat) : Prop := ∀ j, j < l.length → i ≤ j → l.getD (j - 1) 0 < l.getD j 0
instance (l : List Int) (i : Nat) : Decidable (ascFrom l i) := by unfold ascFrom; infer_instance
theorem asc_l0 (l : List Int) (hl : Sm l.length) (d : Nat) : ∀ i, 1 ≤ i → (i + d = l.length ∨ d = 0 ∧ l.length ≤ i) → i ≤ l.length + 1 → Ev (fun k => impl_areAscending.l0 k l (i : Int)) (decide (ascFrom l i)) := by
  induction d with
  | zero =>
    intro i hi hd _
    refine Ev.step (fun k => by rw [impl_areAscending.l0]) ?_
    refine Ev.neg (by omega) (Ev.some' ?_)
    exact (decide_eq_true (fun j h1 h2 => by omega)).symm
  | succ d ih =>
    intro i hi hd _
    unfold Sm at hl
    refine Ev.step (fun k => by rw [impl_areAscending.l0]) ?_
    refine Ev.pos (by omega) (Ev.pos (by omega) ?_)
    rw [wpred (by omega) (by omega)]
    refine Ev.pos (by omega) (Ev.pos (by omega) ?_)
    rw [rd_nat, rd_nat, wsucc (i := i) (n := l.length) (by omega) (by omega)]
    by_cases h : l.getD i 0 ≤ l.getD (i - 1) 0
    · refine Ev.pos h (Ev.some' (decide_eq_false (fun g => ?_)).symm)
      have := g i (by omega) (by omega)
      omega
    · refine Ev.neg h (Ev.cast (ih (i + 1) (by omega) (by omega) (by omega)) ?_)
      apply decide_eq_decide.2
      constructor
      · intro g j h1 h2
        by_cases e : j = i
        · subst e; omega
        · exact g j h1 (by omega)
      · exact fun g j h1 h2 => g j h1 (by omega)
theorem asc_ev (l : List Int) (hl : Sm l.length) : Ev (fun k => impl_areAscending.f k l) (decide (ascFrom l 1)) := by
  unfold impl_areAscending.f
  by_cases h : 1 ≤ l.length
  · exact asc_l0 l hl (l.length - 1) 1 (by omega) (by omega) (by omega)
  · exact asc_l0 l hl 0 1 (by omega) (by omega) (by omega)
theorem numbers_eq (p : Int) (l : List Int) (hl : Sm l.length) (a b : Int) : Ev (fun k => impl_areNumbers.f k p l a b) (primeB p && (decide (a ≤ (l.length : Int) ∧ (l.length : Int) ≤ b) && decide (Nm p l))) := by
  unfold impl_areNumbers.f
  refine Ev.bind (implPrime_ev p) ?_
  by_cases hp : primeB p = true
  · rw [hp, Bool.true_and]
    refine Ev.pos rfl (Ev.bindE (a := (l.length : Int)) rfl (Ev.bindE (within_eq _ _ _) ?_))
    by_cases h : a ≤ (l.length : Int) ∧ (l.length : Int) ≤ b
    · refine Ev.pos (decide_eq_true h) (Ev.bindE (areAll_has p l (by unfold Sm at hl; omega)) (Ev.some' ?_))
      rw [decide_eq_true h, Bool.true_and]
    · refine Ev.neg (by simpa using h) (Ev.some' ?_)
      rw [decide_eq_false h, Bool.false_and]
  · rw [Bool.eq_false_iff.2 hp, Bool.false_and]
    exact Ev.neg (by simp) (Ev.now _)

def okFrom (p : Int) (n w : List Int) (i : Nat) : Prop := ∀ j, j < n.length → i ≤ j → (0 ≤ n.getD j 0 ∧ n.getD j 0 < p) ∧ (0 ≤ w.getD j 0 ∧ w.getD j 0 < p) ∧ (0 < j → n.getD (j - 1) 0 < n.getD j 0)
instance (p : Int) (n w : List Int) (i : Nat) : Decidable (okFrom p n w i) := by unfold okFrom; infer_instance
def ruleB (p : Int) (n w : List Int) : Bool := primeB p && decide (n.length ≤ 24 ∧ w.length = n.length ∧ okFrom p n w 0)
theorem Nm_iff (p : Int) (l : List Int) : Nm p l ↔ ∀ j, j < l.length → 0 ≤ l.getD j 0 ∧ l.getD j 0 < p := by
  constructor
  · exact fun h j hj => h.get hj
  · intro h x hx
    obtain ⟨j, hj, rfl⟩ := List.getElem_of_mem hx
    have := h j hj
    simpa [List.getD, hj] using this
theorem okFrom_iff (p : Int) (n w : List Int) (h : w.length = n.length) : okFrom p n w 0 ↔ Nm p n ∧ ascFrom n 1 ∧ Nm p w := by
  rw [Nm_iff, Nm_iff]
  constructor
  · exact fun g => ⟨fun j hj => (g j hj (by omega)).1, fun j hj h1 => (g j hj (by omega)).2.2 (by omega), fun j hj => (g j (by omega) (by omega)).2.1⟩
  · exact fun g j hj _ => ⟨g.1 j hj, g.2.2 j (by omega), fun h0 => g.2.1 j hj (by omega)⟩
theorem specRule_l0 {p : Int} (hp : Pm p) (n w : List Int) (hl : Sm n.length) (hw : w.length = n.length) (d : Nat) : ∀ i, i + d = n.length → Ev (fun k => spec_l07Is.l0 k (i : Int) p n w) (decide (okFrom p n w i)) := by
  have h2 := hp.two
  have ht := hp.top
  induction d with
  | zero =>
    intro i hi
    refine Ev.step (fun k => by rw [spec_l07Is.l0]) ?_
    refine Ev.neg (by omega) (Ev.some' ?_)
    exact (decide_eq_true (fun j h1 h2 => by omega)).symm
  | succ d ih =>
    intro i hi
    unfold Sm at hl
    have next : (0 ≤ n.getD i 0 ∧ n.getD i 0 < p) → (0 ≤ w.getD i 0 ∧ w.getD i 0 < p) → (0 < i → n.getD (i - 1) 0 < n.getD i 0) → Ev (fun k => spec_l07Is.l0 k (wrap64 ((i : Int) + 1)) p n w) (decide (okFrom p n w i)) := by
      intro g1 g2 g3
      rw [wsucc (i := i) (n := n.length) (by omega) (by omega)]
      refine Ev.cast (ih (i + 1) (by omega)) ?_
      apply decide_eq_decide.2
      constructor
      · intro g j h1 h2
        by_cases e : j = i
        · subst e; exact ⟨g1, g2, g3⟩
        · exact g j h1 (by omega)
      · exact fun g j h1 h2 => g j h1 (by omega)
    refine Ev.step (fun k => by rw [spec_l07Is.l0]) ?_
    refine Ev.pos (by omega) (Ev.pos (by omega) (Ev.bindE (in_eq _ _ _) ?_))
    rw [rd_nat, rd_nat, wrap_id (x := p - 1) (by omega) (by omega)]
    by_cases h1 : 0 ≤ n.getD i 0 ∧ n.getD i 0 ≤ p - 1
    · refine Ev.pos (decide_eq_true h1) (Ev.pos (by omega) (Ev.bindE (in_eq _ _ _) ?_))
      by_cases h3 : 0 ≤ w.getD i 0 ∧ w.getD i 0 ≤ p - 1
      · refine Ev.pos (decide_eq_true h3) ?_
        by_cases h0 : 0 < i
        · refine Ev.pos (by omega) ?_
          rw [wpred (by omega) (by omega), rd_nat]
          refine Ev.pos (by omega) (Ev.pos (by omega) ?_)
          by_cases h4 : n.getD i 0 ≤ n.getD (i - 1) 0
          · refine Ev.pos h4 (Ev.some' (decide_eq_false (fun g => ?_)).symm)
            have := (g i (by omega) (by omega)).2.2 h0
            omega
          · exact Ev.neg h4 (next ⟨h1.1, by omega⟩ ⟨h3.1, by omega⟩ (fun _ => by omega))
        · exact Ev.neg (by omega) (next ⟨h1.1, by omega⟩ ⟨h3.1, by omega⟩ (fun h => absurd h h0))
      · refine Ev.neg (by simpa using h3) (Ev.some' (decide_eq_false (fun g => h3 ?_)).symm)
        have := (g i (by omega) (by omega)).2.1
        exact ⟨this.1, by omega⟩
    · refine Ev.neg (by simpa using h1) (Ev.some' (decide_eq_false (fun g => h1 ?_)).symm)
      have := (g i (by omega) (by omega)).1
      exact ⟨this.1, by omega⟩
theorem specRule_ev (p : Int) (n w : List Int) (hn : Sm n.length) (_hw : Sm w.length) : Ev (fun k => spec_l07Is.f k p n w) (ruleB p n w) := by
  unfold spec_l07Is.f ruleB
  refine Ev.bind (specPrime_ev p) ?_
  by_cases hp : primeB p = true
  · rw [hp, Bool.true_and]
    refine Ev.pos rfl ?_
    by_cases h1 : n.length ≤ 24
    · refine Ev.neg (by omega) ?_
      by_cases h2 : w.length = n.length
      · rw [show (((w.length : Int) != (n.length : Int)) : Bool) = false from by simp [h2]]
        refine Ev.step (fun k => by rw [spec_l07Is.j0]) ?_
        refine Ev.neg (by decide) ?_
        refine Ev.cast (specRule_l0 (primeB.pm hp) n w hn h2 n.length 0 (by omega)) ?_
        apply decide_eq_decide.2
        exact ⟨fun g => ⟨h1, h2, g⟩, fun g => g.2.2⟩
      · rw [show (((w.length : Int) != (n.length : Int)) : Bool) = true from by simp; omega]
        refine Ev.step (fun k => by rw [spec_l07Is.j0]) ?_
        refine Ev.pos rfl (Ev.some' (decide_eq_false (fun g => h2 g.2.1)).symm)
    · refine Ev.pos (by omega) ?_
      refine Ev.step (fun k => by rw [spec_l07Is.j0]) ?_
      refine Ev.pos rfl (Ev.some' (decide_eq_false (fun g => h1 g.1)).symm)
  · rw [Bool.eq_false_iff.2 hp, Bool.false_and]
    refine Ev.neg (by simp) ?_
    refine Ev.step (fun k => by rw [spec_l07Is.j0]) ?_
    exact Ev.pos rfl (Ev.now _)
theorem implRule_ev (p : Int) (n w : List Int) (hn : Sm n.length) (hw : Sm w.length) : Ev (fun k => impl_IsRule.f k p n w) (ruleB p n w) := by
  unfold impl_IsRule.f ruleB
  refine Ev.bind (numbers_eq p n hn 0 24) ?_
  by_cases hp : primeB p = true
  · rw [hp, Bool.true_and, Bool.true_and]
    by_cases h1 : n.length ≤ 24 ∧ Nm p n
    · refine Ev.pos (by rw [decide_eq_true (by omega), decide_eq_true h1.2]; rfl) (Ev.bind (asc_ev n hn) ?_)
      by_cases h2 : ascFrom n 1
      · refine Ev.pos (decide_eq_true h2) (Ev.bindE (a := (n.length : Int)) rfl (Ev.bindE (a := (n.length : Int)) rfl (Ev.bind (numbers_eq p w hw _ _) (Ev.some' ?_))))
        rw [hp, Bool.true_and]
        by_cases h3 : w.length = n.length
        · rw [decide_eq_true (by omega), Bool.true_and]
          apply decide_eq_decide.2
          rw [okFrom_iff p n w h3]
          exact ⟨fun g => ⟨h1.1, h3, h1.2, h2, g⟩, fun g => g.2.2.2.2⟩
        · rw [decide_eq_false (by omega), Bool.false_and]
          exact (decide_eq_false (fun g => h3 g.2.1)).symm
      · refine Ev.neg (by simpa using h2) (Ev.some' (decide_eq_false (fun g => h2 ?_)).symm)
        exact ((okFrom_iff p n w g.2.1).1 g.2.2).2.1
    · refine Ev.neg ?_ (Ev.some' (decide_eq_false (fun g => h1 ⟨g.1, ((okFrom_iff p n w g.2.1).1 g.2.2).1⟩)).symm)
      simp only [Bool.and_eq_true, decide_eq_true_eq]
      exact fun g => h1 ⟨by omega, g.2⟩
  · rw [Bool.eq_false_iff.2 hp, Bool.false_and, Bool.false_and]
    exact Ev.neg (by simp) (Ev.now _)
theorem ruleB.pm {p : Int} {n w : List Int} (h : ruleB p n w = true) : Pm p := by
  simp only [ruleB, Bool.and_eq_true] at h; exact primeB.pm h.1
/- What a rule is made of; no condition. -/
theorem ruleB.prime {p : Int} {n w : List Int} (h : ruleB p n w = true) : primeB p = true := by
  simp only [ruleB, Bool.and_eq_true] at h; exact h.1
theorem ruleB.lens {p : Int} {n w : List Int} (h : ruleB p n w = true) : n.length ≤ 24 ∧ w.length = n.length := by
  simp only [ruleB, Bool.and_eq_true, decide_eq_true_eq] at h; exact ⟨h.2.1, h.2.2.1⟩
theorem ruleB.nodes {p : Int} {n w : List Int} (h : ruleB p n w = true) : Nm p n := by
  simp only [ruleB, Bool.and_eq_true, decide_eq_true_eq] at h
  exact (Nm_iff p n).2 fun j hj => (h.2.2.2 j hj (Nat.zero_le _)).1
theorem ruleB.weights {p : Int} {n w : List Int} (h : ruleB p n w = true) : Nm p w := by
  simp only [ruleB, Bool.and_eq_true, decide_eq_true_eq] at h
  exact (Nm_iff p w).2 fun j hj => (h.2.2.2 j (by have := h.2.2.1; omega) (Nat.zero_le _)).2.1
theorem ruleB.asc {p : Int} {n w : List Int} (h : ruleB p n w = true) {i : Nat} (hi : i < n.length) : ∀ j, j < i → n.getD j 0 < n.getD i 0 := by
  have hs : ∀ j, 0 < j → j < n.length → n.getD (j - 1) 0 < n.getD j 0 := by
    simp only [ruleB, Bool.and_eq_true, decide_eq_true_eq] at h
    exact fun j h0 hj => (h.2.2.2 j hj (by omega)).2.2 h0
  clear h
  induction i with
  | zero => intro j hj; omega
  | succ i ih =>
    intro j hj
    have h1 := hs (i + 1) (by omega) hi
    rw [Nat.add_sub_cancel] at h1
    by_cases e : j = i
    · subst e; exact h1
    · have := ih (by omega) j (by omega)
      omega
/- The codes of a rule; no condition. -/
theorem ruleCode_ev (p : Int) (n w : List Int) (b : Bool) (hn : Sm n.length) (hw : Sm w.length) :
    Ev (fun k => impl_ruleCode.f k p n w b []) (if ruleB p n w = true then (if b = true then 0 else 2) else 1) := by
  unfold impl_ruleCode.f
  refine Ev.bind (implRule_ev p n w hn hw) ?_
  by_cases h : ruleB p n w = true
  · rw [if_pos h]
    refine Ev.pos h (Ev.cast (Ev.bind (polyCode_ev p b [] (by simp [Sm]) (fun l hl => by cases hl)) (Ev.now _)) ?_)
    rw [ruleB.prime h]
    cases b <;> rfl
  · rw [if_neg h]
    exact Ev.neg h (Ev.now _)
end Go.Proofs.Ytjdannndpfkadaa.Pr
