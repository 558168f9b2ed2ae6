/- SumOfExpansion: for all arguments the program and the reference come to one value; no condition. -/
import Derived.Test.YtfbnkebgdmfcfaaKC21
import Derived.Test.YtfbnkebgdmfcfaaKSumOfExpansion1
import Derived.Test.YtfbnkebgdmfcfaaKFimplSumOfExpansion
namespace Go.Proofs.Ytfbnkebgdmfcfaa.Pr
open Go.RowKit Go.Proofs.YtfbnkebgdmfcfaaW.PrintWords Go.Proofs.YtfbnkebgdmfcfaaW.PrintLast Go.Proofs.YtfbnkebgdmfcfaaW.PrintMore

theorem specNumbers_l0 {p : Int} (hp : Pm p) (l : List Int) (hl : Sm l.length) (d : Nat) : ∀ i, i + d = l.length → Ev (fun n => spec_l02Numbers.l0 n p l (i : Int)) (decide (Nm p (l.drop i))) := by
  have ew : wrap64 (p - 1) = p - 1 := by have := hp.two; have := hp.top; exact wrap_id (by omega) (by omega)
  induction d with
  | zero =>
    intro i hi
    refine Ev.step (fun n => by rw [spec_l02Numbers.l0]) ?_
    refine Ev.neg (by omega) (Ev.some' ?_)
    rw [List.drop_of_length_le (by omega), decide_eq_true (Nm.nil p)]
  | succ d ih =>
    intro i hi
    have hs := hl
    unfold Sm at hs
    refine Ev.step (fun n => by rw [spec_l02Numbers.l0]) ?_
    rw [rd_nat, ew]
    refine Ev.pos (by omega) (Ev.pos (by omega) (Ev.bindE (in_eq _ _ _) ?_))
    by_cases h : 0 ≤ l.getD i 0 ∧ l.getD i 0 ≤ p - 1
    · refine Ev.pos (decide_eq_true h) ?_
      rw [wsucc (i := i) (n := l.length) (by omega) (by omega)]
      have e : decide (Nm p (l.drop i)) = decide (Nm p (l.drop (i + 1))) := by
        congr 1
        rw [Nm_drop (by omega)]
        exact propext ⟨fun g => g.2, fun g => ⟨⟨h.1, by omega⟩, g⟩⟩
      rw [e]
      exact ih (i + 1) (by omega)
    · refine Ev.neg (by simpa using h) (Ev.some' ?_)
      rw [eq_comm, decide_eq_false_iff_not, Nm_drop (by omega)]
      intro g
      exact h ⟨g.1.1, by omega⟩
theorem specNumbers_ev {p : Int} (hp : Pm p) (l : List Int) (hl : Sm l.length) : Ev (fun n => spec_l02Numbers.f n p l) (decide (Nm p l)) := by
  unfold spec_l02Numbers.f
  exact specNumbers_l0 hp l hl l.length 0 (by omega)
theorem specSumE_l0 {p : Int} (hp : Pm p) (l : List Int) (c : List Int) (nc : Nm p c) (m : Nat) (hm : c.length = m + 1) (hs : c.length ≤ 1000) (d : Nat) : ∀ i, i + d = c.length →
    Ev (fun n => spec_SumOfExpansion.l0 n c (sumP p (mP p l) (fun k => c.getD k 0) i) (mPolys p l m) (i : Int) p l) (sumP p (mP p l) (fun k => c.getD k 0) c.length, 0) := by
  induction d with
  | zero =>
    intro i hi
    refine Ev.step (fun n => by rw [spec_SumOfExpansion.l0]) ?_
    refine Ev.neg (by omega) (Ev.some' ?_)
    rw [show i = c.length by omega]
  | succ d ih =>
    intro i hi
    have h1 := mP_len hp l i
    have h2 := sumP_len (p := p) (mP p l) (fun k => c.getD k 0) (mP_len hp l) i
    have hc := nc.get (i := i) (by omega)
    refine Ev.step (fun n => by rw [spec_SumOfExpansion.l0]) ?_
    rw [rdL_nat, rd_nat, mPolys_get p l (by omega), mPolys_len, wsucc (i := i) (n := 1000) (by omega) (by omega)]
    refine Ev.pos (by omega) (Ev.pos (by omega) (Ev.pos (by omega) (Ev.bind (specAdd_ev hp hc _ _ (sumP_nm hp _ _ _) (mP_nm hp l i) (by unfold Sm; omega) (by unfold Sm; omega)) ?_)))
    exact ih (i + 1) (by omega)
theorem SumOfExpansion_both (p : Int) (l c : List Int) (hl : Sm l.length) (hcl : Sm c.length) : ∃ v : List Int × Int, Ev (fun k => spec_SumOfExpansion.f k p l c) v ∧ Ev (fun k => impl_SumOfExpansion.f k p l c) v ∧ Sm v.1.length := by
  have hc := momentsCode_ev p l hl (decide (c.length ≤ 12 ∧ Nm p c)) [] (by simp [Sm]) (fun l h => by cases h)
  have hs := specAre_ev p l hl
  have hcl' := hcl
  unfold Sm at hcl'
  have h1 : impl_SumOfExpansion_1.f c p l = some (decide (c.length ≤ 12 ∧ Nm p c)) := by
    unfold impl_SumOfExpansion_1.f
    by_cases h12 : c.length ≤ 12
    · rw [if_pos (by omega)]
      show (impl_areAll_int64.f c (fun z_ => impl_field_has.f p z_)).bind (fun t => some t) = _
      rw [areAll_has p c (by omega), Option.bind_some]
      simp [h12]
    · rw [if_neg (by omega), decide_eq_false (fun g => h12 g.1)]
  by_cases h : momB p l = true
  · rw [h] at hc hs
    have hp := momB.pm h
    have nl := momB.nm h
    have hlen := momB.len h
    by_cases hr : c.length ≤ 12 ∧ Nm p c
    · rw [decide_eq_true hr] at hc h1
      have hj0 : ∀ v, Ev (fun k => spec_SumOfExpansion.j0 k c false p l) v → Ev (fun k => spec_SumOfExpansion.f k p l c) v := fun v hv => by
        unfold spec_SumOfExpansion.f
        refine Ev.bind hs (Ev.pos rfl (Ev.neg (by omega) (Ev.bind (specNumbers_ev hp c hcl) ?_)))
        rw [decide_eq_true hr.2]
        exact hv
      by_cases h0 : c.length = 0
      · have e0 : c = [] := List.length_eq_zero_iff.1 h0
        refine ⟨([], 0), hj0 _ ?_, ?_, by simp [Sm]⟩
        · refine Ev.step (fun k => by rw [spec_SumOfExpansion.j0]) (Ev.neg (by decide) (Ev.neg (by omega) (Ev.step (fun k => by rw [spec_SumOfExpansion.j1]) ?_)))
          exact Ev.bindE rfl (Ev.pos (by omega) (Ev.now _))
        · unfold impl_SumOfExpansion.f
          exact Ev.bindE h1 (Ev.bind hc (Ev.pos rfl (Ev.pos (by omega) (Ev.now _))))
      · obtain ⟨m, hm⟩ : ∃ m, c.length = m + 1 := ⟨c.length - 1, by omega⟩
        have em : wrap64 ((c.length : Int) - 1) = (m : Int) := by rw [wpred (by omega) (by omega)]; omega
        have hu := implUpTo_ev hp nl hlen.2 hlen.1 m (by omega)
        have hg := specReg_ev hp nl hlen.2 m (by omega)
        by_cases cc : (m : Int) ≤ ordV p l ∧ 2 * m ≤ l.length
        · rw [if_pos cc] at hu
          rw [decide_eq_true cc] at hg
          refine ⟨(sumP p (mP p l) (fun k => c.getD k 0) c.length, 0), hj0 _ ?_, ?_, by have := sumP_len (p := p) (mP p l) (fun k => c.getD k 0) (mP_len hp l) c.length; unfold Sm; dsimp only; omega⟩
          · refine Ev.step (fun k => by rw [spec_SumOfExpansion.j0]) (Ev.neg (by decide) (Ev.pos (by omega) ?_))
            rw [em]
            refine Ev.bind hg (Ev.pos rfl (Ev.step (fun k => by rw [spec_SumOfExpansion.j1]) ?_))
            rw [em]
            exact Ev.bindE rfl (Ev.neg (by omega) (Ev.bind (specPolys_ev hp nl hlen.2 cc.2) (specSumE_l0 hp l c hr.2 m hm (by omega) c.length 0 (by omega))))
          · unfold impl_SumOfExpansion.f
            refine Ev.bindE h1 (Ev.bind hc (Ev.pos rfl (Ev.neg (by omega) (Ev.bindE (a := (c.length : Int)) rfl ?_))))
            rw [em]
            refine Ev.bind hu (Ev.pos rfl (Ev.bindE (a := p) rfl (Ev.bind (implSum_ev hp c hr.2 (mP p l) (mP_len hp l) (mP_nm hp l) _ (fun i hi => mPolys_get p l (by omega)) (by rw [mPolys_len]; omega) (by omega)) (Ev.now _))))
        · rw [if_neg cc] at hu
          rw [decide_eq_false cc] at hg
          refine ⟨([], 5), hj0 _ ?_, ?_, by simp [Sm]⟩
          · refine Ev.step (fun k => by rw [spec_SumOfExpansion.j0]) (Ev.neg (by decide) (Ev.pos (by omega) ?_))
            rw [em]
            exact Ev.bind hg (Ev.neg (by decide) (Ev.now _))
          · unfold impl_SumOfExpansion.f
            refine Ev.bindE h1 (Ev.bind hc (Ev.pos rfl (Ev.neg (by omega) (Ev.bindE (a := (c.length : Int)) rfl ?_))))
            rw [em]
            exact Ev.bind hu (Ev.neg (by simp) (Ev.now _))
    · rw [decide_eq_false hr] at hc h1
      refine ⟨([], 2), ?_, ?_, by simp [Sm]⟩
      · unfold spec_SumOfExpansion.f
        refine Ev.bind hs (Ev.pos rfl ?_)
        by_cases h12 : c.length ≤ 12
        · refine Ev.neg (by omega) (Ev.bind (specNumbers_ev hp c hcl) ?_)
          rw [decide_eq_false (fun g => hr ⟨h12, g⟩)]
          refine Ev.step (fun k => by rw [spec_SumOfExpansion.j0]) ?_
          exact Ev.pos rfl (Ev.now _)
        · refine Ev.pos (by omega) (Ev.step (fun k => by rw [spec_SumOfExpansion.j0]) ?_)
          exact Ev.pos rfl (Ev.now _)
      · unfold impl_SumOfExpansion.f
        exact Ev.bindE h1 (Ev.bind hc (Ev.neg (by simp) (Ev.now _)))
  · rw [Bool.eq_false_iff.2 h] at hc hs
    refine ⟨([], 1), ?_, ?_, by simp [Sm]⟩
    · unfold spec_SumOfExpansion.f
      exact Ev.bind hs (Ev.neg (by decide) (Ev.now _))
    · unfold impl_SumOfExpansion.f
      exact Ev.bindE h1 (Ev.bind hc (Ev.neg (by simp) (Ev.now _)))
end Go.Proofs.Ytfbnkebgdmfcfaa.Pr
