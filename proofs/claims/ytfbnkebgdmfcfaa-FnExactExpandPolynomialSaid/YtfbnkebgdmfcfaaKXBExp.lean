/- ExpandPolynomial: for all arguments the program and the reference come to one value; no condition. -/
import Derived.Test.YtfbnkebgdmfcfaaKC11
import Derived.Test.YtfbnkebgdmfcfaaKC010
import Derived.Test.YtfbnkebgdmfcfaaKFspecExpandPolynomial
import Derived.Test.YtfbnkebgdmfcfaaKFimplExpandPolynomial
namespace Go.Proofs.Ytfbnkebgdmfcfaa.Pr
open Go.RowKit Go.Proofs.YtfbnkebgdmfcfaaW.PrintWords Go.Proofs.YtfbnkebgdmfcfaaW.PrintLast Go.Proofs.YtfbnkebgdmfcfaaW.PrintMore

section
variable {p : Int} (hp : Pm p) (l : List Int) (m : Nat)
include hp
theorem implExp_l0 (d : Nat) : ∀ (f o : List Int), f.length ≤ d → f.length ≤ m + 1 → f.length ≤ o.length → f.length ≤ 1000 → Nm p f →
    Ev (fun n => impl_field_expand.l0 n p f (mPolys p l m) o) (expF p (mP p l) d f o) := by
  induction d with
  | zero =>
    intro f o h1 h2 h3 h4 hf
    refine Ev.step (fun n => by rw [impl_field_expand.l0]) ?_
    exact Ev.neg (by omega) (Ev.now _)
  | succ d ih =>
    intro f o h1 h2 h3 h4 hf
    refine Ev.step (fun n => by rw [impl_field_expand.l0]) ?_
    rw [expF]
    by_cases h0 : f.length = 0
    · rw [if_pos h0]
      exact Ev.neg (by omega) (Ev.now _)
    · obtain ⟨k, hk⟩ : ∃ k, f.length = k + 1 := ⟨f.length - 1, by omega⟩
      have e1 : impl_degree.f f = some ((k : Nat) : Int) := by
        unfold impl_degree.f
        show some (wrap64 ((f.length : Int) - 1)) = _
        rw [wpred (by omega) (by omega), hk]; rfl
      have hg := hf.get (i := k) (by omega)
      have ht := hp.top
      have hpl := padd_lt (p := p) hk (mP_mon hp l k)
      have hmk := mP_len hp l k
      rw [if_neg h0, hk, Nat.add_sub_cancel]
      refine Ev.pos (by omega) (Ev.bindE e1 ?_)
      rw [rd_nat, toNat_nat, mPolys_len, rdL_nat, mPolys_get p l (by omega)]
      refine Ev.pos (by omega) (Ev.pos (by omega) (Ev.pos (by omega) (Ev.bindE rfl (Ev.pos (by omega) ?_))))
      rw [rd_nat, getD_set_eq (by omega), wrap_id (by omega) (by omega)]
      refine Ev.bindE (mod_eq hp _) (Ev.bind (implAdd_ev hp (emodB hp.pos _) _ _ hf (mP_nm hp l k) (by unfold Sm; omega) (by unfold Sm; omega)) ?_)
      exact ih _ _ (by omega) (by omega) (by rw [List.length_set]; omega) (by omega) (padd_nm hp.pos hf _)
theorem specExp_l0 (d : Nat) : ∀ (f o : List Int), f.length ≤ d → f.length ≤ m + 1 → f.length ≤ o.length → f.length ≤ 1000 → Nm p f →
    Ev (fun n => spec_ExpandPolynomial.l0 n f o (mPolys p l m) p l) (expF p (mP p l) d f o, 0) := by
  induction d with
  | zero =>
    intro f o h1 h2 h3 h4 hf
    refine Ev.step (fun n => by rw [spec_ExpandPolynomial.l0]) ?_
    exact Ev.neg (by omega) (Ev.now _)
  | succ d ih =>
    intro f o h1 h2 h3 h4 hf
    refine Ev.step (fun n => by rw [spec_ExpandPolynomial.l0]) ?_
    rw [expF]
    by_cases h0 : f.length = 0
    · rw [if_pos h0]
      exact Ev.neg (by omega) (Ev.now _)
    · obtain ⟨k, hk⟩ : ∃ k, f.length = k + 1 := ⟨f.length - 1, by omega⟩
      have e1 : wrap64 ((f.length : Int) - 1) = ((k : Nat) : Int) := by
        rw [wpred (by omega) (by omega), hk]; rfl
      have hg := hf.get (i := k) (by omega)
      have ht := hp.top
      have hpl := padd_lt (p := p) hk (mP_mon hp l k)
      have hmk := mP_len hp l k
      rw [if_neg h0, e1, rd_nat, toNat_nat, mPolys_len, rdL_nat, mPolys_get p l (by omega), wrap_id (by omega) (by omega)]
      refine Ev.pos (by omega) (Ev.pos (by omega) (Ev.pos (by omega) (Ev.pos (by omega) (Ev.pos (by omega) (Ev.bindE (smod_eq hp _) (Ev.bind (specAdd_ev hp (emodB hp.pos _) _ _ hf (mP_nm hp l k) (by unfold Sm; omega) (by unfold Sm; omega)) ?_))))))
      rw [hk, Nat.add_sub_cancel]
      exact ih _ _ (by omega) (by omega) (by rw [List.length_set]; omega) (by omega) (padd_nm hp.pos hf _)
end
theorem expF_len (p : Int) (P : Nat → List Int) (d : Nat) : ∀ f o : List Int, (expF p P d f o).length = o.length := by
  induction d with
  | zero => intro f o; rfl
  | succ d ih =>
    intro f o
    rw [expF]
    split
    · rfl
    · rw [ih, List.length_set]
theorem ExpandPolynomial_both (p : Int) (l c : List Int) (hl : Sm l.length) (hcl : Sm c.length) : ∃ v : List Int × Int, Ev (fun k => spec_ExpandPolynomial.f k p l c) v ∧ Ev (fun k => impl_ExpandPolynomial.f k p l c) v ∧ Sm v.1.length := by
  have hcl' := hcl
  unfold Sm at hcl'
  have hc := momentsCode_ev p l hl (decide (c.length ≤ 12)) [c] (by simp [Sm]) (fun l h => by simp at h; rw [h]; exact hcl)
  rw [List.all_cons, List.all_nil, Bool.and_true] at hc
  have hs := specAre_ev p l hl
  have hw : wrap64 ((c.length : Int) - 1) = (c.length : Int) - 1 := wrap_id (by omega) (by omega)
  have hdeg : impl_degree.f c = some ((c.length : Int) - 1) := by
    unfold impl_degree.f
    show some (wrap64 ((c.length : Int) - 1)) = _
    rw [hw]
  have h1 : impl_ExpandPolynomial_1.f c = some (decide (c.length ≤ 12)) := by
    unfold impl_ExpandPolynomial_1.f
    rw [hdeg, Option.bind_some]
    congr 1
    rw [decide_eq_decide]
    omega
  have bad : (momB p l && polyB p c) = false → Ev (fun k => spec_ExpandPolynomial.f k p l c) ([], 1) := fun hb => by
    unfold spec_ExpandPolynomial.f
    refine Ev.bind hs ?_
    by_cases h : momB p l = true
    · rw [h, Bool.true_and] at hb
      refine Ev.pos h (Ev.bind (specPoly_ev p c hcl) ?_)
      rw [hb]
      refine Ev.step (fun k => by rw [spec_ExpandPolynomial.j0]) ?_
      exact Ev.pos rfl (Ev.now _)
    · refine Ev.neg h (Ev.step (fun k => by rw [spec_ExpandPolynomial.j0]) ?_)
      exact Ev.pos rfl (Ev.now _)
  by_cases hb : (momB p l && polyB p c) = true
  · rw [hb] at hc
    rw [Bool.and_eq_true] at hb
    obtain ⟨h, hpb⟩ := hb
    rw [h] at hs
    have hp := momB.pm h
    have nl := momB.nm h
    have hlen := momB.len h
    have nc : Nm p c := by
      have := hpb
      unfold polyB at this
      rw [Bool.and_eq_true, decide_eq_true_eq] at this
      exact this.1
    have hj0 : ∀ v, Ev (fun k => spec_ExpandPolynomial.j0 k c false p l) v → Ev (fun k => spec_ExpandPolynomial.f k p l c) v := fun v hv => by
      unfold spec_ExpandPolynomial.f
      refine Ev.bind hs (Ev.pos rfl (Ev.bind (specPoly_ev p c hcl) ?_))
      rw [hpb]
      exact hv
    by_cases hr : c.length ≤ 12
    · rw [decide_eq_true hr] at hc h1
      by_cases h0 : c.length = 0
      · have e0 : c = [] := List.length_eq_zero_iff.1 h0
        refine ⟨([], 0), hj0 _ ?_, ?_, by simp [Sm]⟩
        · refine Ev.step (fun k => by rw [spec_ExpandPolynomial.j0]) (Ev.neg (by decide) (Ev.neg (by omega) (Ev.neg (by omega) (Ev.step (fun k => by rw [spec_ExpandPolynomial.j1]) ?_))))
          rw [h0]
          exact Ev.pos (by decide) (Ev.pos (by decide) (Ev.bindE rfl (Ev.pos rfl (Ev.now _))))
        · unfold impl_ExpandPolynomial.f
          exact Ev.bindE h1 (Ev.bind hc (Ev.pos rfl (Ev.pos (by omega) (Ev.now _))))
      · obtain ⟨m, hm⟩ : ∃ m, c.length = m + 1 := ⟨c.length - 1, by omega⟩
        have em : (c.length : Int) - 1 = (m : Int) := by omega
        rw [em] at hw hdeg
        have hw2 : wrap64 ((c.length : Int) - 1) = (m : Int) := by rw [em]; exact hw
        have hu := implUpTo_ev hp nl hlen.2 hlen.1 m (by omega)
        have hg := specReg_ev hp nl hlen.2 m (by omega)
        by_cases cc : (m : Int) ≤ ordV p l ∧ 2 * m ≤ l.length
        · rw [if_pos cc] at hu
          rw [decide_eq_true cc] at hg
          refine ⟨(expF p (mP p l) c.length c (List.replicate c.length 0), 0), hj0 _ ?_, ?_, by rw [expF_len, List.length_replicate]; unfold Sm; omega⟩
          · refine Ev.step (fun k => by rw [spec_ExpandPolynomial.j0]) (Ev.neg (by decide) (Ev.neg (by omega) (Ev.pos (by omega) ?_)))
            rw [hw2]
            refine Ev.bind hg (Ev.pos rfl (Ev.step (fun k => by rw [spec_ExpandPolynomial.j1]) ?_))
            rw [hw2, toNat_nat]
            exact Ev.pos (by omega) (Ev.pos (by omega) (Ev.bindE rfl (Ev.neg (by omega) (Ev.bind (specPolys_ev hp nl hlen.2 cc.2) (specExp_l0 hp l m c.length c _ (by omega) (by omega) (by simp) (by omega) nc)))))
          · unfold impl_ExpandPolynomial.f
            refine Ev.bindE h1 (Ev.bind hc (Ev.pos rfl (Ev.neg (by omega) (Ev.bindE hdeg (Ev.bind hu (Ev.pos rfl (Ev.bindE (a := p) rfl (Ev.bind ?_ (Ev.now _)))))))))
            unfold impl_field_expand.f
            rw [toNat_nat]
            exact Ev.pos (by omega) (Ev.pos (by omega) (implExp_l0 hp l m c.length c _ (by omega) (by omega) (by simp) (by omega) nc))
        · rw [if_neg cc] at hu
          rw [decide_eq_false cc] at hg
          refine ⟨([], 5), hj0 _ ?_, ?_, by simp [Sm]⟩
          · refine Ev.step (fun k => by rw [spec_ExpandPolynomial.j0]) (Ev.neg (by decide) (Ev.neg (by omega) (Ev.pos (by omega) ?_)))
            rw [hw2]
            exact Ev.bind hg (Ev.neg (by decide) (Ev.now _))
          · unfold impl_ExpandPolynomial.f
            exact Ev.bindE h1 (Ev.bind hc (Ev.pos rfl (Ev.neg (by omega) (Ev.bindE hdeg (Ev.bind hu (Ev.neg (by simp) (Ev.now _)))))))
    · rw [decide_eq_false hr] at hc h1
      refine ⟨([], 2), hj0 _ ?_, ?_, by simp [Sm]⟩
      · exact Ev.step (fun k => by rw [spec_ExpandPolynomial.j0]) (Ev.neg (by decide) (Ev.pos (by omega) (Ev.now _)))
      · unfold impl_ExpandPolynomial.f
        exact Ev.bindE h1 (Ev.bind hc (Ev.neg (by simp) (Ev.now _)))
  · rw [Bool.eq_false_iff.2 hb] at hc
    refine ⟨([], 1), bad (Bool.eq_false_iff.2 hb), ?_, by simp [Sm]⟩
    unfold impl_ExpandPolynomial.f
    exact Ev.bindE h1 (Ev.bind hc (Ev.neg (by simp) (Ev.now _)))
end Go.Proofs.Ytfbnkebgdmfcfaa.Pr
