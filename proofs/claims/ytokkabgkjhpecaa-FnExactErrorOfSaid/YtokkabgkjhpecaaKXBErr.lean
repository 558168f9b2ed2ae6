/- ErrorOf: for all arguments the program and the reference come to one value; no condition. -/
import Derived.Test.YtokkabgkjhpecaaKC09
import Derived.Test.YtokkabgkjhpecaaKC05
import Derived.Test.YtokkabgkjhpecaaKErrorOf1
namespace Go.Proofs.Ytokkabgkjhpecaa.Pr
open Go.RowKit Go.Proofs.YtokkabgkjhpecaaW.PrintWords Go.Proofs.YtokkabgkjhpecaaW.PrintLast Go.Proofs.YtokkabgkjhpecaaW.PrintMore

theorem specApply7_l0 {p : Int} (hp : Pm p) (m f : List Int) (hm : Nm p m) (hf : Nm p f) (hs : f.length ≤ m.length) (hl : Sm f.length) (d : Nat) : ∀ i, i + d = f.length →
    Ev (fun k => spec_l07Apply.l0 k f (sumTo (fun j => f.getD j 0 * m.getD (j + 0) 0) i % p) (i : Int) p m) (applyM p m f 0) := by
  induction d with
  | zero =>
    intro i hi
    refine Ev.step (fun k => by rw [spec_l07Apply.l0]) ?_
    refine Ev.neg (by omega) (Ev.some' ?_)
    unfold applyM
    rw [show i = f.length from by omega]
  | succ d ih =>
    intro i hi
    unfold Sm at hl
    have h1 := hf.get (i := i) (by omega)
    have h2 := hm.get (i := i) (by omega)
    have h3 := mulP hp h1.1 h1.2 h2.1 h2.2
    have h4 := emodB hp.pos (sumTo (fun j => f.getD j 0 * m.getD (j + 0) 0) i)
    have ht := hp.top
    refine Ev.step (fun k => by rw [spec_l07Apply.l0]) ?_
    refine Ev.pos (by omega) (Ev.pos (by omega) (Ev.pos (by omega) (Ev.neg hp.ne ?_)))
    rw [rd_nat, rd_nat, wrap_id (x := f.getD i 0 * m.getD i 0) (by omega) (by omega), wrap_id (by omega) (by omega), tmod_pos (by omega), Int.emod_add_emod, wsucc (i := i) (n := f.length) (by omega) (by omega)]
    exact ih (i + 1) (by omega)
theorem specApply7_ev {p : Int} (hp : Pm p) (m f : List Int) (hm : Nm p m) (hf : Nm p f) (hs : f.length ≤ m.length) (hl : Sm f.length) :
    Ev (fun k => spec_l07Apply.f k p m f) (applyM p m f 0) := by
  unfold spec_l07Apply.f
  have h := specApply7_l0 hp m f hm hf hs hl f.length 0 (by omega)
  simpa [sumTo] using h
theorem ErrorOf_both (p : Int) (l : List Int) (q : Int) (n w f : List Int) (hl : Sm l.length) (hn : Sm n.length) (hw : Sm w.length) (hf : Sm f.length) :
    ∃ v : Int × Int, Ev (fun k => spec_ErrorOf.f k p l q n w f) v ∧ Ev (fun k => impl_ErrorOf.f k p l q n w f) v := by
  have h1 : impl_ErrorOf_1.f p l f = some (decide ((f.length : Int) ≤ (l.length : Int))) := rfl
  have hc := bothCode_ev p l q n w (decide ((f.length : Int) ≤ (l.length : Int))) [f] hl hn hw (by simp [Sm]) (fun g h => by rw [List.mem_singleton.1 h]; exact hf)
  rw [one_all] at hc
  by_cases a1 : momB p l = true
  · by_cases a2 : ruleB q n w = true
    · rw [if_pos ⟨a1, a2⟩] at hc
      by_cases a3 : polyB p f = true
      · rw [if_pos a3] at hc
        have hp := momB.pm a1
        by_cases a4 : p = q
        · subst a4
          have hr := ruleB.lens a2
          by_cases a5 : f.length ≤ l.length
          · rw [if_pos ⟨rfl, decide_eq_true (by omega)⟩] at hc
            refine ⟨(errV p l n w f, 0), ?_, ?_⟩
            · unfold spec_ErrorOf.f
              refine Ev.bind (specAre_ev p l hl) (Ev.pos a1 (Ev.bind (specRule_ev p n w hn hw) (Ev.pos a2 (Ev.bind (specPoly_ev p f hf) ?_))))
              rw [a3]
              refine Ev.step (fun k => by rw [spec_ErrorOf.j0]) ?_
              refine Ev.neg (by decide) (Ev.pos rfl ?_)
              rw [decide_eq_false (by omega)]
              refine Ev.step (fun k => by rw [spec_ErrorOf.j1]) ?_
              have b1 := applyM_in hp l f 0
              have b2 := sumV_in hp n w f n.length 0 0 ⟨Int.le_refl _, hp.pos⟩
              have ht := hp.top
              refine Ev.neg (by decide) (Ev.bind (specApply7_ev hp l f (momB.nm a1) (polyB.nm a3) a5 hf) ?_)
              unfold spec_l07Sum.f errV
              refine Ev.bind (specSumV_l0 hp n w f (ruleB.nodes a2) (ruleB.weights a2) (polyB.nm a3) hf hr.1 hr.2 n.length 0 0 (by omega) ⟨Int.le_refl _, hp.pos⟩) ?_
              rw [wrap_id (by omega) (by omega)]
              exact Ev.bindE (smod_eq hp _) (Ev.now _)
            · unfold impl_ErrorOf.f
              exact Ev.bindE h1 (Ev.bind hc (Ev.pos rfl (Ev.bind (errorFor_ev hp l n w f (momB.nm a1) (ruleB.nodes a2) (ruleB.weights a2) (polyB.nm a3) hf a5 hr.1 hr.2) (Ev.now _))))
          · rw [if_neg (fun g => a5 (by have := of_decide_eq_true g.2; omega))] at hc
            refine ⟨(0, 2), ?_, ?_⟩
            · unfold spec_ErrorOf.f
              refine Ev.bind (specAre_ev p l hl) (Ev.pos a1 (Ev.bind (specRule_ev p n w hn hw) (Ev.pos a2 (Ev.bind (specPoly_ev p f hf) ?_))))
              rw [a3]
              refine Ev.step (fun k => by rw [spec_ErrorOf.j0]) ?_
              refine Ev.neg (by decide) (Ev.pos rfl ?_)
              rw [decide_eq_true (by omega)]
              refine Ev.step (fun k => by rw [spec_ErrorOf.j1]) ?_
              exact Ev.pos rfl (Ev.now _)
            · unfold impl_ErrorOf.f
              exact Ev.bindE h1 (Ev.bind hc (Ev.neg (by decide) (Ev.now _)))
        · rw [if_neg (fun g => a4 g.1)] at hc
          refine ⟨(0, 2), ?_, ?_⟩
          · unfold spec_ErrorOf.f
            refine Ev.bind (specAre_ev p l hl) (Ev.pos a1 (Ev.bind (specRule_ev q n w hn hw) (Ev.pos a2 (Ev.bind (specPoly_ev p f hf) ?_))))
            rw [a3]
            refine Ev.step (fun k => by rw [spec_ErrorOf.j0]) ?_
            refine Ev.neg (by decide) (Ev.neg a4 ?_)
            refine Ev.step (fun k => by rw [spec_ErrorOf.j1]) ?_
            exact Ev.pos rfl (Ev.now _)
          · unfold impl_ErrorOf.f
            exact Ev.bindE h1 (Ev.bind hc (Ev.neg (by decide) (Ev.now _)))
      · rw [if_neg a3] at hc
        refine ⟨(0, 1), ?_, ?_⟩
        · unfold spec_ErrorOf.f
          refine Ev.bind (specAre_ev p l hl) (Ev.pos a1 (Ev.bind (specRule_ev q n w hn hw) (Ev.pos a2 (Ev.bind (specPoly_ev p f hf) ?_))))
          rw [Bool.eq_false_iff.2 a3]
          refine Ev.step (fun k => by rw [spec_ErrorOf.j0]) ?_
          exact Ev.pos rfl (Ev.now _)
        · unfold impl_ErrorOf.f
          exact Ev.bindE h1 (Ev.bind hc (Ev.neg (by decide) (Ev.now _)))
    · rw [if_neg (fun g => a2 g.2)] at hc
      refine ⟨(0, 1), ?_, ?_⟩
      · unfold spec_ErrorOf.f
        refine Ev.bind (specAre_ev p l hl) (Ev.pos a1 (Ev.bind (specRule_ev q n w hn hw) (Ev.neg a2 ?_)))
        refine Ev.step (fun k => by rw [spec_ErrorOf.j0]) ?_
        exact Ev.pos rfl (Ev.now _)
      · unfold impl_ErrorOf.f
        exact Ev.bindE h1 (Ev.bind hc (Ev.neg (by decide) (Ev.now _)))
  · rw [if_neg (fun g => a1 g.1)] at hc
    refine ⟨(0, 1), ?_, ?_⟩
    · unfold spec_ErrorOf.f
      refine Ev.bind (specAre_ev p l hl) (Ev.neg a1 ?_)
      refine Ev.step (fun k => by rw [spec_ErrorOf.j0]) ?_
      exact Ev.pos rfl (Ev.now _)
    · unfold impl_ErrorOf.f
      exact Ev.bindE h1 (Ev.bind hc (Ev.neg (by decide) (Ev.now _)))
end Go.Proofs.Ytokkabgkjhpecaa.Pr
