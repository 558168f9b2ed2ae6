/- GaussRule: for all arguments the program and the reference come to one value; no condition. -/
import Derived.Test.YtfbnkebgdmfcfaaKGaussRule10
import Derived.Test.YtfbnkebgdmfcfaaKGaussRule9
import Derived.Test.YtfbnkebgdmfcfaaKFspecGaussRule
import Derived.Test.YtfbnkebgdmfcfaaKFimplGaussRule
namespace Go.Proofs.Ytfbnkebgdmfcfaa.Pr
open Go.RowKit Go.Proofs.YtfbnkebgdmfcfaaW.PrintWords Go.Proofs.YtfbnkebgdmfcfaaW.PrintLast Go.Proofs.YtfbnkebgdmfcfaaW.PrintMore

/-- The numbers under k at which f is 0. -/
def rootsTo (p : Int) (f : List Int) : Nat → List Int
  | 0 => []
  | k + 1 => if valF p (k : Int) f = 0 then rootsTo p f k ++ [(k : Int)] else rootsTo p f k
theorem rootsTo_len (p : Int) (f : List Int) (k : Nat) : (rootsTo p f k).length ≤ k := by
  induction k with
  | zero => exact Nat.le_refl _
  | succ k ih =>
    rw [rootsTo]
    split
    · rw [List.length_append, List.length_singleton]; omega
    · omega
theorem rootsTo_nm {p : Int} (f : List Int) (k : Nat) (hk : (k : Int) ≤ p) : Nm p (rootsTo p f k) := by
  induction k with
  | zero => exact Nm.nil p
  | succ k ih =>
    rw [rootsTo]
    split
    · exact (ih (by omega)).append (Nm.cons (by omega) (by omega) (Nm.nil p))
    · exact ih (by omega)
def gauW (p : Int) (a b l : List Int) (i : Nat) : List Int := (List.range i).map fun j => chrF p a b (l.getD j 0)
theorem gauW_len (p : Int) (a b l : List Int) (i : Nat) : (gauW p a b l i).length = i := by simp [gauW]
theorem gauW_succ (p : Int) (a b l : List Int) (i : Nat) : gauW p a b l (i + 1) = gauW p a b l i ++ [chrF p a b (l.getD i 0)] := by unfold gauW; rw [List.range_succ, List.map_append, List.map_singleton]
section
variable {p : Int} (hp : Pm p) {f : List Int} (nf : Nm p f) (sf : Sm f.length)
include hp nf sf
theorem implRoots_l0 (d : Nat) : ∀ i : Nat, i + d = p.toNat → Ev (fun k => impl_field_roots.l0 k p f (rootsTo p f i) p (i : Int)) (rootsTo p f p.toNat) := by
  have hpt := hp.top
  have hp2 := hp.two
  induction d with
  | zero =>
    intro i hi
    refine Ev.step (fun k => by rw [impl_field_roots.l0]) ?_
    refine Ev.neg (by omega) (Ev.some' ?_)
    rw [show i = p.toNat by omega]
  | succ d ih =>
    intro i hi
    have hl := rootsTo_len p f i
    refine Ev.step (fun k => by rw [impl_field_roots.l0]) ?_
    rw [wsucc (i := i) (n := 1000000000) (by omega) (by omega)]
    refine Ev.pos (by omega) (Ev.bindE (implValue_eq hp ⟨by omega, by omega⟩ f nf sf) ?_)
    have := ih (i + 1) (by omega)
    rw [rootsTo] at this
    by_cases h : valF p (i : Int) f = 0
    · rw [if_pos h] at this
      exact Ev.pos h (Ev.pos (by omega) this)
    · rw [if_neg h] at this
      exact Ev.neg h this
end
section
variable {p : Int} {a b : List Int} (h : jacB p a b = true)
include h
theorem implGau_l0 (l : List Int) (nl : Nm p l) (hl : l.length ≤ 1000) (d : Nat) : ∀ i : Nat, i + d = l.length → Ev (fun k => impl_GaussRule.l0 k l (l.length : Int) (i : Int) p a b p l (gauW p a b l i)) (p, l, gauW p a b l l.length, 0) := by
  induction d with
  | zero =>
    intro i hi
    refine Ev.step (fun k => by rw [impl_GaussRule.l0]) ?_
    refine Ev.neg (by omega) (Ev.some' ?_)
    rw [show i = l.length by omega]
  | succ d ih =>
    intro i hi
    refine Ev.step (fun k => by rw [impl_GaussRule.l0]) ?_
    rw [rd_nat, gauW_len, wsucc (i := i) (n := 1000000000) (by omega) (by omega)]
    refine Ev.pos (by omega) (Ev.pos (by omega) (Ev.pos (by omega) (Ev.bind (implChr_ev h (nl.get (i := i) (by omega))) (Ev.pos (by omega) ?_))))
    have := ih (i + 1) (by omega)
    rw [gauW_succ] at this
    exact this
theorem specGau_l1 (l : List Int) (nl : Nm p l) (hl : l.length ≤ 1000) (d : Nat) : ∀ i : Nat, i + d = l.length → Ev (fun k => spec_GaussRule.l1 k (i : Int) p a b p l (gauW p a b l i)) (p, l, gauW p a b l l.length, 0) := by
  induction d with
  | zero =>
    intro i hi
    refine Ev.step (fun k => by rw [spec_GaussRule.l1]) ?_
    refine Ev.neg (by omega) (Ev.some' ?_)
    rw [show i = l.length by omega]
  | succ d ih =>
    intro i hi
    refine Ev.step (fun k => by rw [spec_GaussRule.l1]) ?_
    rw [rd_nat, gauW_len, wsucc (i := i) (n := 1000000000) (by omega) (by omega)]
    refine Ev.pos (by omega) (Ev.pos (by omega) (Ev.bind (specChr_ev h (nl.get (i := i) (by omega))) (Ev.pos (by omega) ?_)))
    have := ih (i + 1) (by omega)
    rw [gauW_succ] at this
    exact this
theorem specGau_l0 (f : List Int) (nf : Nm p f) (sf : Sm f.length) (v : Int × List Int × List Int × Int)
    (hend : Ev (fun k => if ((rootsTo p f p.toNat).length : Int) = (a.length : Int) then spec_GaussRule.l1 k 0 p a b p (rootsTo p f p.toNat) [] else some (0, [], [], 4)) v) (d : Nat) : ∀ i : Nat, i + d = p.toNat →
    Ev (fun k => spec_GaussRule.l0 k f (i : Int) p a b p (rootsTo p f i) []) v := by
  have hp := jacB.pm h
  have hpt := hp.top
  have hp2 := hp.two
  induction d with
  | zero =>
    intro i hi
    refine Ev.step (fun k => by rw [spec_GaussRule.l0]) ?_
    refine Ev.neg (by omega) ?_
    rw [show i = p.toNat by omega]
    exact hend
  | succ d ih =>
    intro i hi
    have hl := rootsTo_len p f i
    refine Ev.step (fun k => by rw [spec_GaussRule.l0]) ?_
    rw [wsucc (i := i) (n := 1000000000) (by omega) (by omega)]
    refine Ev.pos (by omega) (Ev.bind (specAt_ev hp ⟨by omega, by omega⟩ f nf sf) ?_)
    have := ih (i + 1) (by omega)
    rw [rootsTo] at this
    by_cases h : valF p (i : Int) f = 0
    · rw [if_pos h] at this
      exact Ev.pos h (Ev.pos (by omega) this)
    · rw [if_neg h] at this
      exact Ev.neg h this
end
theorem GaussRule_both (p : Int) (a b : List Int) (ha : Sm a.length) (hb : Sm b.length) :
    ∃ v : Int × List Int × List Int × Int, Ev (fun n => spec_GaussRule.f n p a b) v ∧ Ev (fun n => impl_GaussRule.f n p a b) v ∧ Sm v.2.1.length ∧ Sm v.2.2.1.length := by
  have hs := specJac_ev p a b ha hb
  have hi := implJacCode_ev p a b true ha hb
  by_cases h : jacB p a b = true
  · obtain ⟨⟨⟨h4, h5⟩, h6⟩, h7, h8⟩ := jacB.all h
    have hc : jacC p a b true = 0 := by unfold jacC; rw [if_pos h, if_pos rfl]
    rw [h] at hs
    rw [hc] at hi
    have hp := jacB.pm h
    have hpt := hp.top
    have hp2 := hp.two
    have o1 := pPair_ok hp a b a.length
    have s1 : Sm (pPair p a b a.length).2.length := by have := o1.2.2; unfold Sm; omega
    have hsP := specPoly03_ev hp a b h7 h8.nm a.length (Nat.le_refl _) h5 h6
    have hri : Ev (fun k => impl_field_roots.f k p (pPair p a b a.length).2) (rootsTo p (pPair p a b a.length).2 p.toNat) := by
      unfold impl_field_roots.f
      exact implRoots_l0 hp o1.1.2 s1 p.toNat 0 (by omega)
    have hnm := rootsTo_nm (p := p) (pPair p a b a.length).2 p.toNat (by omega)
    have hgo : ∀ v, Ev (fun k => if ((rootsTo p (pPair p a b a.length).2 p.toNat).length : Int) = (a.length : Int) then spec_GaussRule.l1 k 0 p a b p (rootsTo p (pPair p a b a.length).2 p.toNat) [] else some (0, [], [], 4)) v → Ev (fun n => spec_GaussRule.f n p a b) v := fun v hv => by
      unfold spec_GaussRule.f
      exact Ev.bind hs (Ev.pos rfl (Ev.bind hsP (specGau_l0 h _ o1.1.2 s1 v hv p.toNat 0 (by omega))))
    have hio : ∀ v, Ev (fun k => if ((rootsTo p (pPair p a b a.length).2 p.toNat).length : Int) = (a.length : Int) then impl_GaussRule.l0 k (rootsTo p (pPair p a b a.length).2 p.toNat) ((rootsTo p (pPair p a b a.length).2 p.toNat).length : Int) 0 p a b p (rootsTo p (pPair p a b a.length).2 p.toNat) [] else some (0, [], [], 4)) v → Ev (fun n => impl_GaussRule.f n p a b) v := fun v hv => by
      unfold impl_GaussRule.f
      refine Ev.bind hi (Ev.pos rfl (Ev.bindE (a := p) rfl (Ev.bind (implPolys_ev hp a b h7 h8.nm h5 h6) (Ev.bindE (size_eq p a b) ?_))))
      rw [pAll_len, pAll_rd p a b (by omega)]
      exact Ev.pos (by omega) (Ev.pos (by omega) (Ev.bind hri (Ev.bindE (a := ((rootsTo p (pPair p a b a.length).2 p.toNat).length : Int)) rfl (Ev.bindE (size_eq p a b) hv))))
    generalize rootsTo p (pPair p a b a.length).2 p.toNat = l at hnm hgo hio
    by_cases hl : (l.length : Int) = (a.length : Int)
    · refine ⟨(p, l, gauW p a b l l.length, 0), hgo _ (Ev.pos hl (specGau_l1 h l hnm (by omega) l.length 0 (by omega))), hio _ (Ev.pos hl (implGau_l0 h l hnm (by omega) l.length 0 (by omega))), by unfold Sm; dsimp only; omega, by rw [gauW_len]; unfold Sm; omega⟩
    · exact ⟨(0, [], [], 4), hgo _ (Ev.neg hl (Ev.now _)), hio _ (Ev.neg hl (Ev.now _)), by simp [Sm], by simp [Sm]⟩
  · have hc : jacC p a b true = 1 := by unfold jacC; rw [if_neg h]
    rw [Bool.eq_false_iff.2 h] at hs
    rw [hc] at hi
    refine ⟨(0, [], [], 1), ?_, ?_, by simp [Sm], by simp [Sm]⟩
    · unfold spec_GaussRule.f
      exact Ev.bind hs (Ev.neg (by decide) (Ev.now _))
    · unfold impl_GaussRule.f
      exact Ev.bind hi (Ev.neg (by decide) (Ev.now _))
end Go.Proofs.Ytfbnkebgdmfcfaa.Pr
