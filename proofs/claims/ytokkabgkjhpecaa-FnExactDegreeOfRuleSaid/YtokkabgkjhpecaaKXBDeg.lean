/- DegreeOfRule: for all arguments the program and the reference come to one value; no condition. -/
import Derived.Test.YtokkabgkjhpecaaKC09
import Derived.Test.YtokkabgkjhpecaaKDegreeOfRule2
import Derived.Test.YtokkabgkjhpecaaKDegreeOfRule1
import Derived.Test.YtokkabgkjhpecaaKFimplDegreeOfRule
namespace Go.Proofs.Ytokkabgkjhpecaa.Pr
open Go.RowKit Go.Proofs.YtokkabgkjhpecaaW.PrintWords Go.Proofs.YtokkabgkjhpecaaW.PrintLast Go.Proofs.YtokkabgkjhpecaaW.PrintMore

theorem sumGo_in {p : Int} (hp : Pm p) (n w : List Int) (k : Nat) (d : Nat) : ∀ (i : Nat) (s : Int), 0 ≤ s ∧ s < p → 0 ≤ sumGo p n w k d i s ∧ sumGo p n w k d i s < p := by
  induction d with
  | zero => intro i s h; exact h
  | succ d ih => intro i s h; exact ih _ _ (emodB hp.pos _)
theorem sumV_mono {p : Int} (hp : Pm p) (n w : List Int) (k : Nat) (d : Nat) : ∀ (i : Nat) (s : Int), sumV p n w (mono k) d i s = sumGo p n w k d i s := by
  induction d with
  | zero => intro i s; rfl
  | succ d ih => intro i s; rw [sumV, sumGo, ih, valF_mono hp]
/-- The error for x^k is 0 just where the moment k is the rule's sum. -/
theorem errV_mono {p : Int} (hp : Pm p) (l n w : List Int) (hl : Nm p l) (k : Nat) (hk : k < l.length) : errV p l n w (mono k) = 0 ↔ sumGo p n w k n.length 0 0 = l.getD k 0 := by
  have h1 := hl.get hk
  have h2 := sumGo_in hp n w k n.length 0 0 ⟨Int.le_refl _, hp.pos⟩
  unfold errV
  rw [applyM_mono l hl k hk, sumV_mono hp]
  constructor
  · intro h
    have h3 := Int.emod_emod_of_dvd (l.getD k 0 - sumGo p n w k n.length 0 0) (Int.dvd_refl p)
    have h4 := Int.dvd_of_emod_eq_zero h
    obtain ⟨c, hc⟩ := h4
    have hc0 : c = 0 := by
      have hpp := hp.pos
      rcases Int.lt_trichotomy c 0 with g | g | g
      · have : p * c ≤ p * (-1) := Int.mul_le_mul_of_nonneg_left (by omega) (by omega)
        omega
      · exact g
      · have : p * 1 ≤ p * c := Int.mul_le_mul_of_nonneg_left (by omega) (by omega)
        omega
    rw [hc0, Int.mul_zero] at hc
    omega
  · intro h
    rw [h, Int.sub_self, Int.zero_emod]
def degGo (p : Int) (l n w : List Int) : Nat → Nat → Int
  | 0, i => (i : Int) - 1
  | d + 1, i => if sumGo p n w i n.length 0 0 = l.getD i 0 then degGo p l n w d (i + 1) else (i : Int) - 1
theorem specDeg_l0 {p : Int} (l n w : List Int) (hl : l.length ≤ 24) (d : Nat) : ∀ i : Nat, i + d = l.length →
    Ev (fun k => spec_DegreeOfRule.l0 k (momsR p n w l.length) ((i : Int) - 1) p l) (degGo p l n w d i, 0) := by
  induction d with
  | zero =>
    intro i hi
    refine Ev.step (fun k => by rw [spec_DegreeOfRule.l0]) ?_
    rw [momsR_len, wrap_id (x := (i : Int) - 1 + 1) (by omega) (by omega)]
    exact Ev.neg (by omega) (Ev.now _)
  | succ d ih =>
    intro i hi
    have e : wrap64 ((i : Int) - 1 + 1) = (i : Int) := by rw [wrap_id (by omega) (by omega)]; omega
    have er : (momsR p n w l.length).getD i 0 = sumGo p n w i n.length 0 0 := by
      unfold momsR
      rw [List.getD_eq_getElem?_getD, List.getElem?_map, List.getElem?_range (by omega)]; rfl
    refine Ev.step (fun k => by rw [spec_DegreeOfRule.l0]) ?_
    rw [momsR_len, e, rd_nat, rd_nat, er, degGo]
    refine Ev.pos (by omega) (Ev.pos (by omega) (Ev.pos (by omega) ?_))
    by_cases h : sumGo p n w i n.length 0 0 = l.getD i 0
    · rw [if_pos h]
      refine Ev.pos h ?_
      have := ih (i + 1) (by omega)
      rw [show ((i + 1 : Nat) : Int) - 1 = (i : Int) from by omega] at this
      exact this
    · rw [if_neg h]
      exact Ev.neg h (Ev.now _)
theorem implDeg_l0 {p : Int} (hp : Pm p) (l n w : List Int) (hl : l.length ≤ 24) (nl : Nm p l) (nn : Nm p n) (nw : Nm p w) (h24 : n.length ≤ 24) (hwl : w.length = n.length) (d : Nat) : ∀ i : Nat, i + d = l.length →
    Ev (fun k => impl_DegreeOfRule.l0 k ((i : Int) - 1) (l.length : Int) (i : Int) p l p n w) (degGo p l n w d i, 0) := by
  induction d with
  | zero =>
    intro i hi
    refine Ev.step (fun k => by rw [impl_DegreeOfRule.l0]) ?_
    exact Ev.neg (by omega) (Ev.now _)
  | succ d ih =>
    intro i hi
    refine Ev.step (fun k => by rw [impl_DegreeOfRule.l0]) ?_
    rw [toNat_nat, degGo]
    refine Ev.pos (by omega) (Ev.pos (by omega) (Ev.pos (by omega) (Ev.bindE (a := List.replicate i 0) rfl (Ev.bindE (a := [1]) rfl (Ev.pos (by simp; omega) ?_)))))
    have he := errorFor_ev hp l n w (mono i) nl nn nw (mono_nm hp i) (by rw [mono_len]; unfold Sm; omega) (by rw [mono_len]; omega) h24 hwl
    refine Ev.bind he ?_
    have hm := errV_mono hp l n w nl i (by omega)
    by_cases h : sumGo p n w i n.length 0 0 = l.getD i 0
    · rw [if_pos h]
      refine Ev.pos (hm.2 h) ?_
      rw [wsucc (i := i) (n := l.length) (by omega) (by omega)]
      have := ih (i + 1) (by omega)
      rw [show ((i + 1 : Nat) : Int) - 1 = (i : Int) from by omega] at this
      exact this
    · rw [if_neg h]
      exact Ev.neg (fun g => h (hm.1 g)) (Ev.now _)
theorem DegreeOfRule_both (p : Int) (l : List Int) (q : Int) (n w : List Int) (hl : Sm l.length) (hn : Sm n.length) (hw : Sm w.length) :
    ∃ v : Int × Int, Ev (fun k => spec_DegreeOfRule.f k p l q n w) v ∧ Ev (fun k => impl_DegreeOfRule.f k p l q n w) v := by
  have hc := bothCode_ev p l q n w true [] hl hn hw (by simp [Sm]) (fun g h => by cases h)
  have hnil : ([] : List (List Int)).all (polyB p) = true := rfl
  rw [if_pos hnil] at hc
  by_cases a1 : momB p l = true
  · by_cases a2 : ruleB q n w = true
    · rw [if_pos ⟨a1, a2⟩] at hc
      by_cases a4 : p = q
      · subst a4
        rw [if_pos ⟨rfl, rfl⟩] at hc
        have hp := momB.pm a1
        have hr := ruleB.lens a2
        have hll := momB.len a1
        refine ⟨(degGo p l n w l.length 0, 0), ?_, ?_⟩
        · unfold spec_DegreeOfRule.f
          refine Ev.bind (specAre_ev p l hl) (Ev.pos a1 (Ev.bind (specRule_ev p n w hn hw) ?_))
          rw [a2]
          refine Ev.step (fun k => by rw [spec_DegreeOfRule.j0]) ?_
          refine Ev.neg (by decide) (Ev.pos rfl ?_)
          unfold spec_l07Moments.f
          refine Ev.bind (specMomR_l0 hp n w (ruleB.nodes a2) (ruleB.weights a2) hr.1 hr.2 l.length (by omega) l.length 0 (by omega)) ?_
          exact specDeg_l0 l n w hll.2 l.length 0 (by omega)
        · unfold impl_DegreeOfRule.f
          refine Ev.bind hc (Ev.pos rfl ?_)
          exact implDeg_l0 hp l n w hll.2 (momB.nm a1) (ruleB.nodes a2) (ruleB.weights a2) hr.1 hr.2 l.length 0 (by omega)
      · rw [if_neg (fun g => a4 g.1)] at hc
        refine ⟨(0, 2), ?_, ?_⟩
        · unfold spec_DegreeOfRule.f
          refine Ev.bind (specAre_ev p l hl) (Ev.pos a1 (Ev.bind (specRule_ev q n w hn hw) ?_))
          rw [a2]
          refine Ev.step (fun k => by rw [spec_DegreeOfRule.j0]) ?_
          exact Ev.neg (by decide) (Ev.neg a4 (Ev.now _))
        · unfold impl_DegreeOfRule.f
          exact Ev.bind hc (Ev.neg (by decide) (Ev.now _))
    · rw [if_neg (fun g => a2 g.2)] at hc
      refine ⟨(0, 1), ?_, ?_⟩
      · unfold spec_DegreeOfRule.f
        refine Ev.bind (specAre_ev p l hl) (Ev.pos a1 (Ev.bind (specRule_ev q n w hn hw) ?_))
        rw [Bool.eq_false_iff.2 a2]
        refine Ev.step (fun k => by rw [spec_DegreeOfRule.j0]) ?_
        exact Ev.pos rfl (Ev.now _)
      · unfold impl_DegreeOfRule.f
        exact Ev.bind hc (Ev.neg (by decide) (Ev.now _))
  · rw [if_neg (fun g => a1 g.1)] at hc
    refine ⟨(0, 1), ?_, ?_⟩
    · unfold spec_DegreeOfRule.f
      refine Ev.bind (specAre_ev p l hl) (Ev.neg a1 ?_)
      refine Ev.step (fun k => by rw [spec_DegreeOfRule.j0]) ?_
      exact Ev.pos rfl (Ev.now _)
    · unfold impl_DegreeOfRule.f
      exact Ev.bind hc (Ev.neg (by decide) (Ev.now _))
end Go.Proofs.Ytokkabgkjhpecaa.Pr
