/- RadauJacobi: for all arguments the program and the reference come to one value; no condition. -/
import Derived.Test.YtokkabgkjhpecaaKC08
import Derived.Test.YtokkabgkjhpecaaKRadauJacobi1
import Derived.Test.YtokkabgkjhpecaaKFspecRadauJacobi
import Derived.Test.YtokkabgkjhpecaaKFimplRadauJacobi
namespace Go.Proofs.Ytokkabgkjhpecaa.Pr
open Go.RowKit Go.Proofs.YtokkabgkjhpecaaW.PrintWords Go.Proofs.YtokkabgkjhpecaaW.PrintLast Go.Proofs.YtokkabgkjhpecaaW.PrintMore

theorem partAll (p : Int) (a b : List Int) (ha : Sm a.length) (hab : b.length = a.length) : impl_Jacobi_part.f p a b 0 (a.length : Int) = some (p, a, b) := by
  unfold impl_Jacobi_part.f
  rw [if_pos (by omega), if_pos (by omega), if_pos (by omega), toNat_nat, show (0 : Int).toNat = 0 from rfl, List.drop_zero, List.take_length, clone_eq a ha, Option.bind_some, if_pos (by omega), List.drop_zero, show a.length = b.length from hab.symm, List.take_length, clone_eq b (by rw [hab]; exact ha)]
  rfl
theorem cutAll (p : Int) (a b : List Int) (ha : Sm a.length) (hab : b.length = a.length) : spec_l03Cut.f p a b (a.length : Int) = some (p, a, b) := by
  unfold spec_l03Cut.f
  rw [if_pos (by omega), if_pos (by omega), toNat_nat, List.take_length, own_eq a ha, Option.bind_some, if_pos (by omega), show a.length = b.length from hab.symm, List.take_length, own_eq b (by rw [hab]; exact ha)]
  rfl
theorem valF_one {p : Int} (hp : Pm p) (x : Int) : valF p x [1] = 1 := by
  have := hp.two
  show (0 * x + [1].getD 0 0) % p = 1
  rw [Int.zero_mul, Int.zero_add]
  exact Int.emod_eq_of_lt (by decide) (by show (1 : Int) < p; omega)
/-- The last number of the Radau data. -/
def radF (p : Int) (a b : List Int) (c : Int) : Int :=
  (c - (b.getD (a.length - 1) 0 * (valF p c (pPair p a b (a.length - 2)).2 * invF p (valF p c (pPair p a b (a.length - 1)).2) % p)) % p) % p
theorem RadauJacobi_both (p : Int) (a b : List Int) (c : Int) (ha : Sm a.length) (hb : Sm b.length) :
    ∃ v : Int × List Int × List Int × Int, Ev (fun n => spec_RadauJacobi.f n p a b c) v ∧ Ev (fun n => impl_RadauJacobi.f n p a b c) v ∧ Sm v.2.1.length ∧ Sm v.2.2.1.length := by
  by_cases h : jacB p a b = true
  · obtain ⟨⟨⟨h4, h5⟩, h6⟩, h7, h8⟩ := jacB.all h
    have hp := jacB.pm h
    have hp2 := hp.two
    have hpt := hp.top
    have hw : wrap64 (p - 1) = p - 1 := wrap_id (by omega) (by omega)
    by_cases g : 0 ≤ c ∧ c < p
    · have hc : Ev (fun n => impl_jacobiCode.f n p a b (decide (0 ≤ c ∧ c < p))) 0 := ofCode (by unfold jacC; rw [if_pos h, if_pos (decide_eq_true g)]) ha hb
      have hw1 : wrap64 ((a.length : Int) - 1) = ((a.length - 1 : Nat) : Int) := wpred (by omega) (by omega)
      have o1 := pPair_ok hp a b (a.length - 1)
      have s1 : Sm (pPair p a b (a.length - 1)).2.length := by have := o1.2.2; unfold Sm; omega
      by_cases e1 : a.length = 1
      · have ev : valF p c (pPair p a b (a.length - 1)).2 = 1 := by rw [e1]; exact valF_one hp c
        refine ⟨(p, a.set 0 c, b, 0), ?_, ?_, by dsimp only; rw [List.length_set]; exact ha, hb⟩
        · unfold spec_RadauJacobi.f
          rw [hw]
          exact Ev.bind (specJac_ev p a b ha hb) (Ev.pos h (Ev.bindE (in_eq _ _ _) (Ev.pos (decide_eq_true (by omega)) (Ev.bindE (cutAll p a b ha h6) (Ev.pos (by omega) (Ev.pos (by dsimp only; omega) (Ev.now _)))))))
        · unfold impl_RadauJacobi.f
          refine Ev.bindE (a := p) rfl (Ev.bindE (has_eq p c) (Ev.bind hc (Ev.pos rfl (Ev.bindE (a := p) rfl (Ev.bindE (size_eq p a b) (Ev.bind (implPolys_ev hp a b h7 h8.nm h5 h6) ?_))))))
          rw [hw1, pAll_len, pAll_rd p a b (by omega)]
          refine Ev.pos (by omega) (Ev.pos (by omega) (Ev.bindE (implValue_eq hp g _ o1.1.2 s1) (Ev.neg (by rw [ev]; decide) (Ev.bindE (partAll p a b ha h6) (Ev.pos (by dsimp only; omega) (Ev.bindE (a := a.set (a.length - 1) c) rfl (Ev.neg (by omega) (Ev.some' ?_))))))))
          rw [e1]
      · have hw2 : wrap64 ((a.length : Int) - 2) = ((a.length - 2 : Nat) : Int) := by rw [wrap_id (by omega) (by omega)]; omega
        have o2 := pPair_ok hp a b (a.length - 2)
        have s2 : Sm (pPair p a b (a.length - 2)).2.length := by have := o2.2.2; unfold Sm; omega
        have v1 := valF_in hp c (pPair p a b (a.length - 1)).2
        have v2 := valF_in hp c (pPair p a b (a.length - 2)).2
        have v3 := invF_in hp (valF p c (pPair p a b (a.length - 1)).2)
        have b0 := h8.nm.get (i := a.length - 1) (by omega)
        by_cases z : valF p c (pPair p a b (a.length - 1)).2 = 0
        · refine ⟨(0, [], [], 5), ?_, ?_, Sm0, Sm0⟩
          · unfold spec_RadauJacobi.f
            rw [hw, hw1]
            exact Ev.bind (specJac_ev p a b ha hb) (Ev.pos h (Ev.bindE (in_eq _ _ _) (Ev.pos (decide_eq_true (by omega)) (Ev.bindE (cutAll p a b ha h6) (Ev.neg (by omega) (Ev.bind (specPoly03_ev hp a b h7 h8.nm (a.length - 1) (by omega) h5 h6) (Ev.bind (specAt_ev hp g _ o1.1.2 s1) (Ev.pos z (Ev.now _)))))))))
          · unfold impl_RadauJacobi.f
            refine Ev.bindE (a := p) rfl (Ev.bindE (has_eq p c) (Ev.bind hc (Ev.pos rfl (Ev.bindE (a := p) rfl (Ev.bindE (size_eq p a b) (Ev.bind (implPolys_ev hp a b h7 h8.nm h5 h6) ?_))))))
            rw [hw1, pAll_len, pAll_rd p a b (by omega)]
            exact Ev.pos (by omega) (Ev.pos (by omega) (Ev.bindE (implValue_eq hp g _ o1.1.2 s1) (Ev.pos z (Ev.now _))))
        · refine ⟨(p, a.set (a.length - 1) (radF p a b c), b, 0), ?_, ?_, by dsimp only; rw [List.length_set]; exact ha, hb⟩
          · unfold spec_RadauJacobi.f
            rw [hw, hw1, hw2, rd_nat]
            have m1 := mulP hp b0.1 b0.2 v2.1 v2.2
            have q1 := emodB hp.pos (b.getD (a.length - 1) 0 * valF p c (pPair p a b (a.length - 2)).2)
            have m2 := mulP hp q1.1 q1.2 v3.1 v3.2
            refine Ev.bind (specJac_ev p a b ha hb) (Ev.pos h (Ev.bindE (in_eq _ _ _) (Ev.pos (decide_eq_true (by omega)) (Ev.bindE (cutAll p a b ha h6) (Ev.neg (by omega) (Ev.bind (specPoly03_ev hp a b h7 h8.nm (a.length - 1) (by omega) h5 h6) (Ev.bind (specAt_ev hp g _ o1.1.2 s1) (Ev.neg z ?_))))))))
            refine Ev.pos (by omega) (Ev.pos (by omega) (Ev.bind (specPoly03_ev hp a b h7 h8.nm (a.length - 2) (by omega) h5 h6) (Ev.bind (specAt_ev hp g _ o2.1.2 s2) (Ev.neg hp.ne (Ev.bind (specInv_ev hp v1) ?_)))))
            rw [wrap_id (x := b.getD (a.length - 1) 0 * valF p c (pPair p a b (a.length - 2)).2) (by omega) (by omega), tmod_pos m1.1, wrap_id (x := b.getD (a.length - 1) 0 * valF p c (pPair p a b (a.length - 2)).2 % p * invF p (valF p c (pPair p a b (a.length - 1)).2)) (by omega) (by omega), wrap_id (by omega) (by omega)]
            refine Ev.bindE (smod_eq hp _) (Ev.pos (by dsimp only; omega) (Ev.some' ?_))
            dsimp only
            rw [toNat_nat, ← sub_mod_right c, mul_mod_mid]
            rfl
          · unfold impl_RadauJacobi.f
            refine Ev.bindE (a := p) rfl (Ev.bindE (has_eq p c) (Ev.bind hc (Ev.pos rfl (Ev.bindE (a := p) rfl (Ev.bindE (size_eq p a b) (Ev.bind (implPolys_ev hp a b h7 h8.nm h5 h6) ?_))))))
            rw [hw1, hw2, pAll_len, pAll_rd p a b (by omega), pAll_rd p a b (by omega)]
            refine Ev.pos (by omega) (Ev.pos (by omega) (Ev.bindE (implValue_eq hp g _ o1.1.2 s1) (Ev.neg z (Ev.bindE (partAll p a b ha h6) (Ev.pos (by dsimp only; omega) (Ev.bindE (a := a.set (a.length - 1) c) rfl (Ev.pos (by omega) ?_)))))))
            have q2 := emodB hp.pos (b.getD (a.length - 1) 0 * (valF p c (pPair p a b (a.length - 2)).2 * invF p (valF p c (pPair p a b (a.length - 1)).2) % p))
            refine Ev.pos (by omega) (Ev.pos (by omega) (Ev.pos (by omega) (Ev.bindE (implValue_eq hp g _ o2.1.2 s2) (Ev.bind (implDiv_ev hp v2 v1) ?_))))
            rw [rd_nat]
            refine Ev.bindE (fmul_eq hp b0 (emodB hp.pos _)) ?_
            rw [wrap_id (by omega) (by omega)]
            refine Ev.bindE (mod_eq hp _) (Ev.some' ?_)
            dsimp only
            rw [toNat_nat, List.set_set]
            rfl
    · have hc : Ev (fun n => impl_jacobiCode.f n p a b (decide (0 ≤ c ∧ c < p))) 2 := ofCode (by unfold jacC; rw [if_pos h, if_neg (by simp only [decide_eq_true_eq]; exact g)]) ha hb
      refine ⟨(0, [], [], 2), ?_, ?_, Sm0, Sm0⟩
      · unfold spec_RadauJacobi.f
        rw [hw]
        exact Ev.bind (specJac_ev p a b ha hb) (Ev.pos h (Ev.bindE (in_eq _ _ _) (Ev.neg (by simp only [decide_eq_true_eq]; omega) (Ev.now _))))
      · unfold impl_RadauJacobi.f
        exact Ev.bindE (a := p) rfl (Ev.bindE (has_eq p c) (Ev.bind hc (Ev.neg (by decide) (Ev.now _))))
  · have hc : Ev (fun n => impl_jacobiCode.f n p a b (decide (0 ≤ c ∧ c < p))) 1 := ofCode (by unfold jacC; rw [if_neg h]) ha hb
    refine ⟨(0, [], [], 1), ?_, ?_, Sm0, Sm0⟩
    · unfold spec_RadauJacobi.f
      exact Ev.bind (specJac_ev p a b ha hb) (Ev.neg h (Ev.now _))
    · unfold impl_RadauJacobi.f
      exact Ev.bindE (a := p) rfl (Ev.bindE (has_eq p c) (Ev.bind hc (Ev.neg (by decide) (Ev.now _))))
end Go.Proofs.Ytokkabgkjhpecaa.Pr
