/- JacobiOfMoments: for all arguments the program and the reference come to one value; no condition. -/
import Derived.Test.YtfbnkebgdmfcfaaKC010
import Derived.Test.YtfbnkebgdmfcfaaKFspecJacobiOfMoments
import Derived.Test.YtfbnkebgdmfcfaaKJacobiOfMoments1
namespace Go.Proofs.Ytfbnkebgdmfcfaa.Pr
open Go.RowKit Go.Proofs.YtfbnkebgdmfcfaaW.PrintWords Go.Proofs.YtfbnkebgdmfcfaaW.PrintLast Go.Proofs.YtfbnkebgdmfcfaaW.PrintMore

theorem powGo_one {p : Int} (hp : Pm p) (d : Nat) : ∀ k : Nat, powGo p d 1 k 1 = 1 := by
  have := hp.two
  have e : (1 : Int) * 1 % p = 1 := Int.emod_eq_of_lt (by omega) (by omega)
  induction d with
  | zero => intro k; rfl
  | succ d ih =>
    intro k
    rw [powGo, e, ite_self, ih]
    split <;> rfl
theorem invF_one {p : Int} (hp : Pm p) : invF p 1 = 1 := powGo_one hp _ _
theorem mNorm_one {p : Int} (hp : Pm p) {l : List Int} (nl : Nm p l) : mNorm p l [1] 0 = l.getD 0 0 := by
  have := hp.two
  have hg := nl.getp hp.pos 0
  have e : (1 : Int) % p = 1 := Int.emod_eq_of_lt (by omega) (by omega)
  have h1 : pmul p [1] [1] = [1] := by
    show trim [(0 + 1 * 1) % p] = [1]
    rw [show (0 + 1 * 1 : Int) = 1 from rfl, e]; rfl
  unfold mNorm applyM
  rw [h1]
  show (0 + 1 * l.getD 0 0) % p = _
  rw [Int.zero_add, Int.one_mul, Int.emod_eq_of_lt hg.1 hg.2]
theorem mAl_len (p : Int) (l : List Int) (i : Nat) : (mAl p l i).length = i := by simp [mAl]
theorem mBe_len (p : Int) (l : List Int) (i : Nat) : (mBe p l i).length = i := by simp [mBe]
section
variable {p : Int} (hp : Pm p) {l : List Int} (nl : Nm p l) (hl : l.length ≤ 24)
include hp nl hl
theorem specJacM_l0 {k : Nat} (hk : 2 * k ≤ l.length) (d : Nat) : ∀ (i : Nat) (last : Int), i + d = k → (0 ≤ last ∧ last < p) → (mNorm p l (mP p l i) 0 * invF p last % p = mBeta p l (mPair p l i).1 (mP p l i) i) →
    Ev (fun n => spec_JacobiOfMoments.l0 n (k : Int) (mPolys p l k) p last (i : Int) p l p (mAl p l i) (mBe p l i)) (p, mAl p l k, mBe p l k, 0) := by
  induction d with
  | zero =>
    intro i last hi _ _
    obtain rfl : i = k := by omega
    refine Ev.step (fun n => by rw [spec_JacobiOfMoments.l0]) ?_
    exact Ev.neg (by omega) (Ev.now _)
  | succ d ih =>
    intro i last hi hlast hb
    have ho := mP_nm hp l i
    have hol := mP_len hp l i
    have hn0 := mNorm_in hp l (mP p l i) 0
    have hn1 := mNorm_in hp l (mP p l i) 1
    have hiv := invF_in hp (mNorm p l (mP p l i) 0)
    have hil := invF_in hp last
    have hm := mulP hp hn1.1 hn1.2 hiv.1 hiv.2
    have hm2 := mulP hp hn0.1 hn0.2 hil.1 hil.2
    have e1 : Int.tmod (wrap64 (mNorm p l (mP p l i) 1 * invF p (mNorm p l (mP p l i) 0))) p = mAlpha p l (mP p l i) := by
      rw [wrap_id (by omega) (by omega), tmod_pos hm.1]; rfl
    have e2 : Int.tmod (wrap64 (mNorm p l (mP p l i) 0 * invF p last)) p = mBeta p l (mPair p l i).1 (mP p l i) i := by
      rw [wrap_id (by omega) (by omega), tmod_pos hm2.1, hb]
    clear hm hm2 hb
    refine Ev.step (fun n => by rw [spec_JacobiOfMoments.l0]) ?_
    rw [rdL_nat, mPolys_get p l (show i ≤ k by omega), mPolys_len, wsucc (i := i) (n := 1000) (by omega) (by omega), mAl_len, mBe_len]
    refine Ev.pos (by omega) (Ev.pos (by omega) (Ev.pos (by omega) (Ev.bind (specNorm_ev hp nl hl ho 0 (by omega)) (Ev.bind (specNorm_ev hp nl hl ho 1 (by omega)) (Ev.bind (specInv_ev hp hn0) (Ev.neg hp.ne (Ev.pos (by omega) (Ev.bind (specInv_ev hp hlast) (Ev.pos (by omega) ?_)))))))))
    rw [e1, e2, ← mAl_succ, ← mBe_succ]
    refine ih (i + 1) _ (by omega) hn0 ?_
    unfold mBeta
    rw [if_neg (by omega)]; rfl
theorem specJacM_ev {k : Nat} (hk : 2 * k ≤ l.length) : Ev (fun n => spec_JacobiOfMoments.l0 n (k : Int) (mPolys p l k) p 1 0 p l p [] []) (p, mAl p l k, mBe p l k, 0) := by
  have := hp.two
  refine specJacM_l0 hp nl hl hk k 0 1 (by omega) ⟨by omega, by omega⟩ ?_
  have hg := nl.getp hp.pos 0
  show mNorm p l [1] 0 * invF p 1 % p = l.getD 0 0
  rw [invF_one hp, mNorm_one hp nl, Int.mul_one, Int.emod_eq_of_lt hg.1 hg.2]
end
theorem JacobiOfMoments_both (p : Int) (l : List Int) (a : Int) (hl : Sm l.length) : ∃ v : Int × List Int × List Int × Int, Ev (fun k => spec_JacobiOfMoments.f k p l a) v ∧ Ev (fun k => impl_JacobiOfMoments.f k p l a) v ∧ Sm v.2.1.length ∧ Sm v.2.2.1.length := by
  have hc := momentsCode_ev p l hl (decide (1 ≤ a ∧ a ≤ 12)) [] (by simp [Sm]) (fun l h => by cases h)
  have hs := specCode04_ev p l hl a 1
  have h1 : impl_JacobiOfMoments_1.f a = some (decide (1 ≤ a ∧ a ≤ 12)) := by
    unfold impl_JacobiOfMoments_1.f
    rw [order12]; rfl
  have bad : ∀ c : Int, c ≠ 0 → Ev (fun k => spec_l04Code.f k p l a ((1 : Nat) : Int)) c → Ev (fun k => spec_JacobiOfMoments.f k p l a) (0, [], [], c) := fun c hc0 hcode => by
    unfold spec_JacobiOfMoments.f
    exact Ev.bind hcode (Ev.neg hc0 (Ev.now _))
  by_cases h : momB p l = true
  · rw [h] at hc
    rw [if_pos h] at hs
    by_cases ha : 1 ≤ a ∧ a ≤ 12
    · rw [decide_eq_true ha] at hc h1
      rw [if_pos (by exact ha)] at hs
      have hp := momB.pm h
      have nl := momB.nm h
      have hlen := momB.len h
      obtain ⟨k, rfl⟩ := Int.eq_ofNat_of_zero_le (show 0 ≤ a by omega)
      have hu := implUpTo_ev hp nl hlen.2 hlen.1 k (by omega)
      by_cases c : (k : Int) ≤ ordV p l ∧ 2 * k ≤ l.length
      · rw [if_pos c] at hu
        rw [if_pos ⟨c.1, by omega⟩] at hs
        refine ⟨(p, mAl p l k, mBe p l k, 0), ?_, ?_, by rw [mAl_len]; unfold Sm; omega, by rw [mBe_len]; unfold Sm; omega⟩
        · unfold spec_JacobiOfMoments.f
          exact Ev.bind hs (Ev.pos rfl (Ev.bind (specPolys_ev hp nl hlen.2 c.2) (specJacM_ev hp nl hlen.2 c.2)))
        · unfold impl_JacobiOfMoments.f
          exact Ev.bindE h1 (Ev.bind hc (Ev.pos rfl (Ev.bind hu (Ev.pos rfl (Ev.now _)))))
      · rw [if_neg c] at hu
        rw [if_neg (fun g => c ⟨g.1, by omega⟩)] at hs
        refine ⟨(0, [], [], 5), bad 5 (by decide) hs, ?_, by simp [Sm], by simp [Sm]⟩
        unfold impl_JacobiOfMoments.f
        exact Ev.bindE h1 (Ev.bind hc (Ev.pos rfl (Ev.bind hu (Ev.neg (by simp) (Ev.now _)))))
    · rw [decide_eq_false ha] at hc h1
      rw [if_neg (by exact ha)] at hs
      refine ⟨(0, [], [], 2), bad 2 (by decide) hs, ?_, by simp [Sm], by simp [Sm]⟩
      unfold impl_JacobiOfMoments.f
      exact Ev.bindE h1 (Ev.bind hc (Ev.neg (by simp) (Ev.now _)))
  · rw [Bool.eq_false_iff.2 h] at hc
    rw [if_neg h] at hs
    refine ⟨(0, [], [], 1), bad 1 (by decide) hs, ?_, by simp [Sm], by simp [Sm]⟩
    unfold impl_JacobiOfMoments.f
    exact Ev.bindE h1 (Ev.bind hc (Ev.neg (by simp) (Ev.now _)))
end Go.Proofs.Ytfbnkebgdmfcfaa.Pr
