/- Texts of this session in one: what functions of the program compute, and plain facts of it, under the conditions that each theorem names. -/
import Derived.Test.YtfbnkebgdmfcfaaKFimplMomentsupTo
import Derived.Test.YtfbnkebgdmfcfaaKFspecl04Polys
import Derived.Test.YtfbnkebgdmfcfaaKC02
import Derived.Test.YtfbnkebgdmfcfaaKC08
import Derived.Test.YtfbnkebgdmfcfaaKC09
namespace Go.Proofs.Ytfbnkebgdmfcfaa.Pr
/- The orthogonal polynomials of moments: the program's upTo and the reference's l04Polys come to them; no condition. -/
open Go.RowKit Go.Proofs.YtfbnkebgdmfcfaaW.PrintWords Go.Proofs.YtfbnkebgdmfcfaaW.PrintLast Go.Proofs.YtfbnkebgdmfcfaaW.PrintMore
def mPolys (p : Int) (l : List Int) (i : Nat) : List (List Int) := (List.range (i + 1)).map (mP p l)
def mNorms (p : Int) (l : List Int) (i : Nat) : List Int := (List.range i).map fun j => mNorm p l (mP p l j) 0
def mAl (p : Int) (l : List Int) (i : Nat) : List Int := (List.range i).map fun j => mAlpha p l (mP p l j)
def mBe (p : Int) (l : List Int) (i : Nat) : List Int := (List.range i).map fun j => mBeta p l (mPair p l j).1 (mP p l j) j
theorem mPolys_len (p : Int) (l : List Int) (i : Nat) : (mPolys p l i).length = i + 1 := by simp [mPolys]
theorem mPolys_get (p : Int) (l : List Int) {i j : Nat} (h : j ≤ i) : (mPolys p l i).getD j [] = mP p l j := by
  rw [mPolys, List.getD_eq_getElem?_getD, List.getElem?_map, List.getElem?_range (by omega)]; rfl
theorem mNorms_get (p : Int) (l : List Int) {i j : Nat} (h : j < i) : (mNorms p l i).getD j 0 = mNorm p l (mP p l j) 0 := by
  rw [mNorms, List.getD_eq_getElem?_getD, List.getElem?_map, List.getElem?_range h]; rfl
theorem mPolys_succ (p : Int) (l : List Int) (i : Nat) : mPolys p l (i + 1) = mPolys p l i ++ [mP p l (i + 1)] := by unfold mPolys; rw [List.range_succ, List.map_append, List.map_singleton]
theorem mNorms_succ (p : Int) (l : List Int) (i : Nat) : mNorms p l (i + 1) = mNorms p l i ++ [mNorm p l (mP p l i) 0] := by unfold mNorms; rw [List.range_succ, List.map_append, List.map_singleton]
theorem mAl_succ (p : Int) (l : List Int) (i : Nat) : mAl p l (i + 1) = mAl p l i ++ [mAlpha p l (mP p l i)] := by unfold mAl; rw [List.range_succ, List.map_append, List.map_singleton]
theorem mBe_succ (p : Int) (l : List Int) (i : Nat) : mBe p l (i + 1) = mBe p l i ++ [mBeta p l (mPair p l i).1 (mP p l i) i] := by unfold mBe; rw [List.range_succ, List.map_append, List.map_singleton]
theorem mP_zero {p : Int} (hp : Pm p) (l : List Int) : mP p l 1 = pmul p (mP p l 0) [(-(mAlpha p l (mP p l 0))) % p, 1] := by
  show pnext p (mAlpha p l [1]) (mBeta p l [] [1] 0) [1] [] = _
  unfold pnext
  rw [padd_nil _ _ (pmul_trim p _ _), pmul_comm hp.pos]
  rfl
theorem mP_succ {p : Int} (hp : Pm p) (l : List Int) (i : Nat) : mP p l (i + 2) = padd p (pmul p (mP p l (i + 1)) [(-(mAlpha p l (mP p l (i + 1)))) % p, 1]) (mP p l i) ((-(mNorm p l (mP p l (i + 1)) 0) * invF p (mNorm p l (mP p l i) 0)) % p) := by
  show pnext p (mAlpha p l (mP p l (i + 1))) (mBeta p l (mP p l i) (mP p l (i + 1)) (i + 1)) (mP p l (i + 1)) (mP p l i) = _
  unfold pnext mBeta
  rw [if_neg (by omega), neg_emod_emod, pmul_comm hp.pos, Int.neg_mul]
theorem xx_nm {p : Int} (hp : Pm p) : Nm p [0, 1] := by
  have := hp.two
  exact Nm.cons (Int.le_refl _) hp.pos (Nm.cons (by omega) (by omega) (Nm.nil p))
section
variable {p : Int} (hp : Pm p) {l : List Int} (nl : Nm p l) (hl : l.length ≤ 24)
include hp nl hl
theorem specNorm_ev {f : List Int} (hf : Nm p f) (s : Nat) (h : 2 * f.length + s ≤ l.length + 1) : Ev (fun n => spec_l04Norm.f n p l f (s : Int)) (mNorm p l f s) := by
  unfold spec_l04Norm.f mNorm
  have h2 := pmul_len p f f
  refine Ev.bind (specMul_ev hp f f hf hf (by unfold Sm; omega) (by unfold Sm; omega) (by unfold Sm; omega)) (Ev.bind (specApply_ev hp l _ nl (pmul_nm hp.pos _ _) s ?_ (by unfold Sm; omega) (by unfold Sm; omega)) (Ev.now _))
  by_cases h0 : f = []
  · right; rw [h0]; rfl
  · left
    have : f.length ≠ 0 := fun e => h0 (List.length_eq_zero_iff.1 e)
    omega
theorem specPolys_l0 {k : Nat} (hk : 2 * k ≤ l.length) (d : Nat) : ∀ (i : Nat) (last : Int), i + d = k → (0 < i → last = mNorm p l (mP p l (i - 1)) 0) →
    Ev (fun n => spec_l04Polys.l0 n (k : Int) (mPolys p l i) p last (i : Int) p l) (mPolys p l k) := by
  induction d with
  | zero =>
    intro i last hi _
    obtain rfl : i = k := by omega
    refine Ev.step (fun n => by rw [spec_l04Polys.l0]) ?_
    exact Ev.neg (by omega) (Ev.now _)
  | succ d ih =>
    intro i last hi hlast
    have ho := mP_nm hp l i
    have hol := mP_len hp l i
    have hn0 := mNorm_in hp l (mP p l i) 0
    have hn1 := mNorm_in hp l (mP p l i) 1
    have hiv := invF_in hp (mNorm p l (mP p l i) 0)
    have hm := mulP hp hn1.1 hn1.2 hiv.1 hiv.2
    have ha := mAlpha_in hp l (mP p l i)
    have ht := hp.top
    have e1 : wrap64 (-(Int.tmod (wrap64 (mNorm p l (mP p l i) 1 * invF p (mNorm p l (mP p l i) 0))) p)) = -(mAlpha p l (mP p l i)) := by
      rw [wrap_id (x := mNorm p l (mP p l i) 1 * invF p (mNorm p l (mP p l i) 0)) (by omega) (by omega), tmod_pos hm.1]
      show wrap64 (-(mAlpha p l (mP p l i))) = _
      rw [wrap_id (by omega) (by omega)]
    refine Ev.step (fun n => by rw [spec_l04Polys.l0]) ?_
    rw [rdL_nat, mPolys_get p l (Nat.le_refl i), mPolys_len, wsucc (i := i) (n := 1000) (by omega) (by omega)]
    refine Ev.pos (by omega) (Ev.pos (by omega) (Ev.pos (by omega) (Ev.bind (specNorm_ev hp nl hl ho 0 (by omega)) (Ev.bind (specInv_ev hp hn0) (Ev.bind (specNorm_ev hp nl hl ho 1 (by omega)) (Ev.neg hp.ne ?_))))))
    rw [e1]
    have tr : trim [(-(mAlpha p l (mP p l i))) % p, 1] = [(-(mAlpha p l (mP p l i))) % p, 1] := trim_snoc [(-(mAlpha p l (mP p l i))) % p] (by omega)
    refine Ev.bindE (smod_eq hp _) (Ev.bind (specTrim_ev _ (by simp [Sm])) ?_)
    rw [tr]
    refine Ev.bind (specMul_ev hp _ _ ho (two_nm hp _) (by unfold Sm; omega) (by simp [Sm]) (by simp only [List.length_cons, List.length_nil]; unfold Sm; omega)) ?_
    rcases i with _ | i
    · refine Ev.neg (by omega) (Ev.pos (by omega) ?_)
      rw [← mP_zero hp, ← mPolys_succ]
      exact ih 1 _ (by omega) (fun _ => rfl)
    · have hb := mP_nm hp l i
      have hbl := mP_len hp l i
      have hlast := hlast (by omega)
      rw [Nat.add_sub_cancel] at hlast
      have hnb := mNorm_in hp l (mP p l i) 0
      have hivb := invF_in hp (mNorm p l (mP p l i) 0)
      have hm2 := mulP hp hn0.1 hn0.2 hivb.1 hivb.2
      have e2 : wrap64 (wrap64 (-(mNorm p l (mP p l (i + 1)) 0)) * invF p (mNorm p l (mP p l i) 0)) = -(mNorm p l (mP p l (i + 1)) 0) * invF p (mNorm p l (mP p l i) 0) := by
        rw [wrap_id (x := -(mNorm p l (mP p l (i + 1)) 0)) (by omega) (by omega), Int.neg_mul, wrap_id (by omega) (by omega)]
      have hpl := pmul_len p (mP p l (i + 1)) [(-(mAlpha p l (mP p l (i + 1)))) % p, 1]
      simp only [List.length_cons, List.length_nil] at hpl
      rw [wpred (i := i + 1) (by omega) (by omega), Nat.add_sub_cancel, rdL_nat, mPolys_get p l (by omega), hlast]
      refine Ev.pos (by omega) (Ev.pos (by omega) (Ev.pos (by omega) (Ev.bind (specInv_ev hp hnb) ?_)))
      rw [e2]
      refine Ev.bindE (smod_eq hp _) (Ev.bind (specAdd_ev hp (emodB hp.pos _) _ _ (pmul_nm hp.pos _ _) hb (by unfold Sm; omega) (by unfold Sm; omega)) (Ev.pos (by omega) ?_))
      rw [← mP_succ hp, ← mPolys_succ]
      exact ih (i + 2) _ (by omega) (fun _ => rfl)
theorem specPolys_ev {k : Nat} (hk : 2 * k ≤ l.length) : Ev (fun n => spec_l04Polys.f n p l (k : Int)) (mPolys p l k) := specPolys_l0 hp nl hl hk k 0 1 (by omega) (fun h => absurd h (by omega))
theorem implNormP_ev {f : List Int} (h : 2 * f.length ≤ l.length + 1) : Ev (fun n => impl_Moments_apply.f n p l (pmul p f f)) (mNorm p l f 0) := by
  have h2 := pmul_len p f f
  refine implApply_ev hp l _ nl (pmul_nm hp.pos _ _) ?_ (by unfold Sm; omega)
  omega
theorem implOneP_ev {f : List Int} (h : 2 * f.length + 1 ≤ l.length + 1) : Ev (fun n => impl_Moments_apply.f n p l (pmul p [0, 1] (pmul p f f))) (mNorm p l f 1) := by
  have h2 := pmul_len p f f
  have h3 := pmul_len p [0, 1] (pmul p f f)
  simp only [List.length_cons, List.length_nil] at h3
  have e : mNorm p l f 1 = applyM p l (pmul p [0, 1] (pmul p f f)) 0 := by rw [applyM_x hp l _ (pmul_nm hp.pos _ _)]; rfl
  rw [e]
  refine implApply_ev hp l _ nl (pmul_nm hp.pos _ _) ?_ (by unfold Sm; omega)
  by_cases h0 : (pmul p f f).length = 0
  · have h4 : pmul p [0, 1] (pmul p f f) = [] := by
      have : pmul p f f = [] := List.length_eq_zero_iff.1 h0
      rw [this]
      simp [pmul]
    rw [h4]; exact Nat.zero_le _
  · omega
theorem implUpTo_l0 (h1 : 1 ≤ l.length) {k : Nat} (hk : 2 * k ≤ l.length) (d : Nat) : ∀ i : Nat, i + d = k →
    Ev (fun n => impl_Moments_upTo.l0 n p (mPair p l i).1 (k : Int) (i : Int) p l (mPolys p l i) (mNorms p l i) p (mAl p l i) (mBe p l i)) (mPolys p l k, mNorms p l k, p, mAl p l k, mBe p l k, true) := by
  induction d with
  | zero =>
    intro i hi
    obtain rfl : i = k := by omega
    refine Ev.step (fun n => by rw [impl_Moments_upTo.l0]) ?_
    exact Ev.neg (by omega) (Ev.now _)
  | succ d ih =>
    intro i hi
    have ho := mP_nm hp l i
    have hol := mP_len hp l i
    have hok := mPair_ok hp l i
    have hn0 := mNorm_in hp l (mP p l i) 0
    have hn1 := mNorm_in hp l (mP p l i) 1
    have h2 := pmul_len p (mP p l i) (mP p l i)
    have lN : (mNorms p l i).length = i := by simp [mNorms]
    have lA : (mAl p l i).length = i := by simp [mAl]
    have lB : (mBe p l i).length = i := by simp [mBe]
    refine Ev.step (fun n => by rw [impl_Moments_upTo.l0]) ?_
    rw [rdL_nat, mPolys_get p l (Nat.le_refl i), mPolys_len, wsucc (i := i) (n := 1000) (by omega) (by omega), lN, lA, lB]
    have hb : Ev (fun n => if (i : Int) > 0 then (if 0 ≤ wrap64 ((i : Int) - 1) then (if wrap64 ((i : Int) - 1) < (i : Int) then (impl_field_div.f n p (mNorm p l (mP p l i) 0) (rd (mNorms p l i) (wrap64 ((i : Int) - 1)))) else none) else none) else (some (rd l 0))) (mBeta p l (mPair p l i).1 (mP p l i) i) := by
      rcases i with _ | i
      · exact Ev.neg (by omega) (Ev.now _)
      · have hnb := mNorm_in hp l (mP p l i) 0
        rw [wpred (i := i + 1) (by omega) (by omega), Nat.add_sub_cancel, rd_nat, mNorms_get p l (by omega)]
        exact Ev.pos (by omega) (Ev.pos (by omega) (Ev.pos (by omega) (implDiv_ev hp hn0 hnb)))
    refine Ev.pos (by omega) (Ev.pos (by omega) (Ev.pos (by omega) (Ev.bind (implMul_ev hp _ _ ho ho (by unfold Sm; omega) (by unfold Sm; omega) (by unfold Sm; omega)) (Ev.bind (implNormP_ev hp nl hl (by omega)) (Ev.bind (implMul_ev hp [0, 1] _ (xx_nm hp) (pmul_nm hp.pos _ _) (by simp [Sm]) (by unfold Sm; omega) (by simp only [List.length_cons, List.length_nil]; unfold Sm; omega)) (Ev.bind (implOneP_ev hp nl hl (by omega)) (Ev.bind (implDiv_ev hp hn1 hn0) (Ev.pos (by omega) (Ev.bind hb ?_)))))))))
    refine Ev.bind (implNext_ev hp (mAlpha_in hp l _) (mBeta_in hp nl _ _ _) _ _ ho hok.1.1 (by omega) (by omega)) ?_
    refine Ev.bindE rfl (Ev.pos (by simp only [List.length_cons, List.length_nil]; omega) (Ev.bindE rfl (Ev.pos (by simp only [List.length_cons, List.length_nil]; omega) (Ev.bindE rfl (Ev.pos (by simp only [List.length_cons, List.length_nil]; omega) (Ev.bindE rfl (Ev.pos (by simp only [List.length_cons, List.length_nil]; omega) ?_)))))))
    have := ih (i + 1) (by omega)
    rw [mPolys_succ, mNorms_succ, mAl_succ, mBe_succ] at this
    exact this
end
/- Orders, ranges and errors of moments: the program's upTo and the reference's l04Code; no condition. -/
theorem order12 (a b : Int) : impl_isOrder.f a b = some (decide (b ≤ a ∧ a ≤ 12)) := by
  unfold impl_isOrder.f
  rw [within_eq]; rfl
section
variable {p : Int} (hp : Pm p) {l : List Int} (nl : Nm p l) (hl : l.length ≤ 24)
include hp nl hl
theorem implUpTo_ev (h1 : 1 ≤ l.length) (k : Nat) (hk : k ≤ 12) :
    Ev (fun n => impl_Moments_upTo.f n p l (k : Int)) (if (k : Int) ≤ ordV p l ∧ 2 * k ≤ l.length then (mPolys p l k, mNorms p l k, p, mAl p l k, mBe p l k, true) else ([[1]], [], p, [], [], false)) := by
  unfold impl_Moments_upTo.f
  refine Ev.bindE (a := [[1]]) rfl (Ev.bind (implOrd_ev hp nl hl) ?_)
  by_cases c1 : ordV p l < (k : Int)
  · rw [if_neg (by omega)]
    refine Ev.pos c1 (Ev.step (fun n => by rw [impl_Moments_upTo.j0]) ?_)
    exact Ev.pos rfl (Ev.now _)
  · refine Ev.neg c1 (Ev.bindE (a := (l.length : Int)) rfl (Ev.step (fun n => by rw [impl_Moments_upTo.j0]) ?_))
    have e : wrap64 (2 * (k : Int)) = 2 * (k : Int) := wrap_id (by omega) (by omega)
    rw [e]
    by_cases c2 : 2 * k ≤ l.length
    · rw [if_pos ⟨by omega, c2⟩, decide_eq_false (by omega)]
      exact Ev.neg (by decide) (Ev.bindE (a := p) rfl (implUpTo_l0 hp nl hl h1 c2 k 0 (by omega)))
    · rw [if_neg (fun g => c2 g.2), decide_eq_true (by omega)]
      exact Ev.pos rfl (Ev.now _)
theorem specReg_ev (k : Nat) (hk : k ≤ 12) : Ev (fun n => spec_l04Regular.f n p l (k : Int)) (decide ((k : Int) ≤ ordV p l ∧ 2 * k ≤ l.length)) := by
  unfold spec_l04Regular.f
  have e : wrap64 (2 * (k : Int)) = 2 * (k : Int) := wrap_id (by omega) (by omega)
  rw [e]
  by_cases c2 : 2 * k ≤ l.length
  · refine Ev.pos (by omega) (Ev.bind (specOrd_ev hp nl hl) (Ev.some' ?_))
    by_cases c1 : (k : Int) ≤ ordV p l
    · rw [decide_eq_true (show ordV p l ≥ (k : Int) from c1), decide_eq_true ⟨c1, c2⟩]
    · rw [decide_eq_false (show ¬ ordV p l ≥ (k : Int) from c1), decide_eq_false (fun g => c1 g.1)]
  · refine Ev.neg (by omega) (Ev.some' ?_)
    rw [decide_eq_false (fun g => c2 g.2)]
end
theorem specCode04_ev (p : Int) (l : List Int) (hl : Sm l.length) (a : Int) (low : Nat) :
    Ev (fun n => spec_l04Code.f n p l a (low : Int)) (if momB p l = true then (if (low : Int) ≤ a ∧ a ≤ 12 then (if a ≤ ordV p l ∧ 2 * a ≤ (l.length : Int) then 0 else 5) else 2) else 1) := by
  unfold spec_l04Code.f
  refine Ev.bind (specAre_ev p l hl) ?_
  by_cases h : momB p l = true
  · rw [if_pos h]
    refine Ev.pos h (Ev.bindE (in_eq _ _ _) ?_)
    by_cases ha : (low : Int) ≤ a ∧ a ≤ 12
    · rw [if_pos ha]
      refine Ev.pos (decide_eq_true ha) ?_
      obtain ⟨k, rfl⟩ := Int.eq_ofNat_of_zero_le (show 0 ≤ a by omega)
      refine Ev.bind (specReg_ev (momB.pm h) (momB.nm h) (momB.len h).2 k (by omega)) ?_
      by_cases c : (k : Int) ≤ ordV p l ∧ 2 * (k : Int) ≤ (l.length : Int)
      · rw [if_pos c]
        exact Ev.pos (decide_eq_true ⟨c.1, by omega⟩) (Ev.now _)
      · rw [if_neg c]
        exact Ev.neg (by rw [decide_eq_true_eq]; exact fun g => c ⟨g.1, by omega⟩) (Ev.now _)
    · rw [if_neg ha]
      exact Ev.neg (by simpa using ha) (Ev.now _)
  · rw [if_neg h]
    exact Ev.neg h (Ev.now _)
/-- The order is a number, at most half of how many moments there are. -/
theorem ordGo_nat (p : Int) (l : List Int) (d : Nat) : ∀ i : Nat, ∃ m : Nat, ordGo p l d i = (m : Int) ∧ m ≤ i + d := by
  induction d with
  | zero => intro i; exact ⟨i, rfl, Nat.le_refl _⟩
  | succ d ih =>
    intro i
    rw [ordGo]
    by_cases h : hankV p l (i + 1) = 0
    · exact ⟨i, if_pos h, by omega⟩
    · obtain ⟨m, h1, h2⟩ := ih (i + 1)
      exact ⟨m, by rw [if_neg h, h1], by omega⟩
theorem ordV_nat (p : Int) (l : List Int) : ∃ m : Nat, ordV p l = (m : Int) ∧ 2 * m ≤ l.length + 1 := by
  obtain ⟨m, h1, h2⟩ := ordGo_nat p l ((l.length + 1) / 2) 0
  exact ⟨m, h1, by omega⟩
end Go.Proofs.Ytfbnkebgdmfcfaa.Pr
