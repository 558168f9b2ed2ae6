/- Texts of this session in one: what functions of the program compute, and plain facts of it, under the conditions that each theorem names. -/
import Derived.Test.YtcfiegapclbenaaKC04
import Derived.Test.YtcfiegapclbenaaKC21
/- What the functional makes of a polynomial: one sum modulo p, in the program and in the reference. -/
namespace Go.Proofs.Ytcfiegapclbenaa.Pr
open Go.RowKit Go.Proofs.YtcfiegapclbenaaW.PrintWords Go.Proofs.YtcfiegapclbenaaW.PrintLast Go.Proofs.YtcfiegapclbenaaW.PrintMore

/-- The functional at f times x^s. -/
def applyM (p : Int) (m f : List Int) (s : Nat) : Int := sumTo (fun j => f.getD j 0 * m.getD (j + s) 0) f.length % p

theorem specApply_l0 {p : Int} (hp : Pm p) (m f : List Int) (hm : Nm p m) (hf : Nm p f) (s : Nat) (hs : f.length + s ≤ m.length ∨ f = []) (hl : Sm f.length) (hss : Sm s) (d : Nat) : ∀ i, i + d = f.length →
    Ev (fun k => spec_l02Apply.l0 k f (s : Int) (sumTo (fun j => f.getD j 0 * m.getD (j + s) 0) i % p) (i : Int) p m) (applyM p m f s) := by
  induction d with
  | zero =>
    intro i hi
    refine Ev.step (fun k => by rw [spec_l02Apply.l0]) ?_
    refine Ev.neg (by omega) (Ev.some' ?_)
    unfold applyM
    rw [show i = f.length from by omega]
  | succ d ih =>
    intro i hi
    have hs' : f.length + s ≤ m.length := by
      rcases hs with h | h
      · exact h
      · rw [h] at hi; simp at hi
    unfold Sm at hl hss
    have h1 := hf.get (i := i) (by omega)
    have h2 := hm.get (i := i + s) (by omega)
    have h3 := mulP hp h1.1 h1.2 h2.1 h2.2
    have h4 := emodB hp.pos (sumTo (fun j => f.getD j 0 * m.getD (j + s) 0) i)
    have ht := hp.top
    refine Ev.step (fun k => by rw [spec_l02Apply.l0]) ?_
    refine Ev.pos (by omega) (Ev.pos (by omega) ?_)
    rw [wadd (i := i) (j := s) (n := i + s + 1) (by omega) (by omega)]
    refine Ev.pos (by omega) (Ev.pos (by omega) (Ev.neg hp.ne ?_))
    rw [rd_nat, rd_nat, wrap_id (x := f.getD i 0 * m.getD (i + s) 0) (by omega) (by omega), wrap_id (by omega) (by omega), tmod_pos (by omega), Int.emod_add_emod, wsucc (i := i) (n := f.length) (by omega) (by omega)]
    exact ih (i + 1) (by omega)
theorem specApply_ev {p : Int} (hp : Pm p) (m f : List Int) (hm : Nm p m) (hf : Nm p f) (s : Nat) (hs : f.length + s ≤ m.length ∨ f = []) (hl : Sm f.length) (hss : Sm s) :
    Ev (fun k => spec_l02Apply.f k p m f (s : Int)) (applyM p m f s) := by
  unfold spec_l02Apply.f
  have h := specApply_l0 hp m f hm hf s hs hl hss f.length 0 (by omega)
  simpa [sumTo] using h

theorem implApply_l0 {p : Int} (hp : Pm p) (m f : List Int) (hm : Nm p m) (hf : Nm p f) (hs : f.length ≤ m.length) (hl : Sm f.length) (d : Nat) : ∀ i, i + d = f.length →
    Ev (fun k => impl_Moments_apply.l0 k (sumTo (fun j => f.getD j 0 * m.getD j 0) i % p) f (f.length : Int) (i : Int) p m) (applyM p m f 0) := by
  induction d with
  | zero =>
    intro i hi
    refine Ev.step (fun k => by rw [impl_Moments_apply.l0]) ?_
    refine Ev.neg (by omega) (Ev.some' ?_)
    unfold applyM
    rw [show i = f.length from by omega]
    rfl
  | succ d ih =>
    intro i hi
    unfold Sm at hl
    have h1 := hf.get (i := i) (by omega)
    have h2 := hm.get (i := i) (by omega)
    have h3 := mulP hp h1.1 h1.2 h2.1 h2.2
    have h4 := emodB hp.pos (sumTo (fun j => f.getD j 0 * m.getD j 0) i)
    have ht := hp.top
    refine Ev.step (fun k => by rw [impl_Moments_apply.l0]) ?_
    refine Ev.pos (by omega) (Ev.pos (by omega) (Ev.pos (by omega) (Ev.bindE (a := p) rfl (Ev.pos (by omega) (Ev.bindE (mod_eq hp _) ?_)))))
    rw [rd_nat, rd_nat, wrap_id (x := f.getD i 0 * m.getD i 0) (by omega) (by omega), wrap_id (by omega) (by omega), Int.emod_add_emod, wsucc (i := i) (n := f.length) (by omega) (by omega)]
    exact ih (i + 1) (by omega)
theorem implApply_ev {p : Int} (hp : Pm p) (m f : List Int) (hm : Nm p m) (hf : Nm p f) (hs : f.length ≤ m.length) (hl : Sm f.length) :
    Ev (fun k => impl_Moments_apply.f k p m f) (applyM p m f 0) := by
  unfold impl_Moments_apply.f
  have h := implApply_l0 hp m f hm hf hs hl f.length 0 (by omega)
  simpa [sumTo] using h
theorem getD_drop (m : List Int) (i j : Nat) : (m.drop i).getD j 0 = m.getD (j + i) 0 := by
  rw [List.getD_eq_getElem?_getD, List.getD_eq_getElem?_getD, List.getElem?_drop, Nat.add_comm]
theorem applyM_drop (p : Int) (m f : List Int) (i s : Nat) : applyM p (m.drop i) f s = applyM p m f (s + i) := by
  unfold applyM
  congr 2
  funext j
  rw [getD_drop, Nat.add_assoc]
end Go.Proofs.Ytcfiegapclbenaa.Pr
/- ApplyFunctional: for all arguments the program and the reference come to one value; no condition. -/
namespace Go.Proofs.Ytcfiegapclbenaa.Pr
open Go.RowKit Go.Proofs.YtcfiegapclbenaaW.PrintWords Go.Proofs.YtcfiegapclbenaaW.PrintLast Go.Proofs.YtcfiegapclbenaaW.PrintMore

theorem specCode_ev (p : Int) (l f : List Int) (hl : Sm l.length) (hf : Sm f.length) :
    Ev (fun k => spec_l02Code.f k p l f) (if momB p l && polyB p f then (if f.length > l.length then 2 else 0) else 1) := by
  unfold spec_l02Code.f
  refine Ev.bind (specAre_ev p l hl) ?_
  by_cases h : momB p l = true
  · refine Ev.pos h (Ev.bind (specPoly_ev p f hf) ?_)
    rw [h, Bool.true_and]
    by_cases hp : polyB p f = true
    · rw [hp]
      refine Ev.step (fun k => by rw [spec_l02Code.j0]) ?_
      refine Ev.neg (by decide) ?_
      by_cases hg : f.length > l.length
      · exact Ev.pos (by omega) (Ev.some' (by simp [hg]))
      · exact Ev.neg (by omega) (Ev.some' (by simp [hg]))
    · rw [Bool.eq_false_iff.2 hp]
      refine Ev.step (fun k => by rw [spec_l02Code.j0]) ?_
      exact Ev.pos rfl (Ev.some' rfl)
  · refine Ev.neg h ?_
    rw [Bool.eq_false_iff.2 h]
    refine Ev.step (fun k => by rw [spec_l02Code.j0]) ?_
    exact Ev.pos rfl (Ev.some' rfl)

theorem ApplyFunctional_both (p : Int) (l f : List Int) (hl : Sm l.length) (hf : Sm f.length) :
    ∃ v : Int × Int, Ev (fun k => spec_ApplyFunctional.f k p l f) v ∧ Ev (fun k => impl_ApplyFunctional.f k p l f) v := by
  have hs := specCode_ev p l f hl hf
  have h1 : impl_ApplyFunctional_1.f p l f = some (decide ((f.length : Int) ≤ (l.length : Int))) := rfl
  have hc := fun b => momentsCode_ev p l hl b [f] (by simp [Sm]) (fun g h => by rw [List.mem_singleton.1 h]; exact hf)
  simp only [one_all] at hc
  by_cases h : (momB p l && polyB p f) = true
  · have hm : momB p l = true := by simp only [Bool.and_eq_true] at h; exact h.1
    have hp : polyB p f = true := by simp only [Bool.and_eq_true] at h; exact h.2
    by_cases hg : f.length ≤ l.length
    · refine ⟨(applyM p l f 0, 0), ?_, ?_⟩
      · unfold spec_ApplyFunctional.f
        rw [if_pos h, if_neg (by omega)] at hs
        exact Ev.bind hs (Ev.pos rfl (Ev.bind (specApply_ev (momB.pm hm) l f (momB.nm hm) (polyB.nm hp) 0 (.inl (by omega)) hf (by simp [Sm])) (Ev.now _)))
      · unfold impl_ApplyFunctional.f
        have hc := hc true
        rw [if_pos h] at hc
        rw [decide_eq_true (by omega)] at h1
        exact Ev.bindE h1 (Ev.bind hc (Ev.pos rfl (Ev.bind (implApply_ev (momB.pm hm) l f (momB.nm hm) (polyB.nm hp) hg hf) (Ev.now _))))
    · refine ⟨(0, 2), ?_, ?_⟩
      · unfold spec_ApplyFunctional.f
        rw [if_pos h, if_pos (by omega)] at hs
        exact Ev.bind hs (Ev.neg (by decide) (Ev.now _))
      · unfold impl_ApplyFunctional.f
        have hc := hc false
        rw [if_pos h] at hc
        rw [decide_eq_false (by omega)] at h1
        exact Ev.bindE h1 (Ev.bind hc (Ev.neg (by simp) (Ev.now _)))
  · refine ⟨(0, 1), ?_, ?_⟩
    · unfold spec_ApplyFunctional.f
      rw [if_neg h] at hs
      exact Ev.bind hs (Ev.neg (by decide) (Ev.now _))
    · unfold impl_ApplyFunctional.f
      have hc := hc (decide ((f.length : Int) ≤ (l.length : Int)))
      rw [if_neg h] at hc
      exact Ev.bindE h1 (Ev.bind hc (Ev.neg (by simp) (Ev.now _)))

end Go.Proofs.Ytcfiegapclbenaa.Pr
