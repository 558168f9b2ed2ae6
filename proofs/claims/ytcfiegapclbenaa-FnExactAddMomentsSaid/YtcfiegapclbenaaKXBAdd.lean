/- AddMoments: for all arguments the program and the reference come to one value; no condition. -/
import Derived.Test.YtcfiegapclbenaaKC04
import Derived.Test.YtcfiegapclbenaaKFspecAddMoments
import Derived.Test.YtcfiegapclbenaaKFimplAddMoments
namespace Go.Proofs.Ytcfiegapclbenaa.Pr
open Go.RowKit Go.Proofs.YtcfiegapclbenaaW.PrintWords Go.Proofs.YtcfiegapclbenaaW.PrintLast Go.Proofs.YtcfiegapclbenaaW.PrintMore

/-- l and k times m together, number by number. -/
def addL (p : Int) (l m : List Int) (k : Int) (n : Nat) : List Int := (List.range n).map fun i => (l.getD i 0 + k * m.getD i 0) % p
theorem addL_length (p : Int) (l m : List Int) (k : Int) (n : Nat) : (addL p l m k n).length = n := by simp [addL]
theorem addL_succ (p : Int) (l m : List Int) (k : Int) (n : Nat) : addL p l m k (n + 1) = addL p l m k n ++ [(l.getD n 0 + k * m.getD n 0) % p] := by
  simp [addL, List.range_succ]
theorem specAdd_l0 {p k : Int} (hp : Pm p) (hk : 0 ≤ k ∧ k < p) (l m : List Int) (hl : Nm p l) (hm : Nm p m) (hlm : l.length = m.length) (hs : Sm l.length) (d : Nat) : ∀ i, i + d = l.length →
    Ev (fun n => spec_AddMoments.l0 n k (i : Int) p l p m p (addL p l m k i)) (p, addL p l m k l.length, 0) := by
  induction d with
  | zero =>
    intro i hi
    refine Ev.step (fun n => by rw [spec_AddMoments.l0]) ?_
    refine Ev.neg (by omega) (Ev.some' ?_)
    rw [show i = l.length from by omega]
  | succ d ih =>
    intro i hi
    unfold Sm at hs
    have h1 := hl.get (i := i) (by omega)
    have h2 := hm.get (i := i) (by omega)
    have h3 := mulP hp hk.1 hk.2 h2.1 h2.2
    have ht := hp.top
    refine Ev.step (fun n => by rw [spec_AddMoments.l0]) ?_
    refine Ev.pos (by omega) (Ev.pos (by omega) (Ev.pos (by omega) (Ev.neg hp.ne (Ev.pos (by rw [addL_length]; omega) ?_))))
    rw [wsucc (i := i) (n := l.length) (by omega) (by omega), rd_nat, rd_nat, wrap_id (x := k * m.getD i 0) (by omega) (by omega), wrap_id (by omega) (by omega), tmod_pos (by omega), ← addL_succ]
    exact ih (i + 1) (by omega)
theorem implAdd_l0 {p k : Int} (hp : Pm p) (hk : 0 ≤ k ∧ k < p) (l m : List Int) (hl : Nm p l) (hm : Nm p m) (hlm : l.length = m.length) (hs : Sm l.length) (d : Nat) : ∀ i, i + d = l.length →
    Ev (fun n => impl_AddMoments.l0 n k m (m.length : Int) (i : Int) p l p (addL p l m k i ++ l.drop i)) (p, addL p l m k l.length, 0) := by
  induction d with
  | zero =>
    intro i hi
    refine Ev.step (fun n => by rw [impl_AddMoments.l0]) ?_
    refine Ev.neg (by omega) (Ev.some' ?_)
    rw [show i = l.length from by omega, List.drop_length, List.append_nil]
  | succ d ih =>
    intro i hi
    unfold Sm at hs
    have h1 := hl.get (i := i) (by omega)
    have h2 := hm.get (i := i) (by omega)
    have h3 := mulP hp hk.1 hk.2 h2.1 h2.2
    have ht := hp.top
    have hlen : (addL p l m k i ++ l.drop i).length = l.length := by rw [List.length_append, addL_length, List.length_drop]; omega
    have hg : (addL p l m k i ++ l.drop i).getD i 0 = l.getD i 0 := by
      rw [List.getD_eq_getElem?_getD, List.getElem?_append_right (by rw [addL_length]; omega), addL_length, Nat.sub_self, List.getElem?_drop, List.getD_eq_getElem?_getD]; rfl
    refine Ev.step (fun n => by rw [impl_AddMoments.l0]) ?_
    refine Ev.pos (by omega) (Ev.pos (by omega) (Ev.pos (by omega) (Ev.bindE (a := p) rfl (Ev.pos (by rw [hlen]; omega) (Ev.bindE (mod_eq hp _) ?_)))))
    rw [wsucc (i := i) (n := l.length) (by omega) (by omega), rd_nat, rd_nat, hg, wrap_id (x := k * m.getD i 0) (by omega) (by omega), wrap_id (by omega) (by omega)]
    have e : (addL p l m k i ++ l.drop i).set ((i : Int)).toNat ((l.getD i 0 + k * m.getD i 0) % p) = addL p l m k (i + 1) ++ l.drop (i + 1) := by
      rw [toNat_nat, List.set_append_right (h := by rw [addL_length]; omega), addL_length, Nat.sub_self, List.drop_eq_getElem_cons (by omega), List.set_cons_zero, addL_succ, List.append_assoc]
      rfl
    rw [e]
    exact ih (i + 1) (by omega)
theorem AddMoments_both (p : Int) (l : List Int) (q : Int) (m : List Int) (k : Int) (hl : Sm l.length) (hm : Sm m.length) :
    ∃ v : Int × List Int × Int, Ev (fun n => spec_AddMoments.f n p l q m k) v ∧ Ev (fun n => impl_AddMoments.f n p l q m k) v ∧ Sm v.2.1.length := by
  by_cases h : (momB p l && momB q m) = true
  · have h1 : momB p l = true := by simp only [Bool.and_eq_true] at h; exact h.1
    have h2 : momB q m = true := by simp only [Bool.and_eq_true] at h; exact h.2
    have hp := momB.pm h1
    have ht := hp.top
    have h2' := hp.two
    by_cases e : p = q ∧ l.length = m.length ∧ (0 ≤ k ∧ k < p)
    · obtain ⟨rfl, hlm, hk⟩ := e
      refine ⟨(p, addL p l m k l.length, 0), ?_, ?_, by rw [addL_length]; exact hl⟩
      · unfold spec_AddMoments.f
        refine Ev.bind (specAre_ev p l hl) (Ev.pos h1 (Ev.bind (specAre_ev p m hm) ?_))
        rw [h2]
        refine Ev.step (fun n => by rw [spec_AddMoments.j0]) ?_
        refine Ev.neg (by decide) (Ev.pos rfl (Ev.pos (by omega) (Ev.bindE (in_eq _ _ _) ?_)))
        rw [wrap_id (by omega) (by omega)]
        refine Ev.pos (decide_eq_true (by omega)) ?_
        exact specAdd_l0 hp hk l m (momB.nm h1) (momB.nm h2) hlm hl l.length 0 (by omega)
      · unfold impl_AddMoments.f
        refine Ev.bind (implAre_ev p l hl) (Ev.pos h1 (Ev.bind (implAre_ev p m hm) ?_))
        rw [h2]
        refine Ev.step (fun n => by rw [impl_AddMoments.j0]) ?_
        refine Ev.neg (by decide) (Ev.pos rfl (Ev.pos (by omega) (Ev.bindE (a := p) rfl (Ev.bindE (has_eq _ _) (Ev.pos (decide_eq_true hk) (Ev.bindE (with_eq p l l hl) ?_))))))
        exact implAdd_l0 hp hk l m (momB.nm h1) (momB.nm h2) hlm hl l.length 0 (by omega)
    · refine ⟨(0, [], 2), ?_, ?_, Sm0⟩
      · unfold spec_AddMoments.f
        refine Ev.bind (specAre_ev p l hl) (Ev.pos h1 (Ev.bind (specAre_ev q m hm) ?_))
        rw [h2]
        refine Ev.step (fun n => by rw [spec_AddMoments.j0]) ?_
        refine Ev.neg (by decide) ?_
        by_cases e1 : p = q
        · refine Ev.pos e1 ?_
          by_cases e2 : l.length = m.length
          · refine Ev.pos (by omega) (Ev.bindE (in_eq _ _ _) ?_)
            rw [wrap_id (by omega) (by omega)]
            exact Ev.neg (by simp only [decide_eq_true_eq]; omega) (Ev.now _)
          · exact Ev.neg (by omega) (Ev.now _)
        · exact Ev.neg e1 (Ev.now _)
      · unfold impl_AddMoments.f
        refine Ev.bind (implAre_ev p l hl) (Ev.pos h1 (Ev.bind (implAre_ev q m hm) ?_))
        rw [h2]
        refine Ev.step (fun n => by rw [impl_AddMoments.j0]) ?_
        refine Ev.neg (by decide) ?_
        by_cases e1 : p = q
        · refine Ev.pos e1 ?_
          by_cases e2 : l.length = m.length
          · refine Ev.pos (by omega) (Ev.bindE (a := p) rfl (Ev.bindE (has_eq _ _) ?_))
            exact Ev.neg (by simp only [decide_eq_true_eq]; omega) (Ev.now _)
          · exact Ev.neg (by omega) (Ev.now _)
        · exact Ev.neg e1 (Ev.now _)
  · refine ⟨(0, [], 1), ?_, ?_, Sm0⟩
    · unfold spec_AddMoments.f
      refine Ev.bind (specAre_ev p l hl) ?_
      by_cases h1 : momB p l = true
      · refine Ev.pos h1 (Ev.bind (specAre_ev q m hm) ?_)
        rw [show momB q m = false from by rw [h1, Bool.true_and] at h; exact Bool.eq_false_iff.2 h]
        refine Ev.step (fun n => by rw [spec_AddMoments.j0]) ?_
        exact Ev.pos rfl (Ev.now _)
      · refine Ev.neg h1 ?_
        refine Ev.step (fun n => by rw [spec_AddMoments.j0]) ?_
        exact Ev.pos rfl (Ev.now _)
    · unfold impl_AddMoments.f
      refine Ev.bind (implAre_ev p l hl) ?_
      by_cases h1 : momB p l = true
      · refine Ev.pos h1 (Ev.bind (implAre_ev q m hm) ?_)
        rw [show momB q m = false from by rw [h1, Bool.true_and] at h; exact Bool.eq_false_iff.2 h]
        refine Ev.step (fun n => by rw [impl_AddMoments.j0]) ?_
        exact Ev.pos rfl (Ev.now _)
      · refine Ev.neg h1 ?_
        refine Ev.step (fun n => by rw [impl_AddMoments.j0]) ?_
        exact Ev.pos rfl (Ev.now _)
end Go.Proofs.Ytcfiegapclbenaa.Pr
