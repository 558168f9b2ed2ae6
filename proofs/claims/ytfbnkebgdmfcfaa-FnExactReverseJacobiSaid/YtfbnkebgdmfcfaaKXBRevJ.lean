/- ReverseJacobi: for all arguments the program and the reference come to one value; no condition. -/
import Derived.Test.YtfbnkebgdmfcfaaKReverseJacobi5
import Derived.Test.YtfbnkebgdmfcfaaKReverseJacobi4
import Derived.Test.YtfbnkebgdmfcfaaKFspecReverseJacobi
import Derived.Test.YtfbnkebgdmfcfaaKFimplReverseJacobi
namespace Go.Proofs.Ytfbnkebgdmfcfaa.Pr
open Go.RowKit Go.Proofs.YtfbnkebgdmfcfaaW.PrintWords Go.Proofs.YtfbnkebgdmfcfaaW.PrintLast Go.Proofs.YtfbnkebgdmfcfaaW.PrintMore

theorem getD_eq_get {l : List Int} {i : Nat} (h : i < l.length) : l.getD i 0 = l[i] := by rw [List.getD_eq_getElem?_getD, List.getElem?_eq_getElem h]; rfl
theorem rvL_tail (b : List Int) (h : 0 < b.length) : rvL b 1 (b.length - 1) (b.length - 1) = b.getD 0 0 :: (b.drop 1).reverse := by
  apply List.ext_getElem (by rw [rvL_len, List.length_cons, List.length_reverse, List.length_drop]; omega)
  intro i h1 h2
  have hi : i < b.length := by rwa [rvL_len] at h1
  rw [← getD_eq_get h1, rvL_get _ _ _ _ hi]
  cases i with
  | zero => rw [if_neg (by omega)]; rfl
  | succ j =>
    rw [if_pos (by omega), List.getElem_cons_succ, List.getElem_reverse, List.getElem_drop, getD_eq_get (by omega)]
    congr 1
    rw [List.length_drop]
    omega
theorem drop_consD {l : List Int} {d : Nat} (h : d < l.length) : l.drop d = l.getD d 0 :: l.drop (d + 1) := by
  rw [getD_eq_get h, List.drop_eq_getElem_cons h]
theorem specRevJ_l0 (p : Int) (a b : List Int) (hab : b.length = a.length) (ha : a.length ≤ 12) (d : Nat) : d ≤ a.length →
    Ev (fun n => spec_ReverseJacobi.l0 n ((d : Int) - 1) p a b p (a.drop d).reverse (b.getD 0 0 :: (b.drop (max d 1)).reverse)) (p, a.reverse, b.getD 0 0 :: (b.drop 1).reverse, 0) := by
  induction d with
  | zero =>
    intro _
    refine Ev.step (fun n => by rw [spec_ReverseJacobi.l0]) ?_
    exact Ev.neg (by omega) (Ev.now _)
  | succ d ih =>
    intro hd
    have e0 : ((d + 1 : Nat) : Int) - 1 = (d : Int) := by omega
    have ew : wrap64 ((d : Int) - 1) = (d : Int) - 1 := wrap_id (by omega) (by omega)
    have ea : (a.drop (d + 1)).reverse ++ [a.getD d 0] = (a.drop d).reverse := by rw [drop_consD (show d < a.length by omega), List.reverse_cons]
    have la : (a.drop (d + 1)).reverse.length ≤ 12 := by rw [List.length_reverse, List.length_drop]; omega
    have lb : (b.getD 0 0 :: (b.drop (max (d + 1) 1)).reverse).length ≤ 13 := by rw [List.length_cons, List.length_reverse, List.length_drop]; omega
    refine Ev.step (fun n => by rw [spec_ReverseJacobi.l0]) ?_
    rw [e0, ew, rd_nat, rd_nat, ea]
    refine Ev.pos (by omega) (Ev.pos (by omega) (Ev.pos (by omega) (Ev.pos (by omega) (Ev.bindE rfl ?_))))
    have := ih (by omega)
    by_cases h0 : 0 < d
    · have eb : (b.getD 0 0 :: (b.drop (max (d + 1) 1)).reverse) ++ [b.getD d 0] = b.getD 0 0 :: (b.drop (max d 1)).reverse := by
        rw [show max (d + 1) 1 = d + 1 from by omega, show max d 1 = d from by omega, drop_consD (show d < b.length by omega), List.reverse_cons, List.cons_append]
      refine Ev.pos (by omega) (Ev.pos (by omega) (Ev.pos (by omega) ?_))
      rw [eb]
      exact this
    · refine Ev.neg (by omega) ?_
      rw [show max (d + 1) 1 = max d 1 from by omega]
      exact this
theorem ReverseJacobi_both (p : Int) (a b : List Int) (ha : Sm a.length) (hb : Sm b.length) :
    ∃ v : Int × List Int × List Int × Int, Ev (fun n => spec_ReverseJacobi.f n p a b) v ∧ Ev (fun n => impl_ReverseJacobi.f n p a b) v ∧ Sm v.2.1.length ∧ Sm v.2.2.1.length := by
  have hs := specJac_ev p a b ha hb
  have hi := implJacCode_ev p a b true ha hb
  by_cases h : jacB p a b = true
  · have hall := jacB.all h
    have hc : jacC p a b true = 0 := by unfold jacC; rw [if_pos h, if_pos rfl]
    rw [h] at hs
    rw [hc] at hi
    refine ⟨(p, a.reverse, b.getD 0 0 :: (b.drop 1).reverse, 0), ?_, ?_, by rw [List.length_reverse]; unfold Sm; omega, by rw [List.length_cons, List.length_reverse, List.length_drop]; unfold Sm; omega⟩
    · unfold spec_ReverseJacobi.f
      have hw : wrap64 ((a.length : Int) - 1) = (a.length : Int) - 1 := wrap_id (by omega) (by omega)
      have hl := specRevJ_l0 p a b hall.1.2 (by omega) a.length (Nat.le_refl _)
      rw [List.drop_length, show max a.length 1 = b.length from by omega, List.drop_length] at hl
      rw [hw]
      exact Ev.bind hs (Ev.pos rfl (Ev.pos (by omega) hl))
    · unfold impl_ReverseJacobi.f
      refine Ev.bind hi (Ev.pos rfl (Ev.bindE (size_eq p a b) (Ev.bindE (a := (p, a, b)) ?_ (Ev.bindE (a := a.reverse) ?_ (Ev.bindE (a := b.getD 0 0 :: (b.drop 1).reverse) ?_ (Ev.now _))))))
      · unfold impl_Jacobi_part.f
        have hcl : ∀ l : List Int, l.length ≤ 12 → slices_Clone_ints.f l = some l := fun l hl => by unfold slices_Clone_ints.f; rw [if_pos (by omega)]
        rw [if_pos (by omega), if_pos (by omega), if_pos (by omega), show ((a.length : Int)).toNat = a.length from rfl, List.take_length, show b.take a.length = b from List.take_of_length_le (by omega)]
        show (slices_Clone_ints.f a).bind _ = _
        rw [hcl a (by omega), Option.bind_some, if_pos (by omega)]
        show (slices_Clone_ints.f b).bind _ = _
        rw [hcl b (by omega)]; rfl
      · show slices_Reverse_ints.f a = _
        unfold slices_Reverse_ints.f
        rw [if_pos ⟨by omega, by omega⟩]
      · show slices_ReverseTail.f b = _
        unfold slices_ReverseTail.f
        rw [if_pos ⟨by omega, by omega⟩, rvL_tail b (by omega)]
  · have hc : jacC p a b true = 1 := by unfold jacC; rw [if_neg h]
    rw [Bool.eq_false_iff.2 h] at hs
    rw [hc] at hi
    refine ⟨(0, [], [], 1), ?_, ?_, by simp [Sm], by simp [Sm]⟩
    · unfold spec_ReverseJacobi.f
      exact Ev.bind hs (Ev.neg (by decide) (Ev.now _))
    · unfold impl_ReverseJacobi.f
      exact Ev.bind hi (Ev.neg (by decide) (Ev.now _))
end Go.Proofs.Ytfbnkebgdmfcfaa.Pr
