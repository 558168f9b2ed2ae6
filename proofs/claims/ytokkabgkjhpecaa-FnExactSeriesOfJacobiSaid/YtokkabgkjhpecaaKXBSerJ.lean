/- SeriesOfJacobi: for all arguments the program and the reference come to one value; no condition. -/
import Derived.Test.YtokkabgkjhpecaaKSeriesOfJacobi2
import Derived.Test.YtokkabgkjhpecaaKC08
import Derived.Test.YtokkabgkjhpecaaKXSer
import Derived.Test.YtokkabgkjhpecaaKFimplSeriesOfJacobi
namespace Go.Proofs.Ytokkabgkjhpecaa.Pr
open Go.RowKit Go.Proofs.YtokkabgkjhpecaaW.PrintWords Go.Proofs.YtokkabgkjhpecaaW.PrintLast Go.Proofs.YtokkabgkjhpecaaW.PrintMore

theorem Nm.reverse {p : Int} {l : List Int} (h : Nm p l) : Nm p l.reverse := fun x hx => h x (List.mem_reverse.1 hx)
theorem SeriesOfJacobi_both (p : Int) (a b : List Int) (n : Int) (ha : Sm a.length) (hb : Sm b.length) :
    ∃ v : List Int × Int, Ev (fun k => spec_SeriesOfJacobi.f k p a b n) v ∧ Ev (fun k => impl_SeriesOfJacobi.f k p a b n) v ∧ Sm v.1.length := by
  have hs := specJacCode_ev p a b n 0 24 ha hb
  have hi := implJacCode_ev p a b (decide (0 ≤ n ∧ n ≤ 24)) ha hb
  by_cases h : jacC p a b (decide (0 ≤ n ∧ n ≤ 24)) = 0
  · obtain ⟨h1, h2⟩ := jacC0 h
    have h3 := of_decide_eq_true h2
    obtain ⟨⟨⟨h4, h5⟩, h6⟩, h7, h8⟩ := jacB.all h1
    have hp := jacB.pm h1
    obtain ⟨m, rfl⟩ : ∃ m : Nat, n = (m : Int) := ⟨n.toNat, by omega⟩
    rw [h] at hs hi
    have o1 := pPair_ok hp a b a.length
    have o2 := qPair_ok hp a b a.length
    have hm := pPair_mon hp a b a.length
    have b0 := h8.nm.get (i := 0) (by omega)
    have er : rd b 0 = b.getD 0 0 := rd_nat b 0
    have lF := padd_len p [] (qPair p a b a.length).1 (b.getD 0 0)
    have nF : Nm p (padd p [] (qPair p a b a.length).1 (b.getD 0 0)) := padd_nm hp.pos (Nm.nil p) _
    have lQ := o2.2.1
    simp only [List.length_nil] at lF
    have sF : Sm (padd p [] (qPair p a b a.length).1 (b.getD 0 0)).length := by unfold Sm; omega
    have sP : Sm (pPair p a b a.length).2.length := by rw [hm.1]; unfold Sm; omega
    have sQ : Sm (qPair p a b a.length).1.length := by unfold Sm; omega
    refine ⟨(serL p (padd p [] (qPair p a b a.length).1 (b.getD 0 0)).reverse (pPair p a b a.length).2.reverse (invF p ((pPair p a b a.length).2.reverse.getD 0 0)) m, 0), ?_, ?_, ?_⟩
    · unfold spec_SeriesOfJacobi.f
      rw [er]
      exact Ev.bind hs (Ev.pos rfl (Ev.bind (specSecond_ev hp a b h7 h8.nm a.length (Nat.le_refl _) h5 h6) (Ev.pos (by omega) (Ev.bind (specAdd_ev hp b0 [] _ (Nm.nil p) o2.1.1 Sm0 sQ) (Ev.bind (specRev_ev _ sF) (Ev.bind (specPoly03_ev hp a b h7 h8.nm a.length (Nat.le_refl _) h5 h6) (Ev.bind (specRev_ev _ sP) (Ev.bind (specSer_ev hp _ _ nF.reverse o1.1.2.reverse m (by omega) (by rw [List.length_reverse, hm.1]; omega) (by rw [List.length_reverse, hm.1]; omega)) (Ev.now _)))))))))
    · unfold impl_SeriesOfJacobi.f
      refine Ev.bindE (within_eq _ _ _) (Ev.bind hi (Ev.pos rfl (Ev.bindE (a := p) rfl (Ev.bindE (size_eq p a b) (Ev.bind (implAssoc_ev hp a b h7 h8.nm h4 h5 h6) ?_)))))
      rw [qAll_len, qAll_rd p a b (by omega), er]
      refine Ev.pos (by omega) (Ev.pos (by omega) (Ev.pos (by omega) ?_))
      have ht : Ev (fun k => impl_field_times.f k p (qPair p a b a.length).1 (b.getD 0 0)) (padd p [] (qPair p a b a.length).1 (b.getD 0 0)) := by
        unfold impl_field_times.f
        exact Ev.bind (implAdd_ev hp b0 [] _ (Nm.nil p) o2.1.1 Sm0 sQ) (Ev.now _)
      refine Ev.bind ht (Ev.bind (implRev_ev _ sF) (Ev.bind (implPolys_ev hp a b h7 h8.nm h5 h6) ?_))
      rw [pAll_len, pAll_rd p a b (by omega)]
      exact Ev.pos (by omega) (Ev.bind (implRev_ev _ sP) (Ev.bind (implSer_ev hp _ _ nF.reverse o1.1.2.reverse m (by omega) (by rw [List.length_reverse, hm.1]; omega) (by rw [List.length_reverse, hm.1]; omega)) (Ev.now _)))
    · dsimp only
      rw [serL_len]
      unfold Sm
      omega
  · refine ⟨([], jacC p a b (decide (0 ≤ n ∧ n ≤ 24))), ?_, ?_, Sm0⟩
    · unfold spec_SeriesOfJacobi.f
      exact Ev.bind hs (Ev.neg h (Ev.now _))
    · unfold impl_SeriesOfJacobi.f
      exact Ev.bindE (within_eq _ _ _) (Ev.bind hi (Ev.neg h (Ev.now _)))
end Go.Proofs.Ytokkabgkjhpecaa.Pr
