/- AffineJacobi: for all arguments the program and the reference come to one value; no condition. -/
import Derived.Test.YtgneldhhlfjjaaaKC04
import Derived.Test.YtgneldhhlfjjaaaKFspecAffineJacobi
import Derived.Test.YtgneldhhlfjjaaaKFimplAffineJacobi
namespace Go.Proofs.Ytgneldhhlfjjaaa.Pr
open Go.RowKit Go.Proofs.YtgneldhhlfjjaaaW.PrintWords Go.Proofs.YtgneldhhlfjjaaaW.PrintLast Go.Proofs.YtgneldhhlfjjaaaW.PrintMore

theorem mul_eq {p : Int} (hp : Pm p) {x y : Int} (hx : 0 ≤ x ∧ x < p) (hy : 0 ≤ y ∧ y < p) : impl_field_mul.f p x y = some (x * y % p) := by
  unfold impl_field_mul.f
  have h := mulP hp hx.1 hx.2 hy.1 hy.2
  rw [wrap_id (by omega) (by omega), mod_eq hp]; rfl
theorem isUnit_any (p x : Int) : impl_field_isUnit.f p x = some (decide (1 ≤ x ∧ x ≤ wrap64 (p - 1))) := by
  unfold impl_field_isUnit.f
  rw [within_eq]; rfl
theorem affJ_l0 {p m c : Int} (hp : Pm p) (hm : 0 ≤ m ∧ m < p) (hc : 0 ≤ c ∧ c < p) (a0 b0 : List Int) (d : Nat) : ∀ (i : Nat) (a b : List Int), i + d = a.length → a.length ≤ 12 → b.length = a.length → Nm p a → Nm p b →
    ∃ v : List Int × List Int, Ev (fun n => spec_AffineJacobi.l0 n m c (i : Int) p a0 b0 p a b) (p, v.1, v.2, 0) ∧ Ev (fun n => impl_AffineJacobi.l0 n m c p (a.length : Int) (i : Int) p a b) (p, v.1, v.2, 0) ∧ Sm v.1.length ∧ Sm v.2.length := by
  induction d with
  | zero =>
    intro i a b hi hl hb hna hnb
    refine ⟨(a, b), ?_, ?_, by unfold Sm; dsimp only; omega, by unfold Sm; dsimp only; omega⟩
    · refine Ev.step (fun n => by rw [spec_AffineJacobi.l0]) ?_
      exact Ev.neg (by omega) (Ev.now _)
    · refine Ev.step (fun n => by rw [impl_AffineJacobi.l0]) ?_
      exact Ev.neg (by omega) (Ev.now _)
  | succ d ih =>
    intro i a b hi hl hb hna hnb
    have h1 := hna.get (i := i) (by omega)
    have h2 := hnb.get (i := i) (by omega)
    have h3 := mulP hp hm.1 hm.2 h1.1 h1.2
    have h4 := mulP hp hm.1 hm.2 hm.1 hm.2
    have hq := emodB hp.pos (m * m)
    have h5 := mulP hp hq.1 hq.2 h2.1 h2.2
    have ht := hp.top
    have ea := emodB hp.pos (m * a.getD i 0 + c)
    have eb := emodB hp.pos (m * m % p * b.getD i 0)
    have w1 : wrap64 (m * a.getD i 0) = m * a.getD i 0 := wrap_id (by omega) (by omega)
    have w2 : wrap64 (m * a.getD i 0 + c) = m * a.getD i 0 + c := wrap_id (by omega) (by omega)
    have w3 : wrap64 (m * m) = m * m := wrap_id (by omega) (by omega)
    have w4 : wrap64 (m * m % p * b.getD i 0) = m * m % p * b.getD i 0 := wrap_id (by omega) (by omega)
    by_cases g : 0 < i
    · obtain ⟨v, e1, e2, e3, e4⟩ := ih (i + 1) (a.set i ((m * a.getD i 0 + c) % p)) (b.set i (m * m % p * b.getD i 0 % p)) (by rw [List.length_set]; omega) (by rw [List.length_set]; omega) (by rw [List.length_set, List.length_set]; omega) (hna.set ea.1 ea.2 i) (hnb.set eb.1 eb.2 i)
      refine ⟨v, ?_, ?_, e3, e4⟩
      · refine Ev.step (fun n => by rw [spec_AffineJacobi.l0]) ?_
        refine Ev.pos (by omega) (Ev.pos (by omega) (Ev.neg hp.ne (Ev.bindE rfl (Ev.pos (by omega) (Ev.pos (by omega) ?_)))))
        rw [rd_nat, rd_nat, toNat_nat, w1, w2, w3, tmod_pos (a := m * a.getD i 0 + c) (by omega), tmod_pos (a := m * m) (by omega), w4, tmod_pos (a := m * m % p * b.getD i 0) (by omega), wsucc (i := i) (n := a.length) (by omega) (by omega)]
        exact e1
      · rw [List.length_set] at e2
        refine Ev.step (fun n => by rw [impl_AffineJacobi.l0]) ?_
        refine Ev.pos (by omega) (Ev.pos (by omega) (Ev.pos (by omega) ?_))
        rw [rd_nat, w1, w2]
        refine Ev.bindE (mod_eq hp _) (Ev.bindE rfl (Ev.pos (by omega) (Ev.bindE (mul_eq hp hm hm) (Ev.pos (by omega) ?_))))
        rw [rd_nat]
        refine Ev.bindE (mul_eq hp hq h2) ?_
        rw [toNat_nat, wsucc (i := i) (n := a.length) (by omega) (by omega)]
        exact e2
    · obtain ⟨v, e1, e2, e3, e4⟩ := ih (i + 1) (a.set i ((m * a.getD i 0 + c) % p)) b (by rw [List.length_set]; omega) (by rw [List.length_set]; omega) (by rw [List.length_set]; omega) (hna.set ea.1 ea.2 i) hnb
      refine ⟨v, ?_, ?_, e3, e4⟩
      · refine Ev.step (fun n => by rw [spec_AffineJacobi.l0]) ?_
        refine Ev.pos (by omega) (Ev.pos (by omega) (Ev.neg hp.ne (Ev.bindE rfl (Ev.neg (by omega) ?_))))
        rw [rd_nat, toNat_nat, w1, w2, tmod_pos (by omega), wsucc (i := i) (n := a.length) (by omega) (by omega)]
        exact e1
      · rw [List.length_set] at e2
        refine Ev.step (fun n => by rw [impl_AffineJacobi.l0]) ?_
        refine Ev.pos (by omega) (Ev.pos (by omega) (Ev.pos (by omega) ?_))
        rw [rd_nat, w1, w2]
        refine Ev.bindE (mod_eq hp _) (Ev.bindE rfl (Ev.neg (by omega) ?_))
        rw [toNat_nat, wsucc (i := i) (n := a.length) (by omega) (by omega)]
        exact e2
theorem AffineJacobi_both (p : Int) (a b : List Int) (m c : Int) (ha : Sm a.length) (hb : Sm b.length) :
    ∃ v : Int × List Int × List Int × Int, Ev (fun n => spec_AffineJacobi.f n p a b m c) v ∧ Ev (fun n => impl_AffineJacobi.f n p a b m c) v ∧ Sm v.2.1.length ∧ Sm v.2.2.1.length := by
  by_cases h : jacB p a b = true
  · have hp := jacB.pm h
    have h2 := hp.two
    have ht := hp.top
    have h4 := jacB.all h
    have hw : wrap64 (p - 1) = p - 1 := wrap_id (by omega) (by omega)
    have hi : ∀ r, Ev (fun n => impl_jacobiCode.f n p a b r) (if r = true then 0 else 2) := fun r => by
      have := implJacCode_ev p a b r ha hb
      unfold jacC at this
      rwa [if_pos h] at this
    by_cases g : (1 ≤ m ∧ m < p) ∧ (0 ≤ c ∧ c < p)
    · obtain ⟨v, e1, e2, e3, e4⟩ := affJ_l0 hp (m := m) (c := c) (by omega) (by omega) a b a.length 0 a b (by omega) (by omega) (by omega) h4.2.1 h4.2.2.nm
      refine ⟨(p, v.1, v.2, 0), ?_, ?_, e3, e4⟩
      · unfold spec_AffineJacobi.f
        refine Ev.bind (specJac_ev p a b ha hb) (Ev.pos h ?_)
        rw [hw]
        refine Ev.bindE (in_eq _ _ _) (Ev.pos (decide_eq_true (by omega)) (Ev.bindE (in_eq _ _ _) (Ev.pos (decide_eq_true (by omega)) (Ev.bindE (a := (p, a, b)) ?_ e1))))
        unfold spec_l03Cut.f
        rw [if_pos (by omega), if_pos (by omega), toNat_nat, List.take_length, own_eq _ ha, Option.bind_some, if_pos (by omega), show b.take a.length = b from List.take_of_length_le (by omega), own_eq _ hb]
        rfl
      · unfold impl_AffineJacobi.f
        refine Ev.bindE (a := p) rfl (Ev.bindE (isUnit_eq (by omega) (by omega) m) (Ev.pos (decide_eq_true g.1) (Ev.bindE (a := p) rfl (Ev.bindE (has_eq p c) (Ev.bind (hi _) ?_)))))
        rw [if_pos (decide_eq_true g.2)]
        refine Ev.step (fun n => by rw [impl_AffineJacobi.j0]) ?_
        refine Ev.pos rfl (Ev.bindE (a := p) rfl (Ev.bindE (size_eq p a b) (Ev.bindE (a := (p, a, b)) ?_ e2)))
        unfold impl_Jacobi_part.f
        rw [if_pos (by omega), if_pos (by omega), if_pos (by omega), toNat_nat, List.take_length, show (0 : Int).toNat = 0 from rfl, List.drop_zero, List.drop_zero, clone_eq _ ha, Option.bind_some, if_pos (by omega), show b.take a.length = b from List.take_of_length_le (by omega), clone_eq _ hb]
        rfl
    · refine ⟨(0, [], [], 2), ?_, ?_, Sm0, Sm0⟩
      · unfold spec_AffineJacobi.f
        refine Ev.bind (specJac_ev p a b ha hb) (Ev.pos h ?_)
        rw [hw]
        refine Ev.bindE (in_eq _ _ _) ?_
        by_cases g1 : 1 ≤ m ∧ m ≤ p - 1
        · exact Ev.pos (decide_eq_true g1) (Ev.bindE (in_eq _ _ _) (Ev.neg (by simp only [decide_eq_true_eq]; omega) (Ev.now _)))
        · exact Ev.neg (by simp only [decide_eq_true_eq]; exact g1) (Ev.now _)
      · unfold impl_AffineJacobi.f
        refine Ev.bindE (a := p) rfl (Ev.bindE (isUnit_eq (by omega) (by omega) m) ?_)
        by_cases g1 : 1 ≤ m ∧ m < p
        · refine Ev.pos (decide_eq_true g1) (Ev.bindE (a := p) rfl (Ev.bindE (has_eq p c) (Ev.bind (hi _) ?_)))
          rw [if_neg (by simp only [decide_eq_true_eq]; exact fun q => g ⟨g1, q⟩)]
          refine Ev.step (fun n => by rw [impl_AffineJacobi.j0]) ?_
          exact Ev.neg (by decide) (Ev.now _)
        · refine Ev.neg (by simp only [decide_eq_true_eq]; exact g1) (Ev.bind (hi _) ?_)
          rw [if_neg (by decide)]
          refine Ev.step (fun n => by rw [impl_AffineJacobi.j0]) ?_
          exact Ev.neg (by decide) (Ev.now _)
  · have hi : ∀ r, Ev (fun n => impl_jacobiCode.f n p a b r) 1 := fun r => by
      have := implJacCode_ev p a b r ha hb
      unfold jacC at this
      rwa [if_neg h] at this
    have sj := specJac_ev p a b ha hb
    refine ⟨(0, [], [], 1), ?_, ?_, Sm0, Sm0⟩
    · unfold spec_AffineJacobi.f
      exact Ev.bind sj (Ev.neg h (Ev.now _))
    · unfold impl_AffineJacobi.f
      refine Ev.bindE (a := p) rfl (Ev.bindE (isUnit_any p m) ?_)
      by_cases g : decide (1 ≤ m ∧ m ≤ wrap64 (p - 1)) = true
      · refine Ev.pos g (Ev.bindE (a := p) rfl (Ev.bindE (has_eq p c) (Ev.bind (hi _) ?_)))
        refine Ev.step (fun n => by rw [impl_AffineJacobi.j0]) ?_
        exact Ev.neg (by decide) (Ev.now _)
      · refine Ev.neg g (Ev.bind (hi _) ?_)
        refine Ev.step (fun n => by rw [impl_AffineJacobi.j0]) ?_
        exact Ev.neg (by decide) (Ev.now _)
end Go.Proofs.Ytgneldhhlfjjaaa.Pr
