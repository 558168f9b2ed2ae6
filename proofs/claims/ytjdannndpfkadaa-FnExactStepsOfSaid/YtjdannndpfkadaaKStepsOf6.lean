/- Texts of this session in one: what functions of the program compute, and plain facts of it, under the conditions that each theorem names. -/
import Derived.Test.YtjdannndpfkadaaKFimplStepsOf
import Derived.Test.YtjdannndpfkadaaKFspecStepsOf
import Derived.Test.YtjdannndpfkadaaKStepsOf4
import Derived.Test.YtjdannndpfkadaaKStepsOf5
import Derived.Test.YtjdannndpfkadaaKXSer
namespace Go.Proofs.Ytjdannndpfkadaa.Pr
/- The steps of moments: what is left behind one step, for the program and for the reference; no condition. -/
open Go.RowKit Go.Proofs.YtjdannndpfkadaaW.PrintWords Go.Proofs.YtjdannndpfkadaaW.PrintLast Go.Proofs.YtjdannndpfkadaaW.PrintMore
theorem mul_emod_r (a x p : Int) : a * (x % p) % p = a * x % p := by rw [Int.mul_emod, Int.emod_emod, ← Int.mul_emod]
/-- Series are linear in the numerator. -/
theorem serIn_mul (p a : Int) (g oa o1 : List Int) (k d : Nat) (ho : ∀ j, oa.getD j 0 = a * o1.getD j 0 % p) : ∀ (i : Nat) (sa s1 : Int), sa = a * s1 % p → serIn p g oa k d i sa = a * serIn p g o1 k d i s1 % p := by
  induction d with
  | zero => intro i sa s1 h; exact h
  | succ d ih =>
    intro i sa s1 h
    rw [serIn, serIn]
    refine ih (i + 1) _ _ ?_
    rw [h, ho (k - i), mul_emod_r, Int.sub_emod, Int.emod_emod, mul_emod_r, ← Int.sub_emod, Int.mul_sub]
    congr 2
    rw [← Int.mul_assoc, ← Int.mul_assoc, Int.mul_comm (g.getD i 0) a]
theorem getD_snocI (l : List Int) (x : Int) (j : Nat) : (l ++ [x]).getD j 0 = if j = l.length then x else l.getD j 0 := by
  simp only [List.getD_eq_getElem?_getD]
  by_cases h : j < l.length
  · rw [List.getElem?_append_left h, if_neg (by omega)]
  · rw [List.getElem?_append_right (by omega)]
    by_cases e : j = l.length
    · subst e; simp
    · rw [if_neg e, List.getElem?_eq_none (l := l) (by omega), List.getElem?_eq_none (by simp; omega)]
theorem serL_mul {p a : Int} (ha : 0 ≤ a ∧ a < p) (g : List Int) (v : Int) (k : Nat) : ∀ j, (serL p [a] g v k).getD j 0 = a * (serL p [1] g v k).getD j 0 % p := by
  induction k with
  | zero => intro j; simp [serL]
  | succ k ih =>
    intro j
    rw [serL, serL, getD_snocI, getD_snocI, serL_len, serL_len]
    have h0 : [a].getD k 0 = a * [(1 : Int)].getD k 0 % p := by
      cases k with
      | zero => simp only [List.getD_cons_zero, Int.mul_one]; exact (Int.emod_eq_of_lt ha.1 ha.2).symm
      | succ k => simp
    by_cases e : j = k
    · rw [if_pos e, if_pos e, serIn_mul p a g _ _ k _ ih 1 _ _ h0]
      rw [mul_emod_r, mul_mod_one, Int.mul_assoc]
    · rw [if_neg e, if_neg e]; exact ih j

def nextS (p : Int) (s : List Int) : List Int := ((serL p [s.getD 0 0] s (invF p (s.getD 0 0)) s.length).drop 1).map fun x => -x % p
theorem nextS_len (p : Int) (s : List Int) : (nextS p s).length = s.length - 1 := by simp [nextS, serL_len]
theorem nextS_nm {p : Int} (hp : 0 < p) (s : List Int) : Nm p (nextS p s) := fun x hx => by
  obtain ⟨y, _, rfl⟩ := List.mem_map.1 hx
  exact emodB hp _
theorem nextS_spec {p : Int} {s : List Int} (hs : 0 ≤ s.getD 0 0 ∧ s.getD 0 0 < p) : nextS p s = ((serL p [1] s (invF p (s.getD 0 0)) s.length).drop 1).map fun x => (-(s.getD 0 0) * x) % p := by
  apply List.ext_getElem
  · simp [nextS, serL_len]
  · intro i h1 h2
    have hi : i + 1 < s.length := by rw [nextS_len] at h1; omega
    simp only [nextS, List.getElem_map, List.getElem_drop]
    have h := serL_mul hs s (invF p (s.getD 0 0)) s.length (1 + i)
    rw [List.getD_eq_getElem?_getD, List.getElem?_eq_getElem (by rw [serL_len]; omega), List.getD_eq_getElem?_getD (l := serL p [1] s _ _), List.getElem?_eq_getElem (by rw [serL_len]; omega)] at h
    simp only [Option.getD_some] at h
    rw [h, Int.neg_mul]
    have e := sub_mod_right 0 (s.getD 0 0 * (serL p [1] s (invF p (s.getD 0 0)) s.length)[1 + i]'(by rw [serL_len]; omega)) p
    rw [Int.zero_sub, Int.zero_sub] at e
    exact e
/-- The steps: from a series on, of a length of at most d. -/
def stepsGo (p : Int) : Nat → List Int → List Int → List Int × Int
  | 0, _, o => (o, 0)
  | d + 1, s, o => if ∀ x ∈ s, x = 0 then (o, 0) else if s.getD 0 0 = 0 then ([], 5) else stepsGo p d (nextS p s) (o ++ [s.getD 0 0])
theorem stepsGo_len (p : Int) (d : Nat) : ∀ s o, (stepsGo p d s o).1.length ≤ o.length + d := by
  induction d with
  | zero => intro s o; exact Nat.le_refl _
  | succ d ih =>
    intro s o
    rw [stepsGo]
    split
    · dsimp only; omega
    · split
      · simp
      · have := ih (nextS p s) (o ++ [s.getD 0 0])
        rw [List.length_append, List.length_singleton] at this
        omega

theorem allO_zero (l : List Int) : allO (fun z_ => impl_isZero_1.f z_) l = some (decide (∀ x ∈ l, x = 0)) := by
  induction l with
  | nil => simp [allO]
  | cons x l ih =>
    simp only [allO, impl_isZero_1.f, Option.bind_some]
    by_cases h : x = 0
    · rw [if_pos (by simpa using h)]
      refine ih.trans ?_
      congr 1
      apply decide_eq_decide.2
      simp [h]
    · rw [if_neg (by simpa using h)]
      congr 1
      exact (decide_eq_false (fun g => h (g x (List.mem_cons_self ..)))).symm
theorem isZero_eq (l : List Int) (hl : l.length < 4611686018427387904) : impl_isZero.f l = some (decide (∀ x ∈ l, x = 0)) := by
  unfold impl_isZero.f impl_areAll_int64.f
  rw [if_pos hl, allO_zero, Option.bind_some]
theorem rest_l0 (l : List Int) (hl : l.length ≤ 1000) (d : Nat) : ∀ i, i + d = l.length → Ev (fun k => spec_l05Rest.l0 k l (i : Int)) (decide (∀ x ∈ l.drop i, x = 0)) := by
  induction d with
  | zero =>
    intro i hi
    refine Ev.step (fun k => by rw [spec_l05Rest.l0]) ?_
    refine Ev.neg (by omega) (Ev.some' ?_)
    rw [List.drop_eq_nil_of_le (by omega)]
    simp
  | succ d ih =>
    intro i hi
    refine Ev.step (fun k => by rw [spec_l05Rest.l0]) ?_
    refine Ev.pos (by omega) (Ev.pos (by omega) ?_)
    rw [rd_nat, wsucc (i := i) (n := 1001) (by omega) (by omega)]
    have e : l.drop i = l.getD i 0 :: l.drop (i + 1) := drop_cons l 0 i (by omega)
    by_cases h : l.getD i 0 = 0
    · refine Ev.pos h (Ev.cast (ih (i + 1) (by omega)) ?_)
      apply decide_eq_decide.2
      rw [e]
      exact ⟨fun g x hx => (List.mem_cons.1 hx).elim (fun e1 => e1.trans h) (fun h1 => g x h1), fun g x hx => g x (List.mem_cons_of_mem _ hx)⟩
    · refine Ev.neg h (Ev.some' (decide_eq_false ?_).symm)
      rw [e]
      exact fun g => h (g _ (List.mem_cons_self ..))
theorem rest_ev (l : List Int) (hl : l.length ≤ 1000) : Ev (fun k => spec_l05Rest.f k l) (decide (∀ x ∈ l, x = 0)) := by
  unfold spec_l05Rest.f
  exact rest_l0 l hl l.length 0 (by omega)

theorem implSteps_l1 {p : Int} (hp : Pm p) (o : List Int) (r : List Int × Int) (l : List Int) : ∀ (D : List Int), D.length + l.length ≤ 1000 → Nm p l →
    Ev (fun k => impl_StepsOf.l0 k p (D ++ l.map fun x => -x % p) o) r → Ev (fun k => impl_StepsOf.l1 k p o (D ++ l) ((D.length + l.length : Nat) : Int) (D.length : Int)) r := by
  induction l with
  | nil =>
    intro D _ _ e
    refine Ev.step (fun k => by rw [impl_StepsOf.l1]) ?_
    exact Ev.neg (by simp) e
  | cons x l ih =>
    intro D hD hn e
    have hx := hn x (List.mem_cons_self ..)
    have ht := hp.top
    simp only [List.length_cons] at hD
    refine Ev.step (fun k => by rw [impl_StepsOf.l1]) ?_
    refine Ev.pos (by simp only [List.length_cons]; omega) (Ev.pos (by omega) (Ev.pos (by simp; omega) ?_))
    have er : (D ++ x :: l).getD D.length 0 = x := by simp [List.getD]
    rw [rd_nat, er, wrap_id (x := -x) (by omega) (by omega)]
    refine Ev.bindE (mod_eq hp _) ?_
    have es : (D ++ x :: l).set ((D.length : Int)).toNat (-x % p) = (D ++ [-x % p]) ++ l := by rw [toNat_nat]; simp
    rw [es, wsucc (i := D.length) (n := 1001) (by omega) (by omega)]
    have h := ih (D ++ [-x % p]) (by simp; omega) (fun y hy => hn y (List.mem_cons_of_mem _ hy)) (by rw [List.append_assoc]; exact e)
    rw [List.length_append, List.length_singleton] at h
    rw [show ((D.length + (x :: l).length : Nat) : Int) = ((D.length + 1 + l.length : Nat) : Int) by simp only [List.length_cons]; omega]
    exact h
theorem implSteps_l0 {p : Int} (hp : Pm p) (d : Nat) : ∀ s o : List Int, s.length ≤ d → s.length < 1000 → o.length + d ≤ 2000 → Nm p s → Ev (fun k => impl_StepsOf.l0 k p s o) (stepsGo p d s o) := by
  induction d with
  | zero =>
    intro s o h1 h2 h3 hn
    obtain rfl : s = [] := List.eq_nil_of_length_eq_zero (by omega)
    refine Ev.step (fun k => by rw [impl_StepsOf.l0]) ?_
    refine Ev.bindE (isZero_eq _ (by simp)) (Ev.pos (by simp) (Ev.now _))
  | succ d ih =>
    intro s o h1 h2 h3 hn
    refine Ev.step (fun k => by rw [impl_StepsOf.l0]) ?_
    refine Ev.bindE (isZero_eq s (by omega)) ?_
    rw [stepsGo]
    by_cases hz : ∀ x ∈ s, x = 0
    · rw [if_pos hz]
      exact Ev.pos (decide_eq_true hz) (Ev.now _)
    · rw [if_neg hz]
      have hs : 0 < s.length := by
        rcases Nat.eq_zero_or_pos s.length with h | h
        · exact absurd (fun x hx => by rw [List.eq_nil_of_length_eq_zero h] at hx; cases hx) hz
        · exact h
      have e0 : rd s 0 = s.getD 0 0 := rd_nat s 0
      refine Ev.neg (by simpa using hz) (Ev.pos (by omega) ?_)
      rw [e0]
      by_cases h0 : s.getD 0 0 = 0
      · rw [if_pos h0]
        exact Ev.pos h0 (Ev.now _)
      · rw [if_neg h0]
        have hr := hn.get (i := 0) hs
        have hser := implSer_ev hp [s.getD 0 0] s (Nm.cons hr.1 hr.2 (Nm.nil p)) hn s.length (by omega) (by omega) hs
        refine Ev.neg h0 (Ev.pos (by omega) (Ev.bindE (a := (s.length : Int)) rfl (Ev.bind hser ?_)))
        rw [serL_len]
        refine Ev.pos (by omega) (Ev.bindE rfl ?_)
        rw [show ((1 : Int)).toNat = 1 from rfl]
        have hl1 := implSteps_l1 hp (o ++ [s.getD 0 0]) (stepsGo p d (nextS p s) (o ++ [s.getD 0 0])) ((serL p [s.getD 0 0] s (invF p (s.getD 0 0)) s.length).drop 1) [] (by simp [serL_len]; omega) ((serL_nm hp.pos _ _ _ _).drop 1) (ih (nextS p s) _ (by rw [nextS_len]; omega) (by rw [nextS_len]; omega) (by simp; omega) (nextS_nm hp.pos s))
        simpa using hl1
theorem specSteps_l1 {p : Int} (hp : Pm p) (o : List Int) (a : Int) (ha : 0 ≤ a ∧ a < p) (r : List Int × Int) (L : List Int) (hL : L.length ≤ 1000) (hn : Nm p L) (d : Nat) : ∀ i : Nat, 1 ≤ i → (i + d = L.length ∨ L.length < i ∧ d = 0) → 
    Ev (fun k => spec_StepsOf.l0 k ((L.drop 1).map fun x => (-a * x) % p) o p) r → Ev (fun k => spec_StepsOf.l1 k o p a L (((L.take i).drop 1).map fun x => (-a * x) % p) (i : Int)) r := by
  induction d with
  | zero =>
    intro i h1 h2 e
    refine Ev.step (fun k => by rw [spec_StepsOf.l1]) ?_
    rw [List.take_of_length_le (by omega)]
    exact Ev.neg (by omega) e
  | succ d ih =>
    intro i h1 h2 e
    have hx := hn.get (i := i) (by omega)
    have ht := hp.top
    have hm := mulP hp ha.1 ha.2 hx.1 hx.2
    refine Ev.step (fun k => by rw [spec_StepsOf.l1]) ?_
    rw [rd_nat, wrap_id (x := -a) (by omega) (by omega)]
    rw [show -a * L.getD i 0 = -(a * L.getD i 0) from Int.neg_mul ..]
    rw [wrap_id (x := -(a * L.getD i 0)) (by omega) (by omega)]
    refine Ev.pos (by omega) (Ev.pos (by omega) (Ev.bindE (smod_eq hp _) (Ev.pos (by simp; omega) ?_)))
    rw [wsucc (i := i) (n := 1001) (by omega) (by omega)]
    have et : ((L.take i).drop 1).map (fun x => (-a * x) % p) ++ [-(a * L.getD i 0) % p] = ((L.take (i + 1)).drop 1).map fun x => (-a * x) % p := by
      rw [List.take_succ_eq_append_getElem (by omega), List.drop_append_of_le_length (by simp; omega), List.map_append]
      congr 1
      simp only [List.map_cons, List.map_nil, Int.neg_mul]
      rw [List.getD_eq_getElem?_getD, List.getElem?_eq_getElem (by omega)]
      rfl
    rw [et]
    exact ih (i + 1) (by omega) (by omega) e
theorem specSteps_l0 {p : Int} (hp : Pm p) (d : Nat) : ∀ s o : List Int, s.length ≤ d → s.length < 1000 → o.length + d ≤ 2000 → Nm p s → Ev (fun k => spec_StepsOf.l0 k s o p) (stepsGo p d s o) := by
  induction d with
  | zero =>
    intro s o h1 h2 h3 hn
    obtain rfl : s = [] := List.eq_nil_of_length_eq_zero (by omega)
    refine Ev.step (fun k => by rw [spec_StepsOf.l0]) ?_
    exact Ev.bind (rest_ev _ (by simp)) (Ev.pos (by simp) (Ev.now _))
  | succ d ih =>
    intro s o h1 h2 h3 hn
    refine Ev.step (fun k => by rw [spec_StepsOf.l0]) ?_
    refine Ev.bind (rest_ev s (by omega)) ?_
    rw [stepsGo]
    by_cases hz : ∀ x ∈ s, x = 0
    · rw [if_pos hz]
      exact Ev.pos (decide_eq_true hz) (Ev.now _)
    · rw [if_neg hz]
      have hs : 0 < s.length := by
        rcases Nat.eq_zero_or_pos s.length with h | h
        · exact absurd (fun x hx => by rw [List.eq_nil_of_length_eq_zero h] at hx; cases hx) hz
        · exact h
      have e0 : rd s 0 = s.getD 0 0 := rd_nat s 0
      refine Ev.neg (by simpa using hz) (Ev.pos (by omega) ?_)
      rw [e0]
      by_cases h0 : s.getD 0 0 = 0
      · rw [if_pos h0]
        exact Ev.pos h0 (Ev.now _)
      · rw [if_neg h0]
        have hr := hn.get (i := 0) hs
        have h2p := hp.two
        have hser := specSer_ev hp [1] s (Nm.cons (by omega) (by omega) (Nm.nil p)) hn s.length (by omega) (by omega) hs
        refine Ev.neg h0 (Ev.pos (by omega) (Ev.bind hser ?_))
        have hlen : (serL p [1] s (invF p (s.getD 0 0)) s.length).length = s.length := serL_len ..
        have hl1 := specSteps_l1 hp (o ++ [s.getD 0 0]) (s.getD 0 0) hr (stepsGo p d (nextS p s) (o ++ [s.getD 0 0])) (serL p [1] s (invF p (s.getD 0 0)) s.length) (by omega) (serL_nm hp.pos _ _ _ _) (s.length - 1) 1 (by omega) (.inl (by omega)) (by
          rw [← nextS_spec hr]
          exact ih _ _ (by rw [nextS_len]; omega) (by rw [nextS_len]; omega) (by simp; omega) (nextS_nm hp.pos s))
        have en : ((serL p [1] s (invF p (s.getD 0 0)) s.length).take 1).drop 1 = [] := List.drop_eq_nil_of_le (by rw [List.length_take]; omega)
        rw [en] at hl1
        exact hl1
/- StepsOf: for all arguments the program and the reference come to one value; no condition. -/
theorem StepsOf_both (p : Int) (l : List Int) (hl : Sm l.length) : ∃ v : List Int × Int, Ev (fun k => spec_StepsOf.f k p l) v ∧ Ev (fun k => impl_StepsOf.f k p l) v ∧ Sm v.1.length := by
  have hc := momentsCode_ev p l hl true [] (by simp [Sm]) (fun l h => by cases h)
  by_cases h : momB p l = true
  · rw [h] at hc
    have hn := (momB.len h).2
    refine ⟨stepsGo p l.length l [], ?_, ?_, ?_⟩
    · unfold spec_StepsOf.f
      exact Ev.bind (specAre_ev p l hl) (Ev.pos h (Ev.bindE (own_eq l hl) (specSteps_l0 (momB.pm h) l.length l [] (Nat.le_refl _) (by omega) (by simp; omega) (momB.nm h))))
    · unfold impl_StepsOf.f
      exact Ev.bind hc (Ev.pos rfl (Ev.bindE (a := p) rfl (implSteps_l0 (momB.pm h) l.length l [] (Nat.le_refl _) (by omega) (by simp; omega) (momB.nm h))))
    · have := stepsGo_len p l.length l []
      simp only [List.length_nil] at this
      unfold Sm; omega
  · rw [Bool.eq_false_iff.2 h] at hc
    refine ⟨([], 1), ?_, ?_, Sm0⟩
    · unfold spec_StepsOf.f
      exact Ev.bind (specAre_ev p l hl) (Ev.neg h (Ev.now _))
    · unfold impl_StepsOf.f
      exact Ev.bind hc (Ev.neg (by simp) (Ev.now _))
end Go.Proofs.Ytjdannndpfkadaa.Pr
