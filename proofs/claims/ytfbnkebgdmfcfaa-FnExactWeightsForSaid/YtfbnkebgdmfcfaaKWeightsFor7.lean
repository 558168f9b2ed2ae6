/- Texts of this session in one: what functions of the program compute, and plain facts of it, under the conditions that each theorem names. -/
import Derived.Test.YtfbnkebgdmfcfaaKWeightsFor1
import Derived.Test.YtfbnkebgdmfcfaaKWeightsFor2
import Derived.Test.YtfbnkebgdmfcfaaKWeightsFor3
import Derived.Test.YtfbnkebgdmfcfaaKWeightsFor4
import Derived.Test.YtfbnkebgdmfcfaaKWeightsFor5
import Derived.Test.YtfbnkebgdmfcfaaKWeightsFor6
namespace Go.Proofs.Ytfbnkebgdmfcfaa.Pr
/- What the laws' own helpers compute: copies, comparisons, marks. -/
open Go.RowKit Go.Proofs.YtfbnkebgdmfcfaaW.PrintWords Go.Proofs.YtfbnkebgdmfcfaaW.PrintLast Go.Proofs.YtfbnkebgdmfcfaaW.PrintMore
theorem set_take_step (l : List Int) (i : Nat) (h : i < l.length) : (l.take i ++ List.replicate (l.length - i) 0).set i (l.getD i 0) = l.take (i + 1) ++ List.replicate (l.length - (i + 1)) 0 := by
  obtain ⟨m, hm⟩ : ∃ m, l.length - i = m + 1 := ⟨l.length - i - 1, by omega⟩
  rw [List.set_append_right (h := by simp; omega)]
  rw [hm, List.replicate_succ]
  have e : i - (l.take i).length = 0 := by simp; omega
  rw [e, List.set_cons_zero, List.take_succ_eq_append_getElem h]
  have e2 : l.length - (i + 1) = m := by omega
  rw [e2, List.append_assoc]
  simp [List.getD, h]

theorem toInt64S_l0 (l : List Int) (hl : Sm l.length) (d : Nat) : ∀ i, i + d = l.length → Ev (fun k => laws_toInt64S.l0 k l (l.take i ++ List.replicate (l.length - i) 0) (i : Int)) l := by
  induction d with
  | zero =>
    intro i hi
    refine Ev.step (fun k => by rw [laws_toInt64S.l0]) ?_
    refine Ev.neg (by omega) (Ev.some' ?_)
    have e : l.length - i = 0 := by omega
    rw [e, List.take_of_length_le (by omega)]; simp
  | succ d ih =>
    intro i hi
    have hlen : (l.take i ++ List.replicate (l.length - i) (0 : Int)).length = l.length := by simp; omega
    refine Ev.step (fun k => by rw [laws_toInt64S.l0]) ?_
    refine Ev.pos (by omega) (Ev.pos (by omega) (Ev.pos (by rw [hlen]; omega) ?_))
    rw [toNat_nat, rd_nat, set_take_step l i (by omega), wsucc (i := i) (n := l.length) (by omega) (by unfold Sm at hl; omega)]
    exact ih (i + 1) (by omega)
theorem toInt64S_ev (l : List Int) (hl : Sm l.length) : Ev (fun k => laws_toInt64S.f k l) l := by
  unfold laws_toInt64S.f
  refine Ev.pos (by omega) (Ev.pos (by unfold Sm at hl; rw [toNat_nat]; omega) ?_)
  have h := toInt64S_l0 l hl l.length 0 (by omega)
  simpa using h

theorem eqInt64S_l0 (l : List Int) (hl : Sm l.length) (d : Nat) : ∀ i, i + d = l.length → Ev (fun k => laws_eqInt64S.l0 k l l (i : Int)) true := by
  induction d with
  | zero =>
    intro i hi
    refine Ev.step (fun k => by rw [laws_eqInt64S.l0]) ?_
    exact Ev.neg (by omega) (Ev.now _)
  | succ d ih =>
    intro i hi
    refine Ev.step (fun k => by rw [laws_eqInt64S.l0]) ?_
    refine Ev.pos (by omega) (Ev.pos (by omega) (Ev.pos (by omega) (Ev.pos rfl ?_)))
    rw [wsucc (i := i) (n := l.length) (by omega) (by unfold Sm at hl; omega)]
    exact ih (i + 1) (by omega)
theorem eqInt64S_ev (l : List Int) (hl : Sm l.length) : Ev (fun k => laws_eqInt64S.f k l l) true := by
  unfold laws_eqInt64S.f
  exact Ev.pos rfl (eqInt64S_l0 l hl l.length 0 (by omega))

/-- The marks m, m + 1, .. -/
def marks (m n : Nat) : List Int := (List.range n).map fun i => ((m + i : Nat) : Int)
theorem marks_length (m n : Nat) : (marks m n).length = n := by simp [marks]
theorem marks_get (m n i : Nat) (h : i < n) : (marks m n).getD i 0 = ((m + i : Nat) : Int) := by
  simp [marks, List.getD, h]

theorem markInt64S_l0 (l : List Int) (m : Nat) (hl : Sm l.length) (hm : m ≤ 4611686018427387904 - 4194304) (d : Nat) : ∀ i, i + d = l.length →
    Ev (fun k => laws_markInt64S.l0 k (marks m i ++ l.drop i) ((m + i : Nat) : Int) (i : Int)) (((m + l.length : Nat) : Int), marks m l.length) := by
  induction d with
  | zero =>
    intro i hi
    have hlen : (marks m i ++ l.drop i).length = l.length := by simp [marks_length]; omega
    refine Ev.step (fun k => by rw [laws_markInt64S.l0]) ?_
    refine Ev.neg (by rw [hlen]; omega) (Ev.some' ?_)
    have e : i = l.length := by omega
    subst e
    simp
  | succ d ih =>
    intro i hi
    have hlen : (marks m i ++ l.drop i).length = l.length := by simp [marks_length]; omega
    refine Ev.step (fun k => by rw [laws_markInt64S.l0]) ?_
    refine Ev.pos (by rw [hlen]; omega) (Ev.pos (by omega) ?_)
    have e : (marks m i ++ l.drop i).set ((i : Int)).toNat ((m + i : Nat) : Int) = marks m (i + 1) ++ l.drop (i + 1) := by
      rw [toNat_nat, List.set_append_right (h := by simp [marks_length])]
      rw [marks_length, Nat.sub_self, List.drop_eq_getElem_cons (by omega), List.set_cons_zero]
      unfold marks
      rw [List.range_succ, List.map_append, List.append_assoc]
      rfl
    rw [e, wsucc (i := i) (n := l.length) (by omega) (by unfold Sm at hl; omega), wsucc (i := m + i) (n := m + i + 1) (by omega) (by unfold Sm at hl; omega)]
    exact ih (i + 1) (by omega)
theorem markInt64S_ev (l : List Int) (m : Nat) (hl : Sm l.length) (hm : m ≤ 4611686018427387904 - 4194304) :
    Ev (fun k => laws_markInt64S.f k l (m : Int)) (((m + l.length : Nat) : Int), marks m l.length) := by
  unfold laws_markInt64S.f
  have h := markInt64S_l0 l m hl hm l.length 0 (by omega)
  simpa [marks] using h

theorem heldInt64S_l0 (n m : Nat) (hl : Sm n) (hm : m ≤ 4611686018427387904 - 4194304) (d : Nat) : ∀ i, i + d = n →
    Ev (fun k => laws_heldInt64S.l0 k (marks m n) ((m + i : Nat) : Int) (i : Int)) ((m + n : Nat) : Int) := by
  induction d with
  | zero =>
    intro i hi
    refine Ev.step (fun k => by rw [laws_heldInt64S.l0]) ?_
    refine Ev.neg (by rw [marks_length]; omega) (Ev.some' ?_)
    have e : i = n := by omega
    rw [e]
  | succ d ih =>
    intro i hi
    refine Ev.step (fun k => by rw [laws_heldInt64S.l0]) ?_
    refine Ev.pos (by rw [marks_length]; omega) (Ev.pos (by omega) (Ev.pos (by rw [rd_nat, marks_get m n i (by omega)]) ?_))
    rw [wsucc (i := i) (n := n) (by omega) (by unfold Sm at hl; omega), wsucc (i := m + i) (n := m + i + 1) (by omega) (by unfold Sm at hl; omega)]
    exact ih (i + 1) (by omega)
theorem heldInt64S_ev (n m : Nat) (hl : Sm n) (hm : m ≤ 4611686018427387904 - 4194304) : Ev (fun k => laws_heldInt64S.f k (marks m n) (m : Int)) ((m + n : Nat) : Int) := by
  unfold laws_heldInt64S.f
  exact heldInt64S_l0 n m hl hm n 0 (by omega)

theorem szInt64S_yes (l : List Int) (a : Nat) (ha : a ≤ 1048576) (h : l.length ≤ a) : laws_szInt64S.f l (a : Int) = some ((a - l.length : Nat) : Int) := by
  unfold laws_szInt64S.f
  rw [wrap_id (by omega) (by omega), if_neg (by omega)]
  congr 1
  omega
theorem szInt64S_no (l : List Int) (a : Nat) (hl : l.length ≤ 9223372036854775807) (ha : a ≤ 1048576) (h : a < l.length) : laws_szInt64S.f l (a : Int) = some (-1) := by
  unfold laws_szInt64S.f
  rw [wrap_id (by omega) (by omega), if_pos (by omega)]
/- The laws' helpers at Moments: copies, comparisons, marks. -/
theorem toMoments_ev (p : Int) (l0 : List Int) (h0 : Sm l0.length) : Ev (fun k => laws_toMoments.f k p l0) (p, l0) := by
  unfold laws_toMoments.f
  exact Ev.bind (toInt64S_ev _ h0) (Ev.now _)
theorem eqMoments_ev (p : Int) (l0 : List Int) (h0 : Sm l0.length) : Ev (fun k => laws_eqMoments.f k p l0 p l0) true := by
  unfold laws_eqMoments.f
  exact Ev.pos rfl (Ev.bind (eqInt64S_ev _ h0) (Ev.pos rfl (Ev.now _)))
theorem markMoments_ev (p : Int) (l0 : List Int) (h0 : Sm l0.length) (m : Nat) (hm : m ≤ 4194304) : Ev (fun k => laws_markMoments.f k p l0 (m : Int)) (((m + l0.length : Nat) : Int), marks (m) l0.length) := by
  unfold laws_markMoments.f
  unfold Sm at h0
  exact Ev.bind (markInt64S_ev _ _ h0 (by omega)) (Ev.now _)
theorem szMoments_yes (p : Int) (l0 : List Int) (a : Nat) (ha : a ≤ 1048576) (h : l0.length ≤ a) : laws_szMoments.f p l0 (a : Int) = some ((a - (l0.length) : Nat) : Int) := by
  unfold laws_szMoments.f
  rw [szInt64S_yes l0 (a) (by omega) (by omega), Option.bind_some, if_neg (by omega)]
theorem szMoments_no (p : Int) (l0 : List Int) (g0 : l0.length ≤ 9223372036854775807) (a : Nat) (ha : a ≤ 1048576) (h : a < l0.length) : laws_szMoments.f p l0 (a : Int) = some (-1) := by
  unfold laws_szMoments.f
  rw [szInt64S_no l0 (a) g0 (by omega) (by omega), Option.bind_some, if_pos (by omega)]
/- The laws' helpers at Rule: copies, comparisons, marks. -/
theorem eqRule_ev (p : Int) (l0 l1 : List Int) (h0 : Sm l0.length) (h1 : Sm l1.length) : Ev (fun k => laws_eqRule.f k p l0 l1 p l0 l1) true := by
  unfold laws_eqRule.f
  exact Ev.pos rfl (Ev.bind (eqInt64S_ev _ h0) (Ev.pos rfl (Ev.bind (eqInt64S_ev _ h1) (Ev.pos rfl (Ev.now _)))))
theorem markRule_ev (p : Int) (l0 l1 : List Int) (h0 : Sm l0.length) (h1 : Sm l1.length) (m : Nat) (hm : m ≤ 4194304) : Ev (fun k => laws_markRule.f k p l0 l1 (m : Int)) (((m + l0.length + l1.length : Nat) : Int), marks (m) l0.length, marks (m + l0.length) l1.length) := by
  unfold laws_markRule.f
  unfold Sm at h0 h1
  exact Ev.bind (markInt64S_ev _ _ h0 (by omega)) (Ev.bind (markInt64S_ev _ _ h1 (by omega)) (Ev.now _))
theorem heldRule_ev (p : Int) (n0 n1 : Nat) (h0 : Sm n0) (h1 : Sm n1) (m : Nat) (hm : m ≤ 4194304) : Ev (fun k => laws_heldRule.f k p (marks (m) n0) (marks (m + n0) n1) (m : Int)) ((m + n0 + n1 : Nat) : Int) := by
  unfold laws_heldRule.f
  unfold Sm at h0 h1
  exact Ev.bind (heldInt64S_ev _ _ h0 (by omega)) (Ev.neg (by omega) (Ev.bind (heldInt64S_ev _ _ h1 (by omega)) (Ev.neg (by omega) (Ev.now _))))
/- Primes and numbers modulo p: what the program and the reference compute of them. -/
theorem in_eq (a b c : Int) : spec_l01In.f a b c = some (decide (b ≤ a ∧ a ≤ c)) := by
  unfold spec_l01In.f
  by_cases h : b ≤ a
  · rw [if_pos h]; simp [h]
  · rw [if_neg h]; simp [h]
theorem within_eq (a b c : Int) : impl_within.f a b c = some (decide (b ≤ a ∧ a ≤ c)) := by
  unfold impl_within.f
  by_cases h : b ≤ a
  · rw [if_pos h]; simp [h]
  · rw [if_neg h]; simp [h]
theorem has_eq (p x : Int) : impl_field_has.f p x = some (decide (0 ≤ x ∧ x < p)) := by
  unfold impl_field_has.f
  by_cases h : 0 ≤ x
  · rw [if_pos h]; simp [h]
  · rw [if_neg h]; simp [h]
theorem mod_eq {p : Int} (hp : Pm p) (x : Int) : impl_field_mod.f p x = some (x % p) := by
  unfold impl_field_mod.f
  rw [if_neg hp.ne, go_mod hp]

/-! ### primes -/
def noDiv (p : Int) (i : Nat) : Prop := ∀ j, j < 101 → i ≤ j → (j : Int) * (j : Int) ≤ p → p % (j : Int) ≠ 0
instance (p : Int) (i : Nat) : Decidable (noDiv p i) := by unfold noDiv; infer_instance
def primeB (p : Int) : Bool := decide (2 ≤ p ∧ p ≤ 10007) && decide (noDiv p 2)
theorem primeB.pm {p : Int} (h : primeB p = true) : Pm p := by
  simp only [primeB, Bool.and_eq_true, decide_eq_true_eq] at h
  exact ⟨h.1.1, h.1.2⟩
theorem noDiv_succ {p : Int} {i : Nat} (h : p % (i : Int) ≠ 0) : decide (noDiv p i) = decide (noDiv p (i + 1)) := by
  apply decide_eq_decide.2
  constructor
  · exact fun g j h1 h2 h3 => g j h1 (by omega) h3
  · intro g j h1 h2 h3
    by_cases e : j = i
    · subst e; exact h
    · exact g j h1 (by omega) h3
theorem noDiv_big {p : Int} {i : Nat} (h : p < (i : Int) * (i : Int)) : noDiv p i := by
  intro j h1 h2 h3
  have := mulB (a := (i : Int)) (b := (i : Int)) (m := (j : Int)) (n := (j : Int)) (by omega) (by omega) (by omega) (by omega)
  omega
theorem sqB {i : Nat} (h : i ≤ 101) : 0 ≤ (i : Int) * (i : Int) ∧ (i : Int) * (i : Int) ≤ 10201 := by
  have := mulB (a := (i : Int)) (b := (i : Int)) (m := 101) (n := 101) (by omega) (by omega) (by omega) (by omega)
  omega
theorem specPrime_l0 {p : Int} (h2 : 2 ≤ p) (ht : p ≤ 10007) (d : Nat) : ∀ i, 2 ≤ i → i + d = 101 → Ev (fun k => spec_l01Prime.l0 k p (i : Int)) (decide (noDiv p i)) := by
  induction d with
  | zero =>
    intro i hi hd
    obtain rfl : i = 101 := by omega
    refine Ev.step (fun k => by rw [spec_l01Prime.l0]) ?_
    refine Ev.neg (by rw [wrap_id (by omega) (by omega)]; omega) (Ev.some' ?_)
    exact (decide_eq_true (noDiv_big (by omega))).symm
  | succ d ih =>
    intro i hi hd
    have hb := sqB (i := i) (by omega)
    refine Ev.step (fun k => by rw [spec_l01Prime.l0]) ?_
    rw [wrap_id (x := (i : Int) * (i : Int)) (by omega) (by omega), tmod_pos (by omega)]
    by_cases h : (i : Int) * (i : Int) ≤ p
    · refine Ev.pos h (Ev.neg (by omega) ?_)
      by_cases h3 : p % (i : Int) = 0
      · exact Ev.pos h3 (Ev.some' (decide_eq_false (fun g => g i (by omega) (by omega) h h3)).symm)
      · refine Ev.neg h3 ?_
        rw [noDiv_succ h3, wsucc (i := i) (n := 101) (by omega) (by omega)]
        exact ih (i + 1) (by omega) (by omega)
    · exact Ev.neg h (Ev.some' (decide_eq_true (noDiv_big (by omega))).symm)
theorem implPrime_l0 {p : Int} (h2 : 2 ≤ p) (ht : p ≤ 10007) (d : Nat) : ∀ i, 2 ≤ i → i + d = 101 → Ev (fun k => impl_IsPrime.l0 k p (i : Int)) (decide (noDiv p i)) := by
  induction d with
  | zero =>
    intro i hi hd
    obtain rfl : i = 101 := by omega
    refine Ev.step (fun k => by rw [impl_IsPrime.l0]) ?_
    refine Ev.neg (by rw [wrap_id (by omega) (by omega)]; omega) (Ev.some' ?_)
    exact (decide_eq_true (noDiv_big (by omega))).symm
  | succ d ih =>
    intro i hi hd
    have hb := sqB (i := i) (by omega)
    refine Ev.step (fun k => by rw [impl_IsPrime.l0]) ?_
    rw [wrap_id (x := (i : Int) * (i : Int)) (by omega) (by omega), tmod_pos (by omega)]
    by_cases h : (i : Int) * (i : Int) ≤ p
    · refine Ev.pos h (Ev.neg (by omega) ?_)
      by_cases h3 : p % (i : Int) = 0
      · exact Ev.pos h3 (Ev.some' (decide_eq_false (fun g => g i (by omega) (by omega) h h3)).symm)
      · refine Ev.neg h3 ?_
        rw [noDiv_succ h3, wsucc (i := i) (n := 101) (by omega) (by omega)]
        exact ih (i + 1) (by omega) (by omega)
    · exact Ev.neg h (Ev.some' (decide_eq_true (noDiv_big (by omega))).symm)
theorem specPrime_ev (p : Int) : Ev (fun k => spec_l01Prime.f k p) (primeB p) := by
  unfold spec_l01Prime.f primeB
  refine Ev.bindE (in_eq _ _ _) ?_
  by_cases h : 2 ≤ p ∧ p ≤ 10007
  · refine Ev.pos (decide_eq_true h) ?_
    rw [decide_eq_true h, Bool.true_and]
    exact specPrime_l0 h.1 h.2 99 2 (by omega) (by omega)
  · refine Ev.neg (by simp [h]) (Ev.some' ?_)
    rw [decide_eq_false h, Bool.false_and]
theorem implPrime_ev (p : Int) : Ev (fun k => impl_IsPrime.f k p) (primeB p) := by
  unfold impl_IsPrime.f primeB
  refine Ev.bindE (within_eq _ _ _) ?_
  by_cases h : 2 ≤ p ∧ p ≤ 10007
  · refine Ev.pos (decide_eq_true h) ?_
    rw [decide_eq_true h, Bool.true_and]
    exact implPrime_l0 h.1 h.2 99 2 (by omega) (by omega)
  · refine Ev.neg (by simp [h]) (Ev.some' ?_)
    rw [decide_eq_false h, Bool.false_and]

/-! ### numbers modulo p -/
theorem Nm_cons (p x : Int) (l : List Int) : Nm p (x :: l) ↔ (0 ≤ x ∧ x < p) ∧ Nm p l := by
  constructor
  · exact fun h => ⟨h x (List.mem_cons_self ..), fun y hy => h y (List.mem_cons_of_mem _ hy)⟩
  · exact fun h => Nm.cons h.1.1 h.1.2 h.2
theorem allO_has (p : Int) (l : List Int) : allO (fun z_ => impl_field_has.f p z_) l = some (decide (Nm p l)) := by
  induction l with
  | nil => simp only [allO]; rw [decide_eq_true (Nm.nil p)]
  | cons x l ih =>
    simp only [has_eq] at ih
    simp only [allO, has_eq, Option.bind_some]
    by_cases h : 0 ≤ x ∧ x < p
    · rw [if_pos (decide_eq_true h), ih]
      congr 1
      apply decide_eq_decide.2
      rw [Nm_cons]
      exact ⟨fun g => ⟨h, g⟩, fun g => g.2⟩
    · rw [if_neg (by simp [h])]
      congr 1
      exact (decide_eq_false (fun g => h ((Nm_cons p x l).1 g).1)).symm
theorem areAll_has (p : Int) (l : List Int) (hl : l.length < 4611686018427387904) : impl_areAll_int64.f l (fun z_ => impl_field_has.f p z_) = some (decide (Nm p l)) := by
  unfold impl_areAll_int64.f
  rw [if_pos hl, allO_has]
theorem Nm_drop {p : Int} {l : List Int} {i : Nat} (h : i < l.length) : Nm p (l.drop i) ↔ (0 ≤ l.getD i 0 ∧ l.getD i 0 < p) ∧ Nm p (l.drop (i + 1)) := by
  rw [drop_cons l 0 i h, Nm_cons]
/-! ### sums -/
def sumTo (g : Nat → Int) : Nat → Int
  | 0 => 0
  | n + 1 => sumTo g n + g n
/- Polynomials and the program's code for them; no condition. -/
/-! ### polynomials -/
def lastOk (l : List Int) : Bool := decide (l.length = 0) || (l.getD (l.length - 1) 0 != 0)
def polyB (p : Int) (l : List Int) : Bool := decide (Nm p l) && (decide (l.length ≤ 25) && lastOk l)
theorem lastPart (l : List Int) (hl : Sm l.length) :
    (if (l.length : Int) = 0 then (some true) else (if 0 ≤ (wrap64 ((l.length : Int) - 1)) then (if (wrap64 ((l.length : Int) - 1)) < (l.length : Int) then (some ((rd l (wrap64 ((l.length : Int) - 1))) != 0)) else none) else none)) = some (lastOk l) := by
  unfold lastOk
  by_cases h : l.length = 0
  · rw [if_pos (by omega)]; simp [h]
  · rw [if_neg (by omega), wpred (by omega) (by unfold Sm at hl; omega), if_pos (by omega), if_pos (by omega), rd_nat]
    simp [h]
theorem implPoly_eq (p : Int) (l : List Int) (hl : Sm l.length) : impl_IsPoly.f p l = some (polyB p l) := by
  unfold impl_IsPoly.f polyB
  by_cases h : l.length ≤ 25
  · rw [if_pos (by omega), areAll_has p l (by omega), Option.bind_some]
    by_cases hn : Nm p l
    · rw [if_pos (decide_eq_true hn), lastPart l hl]; simp [h, hn]
    · rw [if_neg (by simp [hn])]; simp [hn]
  · rw [if_neg (by omega)]; simp [h]
theorem allO_poly (p : Int) (ls : List (List Int)) (hl : ∀ l ∈ ls, Sm l.length) : allO (fun z_ => impl_polyCode_1.f z_ p) ls = some (ls.all (polyB p)) := by
  induction ls with
  | nil => rfl
  | cons l ls ih =>
    have e : impl_polyCode_1.f l p = some (polyB p l) := by
      unfold impl_polyCode_1.f
      rw [implPoly_eq p l (hl l (List.mem_cons_self ..))]; rfl
    simp only [allO, e, Option.bind_some, List.all_cons]
    by_cases h : polyB p l = true
    · rw [if_pos h, ih (fun m hm => hl m (List.mem_cons_of_mem _ hm)), h, Bool.true_and]
    · rw [if_neg h, Bool.eq_false_iff.2 h, Bool.false_and]
theorem polyCode_ev (p : Int) (b : Bool) (ls : List (List Int)) (hs : Sm ls.length) (hl : ∀ l ∈ ls, Sm l.length) :
    Ev (fun k => impl_polyCode.f k p b ls) (if ls.all (polyB p) then (if primeB p && b then 0 else 2) else 1) := by
  unfold impl_polyCode.f
  have e : impl_areAll_rows.f ls (fun z_ => impl_polyCode_1.f z_ p) = some (ls.all (polyB p)) := by
    unfold impl_areAll_rows.f
    rw [if_pos (by unfold Sm at hs; omega), allO_poly p ls hl]
  refine Ev.bindE e ?_
  by_cases h : ls.all (polyB p) = true
  · refine Ev.pos h (Ev.bind (implPrime_ev p) ?_)
    rw [if_pos h]
    cases primeB p <;> cases b <;> exact ⟨0, fun _ _ => rfl⟩
  · refine Ev.neg h (Ev.some' ?_)
    rw [if_neg h]
/- Polynomials: the reference's test; no condition. -/
theorem specPoly_l0 (p : Int) (l : List Int) (hl : Sm l.length) (d : Nat) : ∀ i, i + d = l.length → Ev (fun k => spec_l01Poly.l0 k p l (i : Int)) (decide (Nm p (l.drop i)) && (decide (l.length ≤ 25) && lastOk l)) := by
  induction d with
  | zero =>
    intro i hi
    refine Ev.step (fun k => by rw [spec_l01Poly.l0]) ?_
    refine Ev.neg (by omega) ?_
    rw [List.drop_eq_nil_of_le (by omega), decide_eq_true (Nm.nil p), Bool.true_and]
    by_cases h : l.length ≤ 25
    · refine Ev.pos (by omega) (Ev.eq ?_)
      rw [lastPart l hl]; simp [h]
    · exact Ev.neg (by omega) (Ev.some' (by simp [h]))
  | succ d ih =>
    intro i hi
    refine Ev.step (fun k => by rw [spec_l01Poly.l0]) ?_
    refine Ev.pos (by omega) (Ev.pos (by omega) ?_)
    rw [rd_nat, wsucc (i := i) (n := l.length) (by omega) (by unfold Sm at hl; omega)]
    by_cases h : l.getD i 0 < 0
    · refine Ev.pos h (Ev.some' ?_)
      rw [decide_eq_false (fun g => by have := ((Nm_drop (by omega : i < l.length)).1 g).1.1; omega), Bool.false_and]
    · refine Ev.neg h ?_
      by_cases h' : p ≤ l.getD i 0
      · refine Ev.pos h' (Ev.some' ?_)
        rw [decide_eq_false (fun g => by have := ((Nm_drop (by omega : i < l.length)).1 g).1.2; omega), Bool.false_and]
      · refine Ev.neg h' (Ev.cast (ih (i + 1) (by omega)) ?_)
        congr 1
        apply decide_eq_decide.2
        rw [Nm_drop (by omega : i < l.length)]
        exact ⟨fun g => ⟨⟨by omega, by omega⟩, g⟩, fun g => g.2⟩
theorem specPoly_ev (p : Int) (l : List Int) (hl : Sm l.length) : Ev (fun k => spec_l01Poly.f k p l) (polyB p l) := by
  unfold spec_l01Poly.f polyB
  simpa using specPoly_l0 p l hl l.length 0 (by omega)
/- Moments: which lists are some, for the program and for the reference; no condition. -/
theorem numbers_l0 (p : Int) (hp : -9223372036854775807 ≤ p) (hp' : p ≤ 9223372036854775807) (l : List Int) (hl : Sm l.length) (d : Nat) : ∀ i, i + d = l.length → Ev (fun k => spec_l02Numbers.l0 k p l (i : Int)) (decide (Nm p (l.drop i))) := by
  induction d with
  | zero =>
    intro i hi
    refine Ev.step (fun k => by rw [spec_l02Numbers.l0]) ?_
    refine Ev.neg (by omega) (Ev.some' ?_)
    rw [List.drop_eq_nil_of_le (by omega)]
    exact (decide_eq_true (Nm.nil p)).symm
  | succ d ih =>
    intro i hi
    refine Ev.step (fun k => by rw [spec_l02Numbers.l0]) ?_
    refine Ev.pos (by omega) (Ev.pos (by omega) (Ev.bindE (in_eq _ _ _) ?_))
    rw [rd_nat, wrap_id (x := p - 1) (by omega) (by omega), wsucc (i := i) (n := l.length) (by omega) (by unfold Sm at hl; omega)]
    by_cases h : 0 ≤ l.getD i 0 ∧ l.getD i 0 ≤ p - 1
    · refine Ev.pos (decide_eq_true h) (Ev.cast (ih (i + 1) (by omega)) ?_)
      apply decide_eq_decide.2
      rw [Nm_drop (by omega : i < l.length)]
      exact ⟨fun g => ⟨⟨h.1, by omega⟩, g⟩, fun g => g.2⟩
    · refine Ev.neg (by simpa using h) (Ev.some' (decide_eq_false ?_).symm)
      rw [Nm_drop (by omega : i < l.length)]
      exact fun g => h ⟨g.1.1, by omega⟩
theorem numbers_ev {p : Int} (hp : Pm p) (l : List Int) (hl : Sm l.length) : Ev (fun k => spec_l02Numbers.f k p l) (decide (Nm p l)) := by
  unfold spec_l02Numbers.f
  have h2 := hp.two
  have ht := hp.top
  simpa using numbers_l0 p (by omega) (by omega) l hl l.length 0 (by omega)

/-! ### moments -/
def momB (p : Int) (l : List Int) : Bool := primeB p && (decide (1 ≤ l.length ∧ l.length ≤ 24) && decide (Nm p l))
theorem momB.pm {p : Int} {l : List Int} (h : momB p l = true) : Pm p := by
  simp only [momB, Bool.and_eq_true] at h; exact primeB.pm h.1
theorem momB.nm {p : Int} {l : List Int} (h : momB p l = true) : Nm p l := by
  simp only [momB, Bool.and_eq_true, decide_eq_true_eq] at h; exact h.2.2
theorem momB.len {p : Int} {l : List Int} (h : momB p l = true) : 1 ≤ l.length ∧ l.length ≤ 24 := by
  simp only [momB, Bool.and_eq_true, decide_eq_true_eq] at h; exact h.2.1
theorem momB.prime {p : Int} {l : List Int} (h : momB p l = true) : primeB p = true := by
  simp only [momB, Bool.and_eq_true] at h; exact h.1
theorem specAre_ev (p : Int) (l : List Int) (hl : Sm l.length) : Ev (fun k => spec_l02Are.f k p l) (momB p l) := by
  unfold spec_l02Are.f momB
  refine Ev.bind (specPrime_ev p) ?_
  by_cases hp : primeB p = true
  · rw [hp, Bool.true_and]
    refine Ev.pos rfl ?_
    by_cases h1 : 1 ≤ l.length
    · refine Ev.pos (by omega) ?_
      by_cases h2 : l.length ≤ 24
      · refine Ev.pos (by omega) (Ev.bind (numbers_ev (primeB.pm hp) l hl) (Ev.some' ?_))
        rw [decide_eq_true (⟨h1, h2⟩ : 1 ≤ l.length ∧ l.length ≤ 24), Bool.true_and]
      · exact Ev.neg (by omega) (Ev.some' (by simp [h2]))
    · exact Ev.neg (by omega) (Ev.some' (by simp [h1]))
  · rw [Bool.eq_false_iff.2 hp, Bool.false_and]
    exact Ev.neg (by simp) (Ev.now _)
theorem implAre_ev (p : Int) (l : List Int) (hl : Sm l.length) : Ev (fun k => impl_AreMoments.f k p l) (momB p l) := by
  unfold impl_AreMoments.f momB
  refine Ev.bind (implPrime_ev p) ?_
  by_cases hp : primeB p = true
  · rw [hp, Bool.true_and]
    refine Ev.pos rfl (Ev.bindE (a := (l.length : Int)) rfl (Ev.bindE (within_eq _ _ _) ?_))
    by_cases h : 1 ≤ l.length ∧ l.length ≤ 24
    · refine Ev.pos (decide_eq_true (by omega)) (Ev.bindE (a := p) rfl (Ev.bindE (areAll_has p l (by unfold Sm at hl; omega)) (Ev.some' ?_)))
      rw [decide_eq_true h, Bool.true_and]
    · refine Ev.neg (by simp; omega) (Ev.some' ?_)
      rw [decide_eq_false h, Bool.false_and]
  · rw [Bool.eq_false_iff.2 hp, Bool.false_and]
    exact Ev.neg (by simp) (Ev.now _)
theorem momentsCode_ev (p : Int) (l : List Int) (hl : Sm l.length) (b : Bool) (ls : List (List Int)) (hs : Sm ls.length) (hls : ∀ l ∈ ls, Sm l.length) :
    Ev (fun k => impl_momentsCode.f k p l b ls) (if momB p l && ls.all (polyB p) then (if b then 0 else 2) else 1) := by
  unfold impl_momentsCode.f
  refine Ev.bind (implAre_ev p l hl) ?_
  by_cases h : momB p l = true
  · rw [h, Bool.true_and]
    refine Ev.pos rfl (Ev.bind (polyCode_ev p b ls hs hls) (Ev.some' ?_))
    rw [momB.prime h, Bool.true_and]
  · rw [Bool.eq_false_iff.2 h, Bool.false_and]
    exact Ev.neg (by simp) (Ev.some' rfl)
/- What the functional makes of a polynomial: one sum modulo p, in the program and in the reference. -/
/-- The functional at f times x^s. -/
def applyM (p : Int) (m f : List Int) (s : Nat) : Int := sumTo (fun j => f.getD j 0 * m.getD (j + s) 0) f.length % p

theorem specApply_l0 {p : Int} (hp : Pm p) (m f : List Int) (hm : Nm p m) (hf : Nm p f) (s : Nat) (hs : f.length + s ≤ m.length ∨ f = []) (hl : Sm f.length) (hss : Sm s) (d : Nat) : ∀ i, i + d = f.length →
    Ev (fun k => spec_l02Apply.l0 k f (s : Int) (sumTo (fun j => f.getD j 0 * m.getD (j + s) 0) i % p) (i : Int) p m) (applyM p m f s) := by
  induction d with
  | zero =>
    intro i hi
    refine Ev.step (fun k => by rw [spec_l02Apply.l0]) ?_
    refine Ev.neg (by omega) (Ev.some' ?_)
    unfold applyM
    rw [show i = f.length from by omega]
  | succ d ih =>
    intro i hi
    have hs' : f.length + s ≤ m.length := by
      rcases hs with h | h
      · exact h
      · rw [h] at hi; simp at hi
    unfold Sm at hl hss
    have h1 := hf.get (i := i) (by omega)
    have h2 := hm.get (i := i + s) (by omega)
    have h3 := mulP hp h1.1 h1.2 h2.1 h2.2
    have h4 := emodB hp.pos (sumTo (fun j => f.getD j 0 * m.getD (j + s) 0) i)
    have ht := hp.top
    refine Ev.step (fun k => by rw [spec_l02Apply.l0]) ?_
    refine Ev.pos (by omega) (Ev.pos (by omega) ?_)
    rw [wadd (i := i) (j := s) (n := i + s + 1) (by omega) (by omega)]
    refine Ev.pos (by omega) (Ev.pos (by omega) (Ev.neg hp.ne ?_))
    rw [rd_nat, rd_nat, wrap_id (x := f.getD i 0 * m.getD (i + s) 0) (by omega) (by omega), wrap_id (by omega) (by omega), tmod_pos (by omega), Int.emod_add_emod, wsucc (i := i) (n := f.length) (by omega) (by omega)]
    exact ih (i + 1) (by omega)
theorem specApply_ev {p : Int} (hp : Pm p) (m f : List Int) (hm : Nm p m) (hf : Nm p f) (s : Nat) (hs : f.length + s ≤ m.length ∨ f = []) (hl : Sm f.length) (hss : Sm s) :
    Ev (fun k => spec_l02Apply.f k p m f (s : Int)) (applyM p m f s) := by
  unfold spec_l02Apply.f
  have h := specApply_l0 hp m f hm hf s hs hl hss f.length 0 (by omega)
  simpa [sumTo] using h

theorem implApply_l0 {p : Int} (hp : Pm p) (m f : List Int) (hm : Nm p m) (hf : Nm p f) (hs : f.length ≤ m.length) (hl : Sm f.length) (d : Nat) : ∀ i, i + d = f.length →
    Ev (fun k => impl_Moments_apply.l0 k (sumTo (fun j => f.getD j 0 * m.getD j 0) i % p) f (f.length : Int) (i : Int) p m) (applyM p m f 0) := by
  induction d with
  | zero =>
    intro i hi
    refine Ev.step (fun k => by rw [impl_Moments_apply.l0]) ?_
    refine Ev.neg (by omega) (Ev.some' ?_)
    unfold applyM
    rw [show i = f.length from by omega]
    rfl
  | succ d ih =>
    intro i hi
    unfold Sm at hl
    have h1 := hf.get (i := i) (by omega)
    have h2 := hm.get (i := i) (by omega)
    have h3 := mulP hp h1.1 h1.2 h2.1 h2.2
    have h4 := emodB hp.pos (sumTo (fun j => f.getD j 0 * m.getD j 0) i)
    have ht := hp.top
    refine Ev.step (fun k => by rw [impl_Moments_apply.l0]) ?_
    refine Ev.pos (by omega) (Ev.pos (by omega) (Ev.pos (by omega) (Ev.bindE (a := p) rfl (Ev.pos (by omega) (Ev.bindE (mod_eq hp _) ?_)))))
    rw [rd_nat, rd_nat, wrap_id (x := f.getD i 0 * m.getD i 0) (by omega) (by omega), wrap_id (by omega) (by omega), Int.emod_add_emod, wsucc (i := i) (n := f.length) (by omega) (by omega)]
    exact ih (i + 1) (by omega)
theorem implApply_ev {p : Int} (hp : Pm p) (m f : List Int) (hm : Nm p m) (hf : Nm p f) (hs : f.length ≤ m.length) (hl : Sm f.length) :
    Ev (fun k => impl_Moments_apply.f k p m f) (applyM p m f 0) := by
  unfold impl_Moments_apply.f
  have h := implApply_l0 hp m f hm hf hs hl f.length 0 (by omega)
  simpa [sumTo] using h
theorem getD_drop (m : List Int) (i j : Nat) : (m.drop i).getD j 0 = m.getD (j + i) 0 := by
  rw [List.getD_eq_getElem?_getD, List.getD_eq_getElem?_getD, List.getElem?_drop, Nat.add_comm]
theorem applyM_drop (p : Int) (m f : List Int) (i s : Nat) : applyM p (m.drop i) f s = applyM p m f (s + i) := by
  unfold applyM
  congr 2
  funext j
  rw [getD_drop, Nat.add_assoc]
/- Lists without noughts at their end; no condition. -/
theorem smod_eq {p : Int} (hp : Pm p) (x : Int) : spec_l01Mod.f p x = some (x % p) := by
  unfold spec_l01Mod.f
  rw [if_neg hp.ne, go_mod hp]

/-! ### noughts at the end -/
theorem getD_snoc (l : List Int) (x : Int) (m : List Int) : ((l ++ [x]) ++ m).getD l.length 0 = x := by
  rw [List.append_assoc, List.getD_eq_getElem?_getD, List.getElem?_append_right (Nat.le_refl _), Nat.sub_self]; rfl
theorem implTrim_l0 (l : List Int) : Sm l.length → Ev (fun k => impl_trimmed.l0 k l) (trim l) := by
  induction l using snocInd with
  | h0 =>
    intro _
    refine Ev.step (fun k => by rw [impl_trimmed.l0]) ?_
    exact Ev.neg (by simp) (Ev.now _)
  | h1 l x ih =>
    intro hl
    have hn : (l ++ [x]).length = l.length + 1 := by simp
    rw [hn] at hl
    unfold Sm at hl
    have e : wrap64 (((l ++ [x]).length : Int) - 1) = (l.length : Int) := by rw [hn, wrap_id (by omega) (by omega)]; omega
    have er : rd (l ++ [x]) (l.length : Int) = x := by
      rw [rd_nat]; have := getD_snoc l x []; rwa [List.append_nil] at this
    refine Ev.step (fun k => by rw [impl_trimmed.l0]) ?_
    rw [e, er]
    refine Ev.pos (by omega) (Ev.pos (by omega) (Ev.pos (by omega) ?_))
    by_cases hx : x = 0
    · refine Ev.pos hx (Ev.pos (by omega) ?_)
      rw [toNat_nat, List.take_left, hx, trim_snoc_zero]
      exact ih (by unfold Sm; omega)
    · refine Ev.neg hx (Ev.some' ?_)
      rw [trim_snoc l hx]
theorem implTrim_ev (l : List Int) (hl : Sm l.length) : Ev (fun k => impl_trimmed.f k l) (trim l) := by
  unfold impl_trimmed.f
  exact implTrim_l0 l hl
theorem specTrim_l0 (l : List Int) : ∀ m : List Int, Sm (l ++ m).length → Ev (fun k => spec_l01Trim.l0 k (l ++ m) (l.length : Int)) (trim l) := by
  induction l using snocInd with
  | h0 =>
    intro m hl
    refine Ev.step (fun k => by rw [spec_l01Trim.l0]) ?_
    refine Ev.neg (by simp) (Ev.pos (by simp) (Ev.pos (by simp) (Ev.bindE (own_eq _ (hl.take _)) (Ev.some' ?_))))
    simp [trim_nil]
  | h1 l x ih =>
    intro m hl
    have hn : (l ++ [x]).length = l.length + 1 := by simp
    have hl' := hl
    rw [List.length_append, hn] at hl'
    have hm : (l ++ [x] ++ m).length = l.length + 1 + m.length := by rw [List.length_append, hn]
    unfold Sm at hl'
    have e : wrap64 (((l ++ [x]).length : Int) - 1) = (l.length : Int) := by rw [hn, wrap_id (by omega) (by omega)]; omega
    have er : rd ((l ++ [x]) ++ m) (l.length : Int) = x := by
      rw [rd_nat]; exact getD_snoc l x m
    refine Ev.step (fun k => by rw [spec_l01Trim.l0]) ?_
    rw [e, er]
    refine Ev.pos (by omega) (Ev.pos (by omega) (Ev.pos (by omega) ?_))
    by_cases hx : x = 0
    · refine Ev.pos hx ?_
      have := ih ([x] ++ m) (by rw [← List.append_assoc]; exact hl)
      rw [← List.append_assoc] at this
      rw [hx, trim_snoc_zero]
      rw [hx] at this
      exact this
    · refine Ev.neg hx (Ev.pos (by omega) (Ev.pos (by omega) (Ev.bindE (own_eq _ (hl.take _)) (Ev.some' ?_))))
      rw [toNat_nat, List.take_left, trim_snoc l hx]
theorem specTrim_ev (l : List Int) (hl : Sm l.length) : Ev (fun k => spec_l01Trim.f k l) (trim l) := by
  unfold spec_l01Trim.f
  have := specTrim_l0 l [] (by rw [List.append_nil]; exact hl)
  rwa [List.append_nil] at this
theorem trim_len (l : List Int) : (trim l).length ≤ l.length := by
  obtain ⟨n, h⟩ := trim_sub l
  have := congrArg List.length h
  rw [List.length_append] at this
  omega
theorem Nm.trim {p : Int} {l : List Int} (h : Nm p l) : Nm p (trim l) := by
  obtain ⟨n, e⟩ := trim_sub l
  intro x hx
  refine h x ?_
  rw [e]
  exact List.mem_append_left _ hx
/- Sums of polynomials modulo p; no condition. -/
/-! ### sums -/
def addGo (p k : Int) (g : List Int) : Nat → Nat → List Int → List Int
  | 0, _, o => o
  | d + 1, i, o => addGo p k g d (i + 1) (o.set i ((o.getD i 0 + k * g.getD i 0) % p))
theorem addGo_len (p k : Int) (g : List Int) (d : Nat) : ∀ i o, (addGo p k g d i o).length = o.length := by
  induction d with
  | zero => intro i o; rfl
  | succ d ih => intro i o; rw [addGo, ih, List.length_set]
theorem addGo_nm {p : Int} (hp : 0 < p) (k : Int) (g : List Int) (d : Nat) : ∀ i o, Nm p o → Nm p (addGo p k g d i o) := by
  induction d with
  | zero => intro i o h; exact h
  | succ d ih => intro i o h; exact ih _ _ (h.set (emodB hp _).1 (emodB hp _).2 i)
/-- The list that the sum begins with. -/
def addOf (f : List Int) (n : Nat) : List Int := f ++ List.replicate (n - f.length) 0
theorem addOf_len (f : List Int) {n : Nat} (h : f.length ≤ n) : (addOf f n).length = n := by
  rw [addOf, List.length_append, List.length_replicate]; omega
theorem Nm.addOf {p : Int} (hp : 0 < p) {f : List Int} (h : Nm p f) (n : Nat) : Nm p (addOf f n) := h.append (Nm.zeros hp _)
/-- f and k times g. -/
def padd (p : Int) (f g : List Int) (k : Int) : List Int := trim (addGo p k g g.length 0 (addOf f (max f.length g.length)))
theorem padd_len (p : Int) (f g : List Int) (k : Int) : (padd p f g k).length ≤ max f.length g.length := by
  have := trim_len (addGo p k g g.length 0 (addOf f (max f.length g.length)))
  rw [addGo_len, addOf_len f (by omega)] at this
  exact this
theorem padd_nm {p : Int} (hp : 0 < p) {f g : List Int} (hf : Nm p f) (k : Int) : Nm p (padd p f g k) := (addGo_nm hp k g _ _ _ (hf.addOf hp _)).trim
theorem mx_nat (a b : Nat) : mx (a : Int) (b : Int) = ((max a b : Nat) : Int) := by
  unfold mx; split <;> omega
theorem specAdd1 {p k : Int} (hp : Pm p) (hk : 0 ≤ k ∧ k < p) (g : List Int) (hg : Nm p g) (d : Nat) : ∀ (i : Nat) (o : List Int), i + d = g.length → g.length ≤ o.length → Nm p o → Sm o.length →
    Ev (fun n => spec_l01Add.l1 n p g k o (i : Int)) (trim (addGo p k g d i o)) := by
  induction d with
  | zero =>
    intro i o hi hl ho hs
    refine Ev.step (fun n => by rw [spec_l01Add.l1]) ?_
    exact Ev.neg (by omega) (Ev.bind (specTrim_ev o hs) (Ev.now _))
  | succ d ih =>
    intro i o hi hl ho hs
    have h1 := ho.get (i := i) (by omega)
    have h2 := hg.get (i := i) (by omega)
    have h3 := mulP hp hk.1 hk.2 h2.1 h2.2
    have ht := hp.top
    have hm := emodB hp.pos (o.getD i 0 + k * g.getD i 0)
    have hs' := hs
    unfold Sm at hs'
    refine Ev.step (fun n => by rw [spec_l01Add.l1]) ?_
    refine Ev.pos (by omega) (Ev.pos (by omega) (Ev.pos (by omega) ?_))
    rw [rd_nat, rd_nat, wrap_id (x := k * g.getD i 0) (by omega) (by omega), wrap_id (by omega) (by omega)]
    refine Ev.bindE (smod_eq hp _) ?_
    rw [wsucc (i := i) (n := g.length) (by omega) (by omega), toNat_nat]
    exact ih (i + 1) _ (by omega) (by rw [List.length_set]; omega) (ho.set hm.1 hm.2 i) (by rw [List.length_set]; exact hs)
theorem implAdd1 {p k : Int} (hp : Pm p) (hk : 0 ≤ k ∧ k < p) (g : List Int) (hg : Nm p g) (d : Nat) : ∀ (i : Nat) (o : List Int), i + d = g.length → g.length ≤ o.length → Nm p o → Sm o.length →
    Ev (fun n => impl_field_add.l0 n p k o g (g.length : Int) (i : Int)) (trim (addGo p k g d i o)) := by
  induction d with
  | zero =>
    intro i o hi hl ho hs
    refine Ev.step (fun n => by rw [impl_field_add.l0]) ?_
    exact Ev.neg (by omega) (Ev.bind (implTrim_ev o hs) (Ev.now _))
  | succ d ih =>
    intro i o hi hl ho hs
    have h1 := ho.get (i := i) (by omega)
    have h2 := hg.get (i := i) (by omega)
    have h3 := mulP hp hk.1 hk.2 h2.1 h2.2
    have ht := hp.top
    have hm := emodB hp.pos (o.getD i 0 + k * g.getD i 0)
    have hs' := hs
    unfold Sm at hs'
    refine Ev.step (fun n => by rw [impl_field_add.l0]) ?_
    refine Ev.pos (by omega) (Ev.pos (by omega) (Ev.pos (by omega) (Ev.pos (by omega) ?_)))
    rw [rd_nat, rd_nat, wrap_id (x := k * g.getD i 0) (by omega) (by omega), wrap_id (by omega) (by omega)]
    refine Ev.bindE (mod_eq hp _) ?_
    rw [wsucc (i := i) (n := g.length) (by omega) (by omega), toNat_nat]
    exact ih (i + 1) _ (by omega) (by rw [List.length_set]; omega) (ho.set hm.1 hm.2 i) (by rw [List.length_set]; exact hs)
theorem cpy_zeros (f : List Int) {n : Nat} (h : f.length ≤ n) : cpy (List.replicate n 0) f = addOf f n := by
  unfold cpy addOf
  rw [List.length_replicate, Nat.min_eq_left h, List.take_length, List.drop_replicate]
theorem implAdd_ev {p k : Int} (hp : Pm p) (hk : 0 ≤ k ∧ k < p) (f g : List Int) (hf : Nm p f) (hg : Nm p g) (sf : Sm f.length) (sg : Sm g.length) :
    Ev (fun n => impl_field_add.f n p f g k) (padd p f g k) := by
  unfold impl_field_add.f
  unfold Sm at sf sg
  rw [mx_nat, toNat_nat, cpy_zeros f (by omega)]
  refine Ev.pos (by omega) (Ev.pos (by omega) ?_)
  exact implAdd1 hp hk g hg g.length 0 _ (by omega) (by rw [addOf_len f (by omega)]; omega) (hf.addOf hp.pos _) (by rw [addOf_len f (by omega)]; unfold Sm; omega)
theorem specAdd0 {p k : Int} (f g : List Int) (n : Nat) (r : List Int) (hn : f.length ≤ n) (hs : Sm n) (e : Ev (fun m => spec_l01Add.l1 m p g k (addOf f n) 0) r) (d : Nat) : ∀ i, i + d = f.length →
    Ev (fun m => spec_l01Add.l0 m p f g k (f.take i ++ List.replicate (n - i) 0) (i : Int)) r := by
  induction d with
  | zero =>
    intro i hi
    refine Ev.step (fun m => by rw [spec_l01Add.l0]) ?_
    refine Ev.neg (by omega) ?_
    rw [show i = f.length from by omega, List.take_length]
    exact e
  | succ d ih =>
    intro i hi
    unfold Sm at hs
    have hl : (f.take i ++ List.replicate (n - i) (0 : Int)).length = n := by rw [List.length_append, List.length_take, List.length_replicate]; omega
    refine Ev.step (fun m => by rw [spec_l01Add.l0]) ?_
    refine Ev.pos (by omega) (Ev.pos (by omega) (Ev.pos (by omega) ?_))
    rw [rd_nat, toNat_nat, wsucc (i := i) (n := n) (by omega) (by omega)]
    have e2 : (f.take i ++ List.replicate (n - i) (0 : Int)).set i (f.getD i 0) = f.take (i + 1) ++ List.replicate (n - (i + 1)) 0 := by
      rw [List.set_append_right (h := by rw [List.length_take]; omega), List.length_take, show i - min i f.length = 0 from by omega, show n - i = (n - (i + 1)) + 1 from by omega, List.replicate_succ, List.set_cons_zero, List.take_add_one, List.append_assoc, List.getElem?_eq_getElem (by omega), List.getD_eq_getElem?_getD, List.getElem?_eq_getElem (by omega)]
      rfl
    rw [e2]
    exact ih (i + 1) (by omega)
theorem specAdd_ev {p k : Int} (hp : Pm p) (hk : 0 ≤ k ∧ k < p) (f g : List Int) (hf : Nm p f) (hg : Nm p g) (sf : Sm f.length) (sg : Sm g.length) :
    Ev (fun n => spec_l01Add.f n p f g k) (padd p f g k) := by
  unfold spec_l01Add.f
  unfold Sm at sf sg
  rw [mx_nat, toNat_nat]
  refine Ev.pos (by omega) (Ev.pos (by omega) ?_)
  have h1 := specAdd1 hp hk g hg g.length 0 (addOf f (max f.length g.length)) (by omega) (by rw [addOf_len f (by omega)]; omega) (hf.addOf hp.pos _) (by rw [addOf_len f (by omega)]; unfold Sm; omega)
  have h2 := specAdd0 f g (max f.length g.length) _ (by omega) (by unfold Sm; omega) h1 f.length 0 (by omega)
  rw [List.take_zero, List.nil_append, Nat.sub_zero] at h2
  exact h2
/- Products of polynomials modulo p; no condition. -/
/-! ### products -/
def mulIn (p c : Int) (g : List Int) (i : Nat) : Nat → Nat → List Int → List Int
  | 0, _, o => o
  | d + 1, j, o => mulIn p c g i d (j + 1) (o.set (i + j) ((o.getD (i + j) 0 + c * g.getD j 0) % p))
theorem mulIn_len (p c : Int) (g : List Int) (i d : Nat) : ∀ j o, (mulIn p c g i d j o).length = o.length := by
  induction d with
  | zero => intro j o; rfl
  | succ d ih => intro j o; rw [mulIn, ih, List.length_set]
theorem mulIn_nm {p : Int} (hp : 0 < p) (c : Int) (g : List Int) (i d : Nat) : ∀ j o, Nm p o → Nm p (mulIn p c g i d j o) := by
  induction d with
  | zero => intro j o h; exact h
  | succ d ih => intro j o h; exact ih _ _ (h.set (emodB hp _).1 (emodB hp _).2 _)
def mulOut (p : Int) (f g : List Int) : Nat → Nat → List Int → List Int
  | 0, _, o => o
  | d + 1, i, o => mulOut p f g d (i + 1) (mulIn p (f.getD i 0) g i g.length 0 o)
theorem mulOut_len (p : Int) (f g : List Int) (d : Nat) : ∀ i o, (mulOut p f g d i o).length = o.length := by
  induction d with
  | zero => intro i o; rfl
  | succ d ih => intro i o; rw [mulOut, ih, mulIn_len]
theorem mulOut_nm {p : Int} (hp : 0 < p) (f g : List Int) (d : Nat) : ∀ i o, Nm p o → Nm p (mulOut p f g d i o) := by
  induction d with
  | zero => intro i o h; exact h
  | succ d ih => intro i o h; exact ih _ _ (mulIn_nm hp _ _ _ _ _ _ h)
/-- f times g. -/
def pmul (p : Int) (f g : List Int) : List Int := if f.length = 0 ∨ g.length = 0 then [] else trim (mulOut p f g f.length 0 (List.replicate (f.length + g.length - 1) 0))
theorem pmul_len (p : Int) (f g : List Int) : (pmul p f g).length ≤ f.length + g.length - 1 := by
  unfold pmul
  split
  · simp
  · have := trim_len (mulOut p f g f.length 0 (List.replicate (f.length + g.length - 1) 0))
    rw [mulOut_len, List.length_replicate] at this
    exact this
theorem pmul_nm {p : Int} (hp : 0 < p) (f g : List Int) : Nm p (pmul p f g) := by
  unfold pmul
  split
  · exact Nm.nil p
  · exact (mulOut_nm hp _ _ _ _ _ (Nm.zeros hp _)).trim
theorem implMul1 {p : Int} (hp : Pm p) (f g : List Int) (hg : Nm p g) (c : Int) (hc : 0 ≤ c ∧ c < p) (i : Nat) (r : List Int) (d : Nat) : ∀ (j : Nat) (o : List Int), j + d = g.length → i + g.length ≤ o.length → Nm p o → Sm o.length →
    Ev (fun n => impl_field_product.l0 n p g (mulIn p c g i d j o) f (f.length : Int) (wrap64 ((i : Int) + 1))) r →
    Ev (fun n => impl_field_product.l1 n p g o (i : Int) c f (f.length : Int) (i : Int) g (g.length : Int) (j : Int)) r := by
  induction d with
  | zero =>
    intro j o hj hl ho hs e
    refine Ev.step (fun n => by rw [impl_field_product.l1]) ?_
    exact Ev.neg (by omega) e
  | succ d ih =>
    intro j o hj hl ho hs e
    have h1 := ho.get (i := i + j) (by omega)
    have h2 := hg.get (i := j) (by omega)
    have h3 := mulP hp hc.1 hc.2 h2.1 h2.2
    have ht := hp.top
    have hm := emodB hp.pos (o.getD (i + j) 0 + c * g.getD j 0)
    have hs' := hs
    unfold Sm at hs'
    have hw : wrap64 ((i : Int) + (j : Int)) = ((i + j : Nat) : Int) := wadd (n := o.length) (by omega) (by omega)
    refine Ev.step (fun n => by rw [impl_field_product.l1]) ?_
    rw [hw]
    have c1 : (j : Int) < (g.length : Int) := by clear h1 h2 h3 hm hw e; omega
    have c2 : (0 : Int) ≤ (j : Int) := by clear h1 h2 h3 hm hw e; omega
    have c3 : (0 : Int) ≤ ((i + j : Nat) : Int) := by clear h1 h2 h3 hm hw e; omega
    have c4 : ((i + j : Nat) : Int) < (o.length : Int) := by clear h1 h2 h3 hm hw e; omega
    refine Ev.pos c1 (Ev.pos c2 (Ev.pos c1 (Ev.pos c3 (Ev.pos c4 ?_))))
    rw [rd_nat, rd_nat, wrap_id (x := c * g.getD j 0) (by omega) (by omega), wrap_id (by omega) (by omega)]
    refine Ev.bindE (mod_eq hp _) ?_
    rw [wsucc (i := j) (n := g.length) (by clear h1 h2 h3 hm hw e; omega) (by clear h1 h2 h3 hm hw e; omega), toNat_nat]
    exact ih (j + 1) _ (by clear h1 h2 h3 hm hw e; omega) (by rw [List.length_set]; clear h1 h2 h3 hm hw e; omega) (ho.set hm.1 hm.2 _) (by rw [List.length_set]; exact hs) e
theorem implMul0 {p : Int} (hp : Pm p) (f g : List Int) (hf : Nm p f) (hg : Nm p g) (d : Nat) : ∀ (i : Nat) (o : List Int), i + d = f.length → f.length + g.length ≤ o.length + 1 → Nm p o → Sm o.length →
    Ev (fun n => impl_field_product.l0 n p g o f (f.length : Int) (i : Int)) (trim (mulOut p f g d i o)) := by
  induction d with
  | zero =>
    intro i o hi hl ho hs
    refine Ev.step (fun n => by rw [impl_field_product.l0]) ?_
    exact Ev.neg (by omega) (Ev.bind (implTrim_ev o hs) (Ev.now _))
  | succ d ih =>
    intro i o hi hl ho hs
    have hs' := hs
    unfold Sm at hs'
    refine Ev.step (fun n => by rw [impl_field_product.l0]) ?_
    refine Ev.pos (by omega) (Ev.pos (by omega) (Ev.pos (by omega) ?_))
    rw [rd_nat]
    refine implMul1 hp f g hg _ (hf.get (i := i) (by omega)) i _ g.length 0 o (by omega) (by omega) ho hs ?_
    by_cases hg0 : f.length ≤ 4611686018427387903
    · rw [wsucc (i := i) (n := f.length) (by omega) (by omega)]
      exact ih (i + 1) _ (by omega) (by rw [mulIn_len]; exact hl) (mulIn_nm hp.pos _ _ _ _ _ _ ho) (by rw [mulIn_len]; exact hs)
    · omega
theorem implMul_ev {p : Int} (hp : Pm p) (f g : List Int) (hf : Nm p f) (hg : Nm p g) (sf : Sm f.length) (sg : Sm g.length) (sfg : Sm (f.length + g.length)) :
    Ev (fun n => impl_field_product.f n p f g) (pmul p f g) := by
  unfold impl_field_product.f pmul
  unfold Sm at sf sg sfg
  by_cases h1 : f.length = 0
  · rw [if_pos (Or.inl h1)]
    refine Ev.pos (by omega) ?_
    refine Ev.step (fun n => by rw [impl_field_product.j0]) ?_
    exact Ev.pos rfl (Ev.now _)
  · refine Ev.neg (by omega) ?_
    by_cases h2 : g.length = 0
    · rw [if_pos (Or.inr h2), show ((g.length : Int) == 0) = true from by simp [h2]]
      refine Ev.step (fun n => by rw [impl_field_product.j0]) ?_
      exact Ev.pos rfl (Ev.now _)
    · rw [if_neg (by omega), show ((g.length : Int) == 0) = false from by simp; exact fun h => h2 (by simp [h])]
      refine Ev.step (fun n => by rw [impl_field_product.j0]) ?_
      have e : wrap64 (wrap64 ((f.length : Int) + (g.length : Int)) - 1) = ((f.length + g.length - 1 : Nat) : Int) := by
        rw [wrap_id (x := (f.length : Int) + (g.length : Int)) (by omega) (by omega), wrap_id (by omega) (by omega)]; omega
      rw [e, toNat_nat]
      refine Ev.neg (by decide) (Ev.pos (by omega) (Ev.pos (by omega) ?_))
      exact implMul0 hp f g hf hg f.length 0 _ (by omega) (by rw [List.length_replicate]; omega) (Nm.zeros hp.pos _) (by rw [List.length_replicate]; unfold Sm; omega)
theorem specMul1 {p : Int} (hp : Pm p) (f g : List Int) (hf : Nm p f) (hg : Nm p g) (i : Nat) (hi : i < f.length) (r : List Int) (d : Nat) : ∀ (j : Nat) (o : List Int), j + d = g.length → i + g.length ≤ o.length → Nm p o → Sm o.length →
    Ev (fun n => spec_l01Times.l0 n p f g (mulIn p (f.getD i 0) g i d j o) (wrap64 ((i : Int) + 1))) r →
    Ev (fun n => spec_l01Times.l1 n p f g o (i : Int) (j : Int)) r := by
  induction d with
  | zero =>
    intro j o hj hl ho hs e
    refine Ev.step (fun n => by rw [spec_l01Times.l1]) ?_
    exact Ev.neg (by omega) e
  | succ d ih =>
    intro j o hj hl ho hs e
    have hc := hf.get (i := i) hi
    have h1 := ho.get (i := i + j) (by omega)
    have h2 := hg.get (i := j) (by omega)
    have h3 := mulP hp hc.1 hc.2 h2.1 h2.2
    have ht := hp.top
    have hm := emodB hp.pos (o.getD (i + j) 0 + f.getD i 0 * g.getD j 0)
    have hs' := hs
    unfold Sm at hs'
    have hw : wrap64 ((i : Int) + (j : Int)) = ((i + j : Nat) : Int) := wadd (n := o.length) (by omega) (by omega)
    refine Ev.step (fun n => by rw [spec_l01Times.l1]) ?_
    rw [hw]
    have c1 : (j : Int) < (g.length : Int) := by clear h1 h2 h3 hm hw e; omega
    have c2 : (0 : Int) ≤ (j : Int) := by clear h1 h2 h3 hm hw e; omega
    have c3 : (0 : Int) ≤ ((i + j : Nat) : Int) := by clear h1 h2 h3 hm hw e; omega
    have c4 : ((i + j : Nat) : Int) < (o.length : Int) := by clear h1 h2 h3 hm hw e; omega
    have c5 : (0 : Int) ≤ (i : Int) := by clear h1 h2 h3 hm hw e; omega
    have c6 : (i : Int) < (f.length : Int) := by clear h1 h2 h3 hm hw e; omega
    refine Ev.pos c1 (Ev.pos c3 (Ev.pos c4 (Ev.pos c5 (Ev.pos c6 (Ev.pos c2 (Ev.neg hp.ne ?_))))))
    rw [rd_nat, rd_nat, rd_nat, wrap_id (x := f.getD i 0 * g.getD j 0) (by omega) (by omega), wrap_id (by omega) (by omega), tmod_pos (by omega), wsucc (i := j) (n := g.length) (by clear h1 h2 h3 hm hw e; omega) (by clear h1 h2 h3 hm hw e; omega), toNat_nat]
    exact ih (j + 1) _ (by clear h1 h2 h3 hm hw e; omega) (by rw [List.length_set]; clear h1 h2 h3 hm hw e; omega) (ho.set hm.1 hm.2 _) (by rw [List.length_set]; exact hs) e
theorem specMul0 {p : Int} (hp : Pm p) (f g : List Int) (hf : Nm p f) (hg : Nm p g) (d : Nat) : ∀ (i : Nat) (o : List Int), i + d = f.length → f.length + g.length ≤ o.length + 1 → Nm p o → Sm o.length →
    Ev (fun n => spec_l01Times.l0 n p f g o (i : Int)) (trim (mulOut p f g d i o)) := by
  induction d with
  | zero =>
    intro i o hi hl ho hs
    refine Ev.step (fun n => by rw [spec_l01Times.l0]) ?_
    exact Ev.neg (by omega) (Ev.bind (specTrim_ev o hs) (Ev.now _))
  | succ d ih =>
    intro i o hi hl ho hs
    have hs' := hs
    unfold Sm at hs'
    refine Ev.step (fun n => by rw [spec_l01Times.l0]) ?_
    refine Ev.pos (by omega) ?_
    refine specMul1 hp f g hf hg i (by omega) _ g.length 0 o (by omega) (by omega) ho hs ?_
    by_cases hg0 : f.length ≤ 4611686018427387903
    · rw [wsucc (i := i) (n := f.length) (by omega) (by omega)]
      exact ih (i + 1) _ (by omega) (by rw [mulIn_len]; exact hl) (mulIn_nm hp.pos _ _ _ _ _ _ ho) (by rw [mulIn_len]; exact hs)
    · omega
theorem specMul_ev {p : Int} (hp : Pm p) (f g : List Int) (hf : Nm p f) (hg : Nm p g) (sf : Sm f.length) (sg : Sm g.length) (sfg : Sm (f.length + g.length)) :
    Ev (fun n => spec_l01Times.f n p f g) (pmul p f g) := by
  unfold spec_l01Times.f pmul
  unfold Sm at sf sg sfg
  by_cases h1 : f.length = 0
  · rw [if_pos (Or.inl h1)]
    refine Ev.pos (by omega) ?_
    refine Ev.step (fun n => by rw [spec_l01Times.j0]) ?_
    exact Ev.pos rfl (Ev.now _)
  · refine Ev.neg (by omega) ?_
    by_cases h2 : g.length = 0
    · rw [if_pos (Or.inr h2), show ((g.length : Int) == 0) = true from by simp [h2]]
      refine Ev.step (fun n => by rw [spec_l01Times.j0]) ?_
      exact Ev.pos rfl (Ev.now _)
    · rw [if_neg (by omega), show ((g.length : Int) == 0) = false from by simp; exact fun h => h2 (by simp [h])]
      refine Ev.step (fun n => by rw [spec_l01Times.j0]) ?_
      have e : wrap64 (wrap64 ((f.length : Int) + (g.length : Int)) - 1) = ((f.length + g.length - 1 : Nat) : Int) := by
        rw [wrap_id (x := (f.length : Int) + (g.length : Int)) (by omega) (by omega), wrap_id (by omega) (by omega)]; omega
      rw [e, toNat_nat]
      refine Ev.neg (by decide) (Ev.pos (by omega) (Ev.pos (by omega) ?_))
      exact specMul0 hp f g hf hg f.length 0 _ (by omega) (by rw [List.length_replicate]; omega) (Nm.zeros hp.pos _) (by rw [List.length_replicate]; unfold Sm; omega)
/- One step of a recurrence: (x - a) f - b g, and the program's function for it; no condition. -/
/-- (x - a) f - b g. -/
def pnext (p a b : Int) (f g : List Int) : List Int := padd p (pmul p [(-a) % p, 1] f) g ((-b) % p)
theorem pnext_nm {p : Int} (hp : Pm p) (a b : Int) (f g : List Int) : Nm p (pnext p a b f g) := padd_nm hp.pos (pmul_nm hp.pos _ _) _
theorem pnext_len (p a b : Int) (f g : List Int) : (pnext p a b f g).length ≤ max (f.length + 1) g.length := by
  have h1 := padd_len p (pmul p [(-a) % p, 1] f) g ((-b) % p)
  have h2 := pmul_len p [(-a) % p, 1] f
  simp only [List.length_cons, List.length_nil] at h2
  unfold pnext
  omega
theorem two_nm {p : Int} (hp : Pm p) (a : Int) : Nm p [(-a) % p, 1] := by
  have := hp.two
  exact Nm.cons (emodB hp.pos _).1 (emodB hp.pos _).2 (Nm.cons (by omega) (by omega) (Nm.nil p))
theorem neg_wrap {p a : Int} (hp : Pm p) (h : 0 ≤ a ∧ a < p) : wrap64 (-a) = -a := by
  have := hp.top
  exact wrap_id (by omega) (by omega)
theorem implNext_ev {p a b : Int} (hp : Pm p) (ha : 0 ≤ a ∧ a < p) (hb : 0 ≤ b ∧ b < p) (f g : List Int) (hf : Nm p f) (hg : Nm p g) (sf : f.length ≤ 1000) (sg : g.length ≤ 1000) :
    Ev (fun n => impl_field_next.f n p a b f g) (pnext p a b f g) := by
  unfold impl_field_next.f
  have h2 := pmul_len p [(-a) % p, 1] f
  simp only [List.length_cons, List.length_nil] at h2
  rw [neg_wrap hp ha, neg_wrap hp hb]
  refine Ev.bindE (mod_eq hp _) (Ev.bind (implMul_ev hp _ f (two_nm hp a) hf (by simp [Sm]) (by unfold Sm; omega) (by simp only [List.length_cons, List.length_nil]; unfold Sm; omega)) (Ev.bindE (mod_eq hp _) (Ev.bind ?_ (Ev.now _))))
  exact implAdd_ev hp (emodB hp.pos _) _ g (pmul_nm hp.pos _ _) hg (by unfold Sm; omega) (by unfold Sm; omega)
theorem one_nm {p : Int} (hp : Pm p) : Nm p [1] := by
  have := hp.two
  exact Nm.cons (by omega) (by omega) (Nm.nil p)
/- Products of x - a for all numbers of a list; no condition. -/
def nodeGo (p : Int) (n : List Int) : Nat → Nat → List Int → List Int
  | 0, _, o => o
  | d + 1, i, o => nodeGo p n d (i + 1) (pmul p o [(-n.getD i 0) % p, 1])
theorem nodeGo_len (p : Int) (n : List Int) (d : Nat) : ∀ i o, (nodeGo p n d i o).length ≤ o.length + d := by
  induction d with
  | zero => intro i o; simp [nodeGo]
  | succ d ih =>
    intro i o
    have h1 := ih (i + 1) (pmul p o [(-n.getD i 0) % p, 1])
    have h2 := pmul_len p o [(-n.getD i 0) % p, 1]
    simp only [List.length_cons, List.length_nil] at h2
    rw [nodeGo]
    omega
theorem linear_nm {p : Int} (hp : Pm p) (a : Int) : Nm p [(-a) % p, 1] := by
  have := hp.two
  exact Nm.cons (emodB hp.pos _).1 (emodB hp.pos _).2 (Nm.cons (by omega) (by omega) (Nm.nil p))
theorem specNode_l0 {p : Int} (hp : Pm p) (n : List Int) (hn : Nm p n) (hl : n.length ≤ 24) (d : Nat) : ∀ (i : Nat) (o : List Int), i + d = n.length → o.length ≤ i + 1 → Nm p o →
    Ev (fun k => spec_l07Nodes.l0 k p n o (i : Int)) (nodeGo p n d i o) := by
  induction d with
  | zero =>
    intro i o hi ho hno
    refine Ev.step (fun k => by rw [spec_l07Nodes.l0]) ?_
    exact Ev.neg (by omega) (Ev.now _)
  | succ d ih =>
    intro i o hi ho hno
    have h1 := hn.get (i := i) (by omega)
    have ht := hp.top
    have h2 := pmul_len p o [(-n.getD i 0) % p, 1]
    simp only [List.length_cons, List.length_nil] at h2
    refine Ev.step (fun k => by rw [spec_l07Nodes.l0]) ?_
    refine Ev.pos (by omega) (Ev.pos (by omega) ?_)
    rw [rd_nat, wrap_id (x := -n.getD i 0) (by omega) (by omega)]
    refine Ev.bindE (smod_eq hp _) (Ev.bind (specMul_ev hp o _ hno (linear_nm hp _) (by unfold Sm; omega) (by simp [Sm]) (by simp only [List.length_cons, List.length_nil]; unfold Sm; omega)) ?_)
    rw [wsucc (i := i) (n := n.length) (by omega) (by omega)]
    exact ih (i + 1) _ (by omega) (by omega) (pmul_nm hp.pos _ _)
theorem implNode_l0 {p : Int} (hp : Pm p) (n : List Int) (hn : Nm p n) (hl : n.length ≤ 24) (d : Nat) : ∀ (i : Nat) (o : List Int), i + d = n.length → o.length ≤ i + 1 → Nm p o →
    Ev (fun k => impl_field_ofRoots.l0 k p o n (n.length : Int) (i : Int)) (nodeGo p n d i o) := by
  induction d with
  | zero =>
    intro i o hi ho hno
    refine Ev.step (fun k => by rw [impl_field_ofRoots.l0]) ?_
    exact Ev.neg (by omega) (Ev.now _)
  | succ d ih =>
    intro i o hi ho hno
    have h1 := hn.get (i := i) (by omega)
    have ht := hp.top
    have h2 := pmul_len p o [(-n.getD i 0) % p, 1]
    simp only [List.length_cons, List.length_nil] at h2
    refine Ev.step (fun k => by rw [impl_field_ofRoots.l0]) ?_
    refine Ev.pos (by omega) (Ev.pos (by omega) (Ev.pos (by omega) ?_))
    rw [rd_nat, wrap_id (x := -n.getD i 0) (by omega) (by omega)]
    refine Ev.bindE (mod_eq hp _) (Ev.bind (implMul_ev hp o _ hno (linear_nm hp _) (by unfold Sm; omega) (by simp [Sm]) (by simp only [List.length_cons, List.length_nil]; unfold Sm; omega)) ?_)
    rw [wsucc (i := i) (n := n.length) (by omega) (by omega)]
    exact ih (i + 1) _ (by omega) (by omega) (pmul_nm hp.pos _ _)
/- Coefficients: a product's are the convolution's rests, trimmed lists of the same coefficients are the same, products commute; no condition. -/
theorem trim_get (l : List Int) (k : Nat) : (trim l).getD k 0 = l.getD k 0 := by
  obtain ⟨n, h⟩ := trim_sub l
  have e : l.getD k 0 = (trim l ++ List.replicate n 0).getD k 0 := congrArg (fun x => x.getD k 0) h
  rw [e]
  simp only [List.getD_eq_getElem?_getD]
  by_cases hk : k < (trim l).length
  · rw [List.getElem?_append_left hk]
  · rw [List.getElem?_append_right (by omega), List.getElem?_eq_none (by omega)]
    by_cases h2 : k - (trim l).length < n
    · rw [List.getElem?_replicate, if_pos h2]; rfl
    · rw [List.getElem?_replicate, if_neg h2]
theorem trim_last (n : Nat) : ∀ l : List Int, l.length = n → 0 < (trim l).length → (trim l).getD ((trim l).length - 1) 0 ≠ 0 := by
  induction n with
  | zero =>
    intro l hl h
    rw [List.length_eq_zero_iff.1 hl, trim_nil] at h
    exact absurd h (by simp)
  | succ n ih =>
    intro l hl
    have hne : l ≠ [] := fun e => by rw [e] at hl; simp at hl
    have hd := List.dropLast_concat_getLast hne
    have hln : l.dropLast.length = n := by rw [List.length_dropLast]; omega
    generalize l.dropLast = a at hd hln
    generalize l.getLast hne = x at hd
    subst hd
    by_cases hx : x = 0
    · subst hx
      rw [trim_snoc_zero]
      exact ih a hln
    · rw [trim_snoc a hx]
      intro _
      simp [hx]
theorem trim_ext {l m : List Int} (h : ∀ k, l.getD k 0 = m.getD k 0) : trim l = trim m := by
  have hg : ∀ k, (trim l).getD k 0 = (trim m).getD k 0 := fun k => by rw [trim_get, trim_get, h k]
  have zero : ∀ (a : List Int) (k : Nat), a.length ≤ k → a.getD k 0 = 0 := fun a k hk => by rw [List.getD_eq_getElem?_getD, List.getElem?_eq_none hk]; rfl
  have hlen : (trim l).length = (trim m).length := by
    rcases Nat.lt_trichotomy (trim l).length (trim m).length with g | g | g
    · have h1 := trim_last _ m rfl (by omega)
      rw [← hg, zero _ _ (by omega)] at h1
      exact absurd rfl h1
    · exact g
    · have h1 := trim_last _ l rfl (by omega)
      rw [hg, zero _ _ (by omega)] at h1
      exact absurd rfl h1
  apply List.ext_getElem hlen
  intro i h1 h2
  have h3 := hg i
  rw [List.getD_eq_getElem?_getD, List.getD_eq_getElem?_getD, List.getElem?_eq_getElem h1, List.getElem?_eq_getElem h2] at h3
  exact h3
/-- The number k of x^i g. -/
def sh (g : List Int) (i k : Nat) : Int := if i ≤ k then g.getD (k - i) 0 else 0
theorem getD_far (a : List Int) {k : Nat} (hk : a.length ≤ k) : a.getD k 0 = 0 := by rw [List.getD_eq_getElem?_getD, List.getElem?_eq_none hk]; rfl
theorem set_get (o : List Int) (n k : Nat) (x : Int) (hn : n < o.length) : (o.set n x).getD k 0 = if k = n then x else o.getD k 0 := by
  simp only [List.getD_eq_getElem?_getD]
  by_cases h : k = n
  · subst h; rw [List.getElem?_set_self hn, if_pos rfl]; rfl
  · rw [List.getElem?_set_ne (Ne.symm h), if_neg h]
theorem mulIn_get (p c : Int) (g : List Int) (i d : Nat) : ∀ (j : Nat) (o : List Int), j + d = g.length → i + g.length ≤ o.length → ∀ k, (mulIn p c g i d j o).getD k 0 = if i + j ≤ k ∧ k < i + g.length then (o.getD k 0 + c * g.getD (k - i) 0) % p else o.getD k 0 := by
  induction d with
  | zero =>
    intro j o hj ho k
    rw [mulIn, if_neg (by omega)]
  | succ d ih =>
    intro j o hj ho k
    rw [mulIn, ih (j + 1) _ (by omega) (by rw [List.length_set]; exact ho) k, set_get _ _ _ _ (by omega)]
    by_cases h1 : k = i + j
    · rw [if_neg (by omega), if_pos h1, if_pos (by omega), h1, show i + j - i = j from by omega]
    · rw [if_neg h1]
      by_cases h2 : i + (j + 1) ≤ k ∧ k < i + g.length
      · rw [if_pos h2, if_pos (by omega)]
      · rw [if_neg h2, if_neg (by omega)]
theorem mulIn_sh {p : Int} (hp : 0 < p) (c : Int) (g : List Int) (i : Nat) (o : List Int) (ho : i + g.length ≤ o.length) (hn : Nm p o) (k : Nat) : (mulIn p c g i g.length 0 o).getD k 0 = (o.getD k 0 + c * sh g i k) % p := by
  rw [mulIn_get p c g i g.length 0 o (by omega) ho k, sh]
  have hb := hn.getp hp k
  by_cases h : i ≤ k
  · rw [if_pos h]
    by_cases h2 : k < i + g.length
    · rw [if_pos (by omega)]
    · rw [if_neg (by omega), getD_far g (k := k - i) (by omega), Int.mul_zero, Int.add_zero, Int.emod_eq_of_lt hb.1 hb.2]
  · rw [if_neg (by omega), if_neg h, Int.mul_zero, Int.add_zero, Int.emod_eq_of_lt hb.1 hb.2]
theorem add_emod_mid (a b p : Int) : (a % p + b) % p = (a + b) % p := by rw [Int.add_emod, Int.emod_emod, ← Int.add_emod]
theorem sumTo_nil {g : Nat → Int} {n : Nat} (h : ∀ i, i < n → g i = 0) : sumTo g n = 0 := by
  induction n with
  | zero => rfl
  | succ n ih => rw [sumTo, ih (fun i hi => h i (by omega)), h n (by omega), Int.add_zero]
theorem sumTo_front (h : Nat → Int) (n : Nat) : sumTo h (n + 1) = h 0 + sumTo (fun t => h (t + 1)) n := by
  induction n with
  | zero => simp [sumTo]
  | succ n ih =>
    rw [sumTo, ih, sumTo, Int.add_assoc]
theorem mulOut_get {p : Int} (hp : 0 < p) (f g : List Int) (d : Nat) : ∀ (i : Nat) (o : List Int), i + d = f.length → f.length + g.length ≤ o.length + 1 → Nm p o → ∀ k, (mulOut p f g d i o).getD k 0 = (o.getD k 0 + sumTo (fun t => f.getD (i + t) 0 * sh g (i + t) k) d) % p := by
  induction d with
  | zero =>
    intro i o hi ho hn k
    have hb := hn.getp hp k
    rw [mulOut, sumTo, Int.add_zero, Int.emod_eq_of_lt hb.1 hb.2]
  | succ d ih =>
    intro i o hi ho hn k
    rw [mulOut, ih (i + 1) _ (by omega) (by rw [mulIn_len]; exact ho) (mulIn_nm hp _ _ _ _ _ _ hn) k, mulIn_sh hp _ _ _ _ (by omega) hn, add_emod_mid, sumTo_front, Int.add_assoc]
    simp only [Nat.add_zero, Nat.add_assoc, Nat.add_comm 1]
theorem sh_far {g : List Int} {i k : Nat} (h : i + g.length ≤ k) : sh g i k = 0 := by
  rw [sh, if_pos (by omega), getD_far g (by omega)]
/-- A product's numbers. -/
theorem pmul_get {p : Int} (hp : 0 < p) (f g : List Int) (k : Nat) : (pmul p f g).getD k 0 = sumTo (fun t => f.getD t 0 * sh g t k) f.length % p := by
  unfold pmul
  split
  · rename_i h
    have hz : ∀ t, t < f.length → f.getD t 0 * sh g t k = 0 := fun t ht => by
      rcases h with h | h
      · omega
      · have : sh g t k = 0 := by
          unfold sh
          split
          · exact getD_far g (by omega)
          · rfl
        rw [this, Int.mul_zero]
    rw [sumTo_nil hz]; simp
  · rename_i h
    rw [trim_get, mulOut_get hp f g f.length 0 _ (by omega) (by rw [List.length_replicate]; omega) (Nm.zeros hp _) k]
    have hz : (List.replicate (f.length + g.length - 1) (0 : Int)).getD k 0 = 0 := by
      rw [List.getD_eq_getElem?_getD, List.getElem?_replicate]
      split <;> rfl
    rw [hz, Int.zero_add]
    simp only [Nat.zero_add]
theorem sumTo_more {h : Nat → Int} {n : Nat} (hz : ∀ t, n ≤ t → h t = 0) (d : Nat) : sumTo h (n + d) = sumTo h n := by
  induction d with
  | zero => rfl
  | succ d ih => rw [← Nat.add_assoc, sumTo, ih, hz _ (by omega), Int.add_zero]
theorem sumTo_congr {g h : Nat → Int} (n : Nat) (e : ∀ t, t < n → g t = h t) : sumTo g n = sumTo h n := by
  induction n with
  | zero => rfl
  | succ n ih => rw [sumTo, sumTo, ih (fun t ht => e t (by omega)), e n (by omega)]
theorem sumTo_flip (n : Nat) : ∀ h : Nat → Int, sumTo h (n + 1) = sumTo (fun t => h (n - t)) (n + 1) := by
  induction n with
  | zero => intro h; simp [sumTo]
  | succ n ih =>
    intro h
    rw [sumTo_front h, ih (fun t => h (t + 1))]
    have e : sumTo (fun t => h (n + 1 - t)) (n + 1) = sumTo (fun t => h (n - t + 1)) (n + 1) := sumTo_congr _ (fun t ht => by rw [show n + 1 - t = n - t + 1 from by omega])
    have e2 : sumTo (fun t => h (n + 1 - t)) (n + 1 + 1) = sumTo (fun t => h (n + 1 - t)) (n + 1) + h (n + 1 - (n + 1)) := rfl
    rw [e2, e, Nat.sub_self, Int.add_comm]
/-- The convolution. -/
theorem conv_eq (f g : List Int) (k : Nat) : sumTo (fun t => f.getD t 0 * sh g t k) f.length = sumTo (fun t => f.getD t 0 * g.getD (k - t) 0) (k + 1) := by
  have h1 : ∀ t, f.length ≤ t → f.getD t 0 * sh g t k = 0 := fun t ht => by rw [getD_far f ht, Int.zero_mul]
  have h2 : ∀ t, k + 1 ≤ t → f.getD t 0 * sh g t k = 0 := fun t ht => by rw [sh, if_neg (by omega), Int.mul_zero]
  have h3 : sumTo (fun t => f.getD t 0 * sh g t k) f.length = sumTo (fun t => f.getD t 0 * sh g t k) (k + 1) := by
    rw [← sumTo_more h1 (k + 1), ← sumTo_more h2 f.length, Nat.add_comm]
  rw [h3]
  exact sumTo_congr _ (fun t ht => by rw [sh, if_pos (by omega)])
theorem pmul_trim (p : Int) (f g : List Int) : trim (pmul p f g) = pmul p f g := by
  have tt : ∀ l : List Int, trim (trim l) = trim l := fun l => trim_ext (fun k => trim_get l k)
  unfold pmul
  split
  · exact trim_nil
  · exact tt _
theorem pmul_comm {p : Int} (hp : 0 < p) (f g : List Int) : pmul p f g = pmul p g f := by
  rw [← pmul_trim p f g, ← pmul_trim p g f]
  refine trim_ext fun k => ?_
  rw [pmul_get hp, pmul_get hp, conv_eq, conv_eq, sumTo_flip]
  congr 1
  refine sumTo_congr _ fun t ht => ?_
  rw [show k - (k - t) = t from by omega, Int.mul_comm]
/- Powers modulo p: what the program and the reference compute; no condition. -/
theorem fmul_eq {p : Int} (hp : Pm p) {x y : Int} (hx : 0 ≤ x ∧ x < p) (hy : 0 ≤ y ∧ y < p) : impl_field_mul.f p x y = some (x * y % p) := by
  unfold impl_field_mul.f
  have h := mulP hp hx.1 hx.2 hy.1 hy.2
  rw [wrap_id (by omega) (by omega), mod_eq hp]; rfl
def powGo (p : Int) : Nat → Int → Nat → Int → Int
  | 0, _, _, o => o
  | d + 1, x, k, o => if k = 0 then o else powGo p d (x * x % p) (k / 2) (if k % 2 = 1 then o * x % p else o)
theorem powGo_in {p : Int} (hp : 0 < p) (d : Nat) : ∀ (x : Int) (k : Nat) (o : Int), 0 ≤ o ∧ o < p → 0 ≤ powGo p d x k o ∧ powGo p d x k o < p := by
  induction d with
  | zero => intro x k o h; exact h
  | succ d ih =>
    intro x k o h
    rw [powGo]
    split
    · exact h
    · refine ih _ _ _ ?_
      split
      · exact emodB hp _
      · exact h
theorem half {k : Nat} (h : k < 4611686018427387904) : wrap64 (Int.tdiv (k : Int) 2) = ((k / 2 : Nat) : Int) := by
  rw [Int.tdiv_eq_ediv_of_nonneg (by omega), wrap_id (by omega) (by omega)]; omega
theorem odd (k : Nat) : Int.tmod (k : Int) 2 = ((k % 2 : Nat) : Int) := by rw [tmod_pos (by omega)]; omega
theorem implPow_l0 {p : Int} (hp : Pm p) (d : Nat) : ∀ (x : Int) (k : Nat) (o : Int), k ≤ d → k < 4611686018427387904 → 0 ≤ x ∧ x < p → 0 ≤ o ∧ o < p →
    Ev (fun n => impl_field_power.l0 n p x (k : Int) o) (powGo p d x k o) := by
  induction d with
  | zero =>
    intro x k o hk hk2 hx ho
    refine Ev.step (fun n => by rw [impl_field_power.l0]) ?_
    exact Ev.neg (by omega) (Ev.now _)
  | succ d ih =>
    intro x k o hk hk2 hx ho
    rw [powGo]
    by_cases h : k = 0
    · rw [if_pos h]
      refine Ev.step (fun n => by rw [impl_field_power.l0]) ?_
      exact Ev.neg (by omega) (Ev.now _)
    · rw [if_neg h]
      refine Ev.step (fun n => by rw [impl_field_power.l0]) ?_
      refine Ev.pos (by omega) ?_
      rw [odd, half hk2]
      by_cases g : k % 2 = 1
      · rw [if_pos g]
        refine Ev.pos (by omega) (Ev.bindE (fmul_eq hp ho hx) (Ev.bindE (fmul_eq hp hx hx) ?_))
        exact ih _ _ _ (by omega) (by omega) (emodB hp.pos _) (emodB hp.pos _)
      · rw [if_neg g]
        refine Ev.neg (by omega) (Ev.bindE (fmul_eq hp hx hx) ?_)
        exact ih _ _ _ (by omega) (by omega) (emodB hp.pos _) ho
theorem specPow_l0 {p : Int} (hp : Pm p) (d : Nat) : ∀ (x : Int) (k : Nat) (o : Int), k ≤ d → k < 4611686018427387904 → 0 ≤ x ∧ x < p → 0 ≤ o ∧ o < p →
    Ev (fun n => spec_l01Power.l0 n p (k : Int) o x) (powGo p d x k o) := by
  induction d with
  | zero =>
    intro x k o hk hk2 hx ho
    refine Ev.step (fun n => by rw [spec_l01Power.l0]) ?_
    refine Ev.neg (by omega) (Ev.neg hp.ne (Ev.some' ?_))
    rw [tmod_pos ho.1, Int.emod_eq_of_lt ho.1 ho.2]; rfl
  | succ d ih =>
    intro x k o hk hk2 hx ho
    have h1 := mulP hp hx.1 hx.2 hx.1 hx.2
    have h2 := mulP hp ho.1 ho.2 hx.1 hx.2
    rw [powGo]
    by_cases h : k = 0
    · rw [if_pos h]
      refine Ev.step (fun n => by rw [spec_l01Power.l0]) ?_
      refine Ev.neg (by omega) (Ev.neg hp.ne (Ev.some' ?_))
      rw [tmod_pos ho.1, Int.emod_eq_of_lt ho.1 ho.2]
    · rw [if_neg h]
      refine Ev.step (fun n => by rw [spec_l01Power.l0]) ?_
      refine Ev.pos (by omega) ?_
      rw [odd, half hk2, wrap_id (x := x * x) (by omega) (by omega), wrap_id (x := o * x) (by omega) (by omega), tmod_pos (a := x * x) (by omega), tmod_pos (a := o * x) (by omega)]
      by_cases g : k % 2 = 1
      · rw [if_pos g]
        refine Ev.pos (by omega) (Ev.neg hp.ne ?_)
        exact ih _ _ _ (by omega) (by omega) (emodB hp.pos _) (emodB hp.pos _)
      · rw [if_neg g]
        refine Ev.neg (by omega) (Ev.neg hp.ne ?_)
        exact ih _ _ _ (by omega) (by omega) (emodB hp.pos _) ho
/-- x to the k-th power modulo p. -/
def powF (p x : Int) (k : Nat) : Int := powGo p k x k 1
theorem powF_in {p : Int} (hp : Pm p) (x : Int) (k : Nat) : 0 ≤ powF p x k ∧ powF p x k < p := powGo_in hp.pos _ _ _ _ (by have := hp.two; omega)
theorem implPow_ev {p : Int} (hp : Pm p) {x : Int} (hx : 0 ≤ x ∧ x < p) (k : Nat) (hk : k < 4611686018427387904) : Ev (fun n => impl_field_power.f n p x (k : Int)) (powF p x k) := by
  have h2 := hp.two
  unfold impl_field_power.f powF
  refine Ev.bindE (mod_eq hp _) ?_
  rw [Int.emod_eq_of_lt (by omega) (by omega)]
  exact implPow_l0 hp k x k 1 (Nat.le_refl _) hk hx (by omega)
theorem specPow_ev {p : Int} (hp : Pm p) {x : Int} (hx : 0 ≤ x ∧ x < p) (k : Nat) (hk : k < 4611686018427387904) : Ev (fun n => spec_l01Power.f n p x (k : Int)) (powF p x k) := by
  have h2 := hp.two
  unfold spec_l01Power.f powF
  refine Ev.bindE (a := x) ?_ (specPow_l0 hp k x k 1 (Nat.le_refl _) hk hx (by omega))
  unfold spec_l01Mod.f
  rw [if_neg hp.ne, go_mod hp, Int.emod_eq_of_lt hx.1 hx.2]
/- Inverses and quotients modulo p: what the program and the reference compute; no condition. -/
/-- The power p - 2. -/
def invF (p x : Int) : Int := powF p x (p.toNat - 2)
theorem invF_in {p : Int} (hp : Pm p) (x : Int) : 0 ≤ invF p x ∧ invF p x < p := powF_in hp _ _
theorem two_sub {p : Int} (hp : Pm p) : wrap64 (p - 2) = ((p.toNat - 2 : Nat) : Int) := by
  have := hp.two
  have := hp.top
  rw [wrap_id (by omega) (by omega)]
  omega
theorem implInv_ev {p : Int} (hp : Pm p) {x : Int} (hx : 0 ≤ x ∧ x < p) : Ev (fun n => impl_field_inverse.f n p x) (invF p x) := by
  have := hp.top
  unfold impl_field_inverse.f invF
  rw [two_sub hp]
  exact Ev.bind (implPow_ev hp hx _ (by omega)) (Ev.now _)
theorem specInv_ev {p : Int} (hp : Pm p) {x : Int} (hx : 0 ≤ x ∧ x < p) : Ev (fun n => spec_l01Inverse.f n p x) (invF p x) := by
  have := hp.top
  unfold spec_l01Inverse.f invF
  rw [two_sub hp]
  exact Ev.bind (specPow_ev hp hx _ (by omega)) (Ev.now _)
theorem mul_mod_mid (u v w p : Int) : (u * v % p * w) % p = (u * (v * w % p)) % p := by
  rw [Int.mul_emod (u * v % p), Int.emod_emod, ← Int.mul_emod, Int.mul_assoc, Int.mul_emod u (v * w % p), Int.emod_emod, ← Int.mul_emod]
theorem mul_mod_one (v w p : Int) : (v % p * w) % p = (v * w) % p := by
  rw [Int.mul_emod (v % p), Int.emod_emod, ← Int.mul_emod]
theorem sub_mod_right (c x p : Int) : (c - x % p) % p = (c - x) % p := by
  rw [Int.sub_emod, Int.emod_emod, ← Int.sub_emod]
end Go.Proofs.Ytfbnkebgdmfcfaa.Pr
