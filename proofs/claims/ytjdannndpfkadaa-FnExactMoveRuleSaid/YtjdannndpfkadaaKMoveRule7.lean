/- Texts of this session in one: what functions of the program compute, and plain facts of it, under the conditions that each theorem names. -/
import Derived.Test.YtjdannndpfkadaaKMoveRule2
import Derived.Test.YtjdannndpfkadaaKMoveRule3
import Derived.Test.YtjdannndpfkadaaKMoveRule4
import Derived.Test.YtjdannndpfkadaaKMoveRule6
namespace Go.Proofs.Ytjdannndpfkadaa.Pr
/- The laws' helpers at Rule: copies, comparisons, marks. -/
open Go.RowKit Go.Proofs.YtjdannndpfkadaaW.PrintWords Go.Proofs.YtjdannndpfkadaaW.PrintLast Go.Proofs.YtjdannndpfkadaaW.PrintMore
theorem toRule_ev (p : Int) (l0 l1 : List Int) (h0 : Sm l0.length) (h1 : Sm l1.length) : Ev (fun k => laws_toRule.f k p l0 l1) (p, l0, l1) := by
  unfold laws_toRule.f
  exact Ev.bind (toInt64S_ev _ h0) (Ev.bind (toInt64S_ev _ h1) (Ev.now _))
theorem eqRule_ev (p : Int) (l0 l1 : List Int) (h0 : Sm l0.length) (h1 : Sm l1.length) : Ev (fun k => laws_eqRule.f k p l0 l1 p l0 l1) true := by
  unfold laws_eqRule.f
  exact Ev.pos rfl (Ev.bind (eqInt64S_ev _ h0) (Ev.pos rfl (Ev.bind (eqInt64S_ev _ h1) (Ev.pos rfl (Ev.now _)))))
theorem markRule_ev (p : Int) (l0 l1 : List Int) (h0 : Sm l0.length) (h1 : Sm l1.length) (m : Nat) (hm : m ≤ 4194304) : Ev (fun k => laws_markRule.f k p l0 l1 (m : Int)) (((m + l0.length + l1.length : Nat) : Int), marks (m) l0.length, marks (m + l0.length) l1.length) := by
  unfold laws_markRule.f
  unfold Sm at h0 h1
  exact Ev.bind (markInt64S_ev _ _ h0 (by omega)) (Ev.bind (markInt64S_ev _ _ h1 (by omega)) (Ev.now _))
theorem heldRule_ev (p : Int) (n0 n1 : Nat) (h0 : Sm n0) (h1 : Sm n1) (m : Nat) (hm : m ≤ 4194304) : Ev (fun k => laws_heldRule.f k p (marks (m) n0) (marks (m + n0) n1) (m : Int)) ((m + n0 + n1 : Nat) : Int) := by
  unfold laws_heldRule.f
  unfold Sm at h0 h1
  exact Ev.bind (heldInt64S_ev _ _ h0 (by omega)) (Ev.neg (by omega) (Ev.bind (heldInt64S_ev _ _ h1 (by omega)) (Ev.neg (by omega) (Ev.now _))))
theorem szRule_yes (p : Int) (l0 l1 : List Int) (a : Nat) (ha : a ≤ 1048576) (h : l0.length + l1.length ≤ a) : laws_szRule.f p l0 l1 (a : Int) = some ((a - (l0.length + l1.length) : Nat) : Int) := by
  unfold laws_szRule.f
  rw [szInt64S_yes l0 (a) (by omega) (by omega), Option.bind_some, if_neg (by omega)]
  rw [szInt64S_yes l1 (a - l0.length) (by omega) (by omega), Option.bind_some, if_neg (by omega)]
  congr 2
  omega
theorem szRule_no (p : Int) (l0 l1 : List Int) (g0 : l0.length ≤ 9223372036854775807) (g1 : l1.length ≤ 9223372036854775807) (a : Nat) (ha : a ≤ 1048576) (h : a < l0.length + l1.length) : laws_szRule.f p l0 l1 (a : Int) = some (-1) := by
  unfold laws_szRule.f
  by_cases e0 : a < l0.length
  · rw [szInt64S_no l0 (a) g0 (by omega) e0, Option.bind_some, if_pos (by omega)]
  · rw [szInt64S_yes l0 (a) (by omega) (by omega), Option.bind_some, if_neg (by omega)]
    rw [szInt64S_no l1 (a - l0.length) g1 (by omega) (by omega), Option.bind_some, if_pos (by omega)]
/- Primes and numbers modulo p: what the program and the reference compute of them. -/
theorem in_eq (a b c : Int) : spec_l01In.f a b c = some (decide (b ≤ a ∧ a ≤ c)) := by
  unfold spec_l01In.f
  by_cases h : b ≤ a
  · rw [if_pos h]; simp [h]
  · rw [if_neg h]; simp [h]
theorem within_eq (a b c : Int) : impl_within.f a b c = some (decide (b ≤ a ∧ a ≤ c)) := by
  unfold impl_within.f
  by_cases h : b ≤ a
  · rw [if_pos h]; simp [h]
  · rw [if_neg h]; simp [h]
theorem has_eq (p x : Int) : impl_field_has.f p x = some (decide (0 ≤ x ∧ x < p)) := by
  unfold impl_field_has.f
  by_cases h : 0 ≤ x
  · rw [if_pos h]; simp [h]
  · rw [if_neg h]; simp [h]
theorem mod_eq {p : Int} (hp : Pm p) (x : Int) : impl_field_mod.f p x = some (x % p) := by
  unfold impl_field_mod.f
  rw [if_neg hp.ne, go_mod hp]

/-! ### primes -/
def noDiv (p : Int) (i : Nat) : Prop := ∀ j, j < 101 → i ≤ j → (j : Int) * (j : Int) ≤ p → p % (j : Int) ≠ 0
instance (p : Int) (i : Nat) : Decidable (noDiv p i) := by unfold noDiv; infer_instance
def primeB (p : Int) : Bool := decide (2 ≤ p ∧ p ≤ 10007) && decide (noDiv p 2)
theorem primeB.pm {p : Int} (h : primeB p = true) : Pm p := by
  simp only [primeB, Bool.and_eq_true, decide_eq_true_eq] at h
  exact ⟨h.1.1, h.1.2⟩
theorem noDiv_succ {p : Int} {i : Nat} (h : p % (i : Int) ≠ 0) : decide (noDiv p i) = decide (noDiv p (i + 1)) := by
  apply decide_eq_decide.2
  constructor
  · exact fun g j h1 h2 h3 => g j h1 (by omega) h3
  · intro g j h1 h2 h3
    by_cases e : j = i
    · subst e; exact h
    · exact g j h1 (by omega) h3
theorem noDiv_big {p : Int} {i : Nat} (h : p < (i : Int) * (i : Int)) : noDiv p i := by
  intro j h1 h2 h3
  have := mulB (a := (i : Int)) (b := (i : Int)) (m := (j : Int)) (n := (j : Int)) (by omega) (by omega) (by omega) (by omega)
  omega
theorem sqB {i : Nat} (h : i ≤ 101) : 0 ≤ (i : Int) * (i : Int) ∧ (i : Int) * (i : Int) ≤ 10201 := by
  have := mulB (a := (i : Int)) (b := (i : Int)) (m := 101) (n := 101) (by omega) (by omega) (by omega) (by omega)
  omega
theorem specPrime_l0 {p : Int} (h2 : 2 ≤ p) (ht : p ≤ 10007) (d : Nat) : ∀ i, 2 ≤ i → i + d = 101 → Ev (fun k => spec_l01Prime.l0 k p (i : Int)) (decide (noDiv p i)) := by
  induction d with
  | zero =>
    intro i hi hd
    obtain rfl : i = 101 := by omega
    refine Ev.step (fun k => by rw [spec_l01Prime.l0]) ?_
    refine Ev.neg (by rw [wrap_id (by omega) (by omega)]; omega) (Ev.some' ?_)
    exact (decide_eq_true (noDiv_big (by omega))).symm
  | succ d ih =>
    intro i hi hd
    have hb := sqB (i := i) (by omega)
    refine Ev.step (fun k => by rw [spec_l01Prime.l0]) ?_
    rw [wrap_id (x := (i : Int) * (i : Int)) (by omega) (by omega), tmod_pos (by omega)]
    by_cases h : (i : Int) * (i : Int) ≤ p
    · refine Ev.pos h (Ev.neg (by omega) ?_)
      by_cases h3 : p % (i : Int) = 0
      · exact Ev.pos h3 (Ev.some' (decide_eq_false (fun g => g i (by omega) (by omega) h h3)).symm)
      · refine Ev.neg h3 ?_
        rw [noDiv_succ h3, wsucc (i := i) (n := 101) (by omega) (by omega)]
        exact ih (i + 1) (by omega) (by omega)
    · exact Ev.neg h (Ev.some' (decide_eq_true (noDiv_big (by omega))).symm)
theorem implPrime_l0 {p : Int} (h2 : 2 ≤ p) (ht : p ≤ 10007) (d : Nat) : ∀ i, 2 ≤ i → i + d = 101 → Ev (fun k => impl_IsPrime.l0 k p (i : Int)) (decide (noDiv p i)) := by
  induction d with
  | zero =>
    intro i hi hd
    obtain rfl : i = 101 := by omega
    refine Ev.step (fun k => by rw [impl_IsPrime.l0]) ?_
    refine Ev.neg (by rw [wrap_id (by omega) (by omega)]; omega) (Ev.some' ?_)
    exact (decide_eq_true (noDiv_big (by omega))).symm
  | succ d ih =>
    intro i hi hd
    have hb := sqB (i := i) (by omega)
    refine Ev.step (fun k => by rw [impl_IsPrime.l0]) ?_
    rw [wrap_id (x := (i : Int) * (i : Int)) (by omega) (by omega), tmod_pos (by omega)]
    by_cases h : (i : Int) * (i : Int) ≤ p
    · refine Ev.pos h (Ev.neg (by omega) ?_)
      by_cases h3 : p % (i : Int) = 0
      · exact Ev.pos h3 (Ev.some' (decide_eq_false (fun g => g i (by omega) (by omega) h h3)).symm)
      · refine Ev.neg h3 ?_
        rw [noDiv_succ h3, wsucc (i := i) (n := 101) (by omega) (by omega)]
        exact ih (i + 1) (by omega) (by omega)
    · exact Ev.neg h (Ev.some' (decide_eq_true (noDiv_big (by omega))).symm)
theorem specPrime_ev (p : Int) : Ev (fun k => spec_l01Prime.f k p) (primeB p) := by
  unfold spec_l01Prime.f primeB
  refine Ev.bindE (in_eq _ _ _) ?_
  by_cases h : 2 ≤ p ∧ p ≤ 10007
  · refine Ev.pos (decide_eq_true h) ?_
    rw [decide_eq_true h, Bool.true_and]
    exact specPrime_l0 h.1 h.2 99 2 (by omega) (by omega)
  · refine Ev.neg (by simp [h]) (Ev.some' ?_)
    rw [decide_eq_false h, Bool.false_and]
theorem implPrime_ev (p : Int) : Ev (fun k => impl_IsPrime.f k p) (primeB p) := by
  unfold impl_IsPrime.f primeB
  refine Ev.bindE (within_eq _ _ _) ?_
  by_cases h : 2 ≤ p ∧ p ≤ 10007
  · refine Ev.pos (decide_eq_true h) ?_
    rw [decide_eq_true h, Bool.true_and]
    exact implPrime_l0 h.1 h.2 99 2 (by omega) (by omega)
  · refine Ev.neg (by simp [h]) (Ev.some' ?_)
    rw [decide_eq_false h, Bool.false_and]

/-! ### numbers modulo p -/
theorem Nm_cons (p x : Int) (l : List Int) : Nm p (x :: l) ↔ (0 ≤ x ∧ x < p) ∧ Nm p l := by
  constructor
  · exact fun h => ⟨h x (List.mem_cons_self ..), fun y hy => h y (List.mem_cons_of_mem _ hy)⟩
  · exact fun h => Nm.cons h.1.1 h.1.2 h.2
theorem allO_has (p : Int) (l : List Int) : allO (fun z_ => impl_field_has.f p z_) l = some (decide (Nm p l)) := by
  induction l with
  | nil => simp only [allO]; rw [decide_eq_true (Nm.nil p)]
  | cons x l ih =>
    simp only [has_eq] at ih
    simp only [allO, has_eq, Option.bind_some]
    by_cases h : 0 ≤ x ∧ x < p
    · rw [if_pos (decide_eq_true h), ih]
      congr 1
      apply decide_eq_decide.2
      rw [Nm_cons]
      exact ⟨fun g => ⟨h, g⟩, fun g => g.2⟩
    · rw [if_neg (by simp [h])]
      congr 1
      exact (decide_eq_false (fun g => h ((Nm_cons p x l).1 g).1)).symm
theorem areAll_has (p : Int) (l : List Int) (hl : l.length < 4611686018427387904) : impl_areAll_int64.f l (fun z_ => impl_field_has.f p z_) = some (decide (Nm p l)) := by
  unfold impl_areAll_int64.f
  rw [if_pos hl, allO_has]
theorem Nm_drop {p : Int} {l : List Int} {i : Nat} (h : i < l.length) : Nm p (l.drop i) ↔ (0 ≤ l.getD i 0 ∧ l.getD i 0 < p) ∧ Nm p (l.drop (i + 1)) := by
  rw [drop_cons l 0 i h, Nm_cons]
/-! ### sums -/
def sumTo (g : Nat → Int) : Nat → Int
  | 0 => 0
  | n + 1 => sumTo g n + g n
/- Data of recurrences: which lists are such data, for the program and for the reference; their codes; no condition. -/
/-- Numbers modulo p other than 0. -/
def Um (p : Int) (l : List Int) : Prop := ∀ x ∈ l, 1 ≤ x ∧ x < p
instance (p : Int) (l : List Int) : Decidable (Um p l) := by unfold Um; infer_instance
theorem Um.nil (p : Int) : Um p [] := fun x h => by cases h
theorem Um_cons (p x : Int) (l : List Int) : Um p (x :: l) ↔ (1 ≤ x ∧ x < p) ∧ Um p l := by
  constructor
  · exact fun h => ⟨h x (List.mem_cons_self ..), fun y hy => h y (List.mem_cons_of_mem _ hy)⟩
  · intro h y hy
    rcases List.mem_cons.1 hy with rfl | hy
    · exact h.1
    · exact h.2 y hy
theorem Um.nm {p : Int} {l : List Int} (h : Um p l) : Nm p l := fun x hx => by have := h x hx; omega
theorem Um_drop {p : Int} {l : List Int} {i : Nat} (h : i < l.length) : Um p (l.drop i) ↔ (1 ≤ l.getD i 0 ∧ l.getD i 0 < p) ∧ Um p (l.drop (i + 1)) := by
  rw [drop_cons l 0 i h, Um_cons]
theorem isUnit_eq {p : Int} (hp : -9223372036854775807 ≤ p) (hp' : p ≤ 9223372036854775807) (x : Int) : impl_field_isUnit.f p x = some (decide (1 ≤ x ∧ x < p)) := by
  unfold impl_field_isUnit.f
  rw [within_eq, wrap_id (by omega) (by omega)]
  simp only [Option.bind_some]
  congr 1
  apply decide_eq_decide.2
  omega
theorem allO_unit {p : Int} (hp : -9223372036854775807 ≤ p) (hp' : p ≤ 9223372036854775807) (l : List Int) : allO (fun z_ => impl_field_isUnit.f p z_) l = some (decide (Um p l)) := by
  induction l with
  | nil => simp only [allO]; rw [decide_eq_true (Um.nil p)]
  | cons x l ih =>
    simp only [isUnit_eq hp hp'] at ih
    simp only [allO, isUnit_eq hp hp', Option.bind_some]
    by_cases h : 1 ≤ x ∧ x < p
    · rw [if_pos (decide_eq_true h), ih]
      congr 1
      apply decide_eq_decide.2
      rw [Um_cons]
      exact ⟨fun g => ⟨h, g⟩, fun g => g.2⟩
    · rw [if_neg (by simp [h])]
      congr 1
      exact (decide_eq_false (fun g => h ((Um_cons p x l).1 g).1)).symm
theorem areAll_unit {p : Int} (hp : -9223372036854775807 ≤ p) (hp' : p ≤ 9223372036854775807) (l : List Int) (hl : l.length < 4611686018427387904) : impl_areAll_int64.f l (fun z_ => impl_field_isUnit.f p z_) = some (decide (Um p l)) := by
  unfold impl_areAll_int64.f
  rw [if_pos hl, allO_unit hp hp']

def jacB (p : Int) (a b : List Int) : Bool := primeB p && decide (((1 ≤ a.length ∧ a.length ≤ 12) ∧ b.length = a.length) ∧ (Nm p a ∧ Um p b))
theorem jacB.prime {p : Int} {a b : List Int} (h : jacB p a b = true) : primeB p = true := by simp only [jacB, Bool.and_eq_true] at h; exact h.1
theorem jacB.pm {p : Int} {a b : List Int} (h : jacB p a b = true) : Pm p := primeB.pm (jacB.prime h)
theorem jacB.all {p : Int} {a b : List Int} (h : jacB p a b = true) : ((1 ≤ a.length ∧ a.length ≤ 12) ∧ b.length = a.length) ∧ (Nm p a ∧ Um p b) := by
  simp only [jacB, Bool.and_eq_true, decide_eq_true_eq] at h; exact h.2

theorem specJac_l0 {p : Int} (hp : Pm p) (a b : List Int) (hl : Sm a.length) (hab : b.length = a.length) (d : Nat) : ∀ i, i + d = a.length →
    Ev (fun k => spec_l03Is.l0 k (i : Int) p a b) (decide (Nm p (a.drop i) ∧ Um p (b.drop i))) := by
  induction d with
  | zero =>
    intro i hi
    refine Ev.step (fun k => by rw [spec_l03Is.l0]) ?_
    refine Ev.neg (by omega) (Ev.some' ?_)
    rw [List.drop_eq_nil_of_le (by omega), List.drop_eq_nil_of_le (by omega)]
    exact (decide_eq_true ⟨Nm.nil p, Um.nil p⟩).symm
  | succ d ih =>
    intro i hi
    unfold Sm at hl
    have h2 := hp.two
    have ht := hp.top
    refine Ev.step (fun k => by rw [spec_l03Is.l0]) ?_
    refine Ev.pos (by omega) (Ev.pos (by omega) (Ev.bindE (in_eq _ _ _) ?_))
    rw [rd_nat, rd_nat, wrap_id (x := p - 1) (by omega) (by omega)]
    by_cases h : 0 ≤ a.getD i 0 ∧ a.getD i 0 ≤ p - 1
    · refine Ev.pos (decide_eq_true h) (Ev.pos (by omega) (Ev.bindE (in_eq _ _ _) ?_))
      by_cases g : 1 ≤ b.getD i 0 ∧ b.getD i 0 ≤ p - 1
      · refine Ev.pos (decide_eq_true g) ?_
        rw [wsucc (i := i) (n := a.length) (by omega) (by omega)]
        refine Ev.cast (ih (i + 1) (by omega)) ?_
        apply decide_eq_decide.2
        rw [Nm_drop (l := a) (i := i) (by omega), Um_drop (l := b) (i := i) (by omega)]
        exact ⟨fun q => ⟨⟨by omega, q.1⟩, ⟨by omega, q.2⟩⟩, fun q => ⟨q.1.2, q.2.2⟩⟩
      · refine Ev.neg (by simp only [decide_eq_true_eq]; exact g) (Ev.some' ?_)
        exact (decide_eq_false (fun q => g (by have := ((Um_drop (p := p) (l := b) (i := i) (by omega)).1 q.2).1; omega))).symm
    · refine Ev.neg (by simp only [decide_eq_true_eq]; exact h) (Ev.some' ?_)
      exact (decide_eq_false (fun q => h (by have := ((Nm_drop (p := p) (l := a) (i := i) (by omega)).1 q.1).1; omega))).symm
theorem specJac_ev (p : Int) (a b : List Int) (ha : Sm a.length) (_hb : Sm b.length) : Ev (fun k => spec_l03Is.f k p a b) (jacB p a b) := by
  unfold spec_l03Is.f jacB
  refine Ev.bind (specPrime_ev p) ?_
  by_cases hp : primeB p = true
  · rw [hp, Bool.true_and]
    refine Ev.pos rfl ?_
    by_cases h1 : 1 ≤ a.length
    · refine Ev.neg (by omega) ?_
      by_cases h2 : a.length ≤ 12
      · refine Ev.neg (by omega) ?_
        by_cases h3 : b.length = a.length
        · rw [show (((b.length : Int) != (a.length : Int)) : Bool) = false from by simp [h3]]
          refine Ev.step (fun k => by rw [spec_l03Is.j0]) ?_
          refine Ev.neg (by decide) ?_
          refine Ev.cast (specJac_l0 (primeB.pm hp) a b ha h3 a.length 0 (by omega)) ?_
          apply decide_eq_decide.2
          exact ⟨fun g => ⟨⟨⟨h1, h2⟩, h3⟩, g⟩, fun g => g.2⟩
        · rw [show (((b.length : Int) != (a.length : Int)) : Bool) = true from by simp; omega]
          refine Ev.step (fun k => by rw [spec_l03Is.j0]) ?_
          refine Ev.pos rfl (Ev.some' (decide_eq_false (fun g => h3 g.1.2)).symm)
      · refine Ev.pos (by omega) ?_
        refine Ev.step (fun k => by rw [spec_l03Is.j0]) ?_
        refine Ev.pos rfl (Ev.some' (decide_eq_false (fun g => h2 g.1.1.2)).symm)
    · refine Ev.pos (by omega) ?_
      refine Ev.step (fun k => by rw [spec_l03Is.j0]) ?_
      refine Ev.pos rfl (Ev.some' (decide_eq_false (fun g => h1 g.1.1.1)).symm)
  · rw [Bool.eq_false_iff.2 hp, Bool.false_and]
    refine Ev.neg (by simp) ?_
    refine Ev.step (fun k => by rw [spec_l03Is.j0]) ?_
    exact Ev.pos rfl (Ev.now _)
theorem size_eq (p : Int) (a b : List Int) : impl_Jacobi_size.f p a b = some (a.length : Int) := by
  unfold impl_Jacobi_size.f impl_length_int64.f; rfl
theorem implJac_ev (p : Int) (a b : List Int) (ha : Sm a.length) (hb : Sm b.length) : Ev (fun k => impl_IsJacobi.f k p a b) (jacB p a b) := by
  unfold impl_IsJacobi.f jacB
  refine Ev.bind (implPrime_ev p) ?_
  have ha' := ha
  have hb' := hb
  unfold Sm at ha' hb'
  by_cases hp : primeB p = true
  · have h2 := (primeB.pm hp).two
    have ht := (primeB.pm hp).top
    rw [hp, Bool.true_and]
    refine Ev.pos rfl (Ev.bindE (size_eq p a b) (Ev.bindE (within_eq _ _ _) ?_))
    by_cases h1 : 1 ≤ a.length ∧ a.length ≤ 12
    · refine Ev.pos (decide_eq_true (by omega)) ?_
      by_cases h3 : b.length = a.length
      · refine Ev.pos (by omega) (Ev.bindE (a := p) rfl (Ev.bindE (areAll_has p a (by omega)) ?_))
        by_cases h4 : Nm p a
        · refine Ev.pos (decide_eq_true h4) (Ev.bindE (a := p) rfl (Ev.bindE (areAll_unit (by omega) (by omega) b (by omega)) (Ev.some' ?_)))
          apply decide_eq_decide.2
          exact ⟨fun g => ⟨⟨h1, h3⟩, h4, g⟩, fun g => g.2.2⟩
        · refine Ev.neg (by simp only [decide_eq_true_eq]; exact h4) (Ev.some' ?_)
          exact (decide_eq_false (fun g => h4 g.2.1)).symm
      · exact Ev.neg (by omega) (Ev.some' (decide_eq_false (fun g => h3 g.1.2)).symm)
    · refine Ev.neg (by simp only [decide_eq_true_eq]; omega) (Ev.some' ?_)
      exact (decide_eq_false (fun g => h1 g.1.1)).symm
  · rw [Bool.eq_false_iff.2 hp, Bool.false_and]
    exact Ev.neg (by simp) (Ev.now _)
/-- The code of data and a range. -/
def jacC (p : Int) (a b : List Int) (r : Bool) : Int := if jacB p a b = true then (if r = true then 0 else 2) else 1
theorem implJacCode_ev (p : Int) (a b : List Int) (r : Bool) (ha : Sm a.length) (hb : Sm b.length) : Ev (fun k => impl_jacobiCode.f k p a b r) (jacC p a b r) := by
  unfold impl_jacobiCode.f jacC
  refine Ev.bind (implJac_ev p a b ha hb) ?_
  by_cases h : jacB p a b = true
  · rw [if_pos h, if_pos h]
    by_cases g : r = true
    · rw [if_pos g, if_pos g]; exact Ev.now _
    · rw [if_neg g, if_neg g]; exact Ev.now _
  · rw [if_neg h, if_neg h]; exact Ev.now _
theorem jacC0 {p : Int} {a b : List Int} {r : Bool} (h : jacC p a b r = 0) : jacB p a b = true ∧ r = true := by
  unfold jacC at h
  split at h
  · split at h
    · exact ⟨‹_›, ‹_›⟩
    · omega
  · omega
/- Polynomials and the program's code for them; no condition. -/
/-! ### polynomials -/
def lastOk (l : List Int) : Bool := decide (l.length = 0) || (l.getD (l.length - 1) 0 != 0)
def polyB (p : Int) (l : List Int) : Bool := decide (Nm p l) && (decide (l.length ≤ 25) && lastOk l)
theorem lastPart (l : List Int) (hl : Sm l.length) :
    (if (l.length : Int) = 0 then (some true) else (if 0 ≤ (wrap64 ((l.length : Int) - 1)) then (if (wrap64 ((l.length : Int) - 1)) < (l.length : Int) then (some ((rd l (wrap64 ((l.length : Int) - 1))) != 0)) else none) else none)) = some (lastOk l) := by
  unfold lastOk
  by_cases h : l.length = 0
  · rw [if_pos (by omega)]; simp [h]
  · rw [if_neg (by omega), wpred (by omega) (by unfold Sm at hl; omega), if_pos (by omega), if_pos (by omega), rd_nat]
    simp [h]
theorem implPoly_eq (p : Int) (l : List Int) (hl : Sm l.length) : impl_IsPoly.f p l = some (polyB p l) := by
  unfold impl_IsPoly.f polyB
  by_cases h : l.length ≤ 25
  · rw [if_pos (by omega), areAll_has p l (by omega), Option.bind_some]
    by_cases hn : Nm p l
    · rw [if_pos (decide_eq_true hn), lastPart l hl]; simp [h, hn]
    · rw [if_neg (by simp [hn])]; simp [hn]
  · rw [if_neg (by omega)]; simp [h]
theorem allO_poly (p : Int) (ls : List (List Int)) (hl : ∀ l ∈ ls, Sm l.length) : allO (fun z_ => impl_polyCode_1.f z_ p) ls = some (ls.all (polyB p)) := by
  induction ls with
  | nil => rfl
  | cons l ls ih =>
    have e : impl_polyCode_1.f l p = some (polyB p l) := by
      unfold impl_polyCode_1.f
      rw [implPoly_eq p l (hl l (List.mem_cons_self ..))]; rfl
    simp only [allO, e, Option.bind_some, List.all_cons]
    by_cases h : polyB p l = true
    · rw [if_pos h, ih (fun m hm => hl m (List.mem_cons_of_mem _ hm)), h, Bool.true_and]
    · rw [if_neg h, Bool.eq_false_iff.2 h, Bool.false_and]
theorem polyCode_ev (p : Int) (b : Bool) (ls : List (List Int)) (hs : Sm ls.length) (hl : ∀ l ∈ ls, Sm l.length) :
    Ev (fun k => impl_polyCode.f k p b ls) (if ls.all (polyB p) then (if primeB p && b then 0 else 2) else 1) := by
  unfold impl_polyCode.f
  have e : impl_areAll_rows.f ls (fun z_ => impl_polyCode_1.f z_ p) = some (ls.all (polyB p)) := by
    unfold impl_areAll_rows.f
    rw [if_pos (by unfold Sm at hs; omega), allO_poly p ls hl]
  refine Ev.bindE e ?_
  by_cases h : ls.all (polyB p) = true
  · refine Ev.pos h (Ev.bind (implPrime_ev p) ?_)
    rw [if_pos h]
    cases primeB p <;> cases b <;> exact ⟨0, fun _ _ => rfl⟩
  · refine Ev.neg h (Ev.some' ?_)
    rw [if_neg h]
/- A prime divides a product only with one of its factors. -/
theorem primeB.div {p : Int} (h : primeB p = true) {j : Nat} (h2 : 2 ≤ j) (hj : (j : Int) * (j : Int) ≤ p) : ¬ (j : Int) ∣ p := by
  intro hd
  simp only [primeB, Bool.and_eq_true, decide_eq_true_eq] at h
  have hj1 : j < 101 := by
    apply Decidable.byContradiction
    intro g
    have := mulB (a := (101 : Int)) (b := (101 : Int)) (m := (j : Int)) (n := (j : Int)) (by omega) (by omega) (by omega) (by omega)
    omega
  exact h.2 j hj1 h2 hj (Int.emod_eq_zero_of_dvd hd)
theorem primeB.gcd {p : Nat} (h : primeB (p : Int) = true) {a : Nat} (h1 : 1 ≤ a) (ha : a < p) : Nat.gcd p a = 1 := by
  obtain ⟨g, hg⟩ : ∃ g, Nat.gcd p a = g := ⟨_, rfl⟩
  have hp := (primeB.pm h).two
  have d1 : g ∣ p := hg ▸ Nat.gcd_dvd_left p a
  have d2 : g ∣ a := hg ▸ Nat.gcd_dvd_right p a
  have l1 : g ≤ a := Nat.le_of_dvd (by omega) d2
  have l0 : 0 < g := hg ▸ Nat.gcd_pos_of_pos_right p (by omega)
  rw [hg]
  apply Decidable.byContradiction
  intro hne
  obtain ⟨q, hq⟩ := d1
  have hq2 : 2 ≤ q := by
    rcases Nat.lt_or_ge q 2 with g2 | g2
    · exfalso
      have : q = 0 ∨ q = 1 := by omega
      rcases this with rfl | rfl
      · omega
      · omega
    · exact g2
  rcases Nat.le_total g q with hle | hle
  · refine primeB.div h (j := g) (by omega) ?_ ⟨(q : Int), by rw [hq]; simp⟩
    have := Nat.mul_le_mul_left g hle
    rw [← hq] at this
    exact_mod_cast this
  · refine primeB.div h (j := q) hq2 ?_ ⟨(g : Int), by rw [hq, Int.natCast_mul]; exact Int.mul_comm _ _⟩
    have := Nat.mul_le_mul_right q hle
    rw [← hq] at this
    exact_mod_cast this
/-- A number that p does not divide may be left out. -/
theorem primeB.cancel {p a d : Int} (h : primeB p = true) (ha : 1 ≤ a ∧ a < p) (hd : p ∣ a * d) : p ∣ d := by
  obtain ⟨P, rfl⟩ : ∃ P : Nat, p = (P : Int) := ⟨p.toNat, by omega⟩
  obtain ⟨A, rfl⟩ : ∃ A : Nat, a = (A : Int) := ⟨a.toNat, by omega⟩
  have hg := primeB.gcd h (a := A) (by omega) (by omega)
  have h1 := Int.natAbs_dvd_natAbs.2 hd
  rw [Int.natAbs_mul] at h1
  have h2 : P ∣ d.natAbs := Nat.Coprime.dvd_of_dvd_mul_left (k := P) (m := A) (n := d.natAbs) hg h1
  exact Int.natAbs_dvd_natAbs.1 h2
theorem primeB.mul {p a d : Int} (h : primeB p = true) (hd : a * d % p = 0) : a % p = 0 ∨ d % p = 0 := by
  have hp := (primeB.pm h).pos
  have hb := emodB hp a
  by_cases ha : a % p = 0
  · exact .inl ha
  · right
    apply Int.emod_eq_zero_of_dvd
    refine primeB.cancel h (a := a % p) ⟨by omega, hb.2⟩ (Int.dvd_of_emod_eq_zero ?_)
    rw [Int.mul_emod, Int.emod_emod, ← Int.mul_emod]
    exact hd
end Go.Proofs.Ytjdannndpfkadaa.Pr
