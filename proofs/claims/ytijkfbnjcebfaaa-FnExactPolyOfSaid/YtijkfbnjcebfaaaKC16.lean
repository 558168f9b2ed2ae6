/- Texts of this session in one: what functions of the program compute, and plain facts of it, under the conditions that each theorem names. -/
import Derived.Test.YtijkfbnjcebfaaaKC02
import Derived.Test.YtijkfbnjcebfaaaKC11
import Derived.Test.YtijkfbnjcebfaaaKC12
import Derived.Test.YtijkfbnjcebfaaaKC13
import Derived.Test.YtijkfbnjcebfaaaKC14
import Derived.Test.YtijkfbnjcebfaaaKC15
namespace Go.Proofs.Ytijkfbnjcebfaaa.Pr
/- Data of recurrences: which lists are such data, for the program and for the reference; their codes; no condition. -/
open Go.RowKit Go.Proofs.YtijkfbnjcebfaaaW.PrintWords Go.Proofs.YtijkfbnjcebfaaaW.PrintLast Go.Proofs.YtijkfbnjcebfaaaW.PrintMore
/-- Numbers modulo p other than 0. -/
def Um (p : Int) (l : List Int) : Prop := ∀ x ∈ l, 1 ≤ x ∧ x < p
instance (p : Int) (l : List Int) : Decidable (Um p l) := by unfold Um; infer_instance
theorem Um.nil (p : Int) : Um p [] := fun x h => by cases h
theorem Um_cons (p x : Int) (l : List Int) : Um p (x :: l) ↔ (1 ≤ x ∧ x < p) ∧ Um p l := by
  constructor
  · exact fun h => ⟨h x (List.mem_cons_self ..), fun y hy => h y (List.mem_cons_of_mem _ hy)⟩
  · intro h y hy
    rcases List.mem_cons.1 hy with rfl | hy
    · exact h.1
    · exact h.2 y hy
theorem Um.nm {p : Int} {l : List Int} (h : Um p l) : Nm p l := fun x hx => by have := h x hx; omega
theorem Um_drop {p : Int} {l : List Int} {i : Nat} (h : i < l.length) : Um p (l.drop i) ↔ (1 ≤ l.getD i 0 ∧ l.getD i 0 < p) ∧ Um p (l.drop (i + 1)) := by
  rw [drop_cons l 0 i h, Um_cons]
theorem isUnit_eq {p : Int} (hp : -9223372036854775807 ≤ p) (hp' : p ≤ 9223372036854775807) (x : Int) : impl_field_isUnit.f p x = some (decide (1 ≤ x ∧ x < p)) := by
  unfold impl_field_isUnit.f
  rw [within_eq, wrap_id (by omega) (by omega)]
  simp only [Option.bind_some]
  congr 1
  apply decide_eq_decide.2
  omega
theorem allO_unit {p : Int} (hp : -9223372036854775807 ≤ p) (hp' : p ≤ 9223372036854775807) (l : List Int) : allO (fun z_ => impl_field_isUnit.f p z_) l = some (decide (Um p l)) := by
  induction l with
  | nil => simp only [allO]; rw [decide_eq_true (Um.nil p)]
  | cons x l ih =>
    simp only [isUnit_eq hp hp'] at ih
    simp only [allO, isUnit_eq hp hp', Option.bind_some]
    by_cases h : 1 ≤ x ∧ x < p
    · rw [if_pos (decide_eq_true h), ih]
      congr 1
      apply decide_eq_decide.2
      rw [Um_cons]
      exact ⟨fun g => ⟨h, g⟩, fun g => g.2⟩
    · rw [if_neg (by simp [h])]
      congr 1
      exact (decide_eq_false (fun g => h ((Um_cons p x l).1 g).1)).symm
theorem areAll_unit {p : Int} (hp : -9223372036854775807 ≤ p) (hp' : p ≤ 9223372036854775807) (l : List Int) (hl : l.length < 4611686018427387904) : impl_areAll_int64.f l (fun z_ => impl_field_isUnit.f p z_) = some (decide (Um p l)) := by
  unfold impl_areAll_int64.f
  rw [if_pos hl, allO_unit hp hp']

def jacB (p : Int) (a b : List Int) : Bool := primeB p && decide (((1 ≤ a.length ∧ a.length ≤ 12) ∧ b.length = a.length) ∧ (Nm p a ∧ Um p b))
theorem jacB.prime {p : Int} {a b : List Int} (h : jacB p a b = true) : primeB p = true := by simp only [jacB, Bool.and_eq_true] at h; exact h.1
theorem jacB.pm {p : Int} {a b : List Int} (h : jacB p a b = true) : Pm p := primeB.pm (jacB.prime h)
theorem jacB.all {p : Int} {a b : List Int} (h : jacB p a b = true) : ((1 ≤ a.length ∧ a.length ≤ 12) ∧ b.length = a.length) ∧ (Nm p a ∧ Um p b) := by
  simp only [jacB, Bool.and_eq_true, decide_eq_true_eq] at h; exact h.2

theorem specJac_l0 {p : Int} (hp : Pm p) (a b : List Int) (hl : Sm a.length) (hab : b.length = a.length) (d : Nat) : ∀ i, i + d = a.length →
    Ev (fun k => spec_l03Is.l0 k (i : Int) p a b) (decide (Nm p (a.drop i) ∧ Um p (b.drop i))) := by
  induction d with
  | zero =>
    intro i hi
    refine Ev.step (fun k => by rw [spec_l03Is.l0]) ?_
    refine Ev.neg (by omega) (Ev.some' ?_)
    rw [List.drop_eq_nil_of_le (by omega), List.drop_eq_nil_of_le (by omega)]
    exact (decide_eq_true ⟨Nm.nil p, Um.nil p⟩).symm
  | succ d ih =>
    intro i hi
    unfold Sm at hl
    have h2 := hp.two
    have ht := hp.top
    refine Ev.step (fun k => by rw [spec_l03Is.l0]) ?_
    refine Ev.pos (by omega) (Ev.pos (by omega) (Ev.bindE (in_eq _ _ _) ?_))
    rw [rd_nat, rd_nat, wrap_id (x := p - 1) (by omega) (by omega)]
    by_cases h : 0 ≤ a.getD i 0 ∧ a.getD i 0 ≤ p - 1
    · refine Ev.pos (decide_eq_true h) (Ev.pos (by omega) (Ev.bindE (in_eq _ _ _) ?_))
      by_cases g : 1 ≤ b.getD i 0 ∧ b.getD i 0 ≤ p - 1
      · refine Ev.pos (decide_eq_true g) ?_
        rw [wsucc (i := i) (n := a.length) (by omega) (by omega)]
        refine Ev.cast (ih (i + 1) (by omega)) ?_
        apply decide_eq_decide.2
        rw [Nm_drop (l := a) (i := i) (by omega), Um_drop (l := b) (i := i) (by omega)]
        exact ⟨fun q => ⟨⟨by omega, q.1⟩, ⟨by omega, q.2⟩⟩, fun q => ⟨q.1.2, q.2.2⟩⟩
      · refine Ev.neg (by simp only [decide_eq_true_eq]; exact g) (Ev.some' ?_)
        exact (decide_eq_false (fun q => g (by have := ((Um_drop (p := p) (l := b) (i := i) (by omega)).1 q.2).1; omega))).symm
    · refine Ev.neg (by simp only [decide_eq_true_eq]; exact h) (Ev.some' ?_)
      exact (decide_eq_false (fun q => h (by have := ((Nm_drop (p := p) (l := a) (i := i) (by omega)).1 q.1).1; omega))).symm
theorem specJac_ev (p : Int) (a b : List Int) (ha : Sm a.length) (_hb : Sm b.length) : Ev (fun k => spec_l03Is.f k p a b) (jacB p a b) := by
  unfold spec_l03Is.f jacB
  refine Ev.bind (specPrime_ev p) ?_
  by_cases hp : primeB p = true
  · rw [hp, Bool.true_and]
    refine Ev.pos rfl ?_
    by_cases h1 : 1 ≤ a.length
    · refine Ev.neg (by omega) ?_
      by_cases h2 : a.length ≤ 12
      · refine Ev.neg (by omega) ?_
        by_cases h3 : b.length = a.length
        · rw [show (((b.length : Int) != (a.length : Int)) : Bool) = false from by simp [h3]]
          refine Ev.step (fun k => by rw [spec_l03Is.j0]) ?_
          refine Ev.neg (by decide) ?_
          refine Ev.cast (specJac_l0 (primeB.pm hp) a b ha h3 a.length 0 (by omega)) ?_
          apply decide_eq_decide.2
          exact ⟨fun g => ⟨⟨⟨h1, h2⟩, h3⟩, g⟩, fun g => g.2⟩
        · rw [show (((b.length : Int) != (a.length : Int)) : Bool) = true from by simp; omega]
          refine Ev.step (fun k => by rw [spec_l03Is.j0]) ?_
          refine Ev.pos rfl (Ev.some' (decide_eq_false (fun g => h3 g.1.2)).symm)
      · refine Ev.pos (by omega) ?_
        refine Ev.step (fun k => by rw [spec_l03Is.j0]) ?_
        refine Ev.pos rfl (Ev.some' (decide_eq_false (fun g => h2 g.1.1.2)).symm)
    · refine Ev.pos (by omega) ?_
      refine Ev.step (fun k => by rw [spec_l03Is.j0]) ?_
      refine Ev.pos rfl (Ev.some' (decide_eq_false (fun g => h1 g.1.1.1)).symm)
  · rw [Bool.eq_false_iff.2 hp, Bool.false_and]
    refine Ev.neg (by simp) ?_
    refine Ev.step (fun k => by rw [spec_l03Is.j0]) ?_
    exact Ev.pos rfl (Ev.now _)
theorem size_eq (p : Int) (a b : List Int) : impl_Jacobi_size.f p a b = some (a.length : Int) := by
  unfold impl_Jacobi_size.f impl_length_int64.f; rfl
theorem implJac_ev (p : Int) (a b : List Int) (ha : Sm a.length) (hb : Sm b.length) : Ev (fun k => impl_IsJacobi.f k p a b) (jacB p a b) := by
  unfold impl_IsJacobi.f jacB
  refine Ev.bind (implPrime_ev p) ?_
  have ha' := ha
  have hb' := hb
  unfold Sm at ha' hb'
  by_cases hp : primeB p = true
  · have h2 := (primeB.pm hp).two
    have ht := (primeB.pm hp).top
    rw [hp, Bool.true_and]
    refine Ev.pos rfl (Ev.bindE (size_eq p a b) (Ev.bindE (within_eq _ _ _) ?_))
    by_cases h1 : 1 ≤ a.length ∧ a.length ≤ 12
    · refine Ev.pos (decide_eq_true (by omega)) ?_
      by_cases h3 : b.length = a.length
      · refine Ev.pos (by omega) (Ev.bindE (a := p) rfl (Ev.bindE (areAll_has p a (by omega)) ?_))
        by_cases h4 : Nm p a
        · refine Ev.pos (decide_eq_true h4) (Ev.bindE (a := p) rfl (Ev.bindE (areAll_unit (by omega) (by omega) b (by omega)) (Ev.some' ?_)))
          apply decide_eq_decide.2
          exact ⟨fun g => ⟨⟨h1, h3⟩, h4, g⟩, fun g => g.2.2⟩
        · refine Ev.neg (by simp only [decide_eq_true_eq]; exact h4) (Ev.some' ?_)
          exact (decide_eq_false (fun g => h4 g.2.1)).symm
      · exact Ev.neg (by omega) (Ev.some' (decide_eq_false (fun g => h3 g.1.2)).symm)
    · refine Ev.neg (by simp only [decide_eq_true_eq]; omega) (Ev.some' ?_)
      exact (decide_eq_false (fun g => h1 g.1.1)).symm
  · rw [Bool.eq_false_iff.2 hp, Bool.false_and]
    exact Ev.neg (by simp) (Ev.now _)
/-- The code of data and a range. -/
def jacC (p : Int) (a b : List Int) (r : Bool) : Int := if jacB p a b = true then (if r = true then 0 else 2) else 1
theorem implJacCode_ev (p : Int) (a b : List Int) (r : Bool) (ha : Sm a.length) (hb : Sm b.length) : Ev (fun k => impl_jacobiCode.f k p a b r) (jacC p a b r) := by
  unfold impl_jacobiCode.f jacC
  refine Ev.bind (implJac_ev p a b ha hb) ?_
  by_cases h : jacB p a b = true
  · rw [if_pos h, if_pos h]
    by_cases g : r = true
    · rw [if_pos g, if_pos g]; exact Ev.now _
    · rw [if_neg g, if_neg g]; exact Ev.now _
  · rw [if_neg h, if_neg h]; exact Ev.now _
theorem specJacCode_ev (p : Int) (a b : List Int) (k lo hi : Int) (ha : Sm a.length) (hb : Sm b.length) : Ev (fun n => spec_l03Code.f n p a b k lo hi) (jacC p a b (decide (lo ≤ k ∧ k ≤ hi))) := by
  unfold spec_l03Code.f jacC
  refine Ev.bind (specJac_ev p a b ha hb) ?_
  by_cases h : jacB p a b = true
  · rw [if_pos h, if_pos h]
    refine Ev.bindE (in_eq _ _ _) ?_
    by_cases g : decide (lo ≤ k ∧ k ≤ hi) = true
    · rw [if_pos g, if_pos g]; exact Ev.now _
    · rw [if_neg g, if_neg g]; exact Ev.now _
  · rw [if_neg h, if_neg h]; exact Ev.now _
theorem jacC0 {p : Int} {a b : List Int} {r : Bool} (h : jacC p a b r = 0) : jacB p a b = true ∧ r = true := by
  unfold jacC at h
  split at h
  · split at h
    · exact ⟨‹_›, ‹_›⟩
    · omega
  · omega
/- The laws' helpers at Jacobi: copies, comparisons, marks. -/
theorem toJacobi_ev (p : Int) (l0 l1 : List Int) (h0 : Sm l0.length) (h1 : Sm l1.length) : Ev (fun k => laws_toJacobi.f k p l0 l1) (p, l0, l1) := by
  unfold laws_toJacobi.f
  exact Ev.bind (toInt64S_ev _ h0) (Ev.bind (toInt64S_ev _ h1) (Ev.now _))
theorem eqJacobi_ev (p : Int) (l0 l1 : List Int) (h0 : Sm l0.length) (h1 : Sm l1.length) : Ev (fun k => laws_eqJacobi.f k p l0 l1 p l0 l1) true := by
  unfold laws_eqJacobi.f
  exact Ev.pos rfl (Ev.bind (eqInt64S_ev _ h0) (Ev.pos rfl (Ev.bind (eqInt64S_ev _ h1) (Ev.pos rfl (Ev.now _)))))
theorem markJacobi_ev (p : Int) (l0 l1 : List Int) (h0 : Sm l0.length) (h1 : Sm l1.length) (m : Nat) (hm : m ≤ 4194304) : Ev (fun k => laws_markJacobi.f k p l0 l1 (m : Int)) (((m + l0.length + l1.length : Nat) : Int), marks (m) l0.length, marks (m + l0.length) l1.length) := by
  unfold laws_markJacobi.f
  unfold Sm at h0 h1
  exact Ev.bind (markInt64S_ev _ _ h0 (by omega)) (Ev.bind (markInt64S_ev _ _ h1 (by omega)) (Ev.now _))
theorem heldJacobi_ev (p : Int) (n0 n1 : Nat) (h0 : Sm n0) (h1 : Sm n1) (m : Nat) (hm : m ≤ 4194304) : Ev (fun k => laws_heldJacobi.f k p (marks (m) n0) (marks (m + n0) n1) (m : Int)) ((m + n0 + n1 : Nat) : Int) := by
  unfold laws_heldJacobi.f
  unfold Sm at h0 h1
  exact Ev.bind (heldInt64S_ev _ _ h0 (by omega)) (Ev.neg (by omega) (Ev.bind (heldInt64S_ev _ _ h1 (by omega)) (Ev.neg (by omega) (Ev.now _))))
theorem szJacobi_yes (p : Int) (l0 l1 : List Int) (a : Nat) (ha : a ≤ 1048576) (h : l0.length + l1.length ≤ a) : laws_szJacobi.f p l0 l1 (a : Int) = some ((a - (l0.length + l1.length) : Nat) : Int) := by
  unfold laws_szJacobi.f
  rw [szInt64S_yes l0 (a) (by omega) (by omega), Option.bind_some, if_neg (by omega)]
  rw [szInt64S_yes l1 (a - l0.length) (by omega) (by omega), Option.bind_some, if_neg (by omega)]
  congr 2
  omega
theorem szJacobi_no (p : Int) (l0 l1 : List Int) (g0 : l0.length ≤ 9223372036854775807) (g1 : l1.length ≤ 9223372036854775807) (a : Nat) (ha : a ≤ 1048576) (h : a < l0.length + l1.length) : laws_szJacobi.f p l0 l1 (a : Int) = some (-1) := by
  unfold laws_szJacobi.f
  by_cases e0 : a < l0.length
  · rw [szInt64S_no l0 (a) g0 (by omega) e0, Option.bind_some, if_pos (by omega)]
  · rw [szInt64S_yes l0 (a) (by omega) (by omega), Option.bind_some, if_neg (by omega)]
    rw [szInt64S_no l1 (a - l0.length) g1 (by omega) (by omega), Option.bind_some, if_pos (by omega)]
/- Lists without noughts at their end; no condition. -/
theorem smod_eq {p : Int} (hp : Pm p) (x : Int) : spec_l01Mod.f p x = some (x % p) := by
  unfold spec_l01Mod.f
  rw [if_neg hp.ne, go_mod hp]

/-! ### noughts at the end -/
theorem getD_snoc (l : List Int) (x : Int) (m : List Int) : ((l ++ [x]) ++ m).getD l.length 0 = x := by
  rw [List.append_assoc, List.getD_eq_getElem?_getD, List.getElem?_append_right (Nat.le_refl _), Nat.sub_self]; rfl
theorem implTrim_l0 (l : List Int) : Sm l.length → Ev (fun k => impl_trimmed.l0 k l) (trim l) := by
  induction l using snocInd with
  | h0 =>
    intro _
    refine Ev.step (fun k => by rw [impl_trimmed.l0]) ?_
    exact Ev.neg (by simp) (Ev.now _)
  | h1 l x ih =>
    intro hl
    have hn : (l ++ [x]).length = l.length + 1 := by simp
    rw [hn] at hl
    unfold Sm at hl
    have e : wrap64 (((l ++ [x]).length : Int) - 1) = (l.length : Int) := by rw [hn, wrap_id (by omega) (by omega)]; omega
    have er : rd (l ++ [x]) (l.length : Int) = x := by
      rw [rd_nat]; have := getD_snoc l x []; rwa [List.append_nil] at this
    refine Ev.step (fun k => by rw [impl_trimmed.l0]) ?_
    rw [e, er]
    refine Ev.pos (by omega) (Ev.pos (by omega) (Ev.pos (by omega) ?_))
    by_cases hx : x = 0
    · refine Ev.pos hx (Ev.pos (by omega) ?_)
      rw [toNat_nat, List.take_left, hx, trim_snoc_zero]
      exact ih (by unfold Sm; omega)
    · refine Ev.neg hx (Ev.some' ?_)
      rw [trim_snoc l hx]
theorem implTrim_ev (l : List Int) (hl : Sm l.length) : Ev (fun k => impl_trimmed.f k l) (trim l) := by
  unfold impl_trimmed.f
  exact implTrim_l0 l hl
theorem specTrim_l0 (l : List Int) : ∀ m : List Int, Sm (l ++ m).length → Ev (fun k => spec_l01Trim.l0 k (l ++ m) (l.length : Int)) (trim l) := by
  induction l using snocInd with
  | h0 =>
    intro m hl
    refine Ev.step (fun k => by rw [spec_l01Trim.l0]) ?_
    refine Ev.neg (by simp) (Ev.pos (by simp) (Ev.pos (by simp) (Ev.bindE (own_eq _ (hl.take _)) (Ev.some' ?_))))
    simp [trim_nil]
  | h1 l x ih =>
    intro m hl
    have hn : (l ++ [x]).length = l.length + 1 := by simp
    have hl' := hl
    rw [List.length_append, hn] at hl'
    have hm : (l ++ [x] ++ m).length = l.length + 1 + m.length := by rw [List.length_append, hn]
    unfold Sm at hl'
    have e : wrap64 (((l ++ [x]).length : Int) - 1) = (l.length : Int) := by rw [hn, wrap_id (by omega) (by omega)]; omega
    have er : rd ((l ++ [x]) ++ m) (l.length : Int) = x := by
      rw [rd_nat]; exact getD_snoc l x m
    refine Ev.step (fun k => by rw [spec_l01Trim.l0]) ?_
    rw [e, er]
    refine Ev.pos (by omega) (Ev.pos (by omega) (Ev.pos (by omega) ?_))
    by_cases hx : x = 0
    · refine Ev.pos hx ?_
      have := ih ([x] ++ m) (by rw [← List.append_assoc]; exact hl)
      rw [← List.append_assoc] at this
      rw [hx, trim_snoc_zero]
      rw [hx] at this
      exact this
    · refine Ev.neg hx (Ev.pos (by omega) (Ev.pos (by omega) (Ev.bindE (own_eq _ (hl.take _)) (Ev.some' ?_))))
      rw [toNat_nat, List.take_left, trim_snoc l hx]
theorem specTrim_ev (l : List Int) (hl : Sm l.length) : Ev (fun k => spec_l01Trim.f k l) (trim l) := by
  unfold spec_l01Trim.f
  have := specTrim_l0 l [] (by rw [List.append_nil]; exact hl)
  rwa [List.append_nil] at this
theorem trim_len (l : List Int) : (trim l).length ≤ l.length := by
  obtain ⟨n, h⟩ := trim_sub l
  have := congrArg List.length h
  rw [List.length_append] at this
  omega
theorem Nm.trim {p : Int} {l : List Int} (h : Nm p l) : Nm p (trim l) := by
  obtain ⟨n, e⟩ := trim_sub l
  intro x hx
  refine h x ?_
  rw [e]
  exact List.mem_append_left _ hx
/- Sums of polynomials modulo p; no condition. -/
/-! ### sums -/
def addGo (p k : Int) (g : List Int) : Nat → Nat → List Int → List Int
  | 0, _, o => o
  | d + 1, i, o => addGo p k g d (i + 1) (o.set i ((o.getD i 0 + k * g.getD i 0) % p))
theorem addGo_len (p k : Int) (g : List Int) (d : Nat) : ∀ i o, (addGo p k g d i o).length = o.length := by
  induction d with
  | zero => intro i o; rfl
  | succ d ih => intro i o; rw [addGo, ih, List.length_set]
theorem addGo_nm {p : Int} (hp : 0 < p) (k : Int) (g : List Int) (d : Nat) : ∀ i o, Nm p o → Nm p (addGo p k g d i o) := by
  induction d with
  | zero => intro i o h; exact h
  | succ d ih => intro i o h; exact ih _ _ (h.set (emodB hp _).1 (emodB hp _).2 i)
/-- The list that the sum begins with. -/
def addOf (f : List Int) (n : Nat) : List Int := f ++ List.replicate (n - f.length) 0
theorem addOf_len (f : List Int) {n : Nat} (h : f.length ≤ n) : (addOf f n).length = n := by
  rw [addOf, List.length_append, List.length_replicate]; omega
theorem Nm.addOf {p : Int} (hp : 0 < p) {f : List Int} (h : Nm p f) (n : Nat) : Nm p (addOf f n) := h.append (Nm.zeros hp _)
/-- f and k times g. -/
def padd (p : Int) (f g : List Int) (k : Int) : List Int := trim (addGo p k g g.length 0 (addOf f (max f.length g.length)))
theorem padd_len (p : Int) (f g : List Int) (k : Int) : (padd p f g k).length ≤ max f.length g.length := by
  have := trim_len (addGo p k g g.length 0 (addOf f (max f.length g.length)))
  rw [addGo_len, addOf_len f (by omega)] at this
  exact this
theorem padd_nm {p : Int} (hp : 0 < p) {f g : List Int} (hf : Nm p f) (k : Int) : Nm p (padd p f g k) := (addGo_nm hp k g _ _ _ (hf.addOf hp _)).trim
theorem mx_nat (a b : Nat) : mx (a : Int) (b : Int) = ((max a b : Nat) : Int) := by
  unfold mx; split <;> omega
theorem specAdd1 {p k : Int} (hp : Pm p) (hk : 0 ≤ k ∧ k < p) (g : List Int) (hg : Nm p g) (d : Nat) : ∀ (i : Nat) (o : List Int), i + d = g.length → g.length ≤ o.length → Nm p o → Sm o.length →
    Ev (fun n => spec_l01Add.l1 n p g k o (i : Int)) (trim (addGo p k g d i o)) := by
  induction d with
  | zero =>
    intro i o hi hl ho hs
    refine Ev.step (fun n => by rw [spec_l01Add.l1]) ?_
    exact Ev.neg (by omega) (Ev.bind (specTrim_ev o hs) (Ev.now _))
  | succ d ih =>
    intro i o hi hl ho hs
    have h1 := ho.get (i := i) (by omega)
    have h2 := hg.get (i := i) (by omega)
    have h3 := mulP hp hk.1 hk.2 h2.1 h2.2
    have ht := hp.top
    have hm := emodB hp.pos (o.getD i 0 + k * g.getD i 0)
    have hs' := hs
    unfold Sm at hs'
    refine Ev.step (fun n => by rw [spec_l01Add.l1]) ?_
    refine Ev.pos (by omega) (Ev.pos (by omega) (Ev.pos (by omega) ?_))
    rw [rd_nat, rd_nat, wrap_id (x := k * g.getD i 0) (by omega) (by omega), wrap_id (by omega) (by omega)]
    refine Ev.bindE (smod_eq hp _) ?_
    rw [wsucc (i := i) (n := g.length) (by omega) (by omega), toNat_nat]
    exact ih (i + 1) _ (by omega) (by rw [List.length_set]; omega) (ho.set hm.1 hm.2 i) (by rw [List.length_set]; exact hs)
theorem implAdd1 {p k : Int} (hp : Pm p) (hk : 0 ≤ k ∧ k < p) (g : List Int) (hg : Nm p g) (d : Nat) : ∀ (i : Nat) (o : List Int), i + d = g.length → g.length ≤ o.length → Nm p o → Sm o.length →
    Ev (fun n => impl_field_add.l0 n p k o g (g.length : Int) (i : Int)) (trim (addGo p k g d i o)) := by
  induction d with
  | zero =>
    intro i o hi hl ho hs
    refine Ev.step (fun n => by rw [impl_field_add.l0]) ?_
    exact Ev.neg (by omega) (Ev.bind (implTrim_ev o hs) (Ev.now _))
  | succ d ih =>
    intro i o hi hl ho hs
    have h1 := ho.get (i := i) (by omega)
    have h2 := hg.get (i := i) (by omega)
    have h3 := mulP hp hk.1 hk.2 h2.1 h2.2
    have ht := hp.top
    have hm := emodB hp.pos (o.getD i 0 + k * g.getD i 0)
    have hs' := hs
    unfold Sm at hs'
    refine Ev.step (fun n => by rw [impl_field_add.l0]) ?_
    refine Ev.pos (by omega) (Ev.pos (by omega) (Ev.pos (by omega) (Ev.pos (by omega) ?_)))
    rw [rd_nat, rd_nat, wrap_id (x := k * g.getD i 0) (by omega) (by omega), wrap_id (by omega) (by omega)]
    refine Ev.bindE (mod_eq hp _) ?_
    rw [wsucc (i := i) (n := g.length) (by omega) (by omega), toNat_nat]
    exact ih (i + 1) _ (by omega) (by rw [List.length_set]; omega) (ho.set hm.1 hm.2 i) (by rw [List.length_set]; exact hs)
theorem cpy_zeros (f : List Int) {n : Nat} (h : f.length ≤ n) : cpy (List.replicate n 0) f = addOf f n := by
  unfold cpy addOf
  rw [List.length_replicate, Nat.min_eq_left h, List.take_length, List.drop_replicate]
theorem implAdd_ev {p k : Int} (hp : Pm p) (hk : 0 ≤ k ∧ k < p) (f g : List Int) (hf : Nm p f) (hg : Nm p g) (sf : Sm f.length) (sg : Sm g.length) :
    Ev (fun n => impl_field_add.f n p f g k) (padd p f g k) := by
  unfold impl_field_add.f
  unfold Sm at sf sg
  rw [mx_nat, toNat_nat, cpy_zeros f (by omega)]
  refine Ev.pos (by omega) (Ev.pos (by omega) ?_)
  exact implAdd1 hp hk g hg g.length 0 _ (by omega) (by rw [addOf_len f (by omega)]; omega) (hf.addOf hp.pos _) (by rw [addOf_len f (by omega)]; unfold Sm; omega)
theorem specAdd0 {p k : Int} (f g : List Int) (n : Nat) (r : List Int) (hn : f.length ≤ n) (hs : Sm n) (e : Ev (fun m => spec_l01Add.l1 m p g k (addOf f n) 0) r) (d : Nat) : ∀ i, i + d = f.length →
    Ev (fun m => spec_l01Add.l0 m p f g k (f.take i ++ List.replicate (n - i) 0) (i : Int)) r := by
  induction d with
  | zero =>
    intro i hi
    refine Ev.step (fun m => by rw [spec_l01Add.l0]) ?_
    refine Ev.neg (by omega) ?_
    rw [show i = f.length from by omega, List.take_length]
    exact e
  | succ d ih =>
    intro i hi
    unfold Sm at hs
    have hl : (f.take i ++ List.replicate (n - i) (0 : Int)).length = n := by rw [List.length_append, List.length_take, List.length_replicate]; omega
    refine Ev.step (fun m => by rw [spec_l01Add.l0]) ?_
    refine Ev.pos (by omega) (Ev.pos (by omega) (Ev.pos (by omega) ?_))
    rw [rd_nat, toNat_nat, wsucc (i := i) (n := n) (by omega) (by omega)]
    have e2 : (f.take i ++ List.replicate (n - i) (0 : Int)).set i (f.getD i 0) = f.take (i + 1) ++ List.replicate (n - (i + 1)) 0 := by
      rw [List.set_append_right (h := by rw [List.length_take]; omega), List.length_take, show i - min i f.length = 0 from by omega, show n - i = (n - (i + 1)) + 1 from by omega, List.replicate_succ, List.set_cons_zero, List.take_add_one, List.append_assoc, List.getElem?_eq_getElem (by omega), List.getD_eq_getElem?_getD, List.getElem?_eq_getElem (by omega)]
      rfl
    rw [e2]
    exact ih (i + 1) (by omega)
theorem specAdd_ev {p k : Int} (hp : Pm p) (hk : 0 ≤ k ∧ k < p) (f g : List Int) (hf : Nm p f) (hg : Nm p g) (sf : Sm f.length) (sg : Sm g.length) :
    Ev (fun n => spec_l01Add.f n p f g k) (padd p f g k) := by
  unfold spec_l01Add.f
  unfold Sm at sf sg
  rw [mx_nat, toNat_nat]
  refine Ev.pos (by omega) (Ev.pos (by omega) ?_)
  have h1 := specAdd1 hp hk g hg g.length 0 (addOf f (max f.length g.length)) (by omega) (by rw [addOf_len f (by omega)]; omega) (hf.addOf hp.pos _) (by rw [addOf_len f (by omega)]; unfold Sm; omega)
  have h2 := specAdd0 f g (max f.length g.length) _ (by omega) (by unfold Sm; omega) h1 f.length 0 (by omega)
  rw [List.take_zero, List.nil_append, Nat.sub_zero] at h2
  exact h2
/- Products of polynomials modulo p; no condition. -/
/-! ### products -/
def mulIn (p c : Int) (g : List Int) (i : Nat) : Nat → Nat → List Int → List Int
  | 0, _, o => o
  | d + 1, j, o => mulIn p c g i d (j + 1) (o.set (i + j) ((o.getD (i + j) 0 + c * g.getD j 0) % p))
theorem mulIn_len (p c : Int) (g : List Int) (i d : Nat) : ∀ j o, (mulIn p c g i d j o).length = o.length := by
  induction d with
  | zero => intro j o; rfl
  | succ d ih => intro j o; rw [mulIn, ih, List.length_set]
theorem mulIn_nm {p : Int} (hp : 0 < p) (c : Int) (g : List Int) (i d : Nat) : ∀ j o, Nm p o → Nm p (mulIn p c g i d j o) := by
  induction d with
  | zero => intro j o h; exact h
  | succ d ih => intro j o h; exact ih _ _ (h.set (emodB hp _).1 (emodB hp _).2 _)
def mulOut (p : Int) (f g : List Int) : Nat → Nat → List Int → List Int
  | 0, _, o => o
  | d + 1, i, o => mulOut p f g d (i + 1) (mulIn p (f.getD i 0) g i g.length 0 o)
theorem mulOut_len (p : Int) (f g : List Int) (d : Nat) : ∀ i o, (mulOut p f g d i o).length = o.length := by
  induction d with
  | zero => intro i o; rfl
  | succ d ih => intro i o; rw [mulOut, ih, mulIn_len]
theorem mulOut_nm {p : Int} (hp : 0 < p) (f g : List Int) (d : Nat) : ∀ i o, Nm p o → Nm p (mulOut p f g d i o) := by
  induction d with
  | zero => intro i o h; exact h
  | succ d ih => intro i o h; exact ih _ _ (mulIn_nm hp _ _ _ _ _ _ h)
/-- f times g. -/
def pmul (p : Int) (f g : List Int) : List Int := if f.length = 0 ∨ g.length = 0 then [] else trim (mulOut p f g f.length 0 (List.replicate (f.length + g.length - 1) 0))
theorem pmul_len (p : Int) (f g : List Int) : (pmul p f g).length ≤ f.length + g.length - 1 := by
  unfold pmul
  split
  · simp
  · have := trim_len (mulOut p f g f.length 0 (List.replicate (f.length + g.length - 1) 0))
    rw [mulOut_len, List.length_replicate] at this
    exact this
theorem pmul_nm {p : Int} (hp : 0 < p) (f g : List Int) : Nm p (pmul p f g) := by
  unfold pmul
  split
  · exact Nm.nil p
  · exact (mulOut_nm hp _ _ _ _ _ (Nm.zeros hp _)).trim
theorem implMul1 {p : Int} (hp : Pm p) (f g : List Int) (hg : Nm p g) (c : Int) (hc : 0 ≤ c ∧ c < p) (i : Nat) (r : List Int) (d : Nat) : ∀ (j : Nat) (o : List Int), j + d = g.length → i + g.length ≤ o.length → Nm p o → Sm o.length →
    Ev (fun n => impl_field_product.l0 n p g (mulIn p c g i d j o) f (f.length : Int) (wrap64 ((i : Int) + 1))) r →
    Ev (fun n => impl_field_product.l1 n p g o (i : Int) c f (f.length : Int) (i : Int) g (g.length : Int) (j : Int)) r := by
  induction d with
  | zero =>
    intro j o hj hl ho hs e
    refine Ev.step (fun n => by rw [impl_field_product.l1]) ?_
    exact Ev.neg (by omega) e
  | succ d ih =>
    intro j o hj hl ho hs e
    have h1 := ho.get (i := i + j) (by omega)
    have h2 := hg.get (i := j) (by omega)
    have h3 := mulP hp hc.1 hc.2 h2.1 h2.2
    have ht := hp.top
    have hm := emodB hp.pos (o.getD (i + j) 0 + c * g.getD j 0)
    have hs' := hs
    unfold Sm at hs'
    have hw : wrap64 ((i : Int) + (j : Int)) = ((i + j : Nat) : Int) := wadd (n := o.length) (by omega) (by omega)
    refine Ev.step (fun n => by rw [impl_field_product.l1]) ?_
    rw [hw]
    have c1 : (j : Int) < (g.length : Int) := by clear h1 h2 h3 hm hw e; omega
    have c2 : (0 : Int) ≤ (j : Int) := by clear h1 h2 h3 hm hw e; omega
    have c3 : (0 : Int) ≤ ((i + j : Nat) : Int) := by clear h1 h2 h3 hm hw e; omega
    have c4 : ((i + j : Nat) : Int) < (o.length : Int) := by clear h1 h2 h3 hm hw e; omega
    refine Ev.pos c1 (Ev.pos c2 (Ev.pos c1 (Ev.pos c3 (Ev.pos c4 ?_))))
    rw [rd_nat, rd_nat, wrap_id (x := c * g.getD j 0) (by omega) (by omega), wrap_id (by omega) (by omega)]
    refine Ev.bindE (mod_eq hp _) ?_
    rw [wsucc (i := j) (n := g.length) (by clear h1 h2 h3 hm hw e; omega) (by clear h1 h2 h3 hm hw e; omega), toNat_nat]
    exact ih (j + 1) _ (by clear h1 h2 h3 hm hw e; omega) (by rw [List.length_set]; clear h1 h2 h3 hm hw e; omega) (ho.set hm.1 hm.2 _) (by rw [List.length_set]; exact hs) e
theorem implMul0 {p : Int} (hp : Pm p) (f g : List Int) (hf : Nm p f) (hg : Nm p g) (d : Nat) : ∀ (i : Nat) (o : List Int), i + d = f.length → f.length + g.length ≤ o.length + 1 → Nm p o → Sm o.length →
    Ev (fun n => impl_field_product.l0 n p g o f (f.length : Int) (i : Int)) (trim (mulOut p f g d i o)) := by
  induction d with
  | zero =>
    intro i o hi hl ho hs
    refine Ev.step (fun n => by rw [impl_field_product.l0]) ?_
    exact Ev.neg (by omega) (Ev.bind (implTrim_ev o hs) (Ev.now _))
  | succ d ih =>
    intro i o hi hl ho hs
    have hs' := hs
    unfold Sm at hs'
    refine Ev.step (fun n => by rw [impl_field_product.l0]) ?_
    refine Ev.pos (by omega) (Ev.pos (by omega) (Ev.pos (by omega) ?_))
    rw [rd_nat]
    refine implMul1 hp f g hg _ (hf.get (i := i) (by omega)) i _ g.length 0 o (by omega) (by omega) ho hs ?_
    by_cases hg0 : f.length ≤ 4611686018427387903
    · rw [wsucc (i := i) (n := f.length) (by omega) (by omega)]
      exact ih (i + 1) _ (by omega) (by rw [mulIn_len]; exact hl) (mulIn_nm hp.pos _ _ _ _ _ _ ho) (by rw [mulIn_len]; exact hs)
    · omega
theorem implMul_ev {p : Int} (hp : Pm p) (f g : List Int) (hf : Nm p f) (hg : Nm p g) (sf : Sm f.length) (sg : Sm g.length) (sfg : Sm (f.length + g.length)) :
    Ev (fun n => impl_field_product.f n p f g) (pmul p f g) := by
  unfold impl_field_product.f pmul
  unfold Sm at sf sg sfg
  by_cases h1 : f.length = 0
  · rw [if_pos (Or.inl h1)]
    refine Ev.pos (by omega) ?_
    refine Ev.step (fun n => by rw [impl_field_product.j0]) ?_
    exact Ev.pos rfl (Ev.now _)
  · refine Ev.neg (by omega) ?_
    by_cases h2 : g.length = 0
    · rw [if_pos (Or.inr h2), show ((g.length : Int) == 0) = true from by simp [h2]]
      refine Ev.step (fun n => by rw [impl_field_product.j0]) ?_
      exact Ev.pos rfl (Ev.now _)
    · rw [if_neg (by omega), show ((g.length : Int) == 0) = false from by simp; exact fun h => h2 (by simp [h])]
      refine Ev.step (fun n => by rw [impl_field_product.j0]) ?_
      have e : wrap64 (wrap64 ((f.length : Int) + (g.length : Int)) - 1) = ((f.length + g.length - 1 : Nat) : Int) := by
        rw [wrap_id (x := (f.length : Int) + (g.length : Int)) (by omega) (by omega), wrap_id (by omega) (by omega)]; omega
      rw [e, toNat_nat]
      refine Ev.neg (by decide) (Ev.pos (by omega) (Ev.pos (by omega) ?_))
      exact implMul0 hp f g hf hg f.length 0 _ (by omega) (by rw [List.length_replicate]; omega) (Nm.zeros hp.pos _) (by rw [List.length_replicate]; unfold Sm; omega)
theorem specMul1 {p : Int} (hp : Pm p) (f g : List Int) (hf : Nm p f) (hg : Nm p g) (i : Nat) (hi : i < f.length) (r : List Int) (d : Nat) : ∀ (j : Nat) (o : List Int), j + d = g.length → i + g.length ≤ o.length → Nm p o → Sm o.length →
    Ev (fun n => spec_l01Times.l0 n p f g (mulIn p (f.getD i 0) g i d j o) (wrap64 ((i : Int) + 1))) r →
    Ev (fun n => spec_l01Times.l1 n p f g o (i : Int) (j : Int)) r := by
  induction d with
  | zero =>
    intro j o hj hl ho hs e
    refine Ev.step (fun n => by rw [spec_l01Times.l1]) ?_
    exact Ev.neg (by omega) e
  | succ d ih =>
    intro j o hj hl ho hs e
    have hc := hf.get (i := i) hi
    have h1 := ho.get (i := i + j) (by omega)
    have h2 := hg.get (i := j) (by omega)
    have h3 := mulP hp hc.1 hc.2 h2.1 h2.2
    have ht := hp.top
    have hm := emodB hp.pos (o.getD (i + j) 0 + f.getD i 0 * g.getD j 0)
    have hs' := hs
    unfold Sm at hs'
    have hw : wrap64 ((i : Int) + (j : Int)) = ((i + j : Nat) : Int) := wadd (n := o.length) (by omega) (by omega)
    refine Ev.step (fun n => by rw [spec_l01Times.l1]) ?_
    rw [hw]
    have c1 : (j : Int) < (g.length : Int) := by clear h1 h2 h3 hm hw e; omega
    have c2 : (0 : Int) ≤ (j : Int) := by clear h1 h2 h3 hm hw e; omega
    have c3 : (0 : Int) ≤ ((i + j : Nat) : Int) := by clear h1 h2 h3 hm hw e; omega
    have c4 : ((i + j : Nat) : Int) < (o.length : Int) := by clear h1 h2 h3 hm hw e; omega
    have c5 : (0 : Int) ≤ (i : Int) := by clear h1 h2 h3 hm hw e; omega
    have c6 : (i : Int) < (f.length : Int) := by clear h1 h2 h3 hm hw e; omega
    refine Ev.pos c1 (Ev.pos c3 (Ev.pos c4 (Ev.pos c5 (Ev.pos c6 (Ev.pos c2 (Ev.neg hp.ne ?_))))))
    rw [rd_nat, rd_nat, rd_nat, wrap_id (x := f.getD i 0 * g.getD j 0) (by omega) (by omega), wrap_id (by omega) (by omega), tmod_pos (by omega), wsucc (i := j) (n := g.length) (by clear h1 h2 h3 hm hw e; omega) (by clear h1 h2 h3 hm hw e; omega), toNat_nat]
    exact ih (j + 1) _ (by clear h1 h2 h3 hm hw e; omega) (by rw [List.length_set]; clear h1 h2 h3 hm hw e; omega) (ho.set hm.1 hm.2 _) (by rw [List.length_set]; exact hs) e
theorem specMul0 {p : Int} (hp : Pm p) (f g : List Int) (hf : Nm p f) (hg : Nm p g) (d : Nat) : ∀ (i : Nat) (o : List Int), i + d = f.length → f.length + g.length ≤ o.length + 1 → Nm p o → Sm o.length →
    Ev (fun n => spec_l01Times.l0 n p f g o (i : Int)) (trim (mulOut p f g d i o)) := by
  induction d with
  | zero =>
    intro i o hi hl ho hs
    refine Ev.step (fun n => by rw [spec_l01Times.l0]) ?_
    exact Ev.neg (by omega) (Ev.bind (specTrim_ev o hs) (Ev.now _))
  | succ d ih =>
    intro i o hi hl ho hs
    have hs' := hs
    unfold Sm at hs'
    refine Ev.step (fun n => by rw [spec_l01Times.l0]) ?_
    refine Ev.pos (by omega) ?_
    refine specMul1 hp f g hf hg i (by omega) _ g.length 0 o (by omega) (by omega) ho hs ?_
    by_cases hg0 : f.length ≤ 4611686018427387903
    · rw [wsucc (i := i) (n := f.length) (by omega) (by omega)]
      exact ih (i + 1) _ (by omega) (by rw [mulIn_len]; exact hl) (mulIn_nm hp.pos _ _ _ _ _ _ ho) (by rw [mulIn_len]; exact hs)
    · omega
theorem specMul_ev {p : Int} (hp : Pm p) (f g : List Int) (hf : Nm p f) (hg : Nm p g) (sf : Sm f.length) (sg : Sm g.length) (sfg : Sm (f.length + g.length)) :
    Ev (fun n => spec_l01Times.f n p f g) (pmul p f g) := by
  unfold spec_l01Times.f pmul
  unfold Sm at sf sg sfg
  by_cases h1 : f.length = 0
  · rw [if_pos (Or.inl h1)]
    refine Ev.pos (by omega) ?_
    refine Ev.step (fun n => by rw [spec_l01Times.j0]) ?_
    exact Ev.pos rfl (Ev.now _)
  · refine Ev.neg (by omega) ?_
    by_cases h2 : g.length = 0
    · rw [if_pos (Or.inr h2), show ((g.length : Int) == 0) = true from by simp [h2]]
      refine Ev.step (fun n => by rw [spec_l01Times.j0]) ?_
      exact Ev.pos rfl (Ev.now _)
    · rw [if_neg (by omega), show ((g.length : Int) == 0) = false from by simp; exact fun h => h2 (by simp [h])]
      refine Ev.step (fun n => by rw [spec_l01Times.j0]) ?_
      have e : wrap64 (wrap64 ((f.length : Int) + (g.length : Int)) - 1) = ((f.length + g.length - 1 : Nat) : Int) := by
        rw [wrap_id (x := (f.length : Int) + (g.length : Int)) (by omega) (by omega), wrap_id (by omega) (by omega)]; omega
      rw [e, toNat_nat]
      refine Ev.neg (by decide) (Ev.pos (by omega) (Ev.pos (by omega) ?_))
      exact specMul0 hp f g hf hg f.length 0 _ (by omega) (by rw [List.length_replicate]; omega) (Nm.zeros hp.pos _) (by rw [List.length_replicate]; unfold Sm; omega)
/- The polynomials of data of recurrences, and the associated ones: what the program and the reference come to; no condition. -/
/-- (x - a) f - b g. -/
def pnext (p a b : Int) (f g : List Int) : List Int := padd p (pmul p [(-a) % p, 1] f) g ((-b) % p)
theorem pnext_nm {p : Int} (hp : Pm p) (a b : Int) (f g : List Int) : Nm p (pnext p a b f g) := padd_nm hp.pos (pmul_nm hp.pos _ _) _
theorem pnext_len (p a b : Int) (f g : List Int) : (pnext p a b f g).length ≤ max (f.length + 1) g.length := by
  have h1 := padd_len p (pmul p [(-a) % p, 1] f) g ((-b) % p)
  have h2 := pmul_len p [(-a) % p, 1] f
  simp only [List.length_cons, List.length_nil] at h2
  unfold pnext
  omega
theorem two_nm {p : Int} (hp : Pm p) (a : Int) : Nm p [(-a) % p, 1] := by
  have := hp.two
  exact Nm.cons (emodB hp.pos _).1 (emodB hp.pos _).2 (Nm.cons (by omega) (by omega) (Nm.nil p))
theorem neg_wrap {p a : Int} (hp : Pm p) (h : 0 ≤ a ∧ a < p) : wrap64 (-a) = -a := by
  have := hp.top
  exact wrap_id (by omega) (by omega)
theorem specStep_ev {p a b : Int} (hp : Pm p) (ha : 0 ≤ a ∧ a < p) (hb : 0 ≤ b ∧ b < p) (f g : List Int) (hf : Nm p f) (hg : Nm p g) (sf : f.length ≤ 1000) (sg : g.length ≤ 1000) :
    Ev (fun n => spec_l03Step.f n p f g a b) (pnext p a b f g) := by
  unfold spec_l03Step.f
  have h2 := pmul_len p [(-a) % p, 1] f
  simp only [List.length_cons, List.length_nil] at h2
  rw [neg_wrap hp ha, neg_wrap hp hb]
  refine Ev.bindE (smod_eq hp _) (Ev.bind (specMul_ev hp _ f (two_nm hp a) hf (by simp [Sm]) (by unfold Sm; omega) (by simp only [List.length_cons, List.length_nil]; unfold Sm; omega)) (Ev.bindE (smod_eq hp _) (Ev.bind ?_ (Ev.now _))))
  exact specAdd_ev hp (emodB hp.pos _) _ g (pmul_nm hp.pos _ _) hg (by unfold Sm; omega) (by unfold Sm; omega)
theorem implNext_ev {p a b : Int} (hp : Pm p) (ha : 0 ≤ a ∧ a < p) (hb : 0 ≤ b ∧ b < p) (f g : List Int) (hf : Nm p f) (hg : Nm p g) (sf : f.length ≤ 1000) (sg : g.length ≤ 1000) :
    Ev (fun n => impl_field_next.f n p a b f g) (pnext p a b f g) := by
  unfold impl_field_next.f
  have h2 := pmul_len p [(-a) % p, 1] f
  simp only [List.length_cons, List.length_nil] at h2
  rw [neg_wrap hp ha, neg_wrap hp hb]
  refine Ev.bindE (mod_eq hp _) (Ev.bind (implMul_ev hp _ f (two_nm hp a) hf (by simp [Sm]) (by unfold Sm; omega) (by simp only [List.length_cons, List.length_nil]; unfold Sm; omega)) (Ev.bindE (mod_eq hp _) (Ev.bind ?_ (Ev.now _))))
  exact implAdd_ev hp (emodB hp.pos _) _ g (pmul_nm hp.pos _ _) hg (by unfold Sm; omega) (by unfold Sm; omega)

/-- P(k - 1) and P(k). -/
def pPair (p : Int) (a b : List Int) : Nat → List Int × List Int
  | 0 => ([], [1])
  | k + 1 => ((pPair p a b k).2, pnext p (a.getD k 0) (b.getD k 0) (pPair p a b k).2 (pPair p a b k).1)
/-- Q(k) and Q(k + 1). -/
def qPair (p : Int) (a b : List Int) : Nat → List Int × List Int
  | 0 => ([], [1])
  | k + 1 => ((qPair p a b k).2, pnext p (a.getD (k + 1) 0) (b.getD (k + 1) 0) (qPair p a b k).2 (qPair p a b k).1)
theorem one_nm {p : Int} (hp : Pm p) : Nm p [1] := by
  have := hp.two
  exact Nm.cons (by omega) (by omega) (Nm.nil p)
theorem pPair_ok {p : Int} (hp : Pm p) (a b : List Int) (k : Nat) : (Nm p (pPair p a b k).1 ∧ Nm p (pPair p a b k).2) ∧ ((pPair p a b k).1.length ≤ k + 1 ∧ (pPair p a b k).2.length ≤ k + 1) := by
  induction k with
  | zero => exact ⟨⟨Nm.nil p, one_nm hp⟩, by simp [pPair], by simp [pPair]⟩
  | succ k ih =>
    refine ⟨⟨ih.1.2, pnext_nm hp _ _ _ _⟩, by have := ih.2.2; simp only [pPair]; omega, ?_⟩
    have := pnext_len p (a.getD k 0) (b.getD k 0) (pPair p a b k).2 (pPair p a b k).1
    have h := ih.2
    simp only [pPair]
    omega
theorem qPair_ok {p : Int} (hp : Pm p) (a b : List Int) (k : Nat) : (Nm p (qPair p a b k).1 ∧ Nm p (qPair p a b k).2) ∧ ((qPair p a b k).1.length ≤ k + 1 ∧ (qPair p a b k).2.length ≤ k + 1) := by
  induction k with
  | zero => exact ⟨⟨Nm.nil p, one_nm hp⟩, by simp [qPair], by simp [qPair]⟩
  | succ k ih =>
    refine ⟨⟨ih.1.2, pnext_nm hp _ _ _ _⟩, by have := ih.2.2; simp only [qPair]; omega, ?_⟩
    have := pnext_len p (a.getD (k + 1) 0) (b.getD (k + 1) 0) (qPair p a b k).2 (qPair p a b k).1
    have h := ih.2
    simp only [qPair]
    omega

theorem specPoly03_l0 {p : Int} (hp : Pm p) (a b : List Int) (ha : Nm p a) (hb : Nm p b) (n : Nat) (hn : n ≤ a.length) (hl : a.length ≤ 12) (hab : b.length = a.length) (d : Nat) : ∀ i, i + d = n →
    Ev (fun m => spec_l03Poly.l0 m (n : Int) (pPair p a b i).1 (pPair p a b i).2 (i : Int) p a b) (pPair p a b n).2 := by
  induction d with
  | zero =>
    intro i hi
    refine Ev.step (fun m => by rw [spec_l03Poly.l0]) ?_
    refine Ev.neg (by omega) (Ev.some' ?_)
    rw [show i = n from by omega]
  | succ d ih =>
    intro i hi
    have h := pPair_ok hp a b i
    refine Ev.step (fun m => by rw [spec_l03Poly.l0]) ?_
    refine Ev.pos (by omega) (Ev.pos (by omega) (Ev.pos (by omega) (Ev.pos (by omega) ?_)))
    rw [rd_nat, rd_nat]
    refine Ev.bind (specStep_ev hp (ha.get (i := i) (by omega)) (hb.get (i := i) (by omega)) _ _ h.1.2 h.1.1 (by omega) (by omega)) ?_
    rw [wsucc (i := i) (n := n) (by omega) (by omega)]
    exact ih (i + 1) (by omega)
theorem specPoly03_ev {p : Int} (hp : Pm p) (a b : List Int) (ha : Nm p a) (hb : Nm p b) (n : Nat) (hn : n ≤ a.length) (hl : a.length ≤ 12) (hab : b.length = a.length) :
    Ev (fun m => spec_l03Poly.f m p a b (n : Int)) (pPair p a b n).2 := by
  unfold spec_l03Poly.f
  exact specPoly03_l0 hp a b ha hb n hn hl hab n 0 (by omega)
theorem specSecond_l0 {p : Int} (hp : Pm p) (a b : List Int) (ha : Nm p a) (hb : Nm p b) (n : Nat) (hn : n + 1 ≤ a.length) (hl : a.length ≤ 12) (hab : b.length = a.length) (d : Nat) : ∀ i, i + d = n →
    Ev (fun m => spec_l03Second.l0 m ((n + 1 : Nat) : Int) (qPair p a b i).1 (qPair p a b i).2 ((i + 1 : Nat) : Int) p a b) (qPair p a b n).2 := by
  induction d with
  | zero =>
    intro i hi
    refine Ev.step (fun m => by rw [spec_l03Second.l0]) ?_
    refine Ev.neg (by omega) (Ev.some' ?_)
    rw [show i = n from by omega]
  | succ d ih =>
    intro i hi
    have h := qPair_ok hp a b i
    refine Ev.step (fun m => by rw [spec_l03Second.l0]) ?_
    refine Ev.pos (by omega) (Ev.pos (by omega) (Ev.pos (by omega) (Ev.pos (by omega) ?_)))
    rw [rd_nat, rd_nat]
    refine Ev.bind (specStep_ev hp (ha.get (i := i + 1) (by omega)) (hb.get (i := i + 1) (by omega)) _ _ h.1.2 h.1.1 (by omega) (by omega)) ?_
    rw [wsucc (i := i + 1) (n := n + 1) (by omega) (by omega)]
    exact ih (i + 1) (by omega)
/-- Q(k). -/
theorem specSecond_ev {p : Int} (hp : Pm p) (a b : List Int) (ha : Nm p a) (hb : Nm p b) (n : Nat) (hn : n ≤ a.length) (hl : a.length ≤ 12) (hab : b.length = a.length) :
    Ev (fun m => spec_l03Second.f m p a b (n : Int)) (qPair p a b n).1 := by
  unfold spec_l03Second.f
  cases n with
  | zero => exact Ev.pos (by simp) (Ev.now _)
  | succ n =>
    refine Ev.neg (by omega) ?_
    exact specSecond_l0 hp a b ha hb n hn hl hab n 0 (by omega)

theorem getD_map_range {α : Type} (g : Nat → α) (d : α) {n i : Nat} (h : i < n) : ((List.range n).map g).getD i d = g i := by
  rw [List.getD_eq_getElem?_getD, List.getElem?_map, List.getElem?_range h]; rfl
theorem map_range_succ {α : Type} (g : Nat → α) (n : Nat) : (List.range (n + 1)).map g = (List.range n).map g ++ [g n] := by
  rw [List.range_succ, List.map_append]; rfl
/-- All polynomials P(0) to P(n - 1). -/
def pAll (p : Int) (a b : List Int) (n : Nat) : List (List Int) := (List.range n).map fun k => (pPair p a b k).2
def qAll (p : Int) (a b : List Int) (n : Nat) : List (List Int) := (List.range n).map fun k => (qPair p a b k).1
theorem implPolys_l0 {p : Int} (hp : Pm p) (a b : List Int) (ha : Nm p a) (hb : Nm p b) (hl : a.length ≤ 12) (hab : b.length = a.length) (d : Nat) : ∀ i, i + d = a.length →
    Ev (fun m => impl_Jacobi_polys.l0 m (pAll p a b (i + 1)) (pPair p a b i).1 a (a.length : Int) (i : Int) p a b) (pAll p a b (a.length + 1)) := by
  induction d with
  | zero =>
    intro i hi
    refine Ev.step (fun m => by rw [impl_Jacobi_polys.l0]) ?_
    refine Ev.neg (by omega) (Ev.some' ?_)
    rw [show i = a.length from by omega]
  | succ d ih =>
    intro i hi
    have h := pPair_ok hp a b i
    have hn : (pAll p a b (i + 1)).length = i + 1 := by simp [pAll]
    have hr : rd_L1 (pAll p a b (i + 1)) (i : Int) = (pPair p a b i).2 := by
      rw [rdL_nat]; exact getD_map_range _ _ (by omega)
    refine Ev.step (fun m => by rw [impl_Jacobi_polys.l0]) ?_
    rw [hr]
    refine Ev.pos (by omega) (Ev.pos (by omega) (Ev.pos (by omega) (Ev.pos (by omega) (Ev.bindE (a := p) rfl (Ev.pos (by omega) ?_)))))
    rw [rd_nat, rd_nat]
    refine Ev.bind (implNext_ev hp (ha.get (i := i) (by omega)) (hb.get (i := i) (by omega)) _ _ h.1.2 h.1.1 (by omega) (by omega)) (Ev.pos (by omega) ?_)
    rw [wsucc (i := i) (n := a.length) (by omega) (by omega)]
    have := ih (i + 1) (by omega)
    rw [show pAll p a b (i + 1 + 1) = pAll p a b (i + 1) ++ [(pPair p a b (i + 1)).2] from map_range_succ _ _] at this
    exact this
theorem implPolys_ev {p : Int} (hp : Pm p) (a b : List Int) (ha : Nm p a) (hb : Nm p b) (hl : a.length ≤ 12) (hab : b.length = a.length) :
    Ev (fun m => impl_Jacobi_polys.f m p a b) (pAll p a b (a.length + 1)) := by
  unfold impl_Jacobi_polys.f
  exact implPolys_l0 hp a b ha hb hl hab a.length 0 (by omega)
theorem implAssoc_l0 {p : Int} (hp : Pm p) (a b : List Int) (ha : Nm p a) (hb : Nm p b) (hl : a.length ≤ 12) (hab : b.length = a.length) (d : Nat) : ∀ i, i + 1 + d = a.length →
    Ev (fun m => impl_Jacobi_associated.l0 m (qAll p a b (i + 2)) ((i + 1 : Nat) : Int) p a b) (qAll p a b (a.length + 1)) := by
  induction d with
  | zero =>
    intro i hi
    refine Ev.step (fun m => by rw [impl_Jacobi_associated.l0]) ?_
    refine Ev.neg (by omega) (Ev.some' ?_)
    rw [show i + 2 = a.length + 1 from by omega]
  | succ d ih =>
    intro i hi
    have h := qPair_ok hp a b i
    have hn : (qAll p a b (i + 2)).length = i + 2 := by simp [qAll]
    have hw : wrap64 (((i + 1 : Nat) : Int) - 1) = (i : Int) := by rw [wrap_id (by omega) (by omega)]; omega
    have hr : rd_L1 (qAll p a b (i + 2)) ((i + 1 : Nat) : Int) = (qPair p a b i).2 := by
      rw [rdL_nat]; exact getD_map_range _ _ (by omega)
    have hr' : rd_L1 (qAll p a b (i + 2)) (i : Int) = (qPair p a b i).1 := by
      rw [rdL_nat]; exact getD_map_range _ _ (by omega)
    refine Ev.step (fun m => by rw [impl_Jacobi_associated.l0]) ?_
    rw [hw, hr, hr']
    refine Ev.pos (by omega) (Ev.bindE (a := p) rfl (Ev.pos (by omega) (Ev.pos (by omega) (Ev.pos (by omega) (Ev.pos (by omega) (Ev.pos (by omega) ?_))))))
    rw [rd_nat, rd_nat]
    refine Ev.bind (implNext_ev hp (ha.get (i := i + 1) (by omega)) (hb.get (i := i + 1) (by omega)) _ _ h.1.2 h.1.1 (by omega) (by omega)) (Ev.pos (by omega) ?_)
    rw [wsucc (i := i + 1) (n := a.length) (by omega) (by omega)]
    have := ih (i + 1) (by omega)
    rw [show qAll p a b (i + 1 + 2) = qAll p a b (i + 2) ++ [(qPair p a b (i + 2)).1] from map_range_succ _ _] at this
    exact this
theorem implAssoc_ev {p : Int} (hp : Pm p) (a b : List Int) (ha : Nm p a) (hb : Nm p b) (h1 : 1 ≤ a.length) (hl : a.length ≤ 12) (hab : b.length = a.length) :
    Ev (fun m => impl_Jacobi_associated.f m p a b) (qAll p a b (a.length + 1)) := by
  unfold impl_Jacobi_associated.f
  exact implAssoc_l0 hp a b ha hb hl hab (a.length - 1) 0 (by omega)
/- Reading the lists of all polynomials of data; no condition. -/
theorem pAll_rd (p : Int) (a b : List Int) {n i : Nat} (h : i < n) : rd_L1 (pAll p a b n) (i : Int) = (pPair p a b i).2 := by
  rw [rdL_nat]; exact getD_map_range _ _ h
theorem qAll_rd (p : Int) (a b : List Int) {n i : Nat} (h : i < n) : rd_L1 (qAll p a b n) (i : Int) = (qPair p a b i).1 := by
  rw [rdL_nat]; exact getD_map_range _ _ h
theorem pAll_len (p : Int) (a b : List Int) (n : Nat) : (pAll p a b n).length = n := by simp [pAll]
theorem qAll_len (p : Int) (a b : List Int) (n : Nat) : (qAll p a b n).length = n := by simp [qAll]
theorem ofCode {p : Int} {a b : List Int} {r : Bool} {c : Int} (h : jacC p a b r = c) (ha : Sm a.length) (hb : Sm b.length) : Ev (fun n => impl_jacobiCode.f n p a b r) c := by
  subst h; exact implJacCode_ev p a b r ha hb
end Go.Proofs.Ytijkfbnjcebfaaa.Pr
