/- Texts of this session in one: what functions of the program compute, and plain facts of it, under the conditions that each theorem names. -/
import Derived.Laws.BitsLemmas
import Derived.Test.YtnpepkpogohcmaaKionals1
import Derived.Test.YtnpepkpogohcmaaKionals2
import Derived.Test.YtnpepkpogohcmaaKionals3
import Derived.Test.YtnpepkpogohcmaaKionals4
import Derived.Test.YtnpepkpogohcmaaKionals5
import Derived.Test.YtnpepkpogohcmaaKionals6
import Derived.Test.YtnpepkpogohcmaaKionals8
import Derived.Test.YtnpepkpogohcmaaKionals9
namespace Go.Proofs.Ytnpepkpogohcmaa.Pr
/- Primes and numbers modulo p: what the program and the reference compute of them. -/
open Go.RowKit Go.Proofs.YtnpepkpogohcmaaW.PrintWords Go.Proofs.YtnpepkpogohcmaaW.PrintLast Go.Proofs.YtnpepkpogohcmaaW.PrintMore
theorem in_eq (a b c : Int) : spec_l01In.f a b c = some (decide (b ≤ a ∧ a ≤ c)) := by
  unfold spec_l01In.f
  by_cases h : b ≤ a
  · rw [if_pos h]; simp [h]
  · rw [if_neg h]; simp [h]
theorem within_eq (a b c : Int) : impl_within.f a b c = some (decide (b ≤ a ∧ a ≤ c)) := by
  unfold impl_within.f
  by_cases h : b ≤ a
  · rw [if_pos h]; simp [h]
  · rw [if_neg h]; simp [h]
theorem has_eq (p x : Int) : impl_field_has.f p x = some (decide (0 ≤ x ∧ x < p)) := by
  unfold impl_field_has.f
  by_cases h : 0 ≤ x
  · rw [if_pos h]; simp [h]
  · rw [if_neg h]; simp [h]
theorem mod_eq {p : Int} (hp : Pm p) (x : Int) : impl_field_mod.f p x = some (x % p) := by
  unfold impl_field_mod.f
  rw [if_neg hp.ne, go_mod hp]

/-! ### primes -/
def noDiv (p : Int) (i : Nat) : Prop := ∀ j, j < 101 → i ≤ j → (j : Int) * (j : Int) ≤ p → p % (j : Int) ≠ 0
instance (p : Int) (i : Nat) : Decidable (noDiv p i) := by unfold noDiv; infer_instance
def primeB (p : Int) : Bool := decide (2 ≤ p ∧ p ≤ 10007) && decide (noDiv p 2)
theorem primeB.pm {p : Int} (h : primeB p = true) : Pm p := by
  simp only [primeB, Bool.and_eq_true, decide_eq_true_eq] at h
  exact ⟨h.1.1, h.1.2⟩
theorem noDiv_succ {p : Int} {i : Nat} (h : p % (i : Int) ≠ 0) : decide (noDiv p i) = decide (noDiv p (i + 1)) := by
  apply decide_eq_decide.2
  constructor
  · exact fun g j h1 h2 h3 => g j h1 (by omega) h3
  · intro g j h1 h2 h3
    by_cases e : j = i
    · subst e; exact h
    · exact g j h1 (by omega) h3
theorem noDiv_big {p : Int} {i : Nat} (h : p < (i : Int) * (i : Int)) : noDiv p i := by
  intro j h1 h2 h3
  have := mulB (a := (i : Int)) (b := (i : Int)) (m := (j : Int)) (n := (j : Int)) (by omega) (by omega) (by omega) (by omega)
  omega
theorem sqB {i : Nat} (h : i ≤ 101) : 0 ≤ (i : Int) * (i : Int) ∧ (i : Int) * (i : Int) ≤ 10201 := by
  have := mulB (a := (i : Int)) (b := (i : Int)) (m := 101) (n := 101) (by omega) (by omega) (by omega) (by omega)
  omega
theorem specPrime_l0 {p : Int} (h2 : 2 ≤ p) (ht : p ≤ 10007) (d : Nat) : ∀ i, 2 ≤ i → i + d = 101 → Ev (fun k => spec_l01Prime.l0 k p (i : Int)) (decide (noDiv p i)) := by
  induction d with
  | zero =>
    intro i hi hd
    obtain rfl : i = 101 := by omega
    refine Ev.step (fun k => by rw [spec_l01Prime.l0]) ?_
    refine Ev.neg (by rw [wrap_id (by omega) (by omega)]; omega) (Ev.some' ?_)
    exact (decide_eq_true (noDiv_big (by omega))).symm
  | succ d ih =>
    intro i hi hd
    have hb := sqB (i := i) (by omega)
    refine Ev.step (fun k => by rw [spec_l01Prime.l0]) ?_
    rw [wrap_id (x := (i : Int) * (i : Int)) (by omega) (by omega), tmod_pos (by omega)]
    by_cases h : (i : Int) * (i : Int) ≤ p
    · refine Ev.pos h (Ev.neg (by omega) ?_)
      by_cases h3 : p % (i : Int) = 0
      · exact Ev.pos h3 (Ev.some' (decide_eq_false (fun g => g i (by omega) (by omega) h h3)).symm)
      · refine Ev.neg h3 ?_
        rw [noDiv_succ h3, wsucc (i := i) (n := 101) (by omega) (by omega)]
        exact ih (i + 1) (by omega) (by omega)
    · exact Ev.neg h (Ev.some' (decide_eq_true (noDiv_big (by omega))).symm)
theorem implPrime_l0 {p : Int} (h2 : 2 ≤ p) (ht : p ≤ 10007) (d : Nat) : ∀ i, 2 ≤ i → i + d = 101 → Ev (fun k => impl_IsPrime.l0 k p (i : Int)) (decide (noDiv p i)) := by
  induction d with
  | zero =>
    intro i hi hd
    obtain rfl : i = 101 := by omega
    refine Ev.step (fun k => by rw [impl_IsPrime.l0]) ?_
    refine Ev.neg (by rw [wrap_id (by omega) (by omega)]; omega) (Ev.some' ?_)
    exact (decide_eq_true (noDiv_big (by omega))).symm
  | succ d ih =>
    intro i hi hd
    have hb := sqB (i := i) (by omega)
    refine Ev.step (fun k => by rw [impl_IsPrime.l0]) ?_
    rw [wrap_id (x := (i : Int) * (i : Int)) (by omega) (by omega), tmod_pos (by omega)]
    by_cases h : (i : Int) * (i : Int) ≤ p
    · refine Ev.pos h (Ev.neg (by omega) ?_)
      by_cases h3 : p % (i : Int) = 0
      · exact Ev.pos h3 (Ev.some' (decide_eq_false (fun g => g i (by omega) (by omega) h h3)).symm)
      · refine Ev.neg h3 ?_
        rw [noDiv_succ h3, wsucc (i := i) (n := 101) (by omega) (by omega)]
        exact ih (i + 1) (by omega) (by omega)
    · exact Ev.neg h (Ev.some' (decide_eq_true (noDiv_big (by omega))).symm)
theorem specPrime_ev (p : Int) : Ev (fun k => spec_l01Prime.f k p) (primeB p) := by
  unfold spec_l01Prime.f primeB
  refine Ev.bindE (in_eq _ _ _) ?_
  by_cases h : 2 ≤ p ∧ p ≤ 10007
  · refine Ev.pos (decide_eq_true h) ?_
    rw [decide_eq_true h, Bool.true_and]
    exact specPrime_l0 h.1 h.2 99 2 (by omega) (by omega)
  · refine Ev.neg (by simp [h]) (Ev.some' ?_)
    rw [decide_eq_false h, Bool.false_and]
theorem implPrime_ev (p : Int) : Ev (fun k => impl_IsPrime.f k p) (primeB p) := by
  unfold impl_IsPrime.f primeB
  refine Ev.bindE (within_eq _ _ _) ?_
  by_cases h : 2 ≤ p ∧ p ≤ 10007
  · refine Ev.pos (decide_eq_true h) ?_
    rw [decide_eq_true h, Bool.true_and]
    exact implPrime_l0 h.1 h.2 99 2 (by omega) (by omega)
  · refine Ev.neg (by simp [h]) (Ev.some' ?_)
    rw [decide_eq_false h, Bool.false_and]

/-! ### numbers modulo p -/
theorem Nm_cons (p x : Int) (l : List Int) : Nm p (x :: l) ↔ (0 ≤ x ∧ x < p) ∧ Nm p l := by
  constructor
  · exact fun h => ⟨h x (List.mem_cons_self ..), fun y hy => h y (List.mem_cons_of_mem _ hy)⟩
  · exact fun h => Nm.cons h.1.1 h.1.2 h.2
theorem allO_has (p : Int) (l : List Int) : allO (fun z_ => impl_field_has.f p z_) l = some (decide (Nm p l)) := by
  induction l with
  | nil => simp only [allO]; rw [decide_eq_true (Nm.nil p)]
  | cons x l ih =>
    simp only [has_eq] at ih
    simp only [allO, has_eq, Option.bind_some]
    by_cases h : 0 ≤ x ∧ x < p
    · rw [if_pos (decide_eq_true h), ih]
      congr 1
      apply decide_eq_decide.2
      rw [Nm_cons]
      exact ⟨fun g => ⟨h, g⟩, fun g => g.2⟩
    · rw [if_neg (by simp [h])]
      congr 1
      exact (decide_eq_false (fun g => h ((Nm_cons p x l).1 g).1)).symm
theorem areAll_has (p : Int) (l : List Int) (hl : l.length < 4611686018427387904) : impl_areAll_int64.f l (fun z_ => impl_field_has.f p z_) = some (decide (Nm p l)) := by
  unfold impl_areAll_int64.f
  rw [if_pos hl, allO_has]
theorem Nm_drop {p : Int} {l : List Int} {i : Nat} (h : i < l.length) : Nm p (l.drop i) ↔ (0 ≤ l.getD i 0 ∧ l.getD i 0 < p) ∧ Nm p (l.drop (i + 1)) := by
  rw [drop_cons l 0 i h, Nm_cons]
/-! ### sums -/
def sumTo (g : Nat → Int) : Nat → Int
  | 0 => 0
  | n + 1 => sumTo g n + g n
/- What comes to some value of a kind, whichever (Ex); the source of drawn numbers. No condition. -/
open Go Go.RowKit Go.Proofs.YtnpepkpogohcmaaW.PrintWords Go.Proofs.YtnpepkpogohcmaaW.PrintLast Go.Proofs.YtnpepkpogohcmaaW.PrintMore
/-- It comes to a value with P. -/
def Ex {α : Type} (g : Nat → Option α) (P : α → Prop) : Prop := ∃ r, Ev g r ∧ P r
section
variable {α β : Type} {P P' : α → Prop} {Q : β → Prop} {g f X Y : Nat → Option α}
theorem Ex.now {r : α} (h : P r) : Ex (fun _ => some r) P := ⟨r, Ev.now r, h⟩
theorem Ex.ev {r : α} (e : Ev g r) (h : P r) : Ex g P := ⟨r, e, h⟩
theorem Ex.weak (h : Ex g P) (k : ∀ a, P a → P' a) : Ex g P' := by
  obtain ⟨r, e, h⟩ := h
  exact ⟨r, e, k r h⟩
theorem Ex.bind {f : Nat → α → Option β} (h : Ex g P) (k : ∀ a, P a → Ex (fun n => f n a) Q) : Ex (fun n => (g n).bind (f n)) Q := by
  obtain ⟨r, e, h⟩ := h
  obtain ⟨s, e', h'⟩ := k r h
  exact ⟨s, Ev.bind e e', h'⟩
theorem Ex.ite {c : Prop} [Decidable c] (h : c → Ex X P) (h' : ¬ c → Ex Y P) : Ex (fun k => if c then X k else Y k) P := by
  by_cases g : c
  · obtain ⟨r, e, hr⟩ := h g
    exact ⟨r, Ev.pos g e, hr⟩
  · obtain ⟨r, e, hr⟩ := h' g
    exact ⟨r, Ev.neg g e, hr⟩
theorem Ex.pos {c : Prop} [Decidable c] (g : c) (h : Ex X P) : Ex (fun k => if c then X k else Y k) P := Ex.ite (fun _ => h) (fun n => absurd g n)
theorem Ex.neg {c : Prop} [Decidable c] (g : ¬ c) (h : Ex Y P) : Ex (fun k => if c then X k else Y k) P := Ex.ite (fun n => absurd n g) (fun _ => h)
theorem Ex.step (h : ∀ k, g (k + 1) = f k) (k : Ex f P) : Ex g P := by
  obtain ⟨r, e, hr⟩ := k
  exact ⟨r, Ev.step h e, hr⟩
theorem Ex.eq {x : Option α} {r : α} (h : x = some r) (k : P r) : Ex (fun _ => x) P := ⟨r, Ev.eq h, k⟩
end

/-- A source of numbers: bytes, of which the first i are used. -/
structure St (c : List Int) (i : Int) : Prop where
  b : ∀ x ∈ c, 0 ≤ x ∧ x < 256
  l : c.length ≤ 4096
  lo : 0 ≤ i
  hi : i ≤ (c.length : Int)
theorem mask_in (y : Int) : 0 ≤ Go.bits .and .u64 (IntKind.u64.wrap y / 8589934592) 16777215 ∧ Go.bits .and .u64 (IntKind.u64.wrap y / 8589934592) 16777215 < 16777216 := by
  have hw : ∀ n : Int, 0 ≤ n → n < 2 ^ 63 → IntKind.u64.wrap n = n := fun n h₀ h₁ => by rw [IntKind.wrap_u64]; omega
  have h0 : 0 ≤ IntKind.u64.wrap y / 8589934592 ∧ IntKind.u64.wrap y / 8589934592 < 2147483648 := by rw [IntKind.wrap_u64]; omega
  have h := bits_mask .u64 63 (by decide) hw 24 (by decide) (IntKind.u64.wrap y / 8589934592) (by omega) (by omega)
  have e : ((2 : Int) ^ 24 - 1) = 16777215 := by decide
  have e2 : ((2 : Int) ^ 24) = 16777216 := by decide
  rw [e, e2] at h
  rw [h]
  omega
/-- What Next gives. -/
def Nx (c : List Int) (n : Int) (r : Int × Int × Int) : Prop := St c r.2.1 ∧ 0 ≤ r.1 ∧ (1 ≤ n → r.1 < n) ∧ (n < 1 → r.1 = 0)
theorem next_ex {c : List Int} {i : Int} (s : St c i) (h n : Int) : Ex (fun _ => spec_l01Next.f c i h n) (Nx c n) := by
  unfold spec_l01Next.f
  have hl := s.l
  have hlo := s.lo
  have hhi := s.hi
  have hm := mask_in (IntKind.u64.wrap (h * 6364136223846793005) + 1442695040888963407)
  generalize Go.bits .and .u64 (IntKind.u64.wrap (IntKind.u64.wrap (h * 6364136223846793005) + 1442695040888963407) / 8589934592) 16777215 = m at hm ⊢
  refine Ex.ite (fun g => Ex.now ⟨s, Int.le_refl _, fun g' => by omega, fun _ => rfl⟩) (fun g => ?_)
  refine Ex.ite (fun g1 => ?_) (fun g1 => ?_)
  · have hx : 0 ≤ rd c i ∧ rd c i < 256 := by
      obtain ⟨j, rfl⟩ : ∃ j : Nat, i = (j : Int) := ⟨i.toNat, by omega⟩
      rw [rd_nat]
      exact s.b _ (getD_mem (by omega))
    have e : wrap64 (wrap64 m + wrap64 (rd c i)) = m + rd c i := by
      rw [wrap_id (x := rd c i) (by omega) (by omega), wrap_id (x := m) (by omega) (by omega), wrap_id (by omega) (by omega)]
    have hb := emodB (p := n) (by omega) (m + rd c i)
    refine Ex.pos s.lo (Ex.neg (by omega) (Ex.now ⟨⟨s.b, s.l, ?_, ?_⟩, ?_, ?_, ?_⟩))
    · show 0 ≤ wrap64 (i + 1)
      rw [wrap_id (by omega) (by omega)]; omega
    · show wrap64 (i + 1) ≤ _
      rw [wrap_id (by omega) (by omega)]; omega
    · show 0 ≤ Int.tmod (wrap64 (wrap64 m + wrap64 (rd c i))) n
      rw [e, tmod_pos (by omega)]; exact hb.1
    · show 1 ≤ n → Int.tmod (wrap64 (wrap64 m + wrap64 (rd c i))) n < n
      rw [e, tmod_pos (by omega)]; exact fun _ => hb.2
    · exact fun g' => by omega
  · have e : wrap64 m = m := wrap_id (by omega) (by omega)
    have hb := emodB (p := n) (by omega) m
    refine Ex.neg (by omega) (Ex.now ⟨s, ?_, ?_, ?_⟩)
    · show 0 ≤ Int.tmod (wrap64 m) n
      rw [e, tmod_pos (by omega)]; exact hb.1
    · show 1 ≤ n → Int.tmod (wrap64 m) n < n
      rw [e, tmod_pos (by omega)]; exact fun _ => hb.2
    · exact fun g' => by omega
theorem pick_ex {c : List Int} {i : Int} (s : St c i) (h : Int) (l : List Int) (hl : 1 ≤ l.length) : Ex (fun _ => spec_l01Pick.f c i h l) (fun r => St c r.2.1 ∧ r.1 ∈ l) := by
  unfold spec_l01Pick.f
  refine Ex.bind (next_ex s h (l.length : Int)) (fun r hr => ?_)
  obtain ⟨h1, h2, h3, _⟩ := hr
  have h3 := h3 (by omega)
  refine Ex.pos h2 (Ex.pos h3 (Ex.now ⟨h1, ?_⟩))
  obtain ⟨j, e⟩ : ∃ j : Nat, r.1 = (j : Int) := ⟨r.1.toNat, by omega⟩
  dsimp only
  rw [e, rd_nat]
  exact getD_mem (by omega)
/-- A code's source. -/
def Sc (c : List Int) (r : List Int × Int × Int) : Prop := r.1 = c ∧ St c r.2.1
theorem from_l0 {c : List Int} (hb : ∀ x ∈ c, 0 ≤ x ∧ x < 256) (hl : c.length ≤ 4096) (d : Nat) : ∀ (i : Nat) (h : Int), i + d = c.length → Ex (fun k => spec_l01From.l0 k c (i : Int) c 0 h) (Sc c) := by
  have s : St c 0 := ⟨hb, hl, Int.le_refl _, by omega⟩
  induction d with
  | zero =>
    intro i h hi
    refine Ex.step (fun k => by rw [spec_l01From.l0]) ?_
    exact Ex.neg (by omega) (Ex.now ⟨rfl, s⟩)
  | succ d ih =>
    intro i h hi
    refine Ex.step (fun k => by rw [spec_l01From.l0]) ?_
    refine Ex.pos (by omega) (Ex.ite (fun _ => Ex.pos (by omega) ?_) (fun _ => Ex.now ⟨rfl, s⟩))
    rw [wsucc (i := i) (n := c.length) (by omega) (by omega)]
    exact ih (i + 1) _ (by omega)
theorem from_ex {c : List Int} (hb : ∀ x ∈ c, 0 ≤ x ∧ x < 256) (hl : c.length ≤ 4096) : Ex (fun k => spec_l01From.f k c) (Sc c) := by
  unfold spec_l01From.f
  exact from_l0 hb hl c.length 0 _ (by omega)
/- Polynomials and the program's code for them; no condition. -/
/-! ### polynomials -/
def lastOk (l : List Int) : Bool := decide (l.length = 0) || (l.getD (l.length - 1) 0 != 0)
def polyB (p : Int) (l : List Int) : Bool := decide (Nm p l) && (decide (l.length ≤ 25) && lastOk l)
theorem lastPart (l : List Int) (hl : Sm l.length) :
    (if (l.length : Int) = 0 then (some true) else (if 0 ≤ (wrap64 ((l.length : Int) - 1)) then (if (wrap64 ((l.length : Int) - 1)) < (l.length : Int) then (some ((rd l (wrap64 ((l.length : Int) - 1))) != 0)) else none) else none)) = some (lastOk l) := by
  unfold lastOk
  by_cases h : l.length = 0
  · rw [if_pos (by omega)]; simp [h]
  · rw [if_neg (by omega), wpred (by omega) (by unfold Sm at hl; omega), if_pos (by omega), if_pos (by omega), rd_nat]
    simp [h]
theorem implPoly_eq (p : Int) (l : List Int) (hl : Sm l.length) : impl_IsPoly.f p l = some (polyB p l) := by
  unfold impl_IsPoly.f polyB
  by_cases h : l.length ≤ 25
  · rw [if_pos (by omega), areAll_has p l (by omega), Option.bind_some]
    by_cases hn : Nm p l
    · rw [if_pos (decide_eq_true hn), lastPart l hl]; simp [h, hn]
    · rw [if_neg (by simp [hn])]; simp [hn]
  · rw [if_neg (by omega)]; simp [h]
theorem allO_poly (p : Int) (ls : List (List Int)) (hl : ∀ l ∈ ls, Sm l.length) : allO (fun z_ => impl_polyCode_1.f z_ p) ls = some (ls.all (polyB p)) := by
  induction ls with
  | nil => rfl
  | cons l ls ih =>
    have e : impl_polyCode_1.f l p = some (polyB p l) := by
      unfold impl_polyCode_1.f
      rw [implPoly_eq p l (hl l (List.mem_cons_self ..))]; rfl
    simp only [allO, e, Option.bind_some, List.all_cons]
    by_cases h : polyB p l = true
    · rw [if_pos h, ih (fun m hm => hl m (List.mem_cons_of_mem _ hm)), h, Bool.true_and]
    · rw [if_neg h, Bool.eq_false_iff.2 h, Bool.false_and]
theorem polyCode_ev (p : Int) (b : Bool) (ls : List (List Int)) (hs : Sm ls.length) (hl : ∀ l ∈ ls, Sm l.length) :
    Ev (fun k => impl_polyCode.f k p b ls) (if ls.all (polyB p) then (if primeB p && b then 0 else 2) else 1) := by
  unfold impl_polyCode.f
  have e : impl_areAll_rows.f ls (fun z_ => impl_polyCode_1.f z_ p) = some (ls.all (polyB p)) := by
    unfold impl_areAll_rows.f
    rw [if_pos (by unfold Sm at hs; omega), allO_poly p ls hl]
  refine Ev.bindE e ?_
  by_cases h : ls.all (polyB p) = true
  · refine Ev.pos h (Ev.bind (implPrime_ev p) ?_)
    rw [if_pos h]
    cases primeB p <;> cases b <;> exact ⟨0, fun _ _ => rfl⟩
  · refine Ev.neg h (Ev.some' ?_)
    rw [if_neg h]
/- Small facts of polynomials; no condition. -/
theorem polyB.nm {p : Int} {f : List Int} (h : polyB p f = true) : Nm p f := by
  simp only [polyB, Bool.and_eq_true, decide_eq_true_eq] at h; exact h.1
theorem polyB.len {p : Int} {f : List Int} (h : polyB p f = true) : f.length ≤ 25 := by
  simp only [polyB, Bool.and_eq_true, decide_eq_true_eq] at h; exact h.2.1
theorem one_all (p : Int) (f : List Int) : [f].all (polyB p) = polyB p f := by simp
/- Polynomials: the reference's test; no condition. -/
theorem specPoly_l0 (p : Int) (l : List Int) (hl : Sm l.length) (d : Nat) : ∀ i, i + d = l.length → Ev (fun k => spec_l01Poly.l0 k p l (i : Int)) (decide (Nm p (l.drop i)) && (decide (l.length ≤ 25) && lastOk l)) := by
  induction d with
  | zero =>
    intro i hi
    refine Ev.step (fun k => by rw [spec_l01Poly.l0]) ?_
    refine Ev.neg (by omega) ?_
    rw [List.drop_eq_nil_of_le (by omega), decide_eq_true (Nm.nil p), Bool.true_and]
    by_cases h : l.length ≤ 25
    · refine Ev.pos (by omega) (Ev.eq ?_)
      rw [lastPart l hl]; simp [h]
    · exact Ev.neg (by omega) (Ev.some' (by simp [h]))
  | succ d ih =>
    intro i hi
    refine Ev.step (fun k => by rw [spec_l01Poly.l0]) ?_
    refine Ev.pos (by omega) (Ev.pos (by omega) ?_)
    rw [rd_nat, wsucc (i := i) (n := l.length) (by omega) (by unfold Sm at hl; omega)]
    by_cases h : l.getD i 0 < 0
    · refine Ev.pos h (Ev.some' ?_)
      rw [decide_eq_false (fun g => by have := ((Nm_drop (by omega : i < l.length)).1 g).1.1; omega), Bool.false_and]
    · refine Ev.neg h ?_
      by_cases h' : p ≤ l.getD i 0
      · refine Ev.pos h' (Ev.some' ?_)
        rw [decide_eq_false (fun g => by have := ((Nm_drop (by omega : i < l.length)).1 g).1.2; omega), Bool.false_and]
      · refine Ev.neg h' (Ev.cast (ih (i + 1) (by omega)) ?_)
        congr 1
        apply decide_eq_decide.2
        rw [Nm_drop (by omega : i < l.length)]
        exact ⟨fun g => ⟨⟨by omega, by omega⟩, g⟩, fun g => g.2⟩
theorem specPoly_ev (p : Int) (l : List Int) (hl : Sm l.length) : Ev (fun k => spec_l01Poly.f k p l) (polyB p l) := by
  unfold spec_l01Poly.f polyB
  simpa using specPoly_l0 p l hl l.length 0 (by omega)
/- Moments: which lists are some, for the program and for the reference; no condition. -/
theorem numbers_l0 (p : Int) (hp : -9223372036854775807 ≤ p) (hp' : p ≤ 9223372036854775807) (l : List Int) (hl : Sm l.length) (d : Nat) : ∀ i, i + d = l.length → Ev (fun k => spec_l02Numbers.l0 k p l (i : Int)) (decide (Nm p (l.drop i))) := by
  induction d with
  | zero =>
    intro i hi
    refine Ev.step (fun k => by rw [spec_l02Numbers.l0]) ?_
    refine Ev.neg (by omega) (Ev.some' ?_)
    rw [List.drop_eq_nil_of_le (by omega)]
    exact (decide_eq_true (Nm.nil p)).symm
  | succ d ih =>
    intro i hi
    refine Ev.step (fun k => by rw [spec_l02Numbers.l0]) ?_
    refine Ev.pos (by omega) (Ev.pos (by omega) (Ev.bindE (in_eq _ _ _) ?_))
    rw [rd_nat, wrap_id (x := p - 1) (by omega) (by omega), wsucc (i := i) (n := l.length) (by omega) (by unfold Sm at hl; omega)]
    by_cases h : 0 ≤ l.getD i 0 ∧ l.getD i 0 ≤ p - 1
    · refine Ev.pos (decide_eq_true h) (Ev.cast (ih (i + 1) (by omega)) ?_)
      apply decide_eq_decide.2
      rw [Nm_drop (by omega : i < l.length)]
      exact ⟨fun g => ⟨⟨h.1, by omega⟩, g⟩, fun g => g.2⟩
    · refine Ev.neg (by simpa using h) (Ev.some' (decide_eq_false ?_).symm)
      rw [Nm_drop (by omega : i < l.length)]
      exact fun g => h ⟨g.1.1, by omega⟩
theorem numbers_ev {p : Int} (hp : Pm p) (l : List Int) (hl : Sm l.length) : Ev (fun k => spec_l02Numbers.f k p l) (decide (Nm p l)) := by
  unfold spec_l02Numbers.f
  have h2 := hp.two
  have ht := hp.top
  simpa using numbers_l0 p (by omega) (by omega) l hl l.length 0 (by omega)

/-! ### moments -/
def momB (p : Int) (l : List Int) : Bool := primeB p && (decide (1 ≤ l.length ∧ l.length ≤ 24) && decide (Nm p l))
theorem momB.pm {p : Int} {l : List Int} (h : momB p l = true) : Pm p := by
  simp only [momB, Bool.and_eq_true] at h; exact primeB.pm h.1
theorem momB.nm {p : Int} {l : List Int} (h : momB p l = true) : Nm p l := by
  simp only [momB, Bool.and_eq_true, decide_eq_true_eq] at h; exact h.2.2
theorem momB.len {p : Int} {l : List Int} (h : momB p l = true) : 1 ≤ l.length ∧ l.length ≤ 24 := by
  simp only [momB, Bool.and_eq_true, decide_eq_true_eq] at h; exact h.2.1
theorem momB.prime {p : Int} {l : List Int} (h : momB p l = true) : primeB p = true := by
  simp only [momB, Bool.and_eq_true] at h; exact h.1
theorem specAre_ev (p : Int) (l : List Int) (hl : Sm l.length) : Ev (fun k => spec_l02Are.f k p l) (momB p l) := by
  unfold spec_l02Are.f momB
  refine Ev.bind (specPrime_ev p) ?_
  by_cases hp : primeB p = true
  · rw [hp, Bool.true_and]
    refine Ev.pos rfl ?_
    by_cases h1 : 1 ≤ l.length
    · refine Ev.pos (by omega) ?_
      by_cases h2 : l.length ≤ 24
      · refine Ev.pos (by omega) (Ev.bind (numbers_ev (primeB.pm hp) l hl) (Ev.some' ?_))
        rw [decide_eq_true (⟨h1, h2⟩ : 1 ≤ l.length ∧ l.length ≤ 24), Bool.true_and]
      · exact Ev.neg (by omega) (Ev.some' (by simp [h2]))
    · exact Ev.neg (by omega) (Ev.some' (by simp [h1]))
  · rw [Bool.eq_false_iff.2 hp, Bool.false_and]
    exact Ev.neg (by simp) (Ev.now _)
theorem implAre_ev (p : Int) (l : List Int) (hl : Sm l.length) : Ev (fun k => impl_AreMoments.f k p l) (momB p l) := by
  unfold impl_AreMoments.f momB
  refine Ev.bind (implPrime_ev p) ?_
  by_cases hp : primeB p = true
  · rw [hp, Bool.true_and]
    refine Ev.pos rfl (Ev.bindE (a := (l.length : Int)) rfl (Ev.bindE (within_eq _ _ _) ?_))
    by_cases h : 1 ≤ l.length ∧ l.length ≤ 24
    · refine Ev.pos (decide_eq_true (by omega)) (Ev.bindE (a := p) rfl (Ev.bindE (areAll_has p l (by unfold Sm at hl; omega)) (Ev.some' ?_)))
      rw [decide_eq_true h, Bool.true_and]
    · refine Ev.neg (by simp; omega) (Ev.some' ?_)
      rw [decide_eq_false h, Bool.false_and]
  · rw [Bool.eq_false_iff.2 hp, Bool.false_and]
    exact Ev.neg (by simp) (Ev.now _)
theorem momentsCode_ev (p : Int) (l : List Int) (hl : Sm l.length) (b : Bool) (ls : List (List Int)) (hs : Sm ls.length) (hls : ∀ l ∈ ls, Sm l.length) :
    Ev (fun k => impl_momentsCode.f k p l b ls) (if momB p l && ls.all (polyB p) then (if b then 0 else 2) else 1) := by
  unfold impl_momentsCode.f
  refine Ev.bind (implAre_ev p l hl) ?_
  by_cases h : momB p l = true
  · rw [h, Bool.true_and]
    refine Ev.pos rfl (Ev.bind (polyCode_ev p b ls hs hls) (Ev.some' ?_))
    rw [momB.prime h, Bool.true_and]
  · rw [Bool.eq_false_iff.2 h, Bool.false_and]
    exact Ev.neg (by simp) (Ev.some' rfl)
/- Small facts of lists, copies and polynomials; no condition. -/
theorem with_eq (p : Int) (m l : List Int) (hl : Sm l.length) : impl_Moments_with.f p m l = some (p, l) := by
  unfold impl_Moments_with.f slices_Clone_ints.f
  rw [if_pos (by unfold Sm at hl; omega)]; rfl
/- CutMoments: for all arguments the program and the reference come to one value; no condition. -/
theorem CutMoments_val (p : Int) (l : List Int) (a : Int) (hl : Sm l.length) : ∃ v : Int × List Int × Int, Ev (fun k => spec_CutMoments.f k p l a) v ∧ Ev (fun k => impl_CutMoments.f k p l a) v ∧ Sm v.2.1.length ∧ (v.2.2 = 0 → (v.2.1.length : Int) = a) := by
  have hc := fun b => momentsCode_ev p l hl b [] (by simp [Sm]) (fun l h => by cases h)
  have h1 : impl_CutMoments_1.f a p l = some (decide (1 ≤ a ∧ a ≤ (l.length : Int))) := by
    unfold impl_CutMoments_1.f impl_length_int64.f
    simp only [Option.bind_some, within_eq]
  by_cases h : momB p l = true
  · rw [h] at hc
    by_cases ha : 1 ≤ a ∧ a ≤ (l.length : Int)
    · refine ⟨(p, l.take a.toNat, 0), ?_, ?_, hl.take _, fun _ => by dsimp only; rw [List.length_take]; omega⟩
      · unfold spec_CutMoments.f
        exact Ev.bind (specAre_ev p l hl) (Ev.pos h (Ev.bindE (in_eq _ _ _) (Ev.pos (decide_eq_true ha) (Ev.pos (by omega) (Ev.pos ha.2 (Ev.bindE (own_eq _ (hl.take _)) (Ev.now _)))))))
      · unfold impl_CutMoments.f
        rw [decide_eq_true ha] at h1
        exact Ev.bindE h1 (Ev.bind (hc true) (Ev.pos rfl (Ev.pos (by omega) (Ev.pos ha.2 (Ev.bindE (with_eq p l _ (hl.take _)) (Ev.now _))))))
    · refine ⟨(0, [], 2), ?_, ?_, Sm0, fun g => absurd g (by decide)⟩
      · unfold spec_CutMoments.f
        exact Ev.bind (specAre_ev p l hl) (Ev.pos h (Ev.bindE (in_eq _ _ _) (Ev.neg (by simpa using ha) (Ev.now _))))
      · unfold impl_CutMoments.f
        rw [decide_eq_false ha] at h1
        exact Ev.bindE h1 (Ev.bind (hc false) (Ev.neg (by simp) (Ev.now _)))
  · rw [Bool.eq_false_iff.2 h] at hc
    refine ⟨(0, [], 1), ?_, ?_, Sm0, fun g => absurd g (by decide)⟩
    · unfold spec_CutMoments.f
      exact Ev.bind (specAre_ev p l hl) (Ev.neg h (Ev.now _))
    · unfold impl_CutMoments.f
      exact Ev.bindE h1 (Ev.bind (hc _) (Ev.neg (by simp) (Ev.now _)))
theorem CutMoments_both (p : Int) (l : List Int) (a : Int) (hl : Sm l.length) : ∃ v : Int × List Int × Int, Ev (fun k => spec_CutMoments.f k p l a) v ∧ Ev (fun k => impl_CutMoments.f k p l a) v ∧ Sm v.2.1.length := by
  obtain ⟨v, h1, h2, h3, _⟩ := CutMoments_val p l a hl
  exact ⟨v, h1, h2, h3⟩
/- ShiftMoments: for all arguments the program and the reference come to one value; no condition. -/
theorem ShiftMoments_val (p : Int) (l : List Int) (hl : Sm l.length) : ∃ v : Int × List Int × Int, Ev (fun k => spec_ShiftMoments.f k p l) v ∧ Ev (fun k => impl_ShiftMoments.f k p l) v ∧ Sm v.2.1.length ∧ (v.2.2 = 0 → momB p l = true ∧ 2 ≤ l.length ∧ v = (p, l.drop 1, 0)) := by
  have hc := momentsCode_ev p l hl true [] (by simp [Sm]) (fun l h => by cases h)
  by_cases h : momB p l = true
  · have hn := momB.len h
    rw [h] at hc
    by_cases h1 : l.length = 1
    · refine ⟨(0, [], 5), ?_, ?_, Sm0, fun g => absurd g (by decide)⟩
      · unfold spec_ShiftMoments.f
        exact Ev.bind (specAre_ev p l hl) (Ev.pos h (Ev.pos (by omega) (Ev.now _)))
      · unfold impl_ShiftMoments.f
        exact Ev.bind hc (Ev.pos rfl (Ev.pos (by omega) (Ev.now _)))
    · refine ⟨(p, l.drop 1, 0), ?_, ?_, hl.drop 1, fun _ => ⟨h, by omega, rfl⟩⟩
      · unfold spec_ShiftMoments.f
        exact Ev.bind (specAre_ev p l hl) (Ev.pos h (Ev.neg (by omega) (Ev.pos (by omega) (Ev.bindE (own_eq _ (hl.drop 1)) (Ev.now _)))))
      · unfold impl_ShiftMoments.f
        exact Ev.bind hc (Ev.pos rfl (Ev.neg (by omega) (Ev.pos (by omega) (Ev.bindE (with_eq p l _ (hl.drop 1)) (Ev.now _)))))
  · rw [Bool.eq_false_iff.2 h] at hc
    refine ⟨(0, [], 1), ?_, ?_, Sm0, fun g => absurd g (by decide)⟩
    · unfold spec_ShiftMoments.f
      exact Ev.bind (specAre_ev p l hl) (Ev.neg h (Ev.now _))
    · unfold impl_ShiftMoments.f
      exact Ev.bind hc (Ev.neg (by simp) (Ev.now _))
theorem ShiftMoments_both (p : Int) (l : List Int) (hl : Sm l.length) : ∃ v : Int × List Int × Int, Ev (fun k => spec_ShiftMoments.f k p l) v ∧ Ev (fun k => impl_ShiftMoments.f k p l) v ∧ Sm v.2.1.length := by
  obtain ⟨v, h1, h2, h3, _⟩ := ShiftMoments_val p l hl
  exact ⟨v, h1, h2, h3⟩
/- The reference's code of moments and a polynomial; no condition. -/
theorem specCode_ev (p : Int) (l f : List Int) (hl : Sm l.length) (hf : Sm f.length) :
    Ev (fun k => spec_l02Code.f k p l f) (if momB p l && polyB p f then (if f.length > l.length then 2 else 0) else 1) := by
  unfold spec_l02Code.f
  refine Ev.bind (specAre_ev p l hl) ?_
  by_cases h : momB p l = true
  · refine Ev.pos h (Ev.bind (specPoly_ev p f hf) ?_)
    rw [h, Bool.true_and]
    by_cases hp : polyB p f = true
    · rw [hp]
      refine Ev.step (fun k => by rw [spec_l02Code.j0]) ?_
      refine Ev.neg (by decide) ?_
      by_cases hg : f.length > l.length
      · exact Ev.pos (by omega) (Ev.some' (by simp [hg]))
      · exact Ev.neg (by omega) (Ev.some' (by simp [hg]))
    · rw [Bool.eq_false_iff.2 hp]
      refine Ev.step (fun k => by rw [spec_l02Code.j0]) ?_
      exact Ev.pos rfl (Ev.some' rfl)
  · refine Ev.neg h ?_
    rw [Bool.eq_false_iff.2 h]
    refine Ev.step (fun k => by rw [spec_l02Code.j0]) ?_
    exact Ev.pos rfl (Ev.some' rfl)
/- What the functional makes of a polynomial: one sum modulo p, in the program and in the reference. -/
/-- The functional at f times x^s. -/
def applyM (p : Int) (m f : List Int) (s : Nat) : Int := sumTo (fun j => f.getD j 0 * m.getD (j + s) 0) f.length % p

theorem specApply_l0 {p : Int} (hp : Pm p) (m f : List Int) (hm : Nm p m) (hf : Nm p f) (s : Nat) (hs : f.length + s ≤ m.length ∨ f = []) (hl : Sm f.length) (hss : Sm s) (d : Nat) : ∀ i, i + d = f.length →
    Ev (fun k => spec_l02Apply.l0 k f (s : Int) (sumTo (fun j => f.getD j 0 * m.getD (j + s) 0) i % p) (i : Int) p m) (applyM p m f s) := by
  induction d with
  | zero =>
    intro i hi
    refine Ev.step (fun k => by rw [spec_l02Apply.l0]) ?_
    refine Ev.neg (by omega) (Ev.some' ?_)
    unfold applyM
    rw [show i = f.length from by omega]
  | succ d ih =>
    intro i hi
    have hs' : f.length + s ≤ m.length := by
      rcases hs with h | h
      · exact h
      · rw [h] at hi; simp at hi
    unfold Sm at hl hss
    have h1 := hf.get (i := i) (by omega)
    have h2 := hm.get (i := i + s) (by omega)
    have h3 := mulP hp h1.1 h1.2 h2.1 h2.2
    have h4 := emodB hp.pos (sumTo (fun j => f.getD j 0 * m.getD (j + s) 0) i)
    have ht := hp.top
    refine Ev.step (fun k => by rw [spec_l02Apply.l0]) ?_
    refine Ev.pos (by omega) (Ev.pos (by omega) ?_)
    rw [wadd (i := i) (j := s) (n := i + s + 1) (by omega) (by omega)]
    refine Ev.pos (by omega) (Ev.pos (by omega) (Ev.neg hp.ne ?_))
    rw [rd_nat, rd_nat, wrap_id (x := f.getD i 0 * m.getD (i + s) 0) (by omega) (by omega), wrap_id (by omega) (by omega), tmod_pos (by omega), Int.emod_add_emod, wsucc (i := i) (n := f.length) (by omega) (by omega)]
    exact ih (i + 1) (by omega)
theorem specApply_ev {p : Int} (hp : Pm p) (m f : List Int) (hm : Nm p m) (hf : Nm p f) (s : Nat) (hs : f.length + s ≤ m.length ∨ f = []) (hl : Sm f.length) (hss : Sm s) :
    Ev (fun k => spec_l02Apply.f k p m f (s : Int)) (applyM p m f s) := by
  unfold spec_l02Apply.f
  have h := specApply_l0 hp m f hm hf s hs hl hss f.length 0 (by omega)
  simpa [sumTo] using h

theorem implApply_l0 {p : Int} (hp : Pm p) (m f : List Int) (hm : Nm p m) (hf : Nm p f) (hs : f.length ≤ m.length) (hl : Sm f.length) (d : Nat) : ∀ i, i + d = f.length →
    Ev (fun k => impl_Moments_apply.l0 k (sumTo (fun j => f.getD j 0 * m.getD j 0) i % p) f (f.length : Int) (i : Int) p m) (applyM p m f 0) := by
  induction d with
  | zero =>
    intro i hi
    refine Ev.step (fun k => by rw [impl_Moments_apply.l0]) ?_
    refine Ev.neg (by omega) (Ev.some' ?_)
    unfold applyM
    rw [show i = f.length from by omega]
    rfl
  | succ d ih =>
    intro i hi
    unfold Sm at hl
    have h1 := hf.get (i := i) (by omega)
    have h2 := hm.get (i := i) (by omega)
    have h3 := mulP hp h1.1 h1.2 h2.1 h2.2
    have h4 := emodB hp.pos (sumTo (fun j => f.getD j 0 * m.getD j 0) i)
    have ht := hp.top
    refine Ev.step (fun k => by rw [impl_Moments_apply.l0]) ?_
    refine Ev.pos (by omega) (Ev.pos (by omega) (Ev.pos (by omega) (Ev.bindE (a := p) rfl (Ev.pos (by omega) (Ev.bindE (mod_eq hp _) ?_)))))
    rw [rd_nat, rd_nat, wrap_id (x := f.getD i 0 * m.getD i 0) (by omega) (by omega), wrap_id (by omega) (by omega), Int.emod_add_emod, wsucc (i := i) (n := f.length) (by omega) (by omega)]
    exact ih (i + 1) (by omega)
theorem implApply_ev {p : Int} (hp : Pm p) (m f : List Int) (hm : Nm p m) (hf : Nm p f) (hs : f.length ≤ m.length) (hl : Sm f.length) :
    Ev (fun k => impl_Moments_apply.f k p m f) (applyM p m f 0) := by
  unfold impl_Moments_apply.f
  have h := implApply_l0 hp m f hm hf hs hl f.length 0 (by omega)
  simpa [sumTo] using h
theorem getD_drop (m : List Int) (i j : Nat) : (m.drop i).getD j 0 = m.getD (j + i) 0 := by
  rw [List.getD_eq_getElem?_getD, List.getD_eq_getElem?_getD, List.getElem?_drop, Nat.add_comm]
theorem applyM_drop (p : Int) (m f : List Int) (i s : Nat) : applyM p (m.drop i) f s = applyM p m f (s + i) := by
  unfold applyM
  congr 2
  funext j
  rw [getD_drop, Nat.add_assoc]
/- ApplyFunctional: for all arguments the program and the reference come to one value; no condition. -/
theorem ApplyFunctional_val (p : Int) (l f : List Int) (hl : Sm l.length) (hf : Sm f.length) :
    ∃ v : Int × Int, Ev (fun k => spec_ApplyFunctional.f k p l f) v ∧ Ev (fun k => impl_ApplyFunctional.f k p l f) v ∧ ((momB p l && polyB p f) = true ∧ f.length ≤ l.length → v = (applyM p l f 0, 0)) ∧ (¬ ((momB p l && polyB p f) = true ∧ f.length ≤ l.length) → v.2 ≠ 0 ∧ v.1 = 0) := by
  have hs := specCode_ev p l f hl hf
  have h1 : impl_ApplyFunctional_1.f p l f = some (decide ((f.length : Int) ≤ (l.length : Int))) := rfl
  have hc := fun b => momentsCode_ev p l hl b [f] (by simp [Sm]) (fun g h => by rw [List.mem_singleton.1 h]; exact hf)
  simp only [one_all] at hc
  by_cases h : (momB p l && polyB p f) = true
  · have hm : momB p l = true := by simp only [Bool.and_eq_true] at h; exact h.1
    have hp : polyB p f = true := by simp only [Bool.and_eq_true] at h; exact h.2
    by_cases hg : f.length ≤ l.length
    · refine ⟨(applyM p l f 0, 0), ?_, ?_, fun _ => rfl, fun g => absurd ⟨h, hg⟩ g⟩
      · unfold spec_ApplyFunctional.f
        rw [if_pos h, if_neg (by omega)] at hs
        exact Ev.bind hs (Ev.pos rfl (Ev.bind (specApply_ev (momB.pm hm) l f (momB.nm hm) (polyB.nm hp) 0 (.inl (by omega)) hf (by simp [Sm])) (Ev.now _)))
      · unfold impl_ApplyFunctional.f
        have hc := hc true
        rw [if_pos h] at hc
        rw [decide_eq_true (by omega)] at h1
        exact Ev.bindE h1 (Ev.bind hc (Ev.pos rfl (Ev.bind (implApply_ev (momB.pm hm) l f (momB.nm hm) (polyB.nm hp) hg hf) (Ev.now _))))
    · refine ⟨(0, 2), ?_, ?_, fun g => absurd g.2 hg, fun _ => ⟨(by decide), rfl⟩⟩
      · unfold spec_ApplyFunctional.f
        rw [if_pos h, if_pos (by omega)] at hs
        exact Ev.bind hs (Ev.neg (by decide) (Ev.now _))
      · unfold impl_ApplyFunctional.f
        have hc := hc false
        rw [if_pos h] at hc
        rw [decide_eq_false (by omega)] at h1
        exact Ev.bindE h1 (Ev.bind hc (Ev.neg (by simp) (Ev.now _)))
  · refine ⟨(0, 1), ?_, ?_, fun g => absurd g.1 h, fun _ => ⟨(by decide), rfl⟩⟩
    · unfold spec_ApplyFunctional.f
      rw [if_neg h] at hs
      exact Ev.bind hs (Ev.neg (by decide) (Ev.now _))
    · unfold impl_ApplyFunctional.f
      have hc := hc (decide ((f.length : Int) ≤ (l.length : Int)))
      rw [if_neg h] at hc
      exact Ev.bindE h1 (Ev.bind hc (Ev.neg (by simp) (Ev.now _)))
theorem ApplyFunctional_both (p : Int) (l f : List Int) (hl : Sm l.length) (hf : Sm f.length) :
    ∃ v : Int × Int, Ev (fun k => spec_ApplyFunctional.f k p l f) v ∧ Ev (fun k => impl_ApplyFunctional.f k p l f) v := by
  obtain ⟨v, h1, h2, _⟩ := ApplyFunctional_val p l f hl hf
  exact ⟨v, h1, h2⟩
/- ProductMoments: for all arguments the program and the reference come to one value; no condition. -/
def prodL (p : Int) (l f : List Int) (n : Nat) : List Int := (List.range n).map fun k => applyM p l f k
theorem prodL_len (p : Int) (l f : List Int) (n : Nat) : (prodL p l f n).length = n := by simp [prodL]
theorem prodL_succ (p : Int) (l f : List Int) (n : Nat) : prodL p l f (n + 1) = prodL p l f n ++ [applyM p l f n] := by simp [prodL, List.range_succ]
theorem mx_one (n : Nat) : mx (n : Int) 1 = ((max n 1 : Nat) : Int) := by unfold mx; split <;> omega
theorem specProd_l0 {p : Int} (hp : Pm p) (l f : List Int) (nl : Nm p l) (nf : Nm p f) (h24 : l.length ≤ 24) (hfl : max f.length 1 ≤ l.length) (d : Nat) : ∀ i : Nat, i + d + max f.length 1 = l.length + 1 →
    Ev (fun k => spec_l02Product.l0 k f (i : Int) p l p (prodL p l f i)) (p, prodL p l f (l.length + 1 - max f.length 1)) := by
  induction d with
  | zero =>
    intro i hi
    refine Ev.step (fun k => by rw [spec_l02Product.l0]) ?_
    rw [mx_one, wrap_id (by omega) (by omega)]
    refine Ev.neg (by omega) (Ev.some' ?_)
    rw [show i = l.length + 1 - max f.length 1 from by omega]
  | succ d ih =>
    intro i hi
    refine Ev.step (fun k => by rw [spec_l02Product.l0]) ?_
    rw [mx_one, wrap_id (by omega) (by omega)]
    refine Ev.pos (by omega) (Ev.bind (specApply_ev hp l f nl nf i (.inl (by omega)) (by unfold Sm; omega) (by unfold Sm; omega)) (Ev.pos (by rw [prodL_len]; omega) ?_))
    rw [← prodL_succ, wsucc (i := i) (n := l.length) (by omega) (by omega)]
    exact ih (i + 1) (by omega)
theorem implProd_l0 {p : Int} (hp : Pm p) (l f : List Int) (nl : Nm p l) (nf : Nm p f) (h24 : l.length ≤ 24) (hfl : max f.length 1 ≤ l.length) (d : Nat) : ∀ i : Nat, i + d + max f.length 1 = l.length + 1 →
    Ev (fun k => impl_Moments_product.l0 k f (i : Int) p l p (prodL p l f i)) (p, prodL p l f (l.length + 1 - max f.length 1)) := by
  induction d with
  | zero =>
    intro i hi
    refine Ev.step (fun k => by rw [impl_Moments_product.l0]) ?_
    rw [mx_one, wrap_id (by omega) (by omega)]
    refine Ev.neg (by omega) (Ev.some' ?_)
    rw [show i = l.length + 1 - max f.length 1 from by omega]
  | succ d ih =>
    intro i hi
    have ha := implApply_ev hp (l.drop i) f (nl.drop i) nf (by rw [List.length_drop]; omega) (by unfold Sm; omega)
    rw [applyM_drop, Nat.zero_add] at ha
    refine Ev.step (fun k => by rw [impl_Moments_product.l0]) ?_
    rw [mx_one, wrap_id (by omega) (by omega), toNat_nat]
    refine Ev.pos (by omega) (Ev.pos (by omega) (Ev.pos (by omega) (Ev.bind ha (Ev.pos (by rw [prodL_len]; omega) ?_))))
    rw [← prodL_succ, wsucc (i := i) (n := l.length) (by omega) (by omega)]
    exact ih (i + 1) (by omega)
theorem ProductMoments_val (p : Int) (l f : List Int) (hl : Sm l.length) (hf : Sm f.length) :
    ∃ v : Int × List Int × Int, Ev (fun k => spec_ProductMoments.f k p l f) v ∧ Ev (fun k => impl_ProductMoments.f k p l f) v ∧ Sm v.2.1.length ∧ ((momB p l && polyB p f) = true ∧ f.length ≤ l.length → v = (p, prodL p l f (l.length + 1 - max f.length 1), 0)) ∧ (¬ ((momB p l && polyB p f) = true ∧ f.length ≤ l.length) → v.2.2 ≠ 0) := by
  have hs := specCode_ev p l f hl hf
  have h1 : impl_ProductMoments_1.f p l f = some (decide ((f.length : Int) ≤ (l.length : Int))) := rfl
  have hc := fun b => momentsCode_ev p l hl b [f] (by simp [Sm]) (fun g h => by rw [List.mem_singleton.1 h]; exact hf)
  simp only [one_all] at hc
  by_cases h : (momB p l && polyB p f) = true
  · have hm : momB p l = true := by simp only [Bool.and_eq_true] at h; exact h.1
    have hq : polyB p f = true := by simp only [Bool.and_eq_true] at h; exact h.2
    have hp := momB.pm hm
    have hll := momB.len hm
    by_cases hg : f.length ≤ l.length
    · refine ⟨(p, prodL p l f (l.length + 1 - max f.length 1), 0), ?_, ?_, ?_, fun _ => rfl, fun g => absurd ⟨h, hg⟩ g⟩
      · unfold spec_ProductMoments.f spec_l02Product.f
        rw [if_pos h, if_neg (by omega)] at hs
        exact Ev.bind hs (Ev.pos rfl (Ev.bind (specProd_l0 hp l f (momB.nm hm) (polyB.nm hq) hll.2 (by omega) (l.length + 1 - max f.length 1) 0 (by omega)) (Ev.now _)))
      · unfold impl_ProductMoments.f impl_Moments_product.f
        have hc := hc true
        rw [if_pos h] at hc
        rw [decide_eq_true (by omega)] at h1
        exact Ev.bindE h1 (Ev.bind hc (Ev.pos rfl (Ev.bind (implProd_l0 hp l f (momB.nm hm) (polyB.nm hq) hll.2 (by omega) (l.length + 1 - max f.length 1) 0 (by omega)) (Ev.now _))))
      · dsimp only
        rw [prodL_len]
        unfold Sm
        omega
    · refine ⟨(0, [], 2), ?_, ?_, Sm0, fun g => absurd g.2 hg, fun _ => (by decide)⟩
      · unfold spec_ProductMoments.f
        rw [if_pos h, if_pos (by omega)] at hs
        exact Ev.bind hs (Ev.neg (by decide) (Ev.now _))
      · unfold impl_ProductMoments.f
        have hc := hc false
        rw [if_pos h] at hc
        rw [decide_eq_false (by omega)] at h1
        exact Ev.bindE h1 (Ev.bind hc (Ev.neg (by simp) (Ev.now _)))
  · refine ⟨(0, [], 1), ?_, ?_, Sm0, fun g => absurd g.1 h, fun _ => (by decide)⟩
    · unfold spec_ProductMoments.f
      rw [if_neg h] at hs
      exact Ev.bind hs (Ev.neg (by decide) (Ev.now _))
    · unfold impl_ProductMoments.f
      have hc := hc (decide ((f.length : Int) ≤ (l.length : Int)))
      rw [if_neg h] at hc
      exact Ev.bindE h1 (Ev.bind hc (Ev.neg (by simp) (Ev.now _)))
theorem ProductMoments_both (p : Int) (l f : List Int) (hl : Sm l.length) (hf : Sm f.length) :
    ∃ v : Int × List Int × Int, Ev (fun k => spec_ProductMoments.f k p l f) v ∧ Ev (fun k => impl_ProductMoments.f k p l f) v ∧ Sm v.2.1.length := by
  obtain ⟨v, h1, h2, h3, _⟩ := ProductMoments_val p l f hl hf
  exact ⟨v, h1, h2, h3⟩
/- Lists without noughts at their end; no condition. -/
theorem smod_eq {p : Int} (hp : Pm p) (x : Int) : spec_l01Mod.f p x = some (x % p) := by
  unfold spec_l01Mod.f
  rw [if_neg hp.ne, go_mod hp]

/-! ### noughts at the end -/
theorem getD_snoc (l : List Int) (x : Int) (m : List Int) : ((l ++ [x]) ++ m).getD l.length 0 = x := by
  rw [List.append_assoc, List.getD_eq_getElem?_getD, List.getElem?_append_right (Nat.le_refl _), Nat.sub_self]; rfl
theorem implTrim_l0 (l : List Int) : Sm l.length → Ev (fun k => impl_trimmed.l0 k l) (trim l) := by
  induction l using snocInd with
  | h0 =>
    intro _
    refine Ev.step (fun k => by rw [impl_trimmed.l0]) ?_
    exact Ev.neg (by simp) (Ev.now _)
  | h1 l x ih =>
    intro hl
    have hn : (l ++ [x]).length = l.length + 1 := by simp
    rw [hn] at hl
    unfold Sm at hl
    have e : wrap64 (((l ++ [x]).length : Int) - 1) = (l.length : Int) := by rw [hn, wrap_id (by omega) (by omega)]; omega
    have er : rd (l ++ [x]) (l.length : Int) = x := by
      rw [rd_nat]; have := getD_snoc l x []; rwa [List.append_nil] at this
    refine Ev.step (fun k => by rw [impl_trimmed.l0]) ?_
    rw [e, er]
    refine Ev.pos (by omega) (Ev.pos (by omega) (Ev.pos (by omega) ?_))
    by_cases hx : x = 0
    · refine Ev.pos hx (Ev.pos (by omega) ?_)
      rw [toNat_nat, List.take_left, hx, trim_snoc_zero]
      exact ih (by unfold Sm; omega)
    · refine Ev.neg hx (Ev.some' ?_)
      rw [trim_snoc l hx]
theorem implTrim_ev (l : List Int) (hl : Sm l.length) : Ev (fun k => impl_trimmed.f k l) (trim l) := by
  unfold impl_trimmed.f
  exact implTrim_l0 l hl
theorem specTrim_l0 (l : List Int) : ∀ m : List Int, Sm (l ++ m).length → Ev (fun k => spec_l01Trim.l0 k (l ++ m) (l.length : Int)) (trim l) := by
  induction l using snocInd with
  | h0 =>
    intro m hl
    refine Ev.step (fun k => by rw [spec_l01Trim.l0]) ?_
    refine Ev.neg (by simp) (Ev.pos (by simp) (Ev.pos (by simp) (Ev.bindE (own_eq _ (hl.take _)) (Ev.some' ?_))))
    simp [trim_nil]
  | h1 l x ih =>
    intro m hl
    have hn : (l ++ [x]).length = l.length + 1 := by simp
    have hl' := hl
    rw [List.length_append, hn] at hl'
    have hm : (l ++ [x] ++ m).length = l.length + 1 + m.length := by rw [List.length_append, hn]
    unfold Sm at hl'
    have e : wrap64 (((l ++ [x]).length : Int) - 1) = (l.length : Int) := by rw [hn, wrap_id (by omega) (by omega)]; omega
    have er : rd ((l ++ [x]) ++ m) (l.length : Int) = x := by
      rw [rd_nat]; exact getD_snoc l x m
    refine Ev.step (fun k => by rw [spec_l01Trim.l0]) ?_
    rw [e, er]
    refine Ev.pos (by omega) (Ev.pos (by omega) (Ev.pos (by omega) ?_))
    by_cases hx : x = 0
    · refine Ev.pos hx ?_
      have := ih ([x] ++ m) (by rw [← List.append_assoc]; exact hl)
      rw [← List.append_assoc] at this
      rw [hx, trim_snoc_zero]
      rw [hx] at this
      exact this
    · refine Ev.neg hx (Ev.pos (by omega) (Ev.pos (by omega) (Ev.bindE (own_eq _ (hl.take _)) (Ev.some' ?_))))
      rw [toNat_nat, List.take_left, trim_snoc l hx]
theorem specTrim_ev (l : List Int) (hl : Sm l.length) : Ev (fun k => spec_l01Trim.f k l) (trim l) := by
  unfold spec_l01Trim.f
  have := specTrim_l0 l [] (by rw [List.append_nil]; exact hl)
  rwa [List.append_nil] at this
theorem trim_len (l : List Int) : (trim l).length ≤ l.length := by
  obtain ⟨n, h⟩ := trim_sub l
  have := congrArg List.length h
  rw [List.length_append] at this
  omega
theorem Nm.trim {p : Int} {l : List Int} (h : Nm p l) : Nm p (trim l) := by
  obtain ⟨n, e⟩ := trim_sub l
  intro x hx
  refine h x ?_
  rw [e]
  exact List.mem_append_left _ hx
/- Sums of polynomials modulo p: the program's side; no condition. -/
/-! ### sums -/
def addGo (p k : Int) (g : List Int) : Nat → Nat → List Int → List Int
  | 0, _, o => o
  | d + 1, i, o => addGo p k g d (i + 1) (o.set i ((o.getD i 0 + k * g.getD i 0) % p))
theorem addGo_len (p k : Int) (g : List Int) (d : Nat) : ∀ i o, (addGo p k g d i o).length = o.length := by
  induction d with
  | zero => intro i o; rfl
  | succ d ih => intro i o; rw [addGo, ih, List.length_set]
theorem addGo_nm {p : Int} (hp : 0 < p) (k : Int) (g : List Int) (d : Nat) : ∀ i o, Nm p o → Nm p (addGo p k g d i o) := by
  induction d with
  | zero => intro i o h; exact h
  | succ d ih => intro i o h; exact ih _ _ (h.set (emodB hp _).1 (emodB hp _).2 i)
/-- The list that the sum begins with. -/
def addOf (f : List Int) (n : Nat) : List Int := f ++ List.replicate (n - f.length) 0
theorem addOf_len (f : List Int) {n : Nat} (h : f.length ≤ n) : (addOf f n).length = n := by
  rw [addOf, List.length_append, List.length_replicate]; omega
theorem Nm.addOf {p : Int} (hp : 0 < p) {f : List Int} (h : Nm p f) (n : Nat) : Nm p (addOf f n) := h.append (Nm.zeros hp _)
/-- f and k times g. -/
def padd (p : Int) (f g : List Int) (k : Int) : List Int := trim (addGo p k g g.length 0 (addOf f (max f.length g.length)))
theorem padd_len (p : Int) (f g : List Int) (k : Int) : (padd p f g k).length ≤ max f.length g.length := by
  have := trim_len (addGo p k g g.length 0 (addOf f (max f.length g.length)))
  rw [addGo_len, addOf_len f (by omega)] at this
  exact this
theorem padd_nm {p : Int} (hp : 0 < p) {f g : List Int} (hf : Nm p f) (k : Int) : Nm p (padd p f g k) := (addGo_nm hp k g _ _ _ (hf.addOf hp _)).trim
theorem mx_nat (a b : Nat) : mx (a : Int) (b : Int) = ((max a b : Nat) : Int) := by
  unfold mx; split <;> omega
theorem implAdd1 {p k : Int} (hp : Pm p) (hk : 0 ≤ k ∧ k < p) (g : List Int) (hg : Nm p g) (d : Nat) : ∀ (i : Nat) (o : List Int), i + d = g.length → g.length ≤ o.length → Nm p o → Sm o.length →
    Ev (fun n => impl_field_add.l0 n p k o g (g.length : Int) (i : Int)) (trim (addGo p k g d i o)) := by
  induction d with
  | zero =>
    intro i o hi hl ho hs
    refine Ev.step (fun n => by rw [impl_field_add.l0]) ?_
    exact Ev.neg (by omega) (Ev.bind (implTrim_ev o hs) (Ev.now _))
  | succ d ih =>
    intro i o hi hl ho hs
    have h1 := ho.get (i := i) (by omega)
    have h2 := hg.get (i := i) (by omega)
    have h3 := mulP hp hk.1 hk.2 h2.1 h2.2
    have ht := hp.top
    have hm := emodB hp.pos (o.getD i 0 + k * g.getD i 0)
    have hs' := hs
    unfold Sm at hs'
    refine Ev.step (fun n => by rw [impl_field_add.l0]) ?_
    refine Ev.pos (by omega) (Ev.pos (by omega) (Ev.pos (by omega) (Ev.pos (by omega) ?_)))
    rw [rd_nat, rd_nat, wrap_id (x := k * g.getD i 0) (by omega) (by omega), wrap_id (by omega) (by omega)]
    refine Ev.bindE (mod_eq hp _) ?_
    rw [wsucc (i := i) (n := g.length) (by omega) (by omega), toNat_nat]
    exact ih (i + 1) _ (by omega) (by rw [List.length_set]; omega) (ho.set hm.1 hm.2 i) (by rw [List.length_set]; exact hs)
theorem cpy_zeros (f : List Int) {n : Nat} (h : f.length ≤ n) : cpy (List.replicate n 0) f = addOf f n := by
  unfold cpy addOf
  rw [List.length_replicate, Nat.min_eq_left h, List.take_length, List.drop_replicate]
theorem implAdd_ev {p k : Int} (hp : Pm p) (hk : 0 ≤ k ∧ k < p) (f g : List Int) (hf : Nm p f) (hg : Nm p g) (sf : Sm f.length) (sg : Sm g.length) :
    Ev (fun n => impl_field_add.f n p f g k) (padd p f g k) := by
  unfold impl_field_add.f
  unfold Sm at sf sg
  rw [mx_nat, toNat_nat, cpy_zeros f (by omega)]
  refine Ev.pos (by omega) (Ev.pos (by omega) ?_)
  exact implAdd1 hp hk g hg g.length 0 _ (by omega) (by rw [addOf_len f (by omega)]; omega) (hf.addOf hp.pos _) (by rw [addOf_len f (by omega)]; unfold Sm; omega)
/- What FnFunctionals says beyond 'both': a polynomial less itself is nothing, a product by x is a shift. -/
theorem trim_zeros (n : Nat) : trim (List.replicate n 0) = [] := by
  induction n with
  | zero => rfl
  | succ n ih => rw [List.replicate_succ', trim_snoc_zero, ih]
theorem addGo_self {p : Int} (f : List Int) (d : Nat) : ∀ i, i + d = f.length → addGo p (p - 1) f d i (List.replicate i 0 ++ f.drop i) = List.replicate f.length 0 := by
  induction d with
  | zero =>
    intro i hi
    simp only [addGo]
    rw [List.drop_eq_nil_of_le (by omega), List.append_nil, show i = f.length from by omega]
  | succ d ih =>
    intro i hi
    have h1 : (List.replicate i (0 : Int) ++ f.drop i).getD i 0 = f.getD i 0 := by
      rw [List.getD_eq_getElem?_getD, List.getElem?_append_right (by simp)]
      simp [List.getD]
    have h2 : f.getD i 0 + (p - 1) * f.getD i 0 = p * f.getD i 0 := by rw [Int.sub_mul, Int.one_mul]; omega
    have h3 : (List.replicate i (0 : Int) ++ f.drop i).set i 0 = List.replicate (i + 1) 0 ++ f.drop (i + 1) := by
      rw [drop_cons f 0 i (by omega), List.set_append_right _ _ (by simp), List.length_replicate, Nat.sub_self, List.set_cons_zero, List.replicate_succ']
      simp
    simp only [addGo]
    rw [h1, h2, Int.mul_emod_right, h3]
    exact ih (i + 1) (by omega)
theorem padd_self (p : Int) (f : List Int) : padd p f f (p - 1) = [] := by
  unfold padd
  have e : addOf f (max f.length f.length) = List.replicate 0 0 ++ f.drop 0 := by unfold addOf; simp
  rw [e, addGo_self f f.length 0 (by omega), trim_zeros]
theorem addSelf_ev {p : Int} (hq : primeB p = true) (f : List Int) (hf : polyB p f = true) (sf : Sm f.length) : Ev (fun k => impl_AddPolys.f k p f f (wrap64 (p - 1))) ([], 0) := by
  have hp := primeB.pm hq
  have h2 := hp.two
  have ht := hp.top
  unfold impl_AddPolys.f
  have e : impl_AddPolys_1.f p (wrap64 (p - 1)) = some true := by
    unfold impl_AddPolys_1.f
    rw [has_eq, wrap_id (by omega) (by omega)]
    simp only [Option.bind_some]
    congr 1
    exact decide_eq_true ⟨by omega, by omega⟩
  have hc := polyCode_ev p true [f, f] (by simp [Sm]) (fun l hl => by
    simp only [List.mem_cons, List.not_mem_nil, or_false, or_self] at hl
    rw [hl]; exact sf)
  simp only [List.all_cons, List.all_nil, hf, Bool.and_true, hq, if_true] at hc
  refine Ev.bindE e (Ev.bind hc (Ev.pos rfl ?_))
  rw [wrap_id (by omega) (by omega)]
  refine Ev.bind (implAdd_ev hp ⟨by omega, by omega⟩ f f (polyB.nm hf) (polyB.nm hf) sf sf) ?_
  rw [padd_self]
  exact Ev.now _
theorem applyM_nil (p : Int) (l : List Int) : applyM p l [] 0 = 0 := by simp [applyM, sumTo]
theorem polyB_nil (p : Int) : polyB p [] = true := by
  simp [polyB, lastOk, Nm.nil]
theorem polyB_x {p : Int} (hp : Pm p) : polyB p [0, 1] = true := by
  have h2 := hp.two
  have h : Nm p [0, 1] := Nm.cons (by omega) (by omega) (Nm.cons (by omega) (by omega) (Nm.nil p))
  simp [polyB, lastOk, h]
theorem prodL_x {p : Int} {l : List Int} (hl : Nm p l) (h2 : 2 ≤ l.length) : prodL p l [0, 1] (l.length + 1 - max ([0, 1] : List Int).length 1) = l.drop 1 := by
  apply List.ext_getElem
  · rw [prodL_len, List.length_drop]
    simp only [List.length_cons, List.length_nil]
    omega
  · intro i hi hj
    rw [prodL_len] at hi
    simp only [List.length_cons, List.length_nil] at hi
    have hg := hl.get (i := 1 + i) (by omega)
    have e : l.getD (1 + i) 0 = l[1 + i]'(by omega) := by simp [List.getD, show 1 + i < l.length by omega]
    simp only [prodL, List.getElem_map, List.getElem_range, List.getElem_drop]
    simp only [applyM, List.length_cons, List.length_nil, sumTo]
    simp only [List.getD_cons_zero, List.getD_cons_succ, Int.zero_mul, Int.zero_add, Int.one_mul]
    rw [← e]
    exact Int.emod_eq_of_lt hg.1 hg.2
theorem prodL_head {p : Int} {l f : List Int} {n : Nat} (hn : 1 ≤ n) : (prodL p l f n).getD 0 0 = applyM p l f 0 := by
  obtain ⟨m, rfl⟩ : ∃ m, n = m + 1 := ⟨n - 1, by omega⟩
  simp [prodL, List.range_succ_eq_map]
/- Short forms of rows that a great law's printed walk tells again and again; no condition. -/
section
variable {α β γ : Type} {d : Kd α} {d0 : Kd β} {d1 : Kd γ} {e e0 e1 base b0 : Nat} {ok ok0 ok1 : Nat → Prop} {W w w1 : World} {u v v0 v1 : Value} {xs : List α} {xs0 : List β} {xs1 : List γ}
theorem td2 (hu : d.R e W base ok u xs) (hb : Below W.heap.size W w1) (h0 : d0.R e0 w1 W.heap.size ok0 v0 xs0) (h1 : d1.R e1 w1 W.heap.size ok1 v1 xs1) : Aside0 (d.R e w1 base (fun k => (ok k ∧ some k ≠ v0.ownBlock) ∧ some k ≠ v1.ownBlock) u xs) :=
  zA (Kd.R_mono (Kd.R_told (Kd.R_told (Kd.R_old hu hb) (Kd.R_base h0)) (Kd.R_base h1)) (fun _ h => h.1))
theorem nw (h : d.R e w1 W.heap.size ok v xs) (h' : d0.R e0 W b0 ok0 u xs0) : d.R e w1 W.heap.size (fun k => ok k ∧ some k ≠ u.ownBlock) v xs := Kd.R_new' h (Kd.R_lt h')
theorem rc {A : Option Addr} {n c : Nat} (h : d.R e w base ok (.slice A n c) xs) : d.C w A xs.length xs := (Kd.R_reads' h).2.2
end
attribute [local go_sem] max2_int min2_int max_two min_two max_three min_three max_four min_four   -- for this text's walks alone
set_option linter.unusedVariables false
set_option linter.unusedSimpArgs false
/-! ### laws_likeInts: function 25 -/
def laws_likeInts.l0 : Nat → List Int → List Int → Int → Option (Bool)
 | 0,_,_,_=>none
 | k + 1,x0,x1,x5=>if x5 < (x0.length : Int) then (if 0 ≤ x5 then (if x5 < (x1.length : Int) then (if (rd x0 x5) = (rd x1 x5) then (laws_likeInts.l0 k x0 x1 (wrap64 (x5 + 1))) else (some false)) else (none)) else (none)) else (some true)
def laws_likeInts.f (k : Nat) (l0 : List Int) (l1 : List Int) : Option (Bool):=if (l0.length : Int) = (l1.length : Int) then (laws_likeInts.l0 k l0 l1 0) else (some false)
set_option maxHeartbeats 8000000 in
set_option maxRecDepth 100000 in
theorem laws_likeInts.calls (k : Nat) (A0 : Option Addr) (c0 : Nat) (l0 : List Int) (A1 : Option Addr) (c1 : Nat) (l1 : List Int) (r : Bool) (w : World) (hr0 : Kd.C (Kd.int .i64) w A0 l0.length l0) (hc0 : l0.length ≤ c0) (hr1 : Kd.C (Kd.int .i64) w A1 l1.length l1) (hc1 : l1.length ≤ c1) (h : laws_likeInts.f k l0 l1 = some r) :
  Calls Try.prog 25 #[.slice A0 l0.length c0,.slice A1 l1.length c1] w fun e w'=>e = .returned (.bool r)∧Drawn0 w w':=by
 have HR0:=zA hr0
 have HC0:=zA hc0
 clear hr0 hc0
 have HR1:=zA hr1
 have HC1:=zA hc1
 clear hr1 hc1
 have H : (if (l0.length : Int) = (l1.length : Int) then (laws_likeInts.l0 k l0 l1 0) else (some false)) = some r:=h
 clear h
 by_cases c3 : (l0.length : Int) = (l1.length : Int)
 rotate_left
 ·rw [if_neg c3] at H
  have c3b0 : ((l0.length : Int) == (l1.length : Int)) = false:=beq_eq_false_iff_ne.mpr c3
  have c3b1 : ((l0.length : Int) != (l1.length : Int)) = true:=bne_iff_ne.mpr c3
  have c3b2 : (l0.length == l1.length) = false:=by first | simpa using c3 | (simp at c3 ⊢;omega)
  obtain rfl:=Option.some.inj H
  go_enter Try.func25,Try.ntmps25
  go_wp2
  repeat (go_quiet (fail);try go_wp2)
  go_ret
  exact ⟨by first | rfl | (simp;done) | (simp [*];done),by repeat (first | exact Drawn0.refl _ | apply Drawn0.step)⟩

 rw [if_pos c3] at H
 have c3b0 : ((l0.length : Int) == (l1.length : Int)) = true:=beq_iff_eq.mpr c3
 have c3b1 : ((l0.length : Int) != (l1.length : Int)) = false:=bne_eq_false_iff_eq.mpr c3
 have c3b2 : (l0.length == l1.length) = true:=by first | simpa using c3 | (simp at c3 ⊢;omega)
 clear c3
 have H':=zA H
 clear H
 go_enter Try.func25,Try.ntmps25
 go_wp2
 repeat (go_quiet (fail);try go_wp2)
 go_loopg [5] k (fun kq v5 w'=>∃ (x5_1 : Int),v5 = .int .i64 x5_1∧Aside0 (laws_likeInts.l0 kq l0 l1 x5_1 = some r)∧Aside0 (kq ≤ k)∧Drawn0 w w')
 case atStart=>exact ⟨(0),(by first | rfl | (simp;done) | (simp [*];done)),H',⟨Nat.le_refl _⟩,by repeat (first | exact Drawn0.refl _ | apply Drawn0.step)⟩
 case round =>
  clear H'
  (try clear c1);(try clear c2);(try clear p2);(try clear c3);(try clear c3b0);(try clear c3b1);(try clear c3b2)
  obtain ⟨x5_1,rfl,HA,HK1,⟨m1,rfl⟩⟩:=hrel
  cases gk with
  | zero=>exact absurd HA.out (by simp [laws_likeInts.l0])
  | succ k1 =>
   have H:=HA.out
   clear HA
   simp only [laws_likeInts.l0] at H
   by_cases c4 : x5_1 < (l0.length : Int)
   rotate_left
   ·rw [if_neg c4] at H
    have c4b0 : decide (x5_1 < (l0.length : Int)) = false:=decide_eq_false c4
    clear c4
    obtain rfl:=Option.some.inj H
    go_wp2
    repeat (go_quiet (fail);try go_wp2)
    go_ret
    exact ⟨by first | rfl | (simp;done) | (simp [*];done),by repeat (first | exact Drawn0.refl _ | apply Drawn0.step)⟩
   rw [if_pos c4] at H
   have c4b0 : decide (x5_1 < (l0.length : Int)) = true:=decide_eq_true c4
   clear c4
   by_cases c5 : 0 ≤ x5_1
   rotate_left
   ·rw [if_neg c5] at H
    exact absurd H (by simp)
   rw [if_pos c5] at H
   have c5b0 : decide (0 ≤ x5_1) = true:=decide_eq_true c5
   clear c5
   by_cases c6 : x5_1 < (l1.length : Int)
   rotate_left
   ·rw [if_neg c6] at H
    exact absurd H (by simp)
   rw [if_pos c6] at H
   have c6b0 : decide (x5_1 < (l1.length : Int)) = true:=decide_eq_true c6
   clear c6
   by_cases c7 : (rd l0 x5_1) = (rd l1 x5_1)
   rotate_left
   ·rw [if_neg c7] at H
    have c7b0 : ((rd l0 x5_1) == (rd l1 x5_1)) = false:=beq_eq_false_iff_ne.mpr c7
    have c7b1 : ((rd l0 x5_1) != (rd l1 x5_1)) = true:=bne_iff_ne.mpr c7
    obtain rfl:=Option.some.inj H
    have p534 : 0 ≤ (x5_1 : Int):=of_decide_eq_true (by first | (with_reducible assumption) | assumption)
    have q534 : x5_1 < (l0.length : Int):=of_decide_eq_true (by first | (with_reducible assumption) | assumption)
    obtain ⟨ad534,e534,hx534_0⟩:=Kd.at_int HR0.out x5_1 p534 q534
    cases e534
    replace p534:=eq_true p534
    replace q534:=eq_true q534
    have p535 : 0 ≤ (x5_1 : Int):=of_decide_eq_true (by first | (with_reducible assumption) | assumption)
    have q535 : x5_1 < (l1.length : Int):=of_decide_eq_true (by first | (with_reducible assumption) | assumption)
    obtain ⟨ad535,e535,hx535_0⟩:=Kd.at_int HR1.out x5_1 p535 q535
    cases e535
    replace p535:=eq_true p535
    replace q535:=eq_true q535
    go_wp2
    repeat (go_quiet (fail);try go_wp2)
    go_ret
    exact ⟨by first | rfl | (simp;done) | (simp [*];done),by repeat (first | exact Drawn0.refl _ | apply Drawn0.step)⟩
   rw [if_pos c7] at H
   have c7b0 : ((rd l0 x5_1) == (rd l1 x5_1)) = true:=beq_iff_eq.mpr c7
   have c7b1 : ((rd l0 x5_1) != (rd l1 x5_1)) = false:=bne_eq_false_iff_eq.mpr c7
   clear c7
   have H':=zA H
   clear H
   have p534 : 0 ≤ (x5_1 : Int):=of_decide_eq_true (by first | (with_reducible assumption) | assumption)
   have q534 : x5_1 < (l0.length : Int):=of_decide_eq_true (by first | (with_reducible assumption) | assumption)
   obtain ⟨ad534,e534,hx534_0⟩:=Kd.at_int HR0.out x5_1 p534 q534
   cases e534
   replace p534:=eq_true p534
   replace q534:=eq_true q534
   have p535 : 0 ≤ (x5_1 : Int):=of_decide_eq_true (by first | (with_reducible assumption) | assumption)
   have q535 : x5_1 < (l1.length : Int):=of_decide_eq_true (by first | (with_reducible assumption) | assumption)
   obtain ⟨ad535,e535,hx535_0⟩:=Kd.at_int HR1.out x5_1 p535 q535
   cases e535
   replace p535:=eq_true p535
   replace q535:=eq_true q535
   go_wp2
   repeat (go_quiet (fail);try go_wp2)
   go_roundg k1
   case measure=>have:=HK1.out;omega
   case rel=>exact ⟨(wrap64 (x5_1 + 1)),(by first | rfl | (simp;done) | (simp [*];done)),H',⟨by have:=HK1.out;omega⟩,by repeat (first | exact Drawn0.refl _ | apply Drawn0.step)⟩
/-! ### laws_moments9: function 14 -/
def laws_moments9.f (k : Nat) (a0_0 : Int) (l0_1 : List Int) (a1_0 : Int) (l1_1 : List Int) : Option (Bool):=if a0_0 = a1_0 then ((laws_likeInts.f k l0_1 l1_1).bind fun t538=>(some t538)) else (some false)
set_option maxHeartbeats 8000000 in
set_option maxRecDepth 100000 in
theorem laws_moments9.calls (k : Nat) (a0_0 : Int) (A0_1 : Option Addr) (c0_1 : Nat) (l0_1 : List Int) (a1_0 : Int) (A1_1 : Option Addr) (c1_1 : Nat) (l1_1 : List Int) (r : Bool) (w : World) (hr0_1 : Kd.C (Kd.int .i64) w A0_1 l0_1.length l0_1) (hc0_1 : l0_1.length ≤ c0_1) (hr1_1 : Kd.C (Kd.int .i64) w A1_1 l1_1.length l1_1) (hc1_1 : l1_1.length ≤ c1_1) (h : laws_moments9.f k a0_0 l0_1 a1_0 l1_1 = some r) :
  Calls Try.prog 14 #[.agg #[.int .i64 a0_0,.slice A0_1 l0_1.length c0_1],.agg #[.int .i64 a1_0,.slice A1_1 l1_1.length c1_1]] w fun e w'=>e = .returned (.bool r)∧Below w.heap.size w w':=by
 have hu26:=Try.underlying26
 have HR0_1:=zA hr0_1
 have HC0_1:=zA hc0_1
 clear hr0_1 hc0_1
 have HR1_1:=zA hr1_1
 have HC1_1:=zA hc1_1
 clear hr1_1 hc1_1
 have HB:=zA (Below.refl w.heap.size w)
 have H : (if a0_0 = a1_0 then ((laws_likeInts.f k l0_1 l1_1).bind fun t538=>(some t538)) else (some false)) = some r:=h
 clear h
 by_cases c3 : a0_0 = a1_0
 rotate_left
 ·rw [if_neg c3] at H
  have c3b0 : (a0_0 == a1_0) = false:=beq_eq_false_iff_ne.mpr c3
  have c3b1 : (a0_0 != a1_0) = true:=bne_iff_ne.mpr c3
  obtain rfl:=Option.some.inj H
  go_enter Try.func14,Try.ntmps14
  go_wp2_with (first | ((with_reducible refine gate_dst (N:=2) rfl ?_);refine bx 2 #[.int .i64 a0_0,.slice A0_1 l0_1.length c0_1] 26 ?_;intro gb536 hg w10 hbox hb;have BK536:=zA (hbox);have GW536:=gq HB hg;have GE536:=gq HB hg;replace HB:=xH HB hb;have:=geI GE536;clear hb hbox hg) | ((with_reducible refine gate_dst (N:=3) rfl ?_);refine bx 3 #[.int .i64 a1_0,.slice A1_1 l1_1.length c1_1] 26 ?_;intro gb537 hg w11 hbox hb;have BK537:=zA (hbox);have GW537:=gq HB hg;have GE537:=gq HB hg;replace HB:=xH HB hb;have NB536_537:=zA ((by rw [hg];exact neL BK536 : gb536 ≠ gb537));have NB537_536:=zA ((by rw [hg];exact neG BK536 : gb537 ≠ gb536));replace BK536:=xB BK536 hb;have:=geI GE537;clear hb hbox hg;have hnb12:=NB536_537.out;have hnc12:=NB537_536.out;have hcz13_0:=bc BK536 0;have hcz13_1:=bc BK536 1;have hfz13_0:=bf BK536 0;have hfz13_1:=bf BK536 1;have hcz14_0:=bc BK537 0;have hcz14_1:=bc BK537 1;have hfz14_0:=bf BK537 0;have hfz14_1:=bf BK537 1))
  go_ret
  exact ⟨by first | rfl | (simp [errW_none,errW_some] <;> rfl) | (simp [*,errW_none,errW_some] <;> rfl),uH HB.out⟩

 rw [if_pos c3] at H
 have c3b0 : (a0_0 == a1_0) = true:=beq_iff_eq.mpr c3
 have c3b1 : (a0_0 != a1_0) = false:=bne_eq_false_iff_eq.mpr c3
 clear c3
 replace H:=Option.bind_eq_some_iff.mp H
 obtain ⟨t538,A40,H⟩:=H
 replace H : (some t538) = some r:=H
 have A4:=zA A40
 clear A40
 obtain rfl:=Option.some.inj H
 go_enter Try.func14,Try.ntmps14
 go_wp2_with (first | ((with_reducible refine gate_dst (N:=2) rfl ?_);refine bx 2 #[.int .i64 a0_0,.slice A0_1 l0_1.length c0_1] 26 ?_;intro gb536 hg w5 hbox hb;have BK536:=zA (hbox);have GW536:=gq HB hg;have GE536:=gq HB hg;replace HB:=xH HB hb;have:=geI GE536;clear hb hbox hg) | ((with_reducible refine gate_dst (N:=3) rfl ?_);refine bx 3 #[.int .i64 a1_0,.slice A1_1 l1_1.length c1_1] 26 ?_;intro gb537 hg w6 hbox hb;have BK537:=zA (hbox);have GW537:=gq HB hg;have GE537:=gq HB hg;replace HB:=xH HB hb;have NB536_537:=zA ((by rw [hg];exact neL BK536 : gb536 ≠ gb537));have NB537_536:=zA ((by rw [hg];exact neG BK536 : gb537 ≠ gb536));replace BK536:=xB BK536 hb;have:=geI GE537;clear hb hbox hg;have hnb7:=NB536_537.out;have hnc7:=NB537_536.out;have hcz8_0:=bc BK536 0;have hcz8_1:=bc BK536 1;have hfz8_0:=bf BK536 0;have hfz8_1:=bf BK536 1;have hcz9_0:=bc BK537 0;have hcz9_1:=bc BK537 1;have hfz9_0:=bf BK537 0;have hfz9_1:=bf BK537 1) | (go_at_call 25;(with_reducible refine (laws_likeInts.calls k _ _ l0_1 _ _ l1_1 t538 _ ?side1 ?side2 ?side3 ?side4 A4.out).mono ?_);(case side1=>exact uC ((Kd.C_below HR0_1.out HB.out)));(case side2=>exact HC0_1.out);(case side3=>exact uC ((Kd.C_below HR1_1.out HB.out)));(case side4=>exact HC1_1.out);rintro e w' ⟨rfl,⟨nd,rfl⟩⟩))
 go_ret
 exact ⟨by first | rfl | (simp [errW_none,errW_some] <;> rfl) | (simp [*,errW_none,errW_some] <;> rfl),uH HB.out⟩
/- The great laws' comparisons of lists and moments. -/
theorem like_l0 (l : List Int) (hl : Sm l.length) (d : Nat) : ∀ i : Nat, i + d = l.length → Ev (fun k => laws_likeInts.l0 k l l (i : Int)) true := by
  unfold Sm at hl
  induction d with
  | zero =>
    intro i hi
    refine Ev.step (fun k => by rw [laws_likeInts.l0]) ?_
    exact Ev.neg (by omega) (Ev.now _)
  | succ d ih =>
    intro i hi
    refine Ev.step (fun k => by rw [laws_likeInts.l0]) ?_
    refine Ev.pos (by omega) (Ev.pos (by omega) (Ev.pos (by omega) (Ev.pos rfl ?_)))
    rw [wsucc (i := i) (n := l.length) (by omega) (by omega)]
    exact ih (i + 1) (by omega)
theorem like_ev (l : List Int) (hl : Sm l.length) : Ev (fun k => laws_likeInts.f k l l) true := by
  unfold laws_likeInts.f
  exact Ev.pos rfl (like_l0 l hl l.length 0 (by omega))
theorem moments9_ev (p : Int) (l : List Int) (hl : Sm l.length) : Ev (fun k => laws_moments9.f k p l p l) true := by
  unfold laws_moments9.f
  exact Ev.pos rfl (Ev.bind (like_ev l hl) (Ev.now _))
end Go.Proofs.Ytnpepkpogohcmaa.Pr
