/- Texts of this session in one: what functions of the program compute, and plain facts of it, under the conditions that each theorem names. -/
import Derived.Test.YtfbnkebgdmfcfaaKReverseJacobi1
import Derived.Test.YtfbnkebgdmfcfaaKReverseJacobi3
import Derived.Test.YtfbnkebgdmfcfaaKReverseJacobi4
namespace Go.Proofs.Ytfbnkebgdmfcfaa.Pr
/- Data of recurrences: which lists are such data, for the program and for the reference; their codes; no condition. -/
open Go.RowKit Go.Proofs.YtfbnkebgdmfcfaaW.PrintWords Go.Proofs.YtfbnkebgdmfcfaaW.PrintLast Go.Proofs.YtfbnkebgdmfcfaaW.PrintMore
/-- Numbers modulo p other than 0. -/
def Um (p : Int) (l : List Int) : Prop := ∀ x ∈ l, 1 ≤ x ∧ x < p
instance (p : Int) (l : List Int) : Decidable (Um p l) := by unfold Um; infer_instance
theorem Um.nil (p : Int) : Um p [] := fun x h => by cases h
theorem Um_cons (p x : Int) (l : List Int) : Um p (x :: l) ↔ (1 ≤ x ∧ x < p) ∧ Um p l := by
  constructor
  · exact fun h => ⟨h x (List.mem_cons_self ..), fun y hy => h y (List.mem_cons_of_mem _ hy)⟩
  · intro h y hy
    rcases List.mem_cons.1 hy with rfl | hy
    · exact h.1
    · exact h.2 y hy
theorem Um.nm {p : Int} {l : List Int} (h : Um p l) : Nm p l := fun x hx => by have := h x hx; omega
theorem Um_drop {p : Int} {l : List Int} {i : Nat} (h : i < l.length) : Um p (l.drop i) ↔ (1 ≤ l.getD i 0 ∧ l.getD i 0 < p) ∧ Um p (l.drop (i + 1)) := by
  rw [drop_cons l 0 i h, Um_cons]
theorem isUnit_eq {p : Int} (hp : -9223372036854775807 ≤ p) (hp' : p ≤ 9223372036854775807) (x : Int) : impl_field_isUnit.f p x = some (decide (1 ≤ x ∧ x < p)) := by
  unfold impl_field_isUnit.f
  rw [within_eq, wrap_id (by omega) (by omega)]
  simp only [Option.bind_some]
  congr 1
  apply decide_eq_decide.2
  omega
theorem allO_unit {p : Int} (hp : -9223372036854775807 ≤ p) (hp' : p ≤ 9223372036854775807) (l : List Int) : allO (fun z_ => impl_field_isUnit.f p z_) l = some (decide (Um p l)) := by
  induction l with
  | nil => simp only [allO]; rw [decide_eq_true (Um.nil p)]
  | cons x l ih =>
    simp only [isUnit_eq hp hp'] at ih
    simp only [allO, isUnit_eq hp hp', Option.bind_some]
    by_cases h : 1 ≤ x ∧ x < p
    · rw [if_pos (decide_eq_true h), ih]
      congr 1
      apply decide_eq_decide.2
      rw [Um_cons]
      exact ⟨fun g => ⟨h, g⟩, fun g => g.2⟩
    · rw [if_neg (by simp [h])]
      congr 1
      exact (decide_eq_false (fun g => h ((Um_cons p x l).1 g).1)).symm
theorem areAll_unit {p : Int} (hp : -9223372036854775807 ≤ p) (hp' : p ≤ 9223372036854775807) (l : List Int) (hl : l.length < 4611686018427387904) : impl_areAll_int64.f l (fun z_ => impl_field_isUnit.f p z_) = some (decide (Um p l)) := by
  unfold impl_areAll_int64.f
  rw [if_pos hl, allO_unit hp hp']

def jacB (p : Int) (a b : List Int) : Bool := primeB p && decide (((1 ≤ a.length ∧ a.length ≤ 12) ∧ b.length = a.length) ∧ (Nm p a ∧ Um p b))
theorem jacB.prime {p : Int} {a b : List Int} (h : jacB p a b = true) : primeB p = true := by simp only [jacB, Bool.and_eq_true] at h; exact h.1
theorem jacB.pm {p : Int} {a b : List Int} (h : jacB p a b = true) : Pm p := primeB.pm (jacB.prime h)
theorem jacB.all {p : Int} {a b : List Int} (h : jacB p a b = true) : ((1 ≤ a.length ∧ a.length ≤ 12) ∧ b.length = a.length) ∧ (Nm p a ∧ Um p b) := by
  simp only [jacB, Bool.and_eq_true, decide_eq_true_eq] at h; exact h.2

theorem specJac_l0 {p : Int} (hp : Pm p) (a b : List Int) (hl : Sm a.length) (hab : b.length = a.length) (d : Nat) : ∀ i, i + d = a.length →
    Ev (fun k => spec_l03Is.l0 k (i : Int) p a b) (decide (Nm p (a.drop i) ∧ Um p (b.drop i))) := by
  induction d with
  | zero =>
    intro i hi
    refine Ev.step (fun k => by rw [spec_l03Is.l0]) ?_
    refine Ev.neg (by omega) (Ev.some' ?_)
    rw [List.drop_eq_nil_of_le (by omega), List.drop_eq_nil_of_le (by omega)]
    exact (decide_eq_true ⟨Nm.nil p, Um.nil p⟩).symm
  | succ d ih =>
    intro i hi
    unfold Sm at hl
    have h2 := hp.two
    have ht := hp.top
    refine Ev.step (fun k => by rw [spec_l03Is.l0]) ?_
    refine Ev.pos (by omega) (Ev.pos (by omega) (Ev.bindE (in_eq _ _ _) ?_))
    rw [rd_nat, rd_nat, wrap_id (x := p - 1) (by omega) (by omega)]
    by_cases h : 0 ≤ a.getD i 0 ∧ a.getD i 0 ≤ p - 1
    · refine Ev.pos (decide_eq_true h) (Ev.pos (by omega) (Ev.bindE (in_eq _ _ _) ?_))
      by_cases g : 1 ≤ b.getD i 0 ∧ b.getD i 0 ≤ p - 1
      · refine Ev.pos (decide_eq_true g) ?_
        rw [wsucc (i := i) (n := a.length) (by omega) (by omega)]
        refine Ev.cast (ih (i + 1) (by omega)) ?_
        apply decide_eq_decide.2
        rw [Nm_drop (l := a) (i := i) (by omega), Um_drop (l := b) (i := i) (by omega)]
        exact ⟨fun q => ⟨⟨by omega, q.1⟩, ⟨by omega, q.2⟩⟩, fun q => ⟨q.1.2, q.2.2⟩⟩
      · refine Ev.neg (by simp only [decide_eq_true_eq]; exact g) (Ev.some' ?_)
        exact (decide_eq_false (fun q => g (by have := ((Um_drop (p := p) (l := b) (i := i) (by omega)).1 q.2).1; omega))).symm
    · refine Ev.neg (by simp only [decide_eq_true_eq]; exact h) (Ev.some' ?_)
      exact (decide_eq_false (fun q => h (by have := ((Nm_drop (p := p) (l := a) (i := i) (by omega)).1 q.1).1; omega))).symm
theorem specJac_ev (p : Int) (a b : List Int) (ha : Sm a.length) (_hb : Sm b.length) : Ev (fun k => spec_l03Is.f k p a b) (jacB p a b) := by
  unfold spec_l03Is.f jacB
  refine Ev.bind (specPrime_ev p) ?_
  by_cases hp : primeB p = true
  · rw [hp, Bool.true_and]
    refine Ev.pos rfl ?_
    by_cases h1 : 1 ≤ a.length
    · refine Ev.neg (by omega) ?_
      by_cases h2 : a.length ≤ 12
      · refine Ev.neg (by omega) ?_
        by_cases h3 : b.length = a.length
        · rw [show (((b.length : Int) != (a.length : Int)) : Bool) = false from by simp [h3]]
          refine Ev.step (fun k => by rw [spec_l03Is.j0]) ?_
          refine Ev.neg (by decide) ?_
          refine Ev.cast (specJac_l0 (primeB.pm hp) a b ha h3 a.length 0 (by omega)) ?_
          apply decide_eq_decide.2
          exact ⟨fun g => ⟨⟨⟨h1, h2⟩, h3⟩, g⟩, fun g => g.2⟩
        · rw [show (((b.length : Int) != (a.length : Int)) : Bool) = true from by simp; omega]
          refine Ev.step (fun k => by rw [spec_l03Is.j0]) ?_
          refine Ev.pos rfl (Ev.some' (decide_eq_false (fun g => h3 g.1.2)).symm)
      · refine Ev.pos (by omega) ?_
        refine Ev.step (fun k => by rw [spec_l03Is.j0]) ?_
        refine Ev.pos rfl (Ev.some' (decide_eq_false (fun g => h2 g.1.1.2)).symm)
    · refine Ev.pos (by omega) ?_
      refine Ev.step (fun k => by rw [spec_l03Is.j0]) ?_
      refine Ev.pos rfl (Ev.some' (decide_eq_false (fun g => h1 g.1.1.1)).symm)
  · rw [Bool.eq_false_iff.2 hp, Bool.false_and]
    refine Ev.neg (by simp) ?_
    refine Ev.step (fun k => by rw [spec_l03Is.j0]) ?_
    exact Ev.pos rfl (Ev.now _)
theorem size_eq (p : Int) (a b : List Int) : impl_Jacobi_size.f p a b = some (a.length : Int) := by
  unfold impl_Jacobi_size.f impl_length_int64.f; rfl
theorem implJac_ev (p : Int) (a b : List Int) (ha : Sm a.length) (hb : Sm b.length) : Ev (fun k => impl_IsJacobi.f k p a b) (jacB p a b) := by
  unfold impl_IsJacobi.f jacB
  refine Ev.bind (implPrime_ev p) ?_
  have ha' := ha
  have hb' := hb
  unfold Sm at ha' hb'
  by_cases hp : primeB p = true
  · have h2 := (primeB.pm hp).two
    have ht := (primeB.pm hp).top
    rw [hp, Bool.true_and]
    refine Ev.pos rfl (Ev.bindE (size_eq p a b) (Ev.bindE (within_eq _ _ _) ?_))
    by_cases h1 : 1 ≤ a.length ∧ a.length ≤ 12
    · refine Ev.pos (decide_eq_true (by omega)) ?_
      by_cases h3 : b.length = a.length
      · refine Ev.pos (by omega) (Ev.bindE (a := p) rfl (Ev.bindE (areAll_has p a (by omega)) ?_))
        by_cases h4 : Nm p a
        · refine Ev.pos (decide_eq_true h4) (Ev.bindE (a := p) rfl (Ev.bindE (areAll_unit (by omega) (by omega) b (by omega)) (Ev.some' ?_)))
          apply decide_eq_decide.2
          exact ⟨fun g => ⟨⟨h1, h3⟩, h4, g⟩, fun g => g.2.2⟩
        · refine Ev.neg (by simp only [decide_eq_true_eq]; exact h4) (Ev.some' ?_)
          exact (decide_eq_false (fun g => h4 g.2.1)).symm
      · exact Ev.neg (by omega) (Ev.some' (decide_eq_false (fun g => h3 g.1.2)).symm)
    · refine Ev.neg (by simp only [decide_eq_true_eq]; omega) (Ev.some' ?_)
      exact (decide_eq_false (fun g => h1 g.1.1)).symm
  · rw [Bool.eq_false_iff.2 hp, Bool.false_and]
    exact Ev.neg (by simp) (Ev.now _)
/-- The code of data and a range. -/
def jacC (p : Int) (a b : List Int) (r : Bool) : Int := if jacB p a b = true then (if r = true then 0 else 2) else 1
theorem implJacCode_ev (p : Int) (a b : List Int) (r : Bool) (ha : Sm a.length) (hb : Sm b.length) : Ev (fun k => impl_jacobiCode.f k p a b r) (jacC p a b r) := by
  unfold impl_jacobiCode.f jacC
  refine Ev.bind (implJac_ev p a b ha hb) ?_
  by_cases h : jacB p a b = true
  · rw [if_pos h, if_pos h]
    by_cases g : r = true
    · rw [if_pos g, if_pos g]; exact Ev.now _
    · rw [if_neg g, if_neg g]; exact Ev.now _
  · rw [if_neg h, if_neg h]; exact Ev.now _
theorem jacC0 {p : Int} {a b : List Int} {r : Bool} (h : jacC p a b r = 0) : jacB p a b = true ∧ r = true := by
  unfold jacC at h
  split at h
  · split at h
    · exact ⟨‹_›, ‹_›⟩
    · omega
  · omega
/- Powers modulo p: what the program and the reference compute; no condition. -/
theorem fmul_eq {p : Int} (hp : Pm p) {x y : Int} (hx : 0 ≤ x ∧ x < p) (hy : 0 ≤ y ∧ y < p) : impl_field_mul.f p x y = some (x * y % p) := by
  unfold impl_field_mul.f
  have h := mulP hp hx.1 hx.2 hy.1 hy.2
  rw [wrap_id (by omega) (by omega), mod_eq hp]; rfl
def powGo (p : Int) : Nat → Int → Nat → Int → Int
  | 0, _, _, o => o
  | d + 1, x, k, o => if k = 0 then o else powGo p d (x * x % p) (k / 2) (if k % 2 = 1 then o * x % p else o)
theorem powGo_in {p : Int} (hp : 0 < p) (d : Nat) : ∀ (x : Int) (k : Nat) (o : Int), 0 ≤ o ∧ o < p → 0 ≤ powGo p d x k o ∧ powGo p d x k o < p := by
  induction d with
  | zero => intro x k o h; exact h
  | succ d ih =>
    intro x k o h
    rw [powGo]
    split
    · exact h
    · refine ih _ _ _ ?_
      split
      · exact emodB hp _
      · exact h
theorem half {k : Nat} (h : k < 4611686018427387904) : wrap64 (Int.tdiv (k : Int) 2) = ((k / 2 : Nat) : Int) := by
  rw [Int.tdiv_eq_ediv_of_nonneg (by omega), wrap_id (by omega) (by omega)]; omega
theorem odd (k : Nat) : Int.tmod (k : Int) 2 = ((k % 2 : Nat) : Int) := by rw [tmod_pos (by omega)]; omega
theorem implPow_l0 {p : Int} (hp : Pm p) (d : Nat) : ∀ (x : Int) (k : Nat) (o : Int), k ≤ d → k < 4611686018427387904 → 0 ≤ x ∧ x < p → 0 ≤ o ∧ o < p →
    Ev (fun n => impl_field_power.l0 n p x (k : Int) o) (powGo p d x k o) := by
  induction d with
  | zero =>
    intro x k o hk hk2 hx ho
    refine Ev.step (fun n => by rw [impl_field_power.l0]) ?_
    exact Ev.neg (by omega) (Ev.now _)
  | succ d ih =>
    intro x k o hk hk2 hx ho
    rw [powGo]
    by_cases h : k = 0
    · rw [if_pos h]
      refine Ev.step (fun n => by rw [impl_field_power.l0]) ?_
      exact Ev.neg (by omega) (Ev.now _)
    · rw [if_neg h]
      refine Ev.step (fun n => by rw [impl_field_power.l0]) ?_
      refine Ev.pos (by omega) ?_
      rw [odd, half hk2]
      by_cases g : k % 2 = 1
      · rw [if_pos g]
        refine Ev.pos (by omega) (Ev.bindE (fmul_eq hp ho hx) (Ev.bindE (fmul_eq hp hx hx) ?_))
        exact ih _ _ _ (by omega) (by omega) (emodB hp.pos _) (emodB hp.pos _)
      · rw [if_neg g]
        refine Ev.neg (by omega) (Ev.bindE (fmul_eq hp hx hx) ?_)
        exact ih _ _ _ (by omega) (by omega) (emodB hp.pos _) ho
theorem specPow_l0 {p : Int} (hp : Pm p) (d : Nat) : ∀ (x : Int) (k : Nat) (o : Int), k ≤ d → k < 4611686018427387904 → 0 ≤ x ∧ x < p → 0 ≤ o ∧ o < p →
    Ev (fun n => spec_l01Power.l0 n p (k : Int) o x) (powGo p d x k o) := by
  induction d with
  | zero =>
    intro x k o hk hk2 hx ho
    refine Ev.step (fun n => by rw [spec_l01Power.l0]) ?_
    refine Ev.neg (by omega) (Ev.neg hp.ne (Ev.some' ?_))
    rw [tmod_pos ho.1, Int.emod_eq_of_lt ho.1 ho.2]; rfl
  | succ d ih =>
    intro x k o hk hk2 hx ho
    have h1 := mulP hp hx.1 hx.2 hx.1 hx.2
    have h2 := mulP hp ho.1 ho.2 hx.1 hx.2
    rw [powGo]
    by_cases h : k = 0
    · rw [if_pos h]
      refine Ev.step (fun n => by rw [spec_l01Power.l0]) ?_
      refine Ev.neg (by omega) (Ev.neg hp.ne (Ev.some' ?_))
      rw [tmod_pos ho.1, Int.emod_eq_of_lt ho.1 ho.2]
    · rw [if_neg h]
      refine Ev.step (fun n => by rw [spec_l01Power.l0]) ?_
      refine Ev.pos (by omega) ?_
      rw [odd, half hk2, wrap_id (x := x * x) (by omega) (by omega), wrap_id (x := o * x) (by omega) (by omega), tmod_pos (a := x * x) (by omega), tmod_pos (a := o * x) (by omega)]
      by_cases g : k % 2 = 1
      · rw [if_pos g]
        refine Ev.pos (by omega) (Ev.neg hp.ne ?_)
        exact ih _ _ _ (by omega) (by omega) (emodB hp.pos _) (emodB hp.pos _)
      · rw [if_neg g]
        refine Ev.neg (by omega) (Ev.neg hp.ne ?_)
        exact ih _ _ _ (by omega) (by omega) (emodB hp.pos _) ho
/-- x to the k-th power modulo p. -/
def powF (p x : Int) (k : Nat) : Int := powGo p k x k 1
theorem powF_in {p : Int} (hp : Pm p) (x : Int) (k : Nat) : 0 ≤ powF p x k ∧ powF p x k < p := powGo_in hp.pos _ _ _ _ (by have := hp.two; omega)
theorem implPow_ev {p : Int} (hp : Pm p) {x : Int} (hx : 0 ≤ x ∧ x < p) (k : Nat) (hk : k < 4611686018427387904) : Ev (fun n => impl_field_power.f n p x (k : Int)) (powF p x k) := by
  have h2 := hp.two
  unfold impl_field_power.f powF
  refine Ev.bindE (mod_eq hp _) ?_
  rw [Int.emod_eq_of_lt (by omega) (by omega)]
  exact implPow_l0 hp k x k 1 (Nat.le_refl _) hk hx (by omega)
theorem specPow_ev {p : Int} (hp : Pm p) {x : Int} (hx : 0 ≤ x ∧ x < p) (k : Nat) (hk : k < 4611686018427387904) : Ev (fun n => spec_l01Power.f n p x (k : Int)) (powF p x k) := by
  have h2 := hp.two
  unfold spec_l01Power.f powF
  refine Ev.bindE (a := x) ?_ (specPow_l0 hp k x k 1 (Nat.le_refl _) hk hx (by omega))
  unfold spec_l01Mod.f
  rw [if_neg hp.ne, go_mod hp, Int.emod_eq_of_lt hx.1 hx.2]
/- Inverses and quotients modulo p: what the program and the reference compute; no condition. -/
/-- The power p - 2. -/
def invF (p x : Int) : Int := powF p x (p.toNat - 2)
theorem invF_in {p : Int} (hp : Pm p) (x : Int) : 0 ≤ invF p x ∧ invF p x < p := powF_in hp _ _
theorem two_sub {p : Int} (hp : Pm p) : wrap64 (p - 2) = ((p.toNat - 2 : Nat) : Int) := by
  have := hp.two
  have := hp.top
  rw [wrap_id (by omega) (by omega)]
  omega
theorem implInv_ev {p : Int} (hp : Pm p) {x : Int} (hx : 0 ≤ x ∧ x < p) : Ev (fun n => impl_field_inverse.f n p x) (invF p x) := by
  have := hp.top
  unfold impl_field_inverse.f invF
  rw [two_sub hp]
  exact Ev.bind (implPow_ev hp hx _ (by omega)) (Ev.now _)
theorem specInv_ev {p : Int} (hp : Pm p) {x : Int} (hx : 0 ≤ x ∧ x < p) : Ev (fun n => spec_l01Inverse.f n p x) (invF p x) := by
  have := hp.top
  unfold spec_l01Inverse.f invF
  rw [two_sub hp]
  exact Ev.bind (specPow_ev hp hx _ (by omega)) (Ev.now _)
theorem mul_mod_mid (u v w p : Int) : (u * v % p * w) % p = (u * (v * w % p)) % p := by
  rw [Int.mul_emod (u * v % p), Int.emod_emod, ← Int.mul_emod, Int.mul_assoc, Int.mul_emod u (v * w % p), Int.emod_emod, ← Int.mul_emod]
theorem mul_mod_one (v w p : Int) : (v % p * w) % p = (v * w) % p := by
  rw [Int.mul_emod (v % p), Int.emod_emod, ← Int.mul_emod]
theorem sub_mod_right (c x p : Int) : (c - x % p) % p = (c - x) % p := by
  rw [Int.sub_emod, Int.emod_emod, ← Int.sub_emod]
/- Determinants modulo p by elimination, as one plain function; and a matrix in memory: a block of slices, one block a row, all of them different. No condition beside the ones named. -/
open Go Go.RowKit Go.Proofs.YtfbnkebgdmfcfaaW.PrintWords Go.Proofs.YtfbnkebgdmfcfaaW.PrintLast Go.Proofs.YtfbnkebgdmfcfaaW.PrintMore
/-! ### the plain function -/
/-- The first place from i on, d places at most, whose row has a number other than 0 in column c. -/
def pivot (M : Nat → List Int) (c : Nat) : Nat → Nat → Nat
  | 0, i => i
  | d + 1, i => if (M i).getD c 0 = 0 then pivot M c d (i + 1) else i
def swapM (M : Nat → List Int) (c j : Nat) : Nat → List Int := fun i => if i = c then M j else if i = j then M c else M i
def elimRow (p f : Int) (r own : List Int) (n : Nat) : List Int := (List.range n).map fun k => (r.getD k 0 - f * own.getD k 0) % p
def stepM (p v : Int) (n c : Nat) (M : Nat → List Int) : Nat → List Int := fun i => if c < i then elimRow p ((M i).getD c 0 * v % p) (M i) (M c) n else M i
def detGo (p : Int) (n : Nat) : Nat → Nat → (Nat → List Int) → Int → Int
  | 0, _, _, o => o
  | d + 1, c, M, o =>
    if pivot M c (n - c) c = n then 0
    else detGo p n d (c + 1) (stepM p (invF p ((M (pivot M c (n - c) c)).getD c 0)) n c (swapM M c (pivot M c (n - c) c)))
      ((if pivot M c (n - c) c = c then o else (-o) % p) * (M (pivot M c (n - c) c)).getD c 0 % p)
def detV (p : Int) (rows : List (List Int)) : Int := detGo p rows.length rows.length 0 (fun i => rows.getD i []) 1
/-- Square rows of numbers modulo p. -/
def sqrB (p : Int) (rows : List (List Int)) : Prop := (2 ≤ p ∧ p ≤ 10007) ∧ rows.length ≤ 1000 ∧ ∀ r ∈ rows, r.length = rows.length ∧ Nm p r
instance (p : Int) (rows : List (List Int)) : Decidable (sqrB p rows) := by unfold sqrB; infer_instance
theorem pivot_in (M : Nat → List Int) (c d : Nat) : ∀ i, i ≤ pivot M c d i ∧ pivot M c d i ≤ i + d := by
  induction d with
  | zero => intro i; exact ⟨Nat.le_refl _, Nat.le_refl _⟩
  | succ d ih =>
    intro i
    rw [pivot]
    split
    · have := ih (i + 1); omega
    · omega
theorem pivot_ne (M : Nat → List Int) (c d : Nat) : ∀ i, pivot M c d i ≠ i + d → (M (pivot M c d i)).getD c 0 ≠ 0 := by
  induction d with
  | zero => intro i h; exact absurd rfl h
  | succ d ih =>
    intro i h
    rw [pivot] at h ⊢
    split at h
    · rename_i g
      rw [if_pos g]
      exact ih (i + 1) (by omega)
    · rename_i g
      rw [if_neg g]
      exact g
theorem elimRow_len (p f : Int) (r own : List Int) (n : Nat) : (elimRow p f r own n).length = n := by simp [elimRow]
theorem elimRow_nm {p : Int} (hp : 0 < p) (f : Int) (r own : List Int) (n : Nat) : Nm p (elimRow p f r own n) := fun x hx => by
  obtain ⟨i, _, rfl⟩ := List.mem_map.1 hx
  exact emodB hp _
theorem elimRow_get (p f : Int) (r own : List Int) {n k : Nat} (h : k < n) : (elimRow p f r own n).getD k 0 = (r.getD k 0 - f * own.getD k 0) % p := by
  rw [elimRow, List.getD_eq_getElem?_getD, List.getElem?_map, List.getElem?_range h]; rfl

/-! ### a matrix in memory -/
/-- e: the type of the rows' slices, e': of the numbers; the first m rows are there. -/
structure Mx (e e' : TypeId) (w : World) (b g n m : Nat) (β κ : Nat → Nat) (M : Nat → List Int) : Prop where
  out : w.heap[g]? = some (.cells ((List.range n).map fun i => if i < m then Value.slice (some ⟨β i, 0, none⟩) n (κ i) else Value.slice none 0 0).toArray e (0, 0))
  bg : b ≤ g
  mn : m ≤ n
  len : ∀ i, i < m → (M i).length = n
  cap : ∀ i, i < m → n ≤ κ i
  bb : ∀ i, i < m → b ≤ β i
  row : ∀ i, i < m → ∃ cur : Array Value, w.heap[β i]? = some (.cells cur e' (0, 0)) ∧ ∀ k, k < n → cur[k]? = some (.int .i64 ((M i).getD k 0))
  ne : ∀ i j, i < m → j < m → i ≠ j → β i ≠ β j
section
variable {e e' : TypeId} {w w1 : World} {b g n m : Nat} {β κ : Nat → Nat} {M : Nat → List Int}
theorem Mx.g_ne (h : Mx e e' w b g n m β κ M) (he : e ≠ e') {i : Nat} (hi : i < m) : β i ≠ g := by
  intro eq
  obtain ⟨cur, hc, _⟩ := h.row i hi
  rw [eq, h.out] at hc
  injection hc with hc
  injection hc with _ hc
  exact he hc
theorem Mx.outer (h : Mx e e' w b g n m β κ M) {i : Nat} (hi : i < m) : w.cell? ⟨g, i, none⟩ = some (.slice (some ⟨β i, 0, none⟩) n (κ i)) := by
  have hm := h.mn
  rw [blk_cell h.out i, List.getElem?_toArray, List.getElem?_map, List.getElem?_range (by omega)]
  simp [hi]
theorem Mx.outer_frozen (h : Mx e e' w b g n m β κ M) (i : Nat) : w.frozen? ⟨g, i, none⟩ = false := blk_frozen h.out i
theorem Mx.cell (h : Mx e e' w b g n m β κ M) {i k : Nat} (hi : i < m) (hk : k < n) : w.cell? ⟨β i, k, none⟩ = some (.int .i64 ((M i).getD k 0)) := by
  obtain ⟨cur, hc, hr⟩ := h.row i hi
  rw [blk_cell hc k]
  exact hr k hk
theorem Mx.frozen (h : Mx e e' w b g n m β κ M) {i : Nat} (hi : i < m) (k : Nat) : w.frozen? ⟨β i, k, none⟩ = false := by
  obtain ⟨cur, hc, _⟩ := h.row i hi
  exact blk_frozen hc k
theorem Mx.lt (h : Mx e e' w b g n m β κ M) {i : Nat} (hi : i < m) : β i < w.heap.size := by
  obtain ⟨cur, hc, _⟩ := h.row i hi
  exact blk_lt hc
theorem Mx.step (h : Mx e e' w b g n m β κ M) (hm : ∀ k, b ≤ k → k < w.heap.size → w1.heap[k]? = w.heap[k]?) : Mx e e' w1 b g n m β κ M :=
  ⟨(hm g h.bg (blk_lt h.out)).trans h.out, h.bg, h.mn, h.len, h.cap, h.bb, fun i hi => by
    obtain ⟨cur, hc, hr⟩ := h.row i hi
    exact ⟨cur, (hm _ (h.bb i hi) (blk_lt hc)).trans hc, hr⟩, h.ne⟩
theorem Mx.below (h : Mx e e' w b g n m β κ M) (hb : Below w.heap.size w w1) : Mx e e' w1 b g n m β κ M := h.step fun k _ hk => hb.block k hk
/-- A store into another block than the matrix's. -/
theorem Mx.far (h : Mx e e' w b g n m β κ M) {q : Nat} (hg : q ≠ g) (hq : ∀ i, i < m → q ≠ β i) (j : Nat) (u : Value) : Mx e e' (w.setCell ⟨q, j, none⟩ u) b g n m β κ M :=
  ⟨(Below.heap_setCell w ⟨q, j, none⟩ u g (Ne.symm hg)).trans h.out, h.bg, h.mn, h.len, h.cap, h.bb, fun i hi => by
    obtain ⟨cur, hc, hr⟩ := h.row i hi
    exact ⟨cur, (Below.heap_setCell w ⟨q, j, none⟩ u _ (Ne.symm (hq i hi))).trans hc, hr⟩, h.ne⟩
/-- A number of a row is set. -/
theorem Mx.put (h : Mx e e' w b g n m β κ M) (he : e ≠ e') {i k : Nat} (hi : i < m) (hk : k < n) (x : Int) :
    Mx e e' (w.setCell ⟨β i, k, none⟩ (.int .i64 x)) b g n m β κ (fun t => if t = i then (M i).set k x else M t) := by
  refine ⟨(Below.heap_setCell w ⟨β i, k, none⟩ _ g (Ne.symm (h.g_ne he hi))).trans h.out, h.bg, h.mn, fun t ht => ?_, h.cap, h.bb, fun t ht => ?_, h.ne⟩
  · by_cases c : t = i
    · rw [if_pos c, List.length_set]; exact h.len i hi
    · rw [if_neg c]; exact h.len t ht
  · by_cases c : t = i
    · subst c
      obtain ⟨cur, hc, hr⟩ := h.row t ht
      refine ⟨cur.setIfInBounds k (.int .i64 x), blk_set hc k _, fun j hj => ?_⟩
      have hl := h.len t ht
      rw [if_pos rfl]
      by_cases d : k = j
      · subst d
        have hs : k < cur.size := by
          have := hr k hk
          exact (Array.getElem?_eq_some_iff.1 this).1
        rw [Array.getElem?_setIfInBounds_self_of_lt hs, List.getD_eq_getElem?_getD, List.getElem?_set_self (by omega)]; rfl
      · rw [Array.getElem?_setIfInBounds_ne d, hr j hj, List.getD_eq_getElem?_getD, List.getD_eq_getElem?_getD, List.getElem?_set_ne d]
    · obtain ⟨cur, hc, hr⟩ := h.row t ht
      refine ⟨cur, (Below.heap_setCell w ⟨β i, k, none⟩ _ _ (h.ne t i ht hi c)).trans hc, fun j hj => ?_⟩
      rw [if_neg c]
      exact hr j hj
/-- Two rows change their places. -/
theorem Mx.swap (h : Mx e e' w b g n n β κ M) (he : e ≠ e') {c j : Nat} (hc : c < n) (hj : j < n) :
    Mx e e' ((w.setCell ⟨g, c, none⟩ (.slice (some ⟨β j, 0, none⟩) n (κ j))).setCell ⟨g, j, none⟩ (.slice (some ⟨β c, 0, none⟩) n (κ c))) b g n n
      (fun i => if i = j then β c else if i = c then β j else β i) (fun i => if i = j then κ c else if i = c then κ j else κ i) (fun i => if i = j then M c else if i = c then M j else M i) := by
  refine ⟨?_, h.bg, Nat.le_refl _, fun i hi => ?_, fun i hi => ?_, fun i hi => ?_, fun i hi => ?_, fun i t hi ht hit => ?_⟩
  · have h1 := blk_set (blk_set h.out c (.slice (some ⟨β j, 0, none⟩) n (κ j))) j (.slice (some ⟨β c, 0, none⟩) n (κ c))
    rw [h1]
    congr 2
    apply Array.ext
    · simp
    · intro i h1 h2
      have hi : i < n := by simpa using h2
      simp only [List.getElem_toArray, List.getElem_map, List.getElem_range, hi, if_true]
      by_cases c1 : i = j
      · subst c1; simp
      · by_cases c2 : i = c
        · subst c2; simp [Ne.symm c1, c1]
        · simp [Ne.symm c1, Ne.symm c2, c1, c2, hi]
  · by_cases c1 : i = j
    · rw [if_pos c1]; exact h.len c hc
    · by_cases c2 : i = c
      · rw [if_neg c1, if_pos c2]; exact h.len j hj
      · rw [if_neg c1, if_neg c2]; exact h.len i hi
  · by_cases c1 : i = j
    · rw [if_pos c1]; exact h.cap c hc
    · by_cases c2 : i = c
      · rw [if_neg c1, if_pos c2]; exact h.cap j hj
      · rw [if_neg c1, if_neg c2]; exact h.cap i hi
  · by_cases c1 : i = j
    · rw [if_pos c1]; exact h.bb c hc
    · by_cases c2 : i = c
      · rw [if_neg c1, if_pos c2]; exact h.bb j hj
      · rw [if_neg c1, if_neg c2]; exact h.bb i hi
  · have far : ∀ q, q < n → ((w.setCell ⟨g, c, none⟩ (.slice (some ⟨β j, 0, none⟩) n (κ j))).setCell ⟨g, j, none⟩ (.slice (some ⟨β c, 0, none⟩) n (κ c))).heap[β q]? = w.heap[β q]? := by
      intro q hq
      rw [Below.heap_setCell _ _ _ _ (h.g_ne he hq), Below.heap_setCell _ _ _ _ (h.g_ne he hq)]
    by_cases c1 : i = j
    · simp only [if_pos c1]
      obtain ⟨cur, hh, hr⟩ := h.row c hc
      exact ⟨cur, (far c hc).trans hh, hr⟩
    · by_cases c2 : i = c
      · simp only [if_neg c1, if_pos c2]
        obtain ⟨cur, hh, hr⟩ := h.row j hj
        exact ⟨cur, (far j hj).trans hh, hr⟩
      · simp only [if_neg c1, if_neg c2]
        obtain ⟨cur, hh, hr⟩ := h.row i hi
        exact ⟨cur, (far i hi).trans hh, hr⟩
  · have n1 := h.ne
    by_cases a1 : i = j
    · by_cases a2 : t = c
      · rw [if_pos a1, if_neg (by omega), if_pos a2]
        by_cases a3 : c = j
        · omega
        · exact n1 c j hc hj a3
      · rw [if_pos a1, if_neg (by omega), if_neg a2]
        by_cases a3 : c = t
        · omega
        · exact n1 c t hc ht a3
    · by_cases a2 : i = c
      · rw [if_neg a1, if_pos a2]
        by_cases a3 : t = j
        · rw [if_pos a3]; exact n1 j c hj hc (by omega)
        · rw [if_neg a3, if_neg (by omega)]; exact n1 j t hj ht (by omega)
      · rw [if_neg a1, if_neg a2]
        by_cases a3 : t = j
        · rw [if_pos a3]; exact n1 i c hi hc a2
        · by_cases a4 : t = c
          · rw [if_neg a3, if_pos a4]; exact n1 i j hi hj a1
          · rw [if_neg a3, if_neg a4]; exact n1 i t hi ht hit
/-- One more row is put. -/
theorem Mx.more (h : Mx e e' w b g n m β κ M) (he : e ≠ e') (hm : m < n) {q c : Nat} {cur : Array Value} (hq : w.heap[q]? = some (.cells cur e' (0, 0))) (hb : b ≤ q) (hc : n ≤ c) (l : List Int) (hl : l.length = n)
    (hr : ∀ k, k < n → cur[k]? = some (.int .i64 (l.getD k 0))) (hne : ∀ i, i < m → β i ≠ q) :
    Mx e e' (w.setCell ⟨g, m, none⟩ (.slice (some ⟨q, 0, none⟩) n c)) b g n (m + 1) (fun i => if i = m then q else β i) (fun i => if i = m then c else κ i) (fun i => if i = m then l else M i) := by
  have hqg : q ≠ g := by
    intro eq
    rw [eq, h.out] at hq
    injection hq with hq
    injection hq with _ hq
    exact he hq
  refine ⟨?_, h.bg, hm, fun i hi => ?_, fun i hi => ?_, fun i hi => ?_, fun i hi => ?_, fun i j hi hj hij => ?_⟩
  · rw [blk_set h.out m]
    congr 2
    apply Array.ext
    · simp
    · intro i h1 h2
      have hi : i < n := by simpa using h2
      simp only [List.getElem_toArray, List.getElem_map, List.getElem_range]
      by_cases c1 : i = m
      · subst c1; simp
      · by_cases c2 : i < m
        · simp [Ne.symm c1, c1, c2, show i < m + 1 from by omega]
        · simp [Ne.symm c1, c2, show ¬ i < m + 1 from by omega]
  · by_cases c1 : i = m
    · rw [if_pos c1]; exact hl
    · rw [if_neg c1]; exact h.len i (by omega)
  · by_cases c1 : i = m
    · rw [if_pos c1]; exact hc
    · rw [if_neg c1]; exact h.cap i (by omega)
  · by_cases c1 : i = m
    · rw [if_pos c1]; exact hb
    · rw [if_neg c1]; exact h.bb i (by omega)
  · by_cases c1 : i = m
    · simp only [if_pos c1]
      exact ⟨cur, (Below.heap_setCell w ⟨g, m, none⟩ _ q hqg).trans hq, hr⟩
    · simp only [if_neg c1]
      obtain ⟨cu, hh, hr'⟩ := h.row i (by omega)
      exact ⟨cu, (Below.heap_setCell w ⟨g, m, none⟩ _ _ (h.g_ne he (by omega))).trans hh, hr'⟩
  · by_cases c1 : i = m
    · rw [if_pos c1, if_neg (by omega)]; exact Ne.symm (hne j (by omega))
    · rw [if_neg c1]
      by_cases c2 : j = m
      · rw [if_pos c2]; exact hne i (by omega)
      · rw [if_neg c2]; exact h.ne i j (by omega) (by omega) hij
end
/- Quotients modulo p in the program; no condition. -/
theorem implDiv_ev {p : Int} (hp : Pm p) {x y : Int} (hx : 0 ≤ x ∧ x < p) (hy : 0 ≤ y ∧ y < p) : Ev (fun n => impl_field_div.f n p x y) (x * invF p y % p) := by
  unfold impl_field_div.f
  exact Ev.bind (implInv_ev hp hy) (Ev.bindE (fmul_eq hp hx (invF_in hp y)) (Ev.now _))
/- What the walk of the determinant leans on: a matrix as a list of rows that is read, its making, its cuts, the search for a pivot, and the callees in plain form. -/
theorem addr_add (g c j : Nat) : (⟨g, c, none⟩ : Addr).add j = ⟨g, c + j, none⟩ := by unfold Addr.add; split <;> simp_all
/-- The m rows from c on. -/
def rowsFrom (M : Nat → List Int) (c m : Nat) : List (List Int) := (List.range m).map fun j => M (c + j)
theorem rowsFrom_len (M : Nat → List Int) (c m : Nat) : (rowsFrom M c m).length = m := by simp [rowsFrom]
theorem rowsFrom_get (M : Nat → List Int) (c : Nat) {m j : Nat} (h : j < m) : (rowsFrom M c m).getD j [] = M (c + j) := by
  rw [rowsFrom, List.getD_eq_getElem?_getD, List.getElem?_map, List.getElem?_range h]; rfl
/-- Where the cut from c on begins. -/
def cutAt (g n c : Nat) : Addr := if n = c then ⟨g, 0, none⟩ else ⟨g, c, none⟩
section
variable {e e' : TypeId} {w w1 : World} {b g n m : Nat} {β κ : Nat → Nat} {M : Nat → List Int}
theorem Mx.rowC (h : Mx e e' w b g n m β κ M) (hn : n ≤ 1000) {i : Nat} (hi : i < m) : Kd.C (Kd.int .i64) w (some ⟨β i, 0, none⟩) n (M i) :=
  ⟨h.len i hi, by omega, fun h0 => ⟨_, rfl, fun j p hj => ⟨[.int .i64 p], rfl, rfl, fun t u hu => by
    cases t with
    | zero =>
      have hl : j < n := by have := (List.getElem?_eq_some_iff.1 hj).1; have := h.len i hi; omega
      have hu : Value.int .i64 p = u := by simpa using hu
      subst hu
      have he : (⟨β i, 0, none⟩ : Addr).add (j * (Kd.int .i64).sz + 0) = ⟨β i, j, none⟩ := by rw [addr_add]; show (⟨β i, 0 + (j * 1 + 0), none⟩ : Addr) = _; rw [show 0 + (j * 1 + 0) = j from by omega]
      rw [he, h.cell hi hl, List.getD_eq_getElem?_getD, hj]; rfl
    | succ t => simp at hu⟩⟩⟩
theorem Mx.C (h : Mx e e' w b g n n β κ M) (hn : n ≤ 1000) {c : Nat} (hc : c ≤ n) : Kd.C (Kd.slice e' (Kd.int .i64)) w (some (cutAt g n c)) (rowsFrom M c (n - c)).length (rowsFrom M c (n - c)) :=
  ⟨rfl, by rw [rowsFrom_len]; omega, fun h0 => ⟨_, rfl, fun j p hj => by
    rw [rowsFrom_len] at h0
    have hl : j < n - c := by have := (List.getElem?_eq_some_iff.1 hj).1; rwa [rowsFrom_len] at this
    have hp : M (c + j) = p := by
      have := rowsFrom_get M c hl
      rw [List.getD_eq_getElem?_getD, hj] at this
      exact this.symm
    subst hp
    have hlen := h.len (c + j) (by omega)
    refine ⟨[.slice (some ⟨β (c + j), 0, none⟩) (M (c + j)).length (κ (c + j))], rfl, ⟨_, _, rfl, by rw [hlen]; exact h.cap _ (by omega), by rw [hlen]; exact h.rowC hn (by omega)⟩, fun t u hu => ?_⟩
    cases t with
    | zero =>
      have hu : Value.slice (some ⟨β (c + j), 0, none⟩) (M (c + j)).length (κ (c + j)) = u := by simpa using hu
      subst hu
      have he : (cutAt g n c).add (j * (Kd.slice e' (Kd.int .i64)).sz + 0) = ⟨g, c + j, none⟩ := by
        rw [cutAt, if_neg (by omega), addr_add]; show (⟨g, c + (j * 1 + 0), none⟩ : Addr) = _; rw [show c + (j * 1 + 0) = c + j from by omega]
      rw [he, h.outer (show c + j < n from by omega), hlen]
    | succ t => simp at hu⟩⟩
theorem Mx.outer0 (h : Mx e e' w b g n m β κ M) {i : Nat} (hm : m ≤ i) (hi : i < n) : w.cell? ⟨g, i, none⟩ = some (.slice none 0 0) := by
  rw [blk_cell h.out i, List.getElem?_toArray, List.getElem?_map, List.getElem?_range hi]
  simp [show ¬ i < m from by omega]
/-- A row of one's own, its block laid open. -/
theorem row_open {e : Nat} {ok : Nat → Prop} {v : Value} {l : List Int} {base : Nat} (h : Kd.R (Kd.int .i64) e w base ok v l) (h0 : 0 < l.length) :
    ∃ q c cur, v = .slice (some ⟨q, 0, none⟩) l.length c ∧ base ≤ q ∧ l.length ≤ c ∧ w.heap[q]? = some (.cells cur e (0, 0)) ∧ ∀ k, k < l.length → cur[k]? = some (.int .i64 (l.getD k 0)) := by
  obtain ⟨q, c, rfl, hb, _, cur, hc⟩ := Kd.R_form h h0
  obtain ⟨_, hl, hC⟩ := Kd.R_reads' h
  refine ⟨q, c, cur, rfl, hb, hl, hc, fun k hk => ?_⟩
  obtain ⟨ad, ea, hx⟩ := Kd.at_int hC (k : Int) (by omega) (by omega)
  cases ea
  rw [toNat_nat, add_plain, blk_cell hc, rd_nat] at hx
  exact hx
end
/-- The cut from c on. -/
theorem cut_run {P : Program} {t e : TypeId} (ht : P.underlying t = some (.slice e)) (hs : (P.info? e).map (fun i => i.size) = some 1) (g n c : Nat) (hc : c ≤ n) (W : World) :
    (Instr.slice t (.slice (some ⟨g, 0, none⟩) n n) (some (.int .i64 (c : Int))) none none).run P W = .ok (.slice (some (cutAt g n c)) (n - c) (n - c)) W := by
  obtain ⟨i, hi, hsz⟩ := Option.map_eq_some_iff.1 hs
  have hel : P.elem t = e := by simp [Program.elem, ht]
  have hu : P.underlying t = some (.slice (P.elem t)) := by rw [hel]; exact ht
  rw [run_slice_l W t _ n n hu .i64 (c : Int) (Int.natCast_nonneg _) (by omega), hel]
  have hsz : i.size = 1 := hsz
  simp [sizeOf, typeInfo, hi, hsz, sliced, Result.andThen, cutAt, addr_add]
  split <;> rfl
section
variable {P : Program} {ops : Array Oper} {Q : Exit → Act → World → Prop} {rest : List Oper} {oi : Oper} {a : Act} {w : World}
set_option linter.unusedVariables false in
/-- make([][]int64, n). -/
theorem mx_make (N : Tmp) {t e e' : TypeId} {x y : Operand} (n : Nat) (ht : P.underlying t = some (.slice e)) (hinfo : (P.info? e).map (fun i => (i.zero, i.size, i.bytes)) = some (some (.slice none 0 0), 1, 24)) (hn : n ≤ 1000) (β κ : Nat → Nat) (M : Nat → List Int)
    (h : ∀ g, g = w.heap.size → ∀ w1, Mx e e' w1 w.heap.size g n 0 β κ M → Below w.heap.size w w1 → wpList P ops Q rest (a.put oi.dst (.slice (some ⟨g, 0, none⟩) n n)) w1)
    (hd : oi.dst = some N := by rfl) (hg : oi.guard = none := by rfl) (ho : oi.op = .makeSlice t x y := by rfl) (hx : a.eval x = .int .i64 (n : Int) := by rfl) (hy : a.eval y = .int .i64 (n : Int) := by rfl) : wpList P ops Q (oi :: rest) a w := by
  obtain ⟨i0, hi, hz⟩ := Option.map_eq_some_iff.1 hinfo
  simp only [Prod.mk.injEq] at hz
  obtain ⟨hz0, hz1, hz2⟩ := hz
  have hr := run_make (P := P) w t e i0 _ ht hi hz0 .i64 .i64 (n : Int) (n : Int) (by omega) (by omega) (by rw [hz2]; omega) (by omega)
  simp only [Int.toNat_natCast] at hr
  rw [hz1] at hr
  refine Kd.event_run hg (w1 := w.alloc (.cells (madeCells (Value.slice none 0 0).cells (n * 1)) e)) (v := .slice (some ⟨w.heap.size, 0, none⟩) n n) (by simp [execOp, ho, hx, hy, hr]) (h _ rfl _ ?_ (below_alloc (Below.refl _ _) _))
  have hb := blk_new w (.cells (madeCells (Value.slice none 0 0).cells (n * 1)) e)
  refine ⟨hb.trans ?_, Nat.le_refl _, Nat.zero_le _, fun i hi => absurd hi (by omega), fun i hi => absurd hi (by omega), fun i hi => absurd hi (by omega), fun i hi => absurd hi (by omega), fun i j hi => absurd hi (by omega)⟩
  congr 2
  apply Array.ext
  · simp [madeCells]
  · intro i h1 h2
    simp [madeCells, Value.cells, Nat.mod_one]
end
/-! ### two loads of which each may come up first -/
section
variable {P : Program} {ops : Array Oper} {Q : Exit → Act → World → Prop} {S : World → Prop} {ds : List Nat} {T : Bool × List (List Nat × List Nat)} {fuel : Nat} {l : Array Bool} {a a' ai aj : Act} {w : World} {oi oj : Oper} {vi vj : Value}
theorem lo2_ (i j : Nat) (Ni Nj : Tmp) (li lj l' : Array Bool) (HT : Aside0 (rtab .any ops = T)) (hS : S w) (h : wpAnyLast P .any ops Q S ds fuel l' a' w)
    (hi : ops[i]? = some oi := by rfl) (hj : ops[j]? = some oj := by rfl) (hNi : oi.dst = some Ni := by rfl) (hNj : oj.dst = some Nj := by rfl)
    (hc : (readyT T.2 l.toList == [i, j] && l.toList.set i true == li.toList && l.toList.set j true == lj.toList) = true := by kernel_rfl)
    (hci : (readyT T.2 li.toList == [j] && li.toList.set j true == l'.toList) = true := by kernel_rfl) (hcj : (readyT T.2 lj.toList == [i] && lj.toList.set i true == l'.toList) = true := by kernel_rfl)
    (hdi : i ∉ ds := by decide) (hdj : j ∉ ds := by decide)
    (hwi : Region.wanted oi (yielded ops a.tmps) = true := by rfl) (hwj : Region.wanted oj (yielded ops a.tmps) = true := by rfl)
    (ri : (execOp a.eval oi).run P w = .ok (.value vi) w := by (go_simp; with_reducible rfl)) (rj : (execOp a.eval oj).run P w = .ok (.value vj) w := by (go_simp; with_reducible rfl))
    (hai : a.put (some Ni) vi = ai := by (simp only [Act.put, ls, lz, ln, i64_w, i32_w]; rfl)) (haj : a.put (some Nj) vj = aj := by (simp only [Act.put, ls, lz, ln, i64_w, i32_w]; rfl))
    (hwj' : Region.wanted oj (yielded ops ai.tmps) = true := by rfl) (hwi' : Region.wanted oi (yielded ops aj.tmps) = true := by rfl)
    (rj' : (execOp ai.eval oj).run P w = .ok (.value vj) w := by first | (go_simp; done) | (go_simp; with_reducible rfl)) (ri' : (execOp aj.eval oi).run P w = .ok (.value vi) w := by first | (go_simp; done) | (go_simp; with_reducible rfl))
    (h1 : ai.put (some Nj) vj = a' := by (simp only [Act.put, ls, lz, ln, i64_w, i32_w]; rfl)) (h2 : aj.put (some Ni) vi = a' := by first | (simp only [Act.put, ls, lz, ln, i64_w, i32_w]; done) | (simp only [Act.put, ls, lz, ln, i64_w, i32_w]; rfl)) : wpAnyLast P .any ops Q S ds (fuel + 2) l a w := by
  subst hai
  subst haj
  exact two_ li lj hi hj hNi hNj (two_of HT.out hc) hdi hdj (fun K hK => value_ hwi hNi ri (hK.out _ _ hS (fun _ => lo_ j Nj l' HT hS h hj hNj hci hdj hwj' rj' h1)))
    (fun K hK => value_ hwj hNj rj (hK.out _ _ hS (fun _ => lo_ i Ni l' HT hS h hi hNi hcj hdi hwi' ri' h2)))
end
theorem Mx.box_ne {e e' : TypeId} {w : World} {b g n m : Nat} {β κ : Nat → Nat} {M : Nat → List Int} (h : Mx e e' w b g n m β κ M) {q : Nat} {cs : Array Value} {t : TypeId} (hb : w.heap[q]? = some (.cells cs t (0, 0))) (h1 : t ≠ e) (h2 : t ≠ e') : q ≠ g ∧ ∀ i, i < m → q ≠ β i :=
  ⟨blk_ne hb h.out h1, fun i hi => by
    obtain ⟨cur, hc, _⟩ := h.row i hi
    exact blk_ne hb hc h2⟩
theorem Mx.congr {e e' : TypeId} {w : World} {b g n m : Nat} {β κ : Nat → Nat} {M M' : Nat → List Int} (h : Mx e e' w b g n m β κ M) (hM : ∀ i, i < m → M i = M' i) : Mx e e' w b g n m β κ M' :=
  ⟨h.out, h.bg, h.mn, fun i hi => by rw [← hM i hi]; exact h.len i hi, h.cap, h.bb, fun i hi => by rw [← hM i hi]; exact h.row i hi, h.ne⟩
theorem cutAt_add {g n c : Nat} (h : c < n) (j : Nat) : (cutAt g n c).add j = ⟨g, c + j, none⟩ := by rw [cutAt, if_neg (by omega), addr_add]
/-! ### a row of which the first k numbers are done -/
def partRow (p f : Int) (r own : List Int) (n k : Nat) : List Int := (List.range n).map fun q => if q < k then (r.getD q 0 - f * own.getD q 0) % p else r.getD q 0
theorem partRow_len (p f : Int) (r own : List Int) (n k : Nat) : (partRow p f r own n k).length = n := by simp [partRow]
theorem partRow_get (p f : Int) (r own : List Int) {n k q : Nat} (h : q < n) : (partRow p f r own n k).getD q 0 = if q < k then (r.getD q 0 - f * own.getD q 0) % p else r.getD q 0 := by
  rw [partRow, List.getD_eq_getElem?_getD, List.getElem?_map, List.getElem?_range h]; rfl
theorem partRow_zero (p f : Int) {r : List Int} (own : List Int) {n : Nat} (h : r.length = n) : partRow p f r own n 0 = r := by
  subst h
  apply List.ext_getElem (partRow_len _ _ _ _ _ _)
  intro i h1 h2
  simp [partRow, List.getD_eq_getElem?_getD, List.getElem?_eq_getElem h2]
theorem partRow_all (p f : Int) (r own : List Int) (n : Nat) : partRow p f r own n n = elimRow p f r own n := by
  unfold partRow elimRow
  refine List.map_congr_left fun q hq => ?_
  rw [if_pos (List.mem_range.1 hq)]
theorem partRow_set (p f : Int) (r own : List Int) (n k : Nat) : (partRow p f r own n k).set k ((r.getD k 0 - f * own.getD k 0) % p) = partRow p f r own n (k + 1) := by
  apply List.ext_getElem (by rw [List.length_set, partRow_len, partRow_len])
  intro i h1 h2
  rw [List.getElem_set]
  by_cases hi : k = i
  · subst hi
    rw [if_pos rfl]
    simp [partRow]
  · rw [if_neg hi]
    simp only [partRow, List.getElem_map, List.getElem_range]
    by_cases hk : i < k
    · rw [if_pos hk, if_pos (by omega)]
    · rw [if_neg hk, if_neg (by omega)]
/-! ### the search -/
theorem det1_eq {l : List Int} {c : Nat} (h : c < l.length) : impl_field_determinant_1.f l (c : Int) = some (l.getD c 0 != 0) := by
  unfold impl_field_determinant_1.f
  rw [if_pos (by omega), if_pos (by omega), rd_nat]
theorem find_eq (M : Nat → List Int) (c m : Nat) (hm : m ≤ 1000) (hl : ∀ j, j < m → c < (M (c + j)).length) (d : Nat) : ∀ i, i + d = m →
    slices_IndexFunc_rows.l0 (d + 1) (rowsFrom M c m) (fun z => impl_field_determinant_1.f z (c : Int)) (m : Int) (i : Int) = some (if pivot M c d (c + i) = c + m then -1 else ((pivot M c d (c + i) - c : Nat) : Int)) := by
  induction d with
  | zero =>
    intro i hi
    rw [slices_IndexFunc_rows.l0, if_neg (by omega), pivot, if_pos (by omega)]
  | succ d ih =>
    intro i hi
    rw [slices_IndexFunc_rows.l0, if_pos (by omega), if_pos (by omega), if_pos (by rw [rowsFrom_len]; omega), rdL_nat, rowsFrom_get _ _ (by omega), det1_eq (hl i (by omega)), Option.bind_some, pivot]
    by_cases h0 : (M (c + i)).getD c 0 = 0
    · rw [if_neg (by simp only [h0]; decide), if_pos h0, wsucc (n := 1001) (by omega) (by omega)]
      exact ih (i + 1) (by omega)
    · rw [if_pos (bne_iff_ne.2 h0), if_neg h0, if_neg (by omega), show c + i - c = i from by omega]
theorem find_all (M : Nat → List Int) (c m : Nat) (hm : m ≤ 1000) (hl : ∀ j, j < m → c < (M (c + j)).length) :
    slices_IndexFunc_rows.f (m + 1) (rowsFrom M c m) (fun z => impl_field_determinant_1.f z (c : Int)) = some (if pivot M c m c = c + m then -1 else ((pivot M c m c - c : Nat) : Int)) := by
  unfold slices_IndexFunc_rows.f
  rw [rowsFrom_len]
  exact find_eq M c m hm hl m 0 (by omega)
/-! ### the callees -/
theorem mod_calls {p : Int} (hp : Pm p) (x : Int) (w : World) : Calls Try.prog 122 #[.int .i64 p, .int .i64 x] w fun e w' => e = .returned (.int .i64 (x % p)) ∧ Drawn0 w w' :=
  impl_field_mod.calls p x _ w (mod_eq hp x)
theorem mod_calls2 {p : Int} (hp : Pm p) {x y : Int} (h : x % p = y) (w : World) : Calls Try.prog 122 #[.int .i64 p, .int .i64 x] w fun e w' => e = .returned (.int .i64 y) ∧ Drawn0 w w' :=
  h ▸ mod_calls hp x w
theorem mul_calls {p : Int} (hp : Pm p) {x y : Int} (hx : 0 ≤ x ∧ x < p) (hy : 0 ≤ y ∧ y < p) (w : World) : Calls Try.prog 131 #[.int .i64 p, .int .i64 x, .int .i64 y] w fun e w' => e = .returned (.int .i64 (x * y % p)) ∧ Drawn0 w w' :=
  impl_field_mul.calls p x y _ w (fmul_eq hp hx hy)
theorem div_calls {p : Int} (hp : Pm p) {x y : Int} (hx : 0 ≤ x ∧ x < p) (hy : 0 ≤ y ∧ y < p) (w : World) : Calls Try.prog 132 #[.int .i64 p, .int .i64 x, .int .i64 y] w fun e w' => e = .returned (.int .i64 (x * invF p y % p)) ∧ Drawn0 w w' := by
  obtain ⟨K, h⟩ := implDiv_ev hp hx hy
  exact impl_field_div.calls K p x y _ w (h K (Nat.le_refl _))
theorem find_calls {w : World} {b g n c gq : Nat} {β κ : Nat → Nat} {M : Nat → List Int} {v : Int} (h : Mx 22 2 w b g n n β κ M) (hn : n ≤ 1000) (hc : c < n) (hbox : w.heap[gq]? = some (.cells #[.int .i64 (c : Int)] 3 (0, 0)))
    (hv : v = if pivot M c (n - c) c = n then -1 else ((pivot M c (n - c) c - c : Nat) : Int)) :
    Calls Try.prog 157 #[.slice (some (cutAt g n c)) (n - c) (n - c), .func (.func 158) #[] #[.pointer (some ⟨gq, 0, none⟩)]] w fun e w' => e = .returned (.int .i64 v) ∧ Below w.heap.size w w' := by
  have hl : ∀ j, j < n - c → c < (M (c + j)).length := fun j hj => by rw [h.len (c + j) (by omega)]; exact hc
  have hf := find_all M c (n - c) (by omega) hl
  rw [show c + (n - c) = n from by omega, ← hv] at hf
  have hC := h.C hn (Nat.le_of_lt hc)
  have hlen := rowsFrom_len M c (n - c)
  refine calls_of_args (args' := #[.slice (some (cutAt g n c)) (rowsFrom M c (n - c)).length (n - c), .func (.func 158) #[] #[.pointer (some ⟨gq, 0, none⟩)]]) (by rw [hlen]) ?_
  refine slices_IndexFunc_rows.calls (n - c + 1) _ _ (rowsFrom M c (n - c)) _ (fun z => impl_field_determinant_1.f z (c : Int)) v w hC (by rw [hlen]; exact Nat.le_refl _) ?_ hf
  refine FnL.of Try.func158 (by kernel_rfl) rfl (fun z r A c0 hr W hW hCz hc0 => calls_of_args (args' := #[.slice A z.length c0, .pointer (some ⟨gq, 0, none⟩)]) (by simp) ?_)
  refine (impl_field_determinant_1.calls A c0 z gq (c : Int) r W hCz hc0 (blk_below hbox hW) hr).mono ?_
  rintro e w' ⟨rfl, ⟨nd, rfl⟩⟩
  exact ⟨rfl, pw_below_drewN (Below.refl _ _) _⟩
theorem mul_calls2 {p : Int} (hp : Pm p) {x y z : Int} (hx : 0 ≤ x ∧ x < p) (hy : 0 ≤ y ∧ y < p) (h : x * y % p = z) (w : World) : Calls Try.prog 131 #[.int .i64 p, .int .i64 x, .int .i64 y] w fun e w' => e = .returned (.int .i64 z) ∧ Drawn0 w w' :=
  h ▸ mul_calls hp hx hy w
theorem div_calls2 {p : Int} (hp : Pm p) {x y z : Int} (hx : 0 ≤ x ∧ x < p) (hy : 0 ≤ y ∧ y < p) (h : x * invF p y % p = z) (w : World) : Calls Try.prog 132 #[.int .i64 p, .int .i64 x, .int .i64 y] w fun e w' => e = .returned (.int .i64 z) ∧ Drawn0 w w' :=
  h ▸ div_calls hp hx hy w
theorem clone_calls {l : List Int} {n c : Nat} {A : Option Addr} {w : World} (hl : l.length = n) (h0 : 0 < n) (hn : n ≤ 1000) (hC : Kd.C (Kd.int .i64) w A n l) (hc : n ≤ c) :
    Calls Try.prog 73 #[.slice A n c] w fun e w' => ∃ q c' cur, e = .returned (.slice (some ⟨q, 0, none⟩) n c') ∧ w.heap.size ≤ q ∧ n ≤ c' ∧ w'.heap[q]? = some (.cells cur 2 (0, 0)) ∧ (∀ k, k < n → cur[k]? = some (.int .i64 (l.getD k 0))) ∧ Below w.heap.size w w' := by
  subst hl
  refine (slices_Clone_ints.calls A c l l w hC hc (by unfold slices_Clone_ints.f; rw [if_pos (by omega)])).mono ?_
  rintro e w' ⟨v, rfl, hR, hb⟩
  obtain ⟨q, c', cur, rfl, h1, h2, h3, h4⟩ := row_open hR h0
  exact ⟨q, c', cur, rfl, h1, h2, h3, h4, hb⟩
/- slices.Reverse of a row's end that is the call's own: the numbers from one place on stand in the other order afterwards. -/
set_option linter.unusedVariables false
set_option linter.unusedSimpArgs false
def rvs.T3 : Bool × List (List Nat × List Nat) := (true, [([], []), ([], []), ([], []), ([], []), ([], []), ([], []), ([4, 5], [4, 5]), ([6], [6]), ([], []), ([], []), ([8, 9], [8, 9]), ([10], [10]), ([0, 1, 0, 1, 4, 5, 6, 7, 11], [0, 1]), ([12, 7, 0, 1, 4, 5, 6, 7, 11], [7, 12]), ([2, 3, 0, 1, 2, 3, 4, 5, 6, 7, 8, 9, 10, 11, 12, 13], [2, 3]), ([14, 11, 13, 0, 1, 2, 3, 4, 5, 6, 7, 8, 9, 10, 11, 12, 13], [11, 14])])
def rvs.B3 : List Nat := [0, 0, 0, 0, 0, 0, 48, 112, 0, 0, 768, 1792, 4083, 8179, 16383, 32767]
theorem rvs.tab3 : rtab .any (opsOf Try.f60 3) = rvs.T3 := by kernel_rfl
theorem rvs.bits3 : waitsOk rvs.T3.2 rvs.B3 = true := by kernel_rfl

/-- Behind t rounds: the outer t numbers on both sides of the row's end of length m stand in the other order. -/
def rvL (L : List Int) (s m t : Nat) : List Int := (List.range L.length).map fun q => if (s ≤ q ∧ q < s + m) ∧ (q < s + t ∨ s + m < q + 1 + t) then L.getD (2 * s + m - 1 - q) 0 else L.getD q 0
theorem rvL_len (L : List Int) (s m t : Nat) : (rvL L s m t).length = L.length := by simp [rvL]
theorem rvL_get (L : List Int) (s m t : Nat) {q : Nat} (h : q < L.length) : (rvL L s m t).getD q 0 = if (s ≤ q ∧ q < s + m) ∧ (q < s + t ∨ s + m < q + 1 + t) then L.getD (2 * s + m - 1 - q) 0 else L.getD q 0 := by
  rw [rvL, List.getD_eq_getElem?_getD, List.getElem?_map, List.getElem?_range h]; rfl
theorem rvL_zero (L : List Int) (s m : Nat) : rvL L s m 0 = L := by
  apply List.ext_getElem (rvL_len _ _ _ _)
  intro i h1 h2
  have e := rvL_get L s m 0 h2
  rw [if_neg (by omega), List.getD_eq_getElem?_getD, List.getD_eq_getElem?_getD, List.getElem?_eq_getElem h1, List.getElem?_eq_getElem h2] at e
  exact e
theorem rvL_step (L : List Int) (s m t : Nat) (hm : s + m ≤ L.length) (ht : 2 * t + 1 < m) :
    ((rvL L s m t).set (s + t) ((rvL L s m t).getD (s + (m - 1 - t)) 0)).set (s + (m - 1 - t)) ((rvL L s m t).getD (s + t) 0) = rvL L s m (t + 1) := by
  rw [rvL_get _ _ _ _ (show s + (m - 1 - t) < L.length by omega), rvL_get _ _ _ _ (show s + t < L.length by omega)]
  apply List.ext_getElem (by rw [List.length_set, List.length_set, rvL_len, rvL_len])
  intro i h1 h2
  have hi : i < L.length := by rwa [rvL_len] at h2
  have e2 : (rvL L s m (t + 1))[i] = (rvL L s m (t + 1)).getD i 0 := by rw [List.getD_eq_getElem?_getD, List.getElem?_eq_getElem h2]; rfl
  rw [e2, rvL_get _ _ _ _ hi, List.getElem_set, List.getElem_set]
  by_cases c1 : s + (m - 1 - t) = i
  · rw [if_pos c1, if_neg (by omega), if_pos (by omega)]
    congr 1
    omega
  · rw [if_neg c1]
    by_cases c2 : s + t = i
    · rw [if_pos c2, if_neg (by omega), if_pos (by omega)]
      congr 1
      omega
    · rw [if_neg c2]
      have e3 : (rvL L s m t)[i]'(by rw [rvL_len]; exact hi) = (rvL L s m t).getD i 0 := by rw [List.getD_eq_getElem?_getD, List.getElem?_eq_getElem (by rw [rvL_len]; exact hi)]; rfl
      rw [e3, rvL_get _ _ _ _ hi]
      by_cases c3 : (s ≤ i ∧ i < s + m) ∧ (i < s + t ∨ s + m < i + 1 + t)
      · rw [if_pos c3, if_pos (by omega)]
      · rw [if_neg c3, if_neg (by omega)]
theorem rvL_end (L : List Int) (s m t : Nat) (h : m ≤ 2 * t + 1) : rvL L s m t = rvL L s m m := by
  unfold rvL
  refine List.map_congr_left fun q _ => ?_
  by_cases c : s ≤ q ∧ q < s + m
  · by_cases c2 : q < s + t ∨ s + m < q + 1 + t
    · rw [if_pos ⟨c, c2⟩, if_pos ⟨c, by omega⟩]
    · rw [if_neg (by omega), if_pos ⟨c, by omega⟩]
      congr 1
      omega
  · rw [if_neg (fun g => c g.1), if_neg (fun g => c g.1)]
set_option maxHeartbeats 8000000 in
set_option maxRecDepth 100000 in
theorem rvs_calls (w0 w : World) (g s n m c cc : Nat) (A : Addr) (L : List Int) (P0_ : Nat → Prop) (hB : Below w0.heap.size w0 w) (hR : Kd.R (Kd.int .i64) 2 w w0.heap.size P0_ (.slice (some ⟨g, 0, none⟩) n c) L) (hl : L.length = n) (hn : n ≤ 1000000) (hm : s + m = n) (hA : 0 < m → A = ⟨g, s, none⟩) :
    Calls Try.prog 60 #[.slice (some A) m cc] w fun e w' => e = .returned (.tuple #[]) ∧ Kd.R (Kd.int .i64) 2 w' w0.heap.size P0_ (.slice (some ⟨g, 0, none⟩) n c) (rvL L s m m) ∧ Below w0.heap.size w0 w' ∧ Kept w w' (fun k_ => P0_ k_) := by
  have hu := Try.underlying22
  have HG : Aside0 (P0_ g) := ⟨hR.1 g rfl⟩
  have HK := Aside0.mk (Kept.refl w (fun k_ => P0_ k_))
  have HB := Aside0.mk hB
  have HR := Aside0.mk (show Kd.R (Kd.int .i64) 2 w w0.heap.size P0_ (.slice (some ⟨g, 0, none⟩) n c) (rvL L s m 0) by rw [rvL_zero]; exact hR)
  clear hR hB
  go_enter Try.func60, Try.ntmps60
  have e0 : IntKind.i64.wrap ((m : Int) - 1) = (m : Int) - 1 := by rw [i64_w, wrap_id (by omega) (by omega)]
  go_wp2
  go_loopg [2, 3] (m + 1) (fun kq v2 v3 w' => ∃ t : Nat, v2 = .int .i64 (t : Int) ∧ v3 = .int .i64 ((m : Int) - 1 - (t : Int)) ∧ Aside0 (kq + t = m + 1 ∧ 2 * t ≤ m + 1) ∧ Aside0 (Kd.R (Kd.int .i64) 2 w' w0.heap.size P0_ (.slice (some ⟨g, 0, none⟩) n c) (rvL L s m t)) ∧ Aside0 (Below w0.heap.size w0 w') ∧ Aside0 (Kept w w' (fun k_ => P0_ k_)))
  case atStart => exact ⟨0, rfl, by simp, ⟨by omega, by omega⟩, HR, HB, HK⟩
  case round =>
    clear HR HB HK
    obtain ⟨t, rfl, rfl, HT, HR, HB, HK⟩ := hrel
    by_cases ct : 2 * t + 1 < m
    · have c1 : decide ((t : Int) < (m : Int) - 1 - (t : Int)) = true := decide_eq_true (by omega)
      have c2 : (t : Int) < (m : Int) - 1 - (t : Int) := by omega
      obtain rfl := hA (by omega)
      obtain ⟨j, hj⟩ : ∃ j : Nat, j = m - 1 - t := ⟨_, rfl⟩
      have ej : (m : Int) - 1 - (t : Int) = (j : Int) := by omega
      rw [ej] at c1 c2 ⊢
      have q0 : (0 ≤ (t : Int)) = True := eq_true (by omega)
      have q1 : ((t : Int) < (m : Int)) = True := eq_true (by omega)
      have q2 : (0 ≤ (j : Int)) = True := eq_true (by omega)
      have q3 : ((j : Int) < (m : Int)) = True := eq_true (by omega)
      have q4 : (t < m) = True := eq_true (by omega)
      have q5 : (j < m) = True := eq_true (by omega)
      have e1 : IntKind.i64.wrap ((t : Int) + 1) = ((t + 1 : Nat) : Int) := by rw [i64_w, wrap_id (by omega) (by omega)]; omega
      have e2 : IntKind.i64.wrap ((j : Int) - 1) = (m : Int) - 1 - ((t + 1 : Nat) : Int) := by rw [i64_w, wrap_id (by omega) (by omega)]; omega
      have HJ := Aside0.mk (show j = m - 1 - t ∧ j < m from ⟨hj, by omega⟩)
      clear hj ej
      go_wp2
      refine start_ (n := 16) (S := fun _ => True) (ds := [15]) (bl 16 0) (by kernel_rfl) rfl (by kernel_rfl) trivial (fun hHeld => ?_)
      refine with_tabW rvs.tab3 rvs.bits3 (fun HT_ HW_ => ?_)
      have n0_ := Aside0.mk (Kd.R_drew HR.out)
      have n1_ := Aside0.mk (below_drew1 HB.out)
      have n2_ := Aside0.mk HK.out.drew
      clear HR HB HK
      have HR := n0_; have HB := n1_; have HK := n2_
      clear n0_ n1_ n2_
      generalize wr.drew = w1 at HR HB HK hHeld ⊢
      have hlen := rvL_len L s m t
      obtain ⟨g', c', cur, hv, hg, _, hh, hcur⟩ := row_open HR.out (by omega)
      injection hv with v1 v2 v3
      injection v1 with v1
      injection v1 with v1
      subst v1
      obtain ⟨x, hx⟩ : ∃ x, (rvL L s m t).getD (s + j) 0 = x := ⟨_, rfl⟩
      obtain ⟨y, hy⟩ : ∃ y, (rvL L s m t).getD (s + t) 0 = y := ⟨_, rfl⟩
      have hcj : w1.cell? ⟨g, s + j, none⟩ = some (.int .i64 x) := (blk_cell hh (s + j)).trans (by rw [hcur (s + j) (by have := HJ.out; omega), hx])
      have hct : w1.cell? ⟨g, s + t, none⟩ = some (.int .i64 y) := (blk_cell hh (s + t)).trans (by rw [hcur (s + t) (by omega), hy])
      have hft := blk_frozen hh (s + t)
      refine pu_ 0 14 (bl 16 1) HT_ ?_
      refine pu_ 1 15 (bl 16 3) HT_ ?_
      refine pu_ 2 16 (bl 16 7) HT_ ?_
      refine pu_ 3 17 (bl 16 15) HT_ ?_
      refine pu_ 4 18 (bl 16 31) HT_ ?_
      refine pu_ 5 19 (bl 16 63) HT_ ?_
      refine pu_ 6 20 (bl 16 127) HT_ ?_
      refine pu_ 8 22 (bl 16 383) HT_ ?_
      refine pu_ 9 23 (bl 16 895) HT_ ?_
      refine pu_ 10 24 (bl 16 1919) HT_ ?_
      refine lo2_ 7 11 21 25 (bl 16 2047) (bl 16 3967) (bl 16 4095) HT_ hHeld ?_
      refine pu_ 12 26 (bl 16 8191) HT_ ?_
      refine on_ 13 none (bl 16 16383) HT_ (fun K hK => ?_)
      refine skip_ (w1 := w1.setCell ⟨g, s + t, none⟩ (.int .i64 x)) (by rfl) rfl (by first | (go_simp; done) | (go_simp; rfl)) ?_
      refine hK.out _ _ trivial (fun hHeld => ?_)
      clear hK K
      have hb1 := blk_set hh (s + t) (.int .i64 x)
      have hcj2 : (w1.setCell ⟨g, s + t, none⟩ (.int .i64 x)).cell? ⟨g, s + j, none⟩ = some (.int .i64 x) := by
        rw [blk_cell hb1 (s + j), Array.getElem?_setIfInBounds_ne (by have := HJ.out; omega), ← blk_cell hh (s + j)]; exact hcj
      have hfj2 := blk_frozen hb1 (s + j)
      refine pu_ 14 27 (bl 16 32767) HT_ ?_
      refine last_ (i := 15) (N := none) (bl 16 65535) rfl rfl (one_of HT_.out (by kernel_rfl)) (by decide) (fun K hK => ?_)
      refine skip_ (w1 := (w1.setCell ⟨g, s + t, none⟩ (.int .i64 x)).setCell ⟨g, s + j, none⟩ (.int .i64 y)) (by rfl) rfl (by first | (go_simp; done) | (go_simp; rfl)) ?_
      refine hK.out _ _ ?_
      clear hK K
      refine done_ (done_of HT_.out (by kernel_rfl)) ?_
      have hj := HJ.out
      have hln : (rvL L s m t).length = n := by rw [hlen, hl]
      have hp1 := (Kd.R_put (enc := Value.int .i64) (h1 := fun _ => rfl) (show Kd.R (Kd.int .i64) 2 w1 w0.heap.size P0_ (.slice (some ⟨g, 0, none⟩) (rvL L s m t).length c) (rvL L s m t) by rw [hln]; exact HR.out) ((s + t : Nat) : Int) x).1
      have hp2 := (Kd.R_put (enc := Value.int .i64) (h1 := fun _ => rfl) (by rw [List.length_set]; exact hp1) ((s + j : Nat) : Int) y).1
      have est : ((rvL L s m t).set (s + t) x).set (s + j) y = rvL L s m (t + 1) := by
        rw [← hx, ← hy, hj.1]
        exact rvL_step L s m t (by omega) ct
      have hp3 : Kd.R (Kd.int .i64) 2 ((w1.setCell ⟨g, s + t, none⟩ (.int .i64 x)).setCell ⟨g, s + j, none⟩ (.int .i64 y)) w0.heap.size P0_ (.slice (some ⟨g, 0, none⟩) n c) (rvL L s m (t + 1)) := by
        rw [← est]
        have e : ((rvL L s m t).set ((s + t : Nat) : Int).toNat x).length = n := by rw [List.length_set, hln]
        rw [e] at hp2
        exact hp2
      have n0_ := Aside0.mk hp3
      have n1_ := Aside0.mk ((HB.out.setCell (p := ⟨g, s + t, none⟩) hg (.int .i64 x)).setCell (p := ⟨g, s + j, none⟩) hg (.int .i64 y))
      have n2_ := Aside0.mk ((HK.out.setCell (p := ⟨g, s + t, none⟩) (.inl HG.out) (.int .i64 x)).setCell (p := ⟨g, s + j, none⟩) (.inl HG.out) (.int .i64 y))
      clear HR HB HK hp1 hp2 hp3 hcj2 hfj2 hb1 hcj hct hft hh hcur hHeld
      have HR := n0_; have HB := n1_; have HK := n2_
      clear n0_ n1_ n2_
      generalize (w1.setCell ⟨g, s + t, none⟩ (.int .i64 x)).setCell ⟨g, s + j, none⟩ (.int .i64 y) = w2 at HR HB HK ⊢
      clear hj
      go_wp2
      go_roundg (m - t)
      case measure => have := HT.out; omega
      case rel => exact ⟨t + 1, rfl, rfl, ⟨by omega, by omega⟩, HR, HB, HK⟩
    · have c1 : decide ((t : Int) < (m : Int) - 1 - (t : Int)) = false := decide_eq_false (by omega)
      have c2 : ¬ (t : Int) < (m : Int) - 1 - (t : Int) := by omega
      go_wp2
      refine bodyPost_end (results_none rfl _ _ _) rfl ?_
      exact ⟨rfl, by rw [← rvL_end L s m t (by omega)]; exact HR.out, HB.out, HK.out⟩
theorem rvL_all (L : List Int) : rvL L 0 L.length L.length = L.reverse := by
  apply List.ext_getElem (by rw [rvL_len, List.length_reverse])
  intro i h1 h2
  have hi : i < L.length := by rwa [rvL_len] at h1
  have e := rvL_get L 0 L.length L.length hi
  rw [if_pos (by omega), List.getD_eq_getElem?_getD, List.getElem?_eq_getElem h1, List.getD_eq_getElem?_getD, List.getElem?_eq_getElem (show 2 * 0 + L.length - 1 - i < L.length by omega)] at e
  rw [List.getElem_reverse]
  simp only [Option.getD_some] at e
  rw [e]
  congr 1
  omega
/-- slices.Reverse of a whole row. -/
def slices_Reverse_ints.f (l : List Int) : Option (List Int) := if 0 < l.length ∧ l.length ≤ 1000000 then some l.reverse else none
theorem slices_Reverse_ints.calls (P0_ : Nat → Prop) (u : Value) (l0 : List Int) (r : List Int) (w0 w : World) (hB : Below w0.heap.size w0 w) (ho0 : Kd.R (Kd.int .i64) 2 w w0.heap.size P0_ u l0) (h : slices_Reverse_ints.f l0 = some r) :
    Calls Try.prog 60 #[u] w fun e w' => e = .returned (.tuple #[]) ∧ Kd.R (Kd.int .i64) 2 w' w0.heap.size (fun k_ => (P0_ k_ ∨ w.heap.size ≤ k_)) u r ∧ Below w0.heap.size w0 w' ∧ Kept w w' (fun k_ => P0_ k_) := by
  unfold slices_Reverse_ints.f at h
  split at h
  case isFalse => cases h
  rename_i hh
  obtain rfl := Option.some.inj h
  obtain ⟨g, c, rfl, _⟩ := Kd.R_form ho0 hh.1
  refine (rvs_calls w0 w g 0 l0.length l0.length c c ⟨g, 0, none⟩ l0 P0_ hB ho0 rfl hh.2 (by omega) (fun _ => rfl)).mono ?_
  rintro e w' ⟨rfl, hR, hb, hk⟩
  rw [rvL_all] at hR
  exact ⟨rfl, Kd.R_mono hR (fun q hq => .inl hq), hb, hk⟩
/-- slices.Reverse of all but a row's first number: the row afterwards. -/
def slices_ReverseTail.f (l : List Int) : Option (List Int) := if 0 < l.length ∧ l.length ≤ 1000000 then some (rvL l 1 (l.length - 1) (l.length - 1)) else none
theorem slices_ReverseTail.calls (P0_ : Nat → Prop) (g n c : Nat) (A : Addr) (A0 : Option Addr) (l0 : List Int) (r : List Int) (w0 w : World) (hB : Below w0.heap.size w0 w) (ho0 : Kd.R (Kd.int .i64) 2 w w0.heap.size P0_ (.slice A0 n c) l0) (hn : l0.length = n) (hA : 0 < n - 1 → A = ⟨g, 1, none⟩) (hA0 : A0 = some ⟨g, 0, none⟩) (h : slices_ReverseTail.f l0 = some r) :
    Calls Try.prog 60 #[.slice (some A) (n - 1) (c - 1)] w fun e w' => e = .returned (.tuple #[]) ∧ Kd.R (Kd.int .i64) 2 w' w0.heap.size (fun k_ => (P0_ k_ ∨ w.heap.size ≤ k_)) (.slice A0 n c) r ∧ Below w0.heap.size w0 w' ∧ Kept w w' (fun k_ => P0_ k_) := by
  unfold slices_ReverseTail.f at h
  split at h
  case isFalse => cases h
  rename_i hh
  obtain rfl := Option.some.inj h
  subst hn
  subst hA0
  refine (rvs_calls w0 w g 1 l0.length (l0.length - 1) c (c - 1) A l0 P0_ hB ho0 rfl hh.2 (by omega) hA).mono ?_
  rintro e w' ⟨rfl, hR, hb, hk⟩
  exact ⟨rfl, Kd.R_mono hR (fun q hq => .inl hq), hb, hk⟩
theorem slices_ReverseTail.pos {l r : List Int} (h : slices_ReverseTail.f l = some r) : 0 < l.length := by
  unfold slices_ReverseTail.f at h
  split at h
  · rename_i hh; exact hh.1
  · cases h
/-- The cut behind a row's first number. -/
theorem reverse_cut {P : Program} {t e : TypeId} (ht : P.underlying t = some (.slice e)) (hs : (P.info? e).map (fun i => i.size) = some 1) {d e' base : Nat} {ok : Nat → Prop} {W : World} {A0 : Option Addr} {n c : Nat} {l : List Int} (hR : Kd.R (Kd.int .i64) e' W base ok (.slice A0 n c) l) (h0 : 0 < l.length) :
    ∃ (g : Nat) (A : Addr), A0 = some ⟨g, 0, none⟩ ∧ (0 < n - 1 → A = ⟨g, 1, none⟩) ∧ ∀ W', (Instr.slice t (.slice A0 n c) (some (.int .i64 1)) none none).run P W' = .ok (.slice (some A) (n - 1) (c - 1)) W' := by
  obtain ⟨g, c', hv, _⟩ := Kd.R_form hR h0
  injection hv with v1 v2 v3
  subst v1
  have hnc := (Kd.R_reads' hR)
  have hln := hnc.1
  have hle := hnc.2.1
  refine ⟨g, if c = 1 then ⟨g, 0, none⟩ else ⟨g, 1, none⟩, rfl, fun h => if_neg (by omega), fun W' => ?_⟩
  obtain ⟨i, hi, hsz⟩ := Option.map_eq_some_iff.1 hs
  have hel : P.elem t = e := by simp [Program.elem, ht]
  have hu : P.underlying t = some (.slice (P.elem t)) := by rw [hel]; exact ht
  rw [run_slice_l W' t _ n c hu .i64 1 (by omega) (by omega), hel]
  have hsz : i.size = 1 := hsz
  simp [sizeOf, typeInfo, hi, hsz, sliced, Result.andThen, addr_add]
  split <;> rfl
end Go.Proofs.Ytfbnkebgdmfcfaa.Pr
