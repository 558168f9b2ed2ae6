/- Texts of this session in one: what functions of the program compute, and plain facts of it, under the conditions that each theorem names. -/
import Derived.Test.YtokkabgkjhpecaaKC01
import Derived.Test.YtokkabgkjhpecaaKC03
import Derived.Test.YtokkabgkjhpecaaKC04
namespace Go.Proofs.Ytokkabgkjhpecaa.Pr
/- Moments: which lists are some, for the program and for the reference; no condition. -/
open Go.RowKit Go.Proofs.YtokkabgkjhpecaaW.PrintWords Go.Proofs.YtokkabgkjhpecaaW.PrintLast Go.Proofs.YtokkabgkjhpecaaW.PrintMore
theorem numbers_l0 (p : Int) (hp : -9223372036854775807 ≤ p) (hp' : p ≤ 9223372036854775807) (l : List Int) (hl : Sm l.length) (d : Nat) : ∀ i, i + d = l.length → Ev (fun k => spec_l02Numbers.l0 k p l (i : Int)) (decide (Nm p (l.drop i))) := by
  induction d with
  | zero =>
    intro i hi
    refine Ev.step (fun k => by rw [spec_l02Numbers.l0]) ?_
    refine Ev.neg (by omega) (Ev.some' ?_)
    rw [List.drop_eq_nil_of_le (by omega)]
    exact (decide_eq_true (Nm.nil p)).symm
  | succ d ih =>
    intro i hi
    refine Ev.step (fun k => by rw [spec_l02Numbers.l0]) ?_
    refine Ev.pos (by omega) (Ev.pos (by omega) (Ev.bindE (in_eq _ _ _) ?_))
    rw [rd_nat, wrap_id (x := p - 1) (by omega) (by omega), wsucc (i := i) (n := l.length) (by omega) (by unfold Sm at hl; omega)]
    by_cases h : 0 ≤ l.getD i 0 ∧ l.getD i 0 ≤ p - 1
    · refine Ev.pos (decide_eq_true h) (Ev.cast (ih (i + 1) (by omega)) ?_)
      apply decide_eq_decide.2
      rw [Nm_drop (by omega : i < l.length)]
      exact ⟨fun g => ⟨⟨h.1, by omega⟩, g⟩, fun g => g.2⟩
    · refine Ev.neg (by simpa using h) (Ev.some' (decide_eq_false ?_).symm)
      rw [Nm_drop (by omega : i < l.length)]
      exact fun g => h ⟨g.1.1, by omega⟩
theorem numbers_ev {p : Int} (hp : Pm p) (l : List Int) (hl : Sm l.length) : Ev (fun k => spec_l02Numbers.f k p l) (decide (Nm p l)) := by
  unfold spec_l02Numbers.f
  have h2 := hp.two
  have ht := hp.top
  simpa using numbers_l0 p (by omega) (by omega) l hl l.length 0 (by omega)

/-! ### moments -/
def momB (p : Int) (l : List Int) : Bool := primeB p && (decide (1 ≤ l.length ∧ l.length ≤ 24) && decide (Nm p l))
theorem momB.pm {p : Int} {l : List Int} (h : momB p l = true) : Pm p := by
  simp only [momB, Bool.and_eq_true] at h; exact primeB.pm h.1
theorem momB.nm {p : Int} {l : List Int} (h : momB p l = true) : Nm p l := by
  simp only [momB, Bool.and_eq_true, decide_eq_true_eq] at h; exact h.2.2
theorem momB.len {p : Int} {l : List Int} (h : momB p l = true) : 1 ≤ l.length ∧ l.length ≤ 24 := by
  simp only [momB, Bool.and_eq_true, decide_eq_true_eq] at h; exact h.2.1
theorem momB.prime {p : Int} {l : List Int} (h : momB p l = true) : primeB p = true := by
  simp only [momB, Bool.and_eq_true] at h; exact h.1
theorem specAre_ev (p : Int) (l : List Int) (hl : Sm l.length) : Ev (fun k => spec_l02Are.f k p l) (momB p l) := by
  unfold spec_l02Are.f momB
  refine Ev.bind (specPrime_ev p) ?_
  by_cases hp : primeB p = true
  · rw [hp, Bool.true_and]
    refine Ev.pos rfl ?_
    by_cases h1 : 1 ≤ l.length
    · refine Ev.pos (by omega) ?_
      by_cases h2 : l.length ≤ 24
      · refine Ev.pos (by omega) (Ev.bind (numbers_ev (primeB.pm hp) l hl) (Ev.some' ?_))
        rw [decide_eq_true (⟨h1, h2⟩ : 1 ≤ l.length ∧ l.length ≤ 24), Bool.true_and]
      · exact Ev.neg (by omega) (Ev.some' (by simp [h2]))
    · exact Ev.neg (by omega) (Ev.some' (by simp [h1]))
  · rw [Bool.eq_false_iff.2 hp, Bool.false_and]
    exact Ev.neg (by simp) (Ev.now _)
theorem implAre_ev (p : Int) (l : List Int) (hl : Sm l.length) : Ev (fun k => impl_AreMoments.f k p l) (momB p l) := by
  unfold impl_AreMoments.f momB
  refine Ev.bind (implPrime_ev p) ?_
  by_cases hp : primeB p = true
  · rw [hp, Bool.true_and]
    refine Ev.pos rfl (Ev.bindE (a := (l.length : Int)) rfl (Ev.bindE (within_eq _ _ _) ?_))
    by_cases h : 1 ≤ l.length ∧ l.length ≤ 24
    · refine Ev.pos (decide_eq_true (by omega)) (Ev.bindE (a := p) rfl (Ev.bindE (areAll_has p l (by unfold Sm at hl; omega)) (Ev.some' ?_)))
      rw [decide_eq_true h, Bool.true_and]
    · refine Ev.neg (by simp; omega) (Ev.some' ?_)
      rw [decide_eq_false h, Bool.false_and]
  · rw [Bool.eq_false_iff.2 hp, Bool.false_and]
    exact Ev.neg (by simp) (Ev.now _)
theorem momentsCode_ev (p : Int) (l : List Int) (hl : Sm l.length) (b : Bool) (ls : List (List Int)) (hs : Sm ls.length) (hls : ∀ l ∈ ls, Sm l.length) :
    Ev (fun k => impl_momentsCode.f k p l b ls) (if momB p l && ls.all (polyB p) then (if b then 0 else 2) else 1) := by
  unfold impl_momentsCode.f
  refine Ev.bind (implAre_ev p l hl) ?_
  by_cases h : momB p l = true
  · rw [h, Bool.true_and]
    refine Ev.pos rfl (Ev.bind (polyCode_ev p b ls hs hls) (Ev.some' ?_))
    rw [momB.prime h, Bool.true_and]
  · rw [Bool.eq_false_iff.2 h, Bool.false_and]
    exact Ev.neg (by simp) (Ev.some' rfl)
/- Powers modulo p: what the program and the reference compute; no condition. -/
theorem fmul_eq {p : Int} (hp : Pm p) {x y : Int} (hx : 0 ≤ x ∧ x < p) (hy : 0 ≤ y ∧ y < p) : impl_field_mul.f p x y = some (x * y % p) := by
  unfold impl_field_mul.f
  have h := mulP hp hx.1 hx.2 hy.1 hy.2
  rw [wrap_id (by omega) (by omega), mod_eq hp]; rfl
def powGo (p : Int) : Nat → Int → Nat → Int → Int
  | 0, _, _, o => o
  | d + 1, x, k, o => if k = 0 then o else powGo p d (x * x % p) (k / 2) (if k % 2 = 1 then o * x % p else o)
theorem powGo_in {p : Int} (hp : 0 < p) (d : Nat) : ∀ (x : Int) (k : Nat) (o : Int), 0 ≤ o ∧ o < p → 0 ≤ powGo p d x k o ∧ powGo p d x k o < p := by
  induction d with
  | zero => intro x k o h; exact h
  | succ d ih =>
    intro x k o h
    rw [powGo]
    split
    · exact h
    · refine ih _ _ _ ?_
      split
      · exact emodB hp _
      · exact h
theorem half {k : Nat} (h : k < 4611686018427387904) : wrap64 (Int.tdiv (k : Int) 2) = ((k / 2 : Nat) : Int) := by
  rw [Int.tdiv_eq_ediv_of_nonneg (by omega), wrap_id (by omega) (by omega)]; omega
theorem odd (k : Nat) : Int.tmod (k : Int) 2 = ((k % 2 : Nat) : Int) := by rw [tmod_pos (by omega)]; omega
theorem implPow_l0 {p : Int} (hp : Pm p) (d : Nat) : ∀ (x : Int) (k : Nat) (o : Int), k ≤ d → k < 4611686018427387904 → 0 ≤ x ∧ x < p → 0 ≤ o ∧ o < p →
    Ev (fun n => impl_field_power.l0 n p x (k : Int) o) (powGo p d x k o) := by
  induction d with
  | zero =>
    intro x k o hk hk2 hx ho
    refine Ev.step (fun n => by rw [impl_field_power.l0]) ?_
    exact Ev.neg (by omega) (Ev.now _)
  | succ d ih =>
    intro x k o hk hk2 hx ho
    rw [powGo]
    by_cases h : k = 0
    · rw [if_pos h]
      refine Ev.step (fun n => by rw [impl_field_power.l0]) ?_
      exact Ev.neg (by omega) (Ev.now _)
    · rw [if_neg h]
      refine Ev.step (fun n => by rw [impl_field_power.l0]) ?_
      refine Ev.pos (by omega) ?_
      rw [odd, half hk2]
      by_cases g : k % 2 = 1
      · rw [if_pos g]
        refine Ev.pos (by omega) (Ev.bindE (fmul_eq hp ho hx) (Ev.bindE (fmul_eq hp hx hx) ?_))
        exact ih _ _ _ (by omega) (by omega) (emodB hp.pos _) (emodB hp.pos _)
      · rw [if_neg g]
        refine Ev.neg (by omega) (Ev.bindE (fmul_eq hp hx hx) ?_)
        exact ih _ _ _ (by omega) (by omega) (emodB hp.pos _) ho
theorem specPow_l0 {p : Int} (hp : Pm p) (d : Nat) : ∀ (x : Int) (k : Nat) (o : Int), k ≤ d → k < 4611686018427387904 → 0 ≤ x ∧ x < p → 0 ≤ o ∧ o < p →
    Ev (fun n => spec_l01Power.l0 n p (k : Int) o x) (powGo p d x k o) := by
  induction d with
  | zero =>
    intro x k o hk hk2 hx ho
    refine Ev.step (fun n => by rw [spec_l01Power.l0]) ?_
    refine Ev.neg (by omega) (Ev.neg hp.ne (Ev.some' ?_))
    rw [tmod_pos ho.1, Int.emod_eq_of_lt ho.1 ho.2]; rfl
  | succ d ih =>
    intro x k o hk hk2 hx ho
    have h1 := mulP hp hx.1 hx.2 hx.1 hx.2
    have h2 := mulP hp ho.1 ho.2 hx.1 hx.2
    rw [powGo]
    by_cases h : k = 0
    · rw [if_pos h]
      refine Ev.step (fun n => by rw [spec_l01Power.l0]) ?_
      refine Ev.neg (by omega) (Ev.neg hp.ne (Ev.some' ?_))
      rw [tmod_pos ho.1, Int.emod_eq_of_lt ho.1 ho.2]
    · rw [if_neg h]
      refine Ev.step (fun n => by rw [spec_l01Power.l0]) ?_
      refine Ev.pos (by omega) ?_
      rw [odd, half hk2, wrap_id (x := x * x) (by omega) (by omega), wrap_id (x := o * x) (by omega) (by omega), tmod_pos (a := x * x) (by omega), tmod_pos (a := o * x) (by omega)]
      by_cases g : k % 2 = 1
      · rw [if_pos g]
        refine Ev.pos (by omega) (Ev.neg hp.ne ?_)
        exact ih _ _ _ (by omega) (by omega) (emodB hp.pos _) (emodB hp.pos _)
      · rw [if_neg g]
        refine Ev.neg (by omega) (Ev.neg hp.ne ?_)
        exact ih _ _ _ (by omega) (by omega) (emodB hp.pos _) ho
/-- x to the k-th power modulo p. -/
def powF (p x : Int) (k : Nat) : Int := powGo p k x k 1
theorem powF_in {p : Int} (hp : Pm p) (x : Int) (k : Nat) : 0 ≤ powF p x k ∧ powF p x k < p := powGo_in hp.pos _ _ _ _ (by have := hp.two; omega)
theorem implPow_ev {p : Int} (hp : Pm p) {x : Int} (hx : 0 ≤ x ∧ x < p) (k : Nat) (hk : k < 4611686018427387904) : Ev (fun n => impl_field_power.f n p x (k : Int)) (powF p x k) := by
  have h2 := hp.two
  unfold impl_field_power.f powF
  refine Ev.bindE (mod_eq hp _) ?_
  rw [Int.emod_eq_of_lt (by omega) (by omega)]
  exact implPow_l0 hp k x k 1 (Nat.le_refl _) hk hx (by omega)
theorem specPow_ev {p : Int} (hp : Pm p) {x : Int} (hx : 0 ≤ x ∧ x < p) (k : Nat) (hk : k < 4611686018427387904) : Ev (fun n => spec_l01Power.f n p x (k : Int)) (powF p x k) := by
  have h2 := hp.two
  unfold spec_l01Power.f powF
  refine Ev.bindE (a := x) ?_ (specPow_l0 hp k x k 1 (Nat.le_refl _) hk hx (by omega))
  unfold spec_l01Mod.f
  rw [if_neg hp.ne, go_mod hp, Int.emod_eq_of_lt hx.1 hx.2]
/- Inverses and quotients modulo p: what the program and the reference compute; no condition. -/
/-- The power p - 2. -/
def invF (p x : Int) : Int := powF p x (p.toNat - 2)
theorem invF_in {p : Int} (hp : Pm p) (x : Int) : 0 ≤ invF p x ∧ invF p x < p := powF_in hp _ _
theorem two_sub {p : Int} (hp : Pm p) : wrap64 (p - 2) = ((p.toNat - 2 : Nat) : Int) := by
  have := hp.two
  have := hp.top
  rw [wrap_id (by omega) (by omega)]
  omega
theorem implInv_ev {p : Int} (hp : Pm p) {x : Int} (hx : 0 ≤ x ∧ x < p) : Ev (fun n => impl_field_inverse.f n p x) (invF p x) := by
  have := hp.top
  unfold impl_field_inverse.f invF
  rw [two_sub hp]
  exact Ev.bind (implPow_ev hp hx _ (by omega)) (Ev.now _)
theorem specInv_ev {p : Int} (hp : Pm p) {x : Int} (hx : 0 ≤ x ∧ x < p) : Ev (fun n => spec_l01Inverse.f n p x) (invF p x) := by
  have := hp.top
  unfold spec_l01Inverse.f invF
  rw [two_sub hp]
  exact Ev.bind (specPow_ev hp hx _ (by omega)) (Ev.now _)
theorem mul_mod_mid (u v w p : Int) : (u * v % p * w) % p = (u * (v * w % p)) % p := by
  rw [Int.mul_emod (u * v % p), Int.emod_emod, ← Int.mul_emod, Int.mul_assoc, Int.mul_emod u (v * w % p), Int.emod_emod, ← Int.mul_emod]
theorem mul_mod_one (v w p : Int) : (v % p * w) % p = (v * w) % p := by
  rw [Int.mul_emod (v % p), Int.emod_emod, ← Int.mul_emod]
theorem sub_mod_right (c x p : Int) : (c - x % p) % p = (c - x) % p := by
  rw [Int.sub_emod, Int.emod_emod, ← Int.sub_emod]
/- Determinants modulo p by elimination, as one plain function; and a matrix in memory: a block of slices, one block a row, all of them different. No condition beside the ones named. -/
open Go Go.RowKit Go.Proofs.YtokkabgkjhpecaaW.PrintWords Go.Proofs.YtokkabgkjhpecaaW.PrintLast Go.Proofs.YtokkabgkjhpecaaW.PrintMore
/-! ### the plain function -/
/-- The first place from i on, d places at most, whose row has a number other than 0 in column c. -/
def pivot (M : Nat → List Int) (c : Nat) : Nat → Nat → Nat
  | 0, i => i
  | d + 1, i => if (M i).getD c 0 = 0 then pivot M c d (i + 1) else i
def swapM (M : Nat → List Int) (c j : Nat) : Nat → List Int := fun i => if i = c then M j else if i = j then M c else M i
def elimRow (p f : Int) (r own : List Int) (n : Nat) : List Int := (List.range n).map fun k => (r.getD k 0 - f * own.getD k 0) % p
def stepM (p v : Int) (n c : Nat) (M : Nat → List Int) : Nat → List Int := fun i => if c < i then elimRow p ((M i).getD c 0 * v % p) (M i) (M c) n else M i
def detGo (p : Int) (n : Nat) : Nat → Nat → (Nat → List Int) → Int → Int
  | 0, _, _, o => o
  | d + 1, c, M, o =>
    if pivot M c (n - c) c = n then 0
    else detGo p n d (c + 1) (stepM p (invF p ((M (pivot M c (n - c) c)).getD c 0)) n c (swapM M c (pivot M c (n - c) c)))
      ((if pivot M c (n - c) c = c then o else (-o) % p) * (M (pivot M c (n - c) c)).getD c 0 % p)
def detV (p : Int) (rows : List (List Int)) : Int := detGo p rows.length rows.length 0 (fun i => rows.getD i []) 1
/-- Square rows of numbers modulo p. -/
def sqrB (p : Int) (rows : List (List Int)) : Prop := (2 ≤ p ∧ p ≤ 10007) ∧ rows.length ≤ 1000 ∧ ∀ r ∈ rows, r.length = rows.length ∧ Nm p r
instance (p : Int) (rows : List (List Int)) : Decidable (sqrB p rows) := by unfold sqrB; infer_instance
theorem pivot_in (M : Nat → List Int) (c d : Nat) : ∀ i, i ≤ pivot M c d i ∧ pivot M c d i ≤ i + d := by
  induction d with
  | zero => intro i; exact ⟨Nat.le_refl _, Nat.le_refl _⟩
  | succ d ih =>
    intro i
    rw [pivot]
    split
    · have := ih (i + 1); omega
    · omega
theorem pivot_ne (M : Nat → List Int) (c d : Nat) : ∀ i, pivot M c d i ≠ i + d → (M (pivot M c d i)).getD c 0 ≠ 0 := by
  induction d with
  | zero => intro i h; exact absurd rfl h
  | succ d ih =>
    intro i h
    rw [pivot] at h ⊢
    split at h
    · rename_i g
      rw [if_pos g]
      exact ih (i + 1) (by omega)
    · rename_i g
      rw [if_neg g]
      exact g
theorem elimRow_len (p f : Int) (r own : List Int) (n : Nat) : (elimRow p f r own n).length = n := by simp [elimRow]
theorem elimRow_nm {p : Int} (hp : 0 < p) (f : Int) (r own : List Int) (n : Nat) : Nm p (elimRow p f r own n) := fun x hx => by
  obtain ⟨i, _, rfl⟩ := List.mem_map.1 hx
  exact emodB hp _
theorem elimRow_get (p f : Int) (r own : List Int) {n k : Nat} (h : k < n) : (elimRow p f r own n).getD k 0 = (r.getD k 0 - f * own.getD k 0) % p := by
  rw [elimRow, List.getD_eq_getElem?_getD, List.getElem?_map, List.getElem?_range h]; rfl

/-! ### a matrix in memory -/
/-- e: the type of the rows' slices, e': of the numbers; the first m rows are there. -/
structure Mx (e e' : TypeId) (w : World) (b g n m : Nat) (β κ : Nat → Nat) (M : Nat → List Int) : Prop where
  out : w.heap[g]? = some (.cells ((List.range n).map fun i => if i < m then Value.slice (some ⟨β i, 0, none⟩) n (κ i) else Value.slice none 0 0).toArray e (0, 0))
  bg : b ≤ g
  mn : m ≤ n
  len : ∀ i, i < m → (M i).length = n
  cap : ∀ i, i < m → n ≤ κ i
  bb : ∀ i, i < m → b ≤ β i
  row : ∀ i, i < m → ∃ cur : Array Value, w.heap[β i]? = some (.cells cur e' (0, 0)) ∧ ∀ k, k < n → cur[k]? = some (.int .i64 ((M i).getD k 0))
  ne : ∀ i j, i < m → j < m → i ≠ j → β i ≠ β j
section
variable {e e' : TypeId} {w w1 : World} {b g n m : Nat} {β κ : Nat → Nat} {M : Nat → List Int}
theorem Mx.g_ne (h : Mx e e' w b g n m β κ M) (he : e ≠ e') {i : Nat} (hi : i < m) : β i ≠ g := by
  intro eq
  obtain ⟨cur, hc, _⟩ := h.row i hi
  rw [eq, h.out] at hc
  injection hc with hc
  injection hc with _ hc
  exact he hc
theorem Mx.outer (h : Mx e e' w b g n m β κ M) {i : Nat} (hi : i < m) : w.cell? ⟨g, i, none⟩ = some (.slice (some ⟨β i, 0, none⟩) n (κ i)) := by
  have hm := h.mn
  rw [blk_cell h.out i, List.getElem?_toArray, List.getElem?_map, List.getElem?_range (by omega)]
  simp [hi]
theorem Mx.outer_frozen (h : Mx e e' w b g n m β κ M) (i : Nat) : w.frozen? ⟨g, i, none⟩ = false := blk_frozen h.out i
theorem Mx.cell (h : Mx e e' w b g n m β κ M) {i k : Nat} (hi : i < m) (hk : k < n) : w.cell? ⟨β i, k, none⟩ = some (.int .i64 ((M i).getD k 0)) := by
  obtain ⟨cur, hc, hr⟩ := h.row i hi
  rw [blk_cell hc k]
  exact hr k hk
theorem Mx.frozen (h : Mx e e' w b g n m β κ M) {i : Nat} (hi : i < m) (k : Nat) : w.frozen? ⟨β i, k, none⟩ = false := by
  obtain ⟨cur, hc, _⟩ := h.row i hi
  exact blk_frozen hc k
theorem Mx.lt (h : Mx e e' w b g n m β κ M) {i : Nat} (hi : i < m) : β i < w.heap.size := by
  obtain ⟨cur, hc, _⟩ := h.row i hi
  exact blk_lt hc
theorem Mx.step (h : Mx e e' w b g n m β κ M) (hm : ∀ k, b ≤ k → k < w.heap.size → w1.heap[k]? = w.heap[k]?) : Mx e e' w1 b g n m β κ M :=
  ⟨(hm g h.bg (blk_lt h.out)).trans h.out, h.bg, h.mn, h.len, h.cap, h.bb, fun i hi => by
    obtain ⟨cur, hc, hr⟩ := h.row i hi
    exact ⟨cur, (hm _ (h.bb i hi) (blk_lt hc)).trans hc, hr⟩, h.ne⟩
theorem Mx.below (h : Mx e e' w b g n m β κ M) (hb : Below w.heap.size w w1) : Mx e e' w1 b g n m β κ M := h.step fun k _ hk => hb.block k hk
/-- A store into another block than the matrix's. -/
theorem Mx.far (h : Mx e e' w b g n m β κ M) {q : Nat} (hg : q ≠ g) (hq : ∀ i, i < m → q ≠ β i) (j : Nat) (u : Value) : Mx e e' (w.setCell ⟨q, j, none⟩ u) b g n m β κ M :=
  ⟨(Below.heap_setCell w ⟨q, j, none⟩ u g (Ne.symm hg)).trans h.out, h.bg, h.mn, h.len, h.cap, h.bb, fun i hi => by
    obtain ⟨cur, hc, hr⟩ := h.row i hi
    exact ⟨cur, (Below.heap_setCell w ⟨q, j, none⟩ u _ (Ne.symm (hq i hi))).trans hc, hr⟩, h.ne⟩
/-- A number of a row is set. -/
theorem Mx.put (h : Mx e e' w b g n m β κ M) (he : e ≠ e') {i k : Nat} (hi : i < m) (hk : k < n) (x : Int) :
    Mx e e' (w.setCell ⟨β i, k, none⟩ (.int .i64 x)) b g n m β κ (fun t => if t = i then (M i).set k x else M t) := by
  refine ⟨(Below.heap_setCell w ⟨β i, k, none⟩ _ g (Ne.symm (h.g_ne he hi))).trans h.out, h.bg, h.mn, fun t ht => ?_, h.cap, h.bb, fun t ht => ?_, h.ne⟩
  · by_cases c : t = i
    · rw [if_pos c, List.length_set]; exact h.len i hi
    · rw [if_neg c]; exact h.len t ht
  · by_cases c : t = i
    · subst c
      obtain ⟨cur, hc, hr⟩ := h.row t ht
      refine ⟨cur.setIfInBounds k (.int .i64 x), blk_set hc k _, fun j hj => ?_⟩
      have hl := h.len t ht
      rw [if_pos rfl]
      by_cases d : k = j
      · subst d
        have hs : k < cur.size := by
          have := hr k hk
          exact (Array.getElem?_eq_some_iff.1 this).1
        rw [Array.getElem?_setIfInBounds_self_of_lt hs, List.getD_eq_getElem?_getD, List.getElem?_set_self (by omega)]; rfl
      · rw [Array.getElem?_setIfInBounds_ne d, hr j hj, List.getD_eq_getElem?_getD, List.getD_eq_getElem?_getD, List.getElem?_set_ne d]
    · obtain ⟨cur, hc, hr⟩ := h.row t ht
      refine ⟨cur, (Below.heap_setCell w ⟨β i, k, none⟩ _ _ (h.ne t i ht hi c)).trans hc, fun j hj => ?_⟩
      rw [if_neg c]
      exact hr j hj
/-- Two rows change their places. -/
theorem Mx.swap (h : Mx e e' w b g n n β κ M) (he : e ≠ e') {c j : Nat} (hc : c < n) (hj : j < n) :
    Mx e e' ((w.setCell ⟨g, c, none⟩ (.slice (some ⟨β j, 0, none⟩) n (κ j))).setCell ⟨g, j, none⟩ (.slice (some ⟨β c, 0, none⟩) n (κ c))) b g n n
      (fun i => if i = j then β c else if i = c then β j else β i) (fun i => if i = j then κ c else if i = c then κ j else κ i) (fun i => if i = j then M c else if i = c then M j else M i) := by
  refine ⟨?_, h.bg, Nat.le_refl _, fun i hi => ?_, fun i hi => ?_, fun i hi => ?_, fun i hi => ?_, fun i t hi ht hit => ?_⟩
  · have h1 := blk_set (blk_set h.out c (.slice (some ⟨β j, 0, none⟩) n (κ j))) j (.slice (some ⟨β c, 0, none⟩) n (κ c))
    rw [h1]
    congr 2
    apply Array.ext
    · simp
    · intro i h1 h2
      have hi : i < n := by simpa using h2
      simp only [List.getElem_toArray, List.getElem_map, List.getElem_range, hi, if_true]
      by_cases c1 : i = j
      · subst c1; simp
      · by_cases c2 : i = c
        · subst c2; simp [Ne.symm c1, c1]
        · simp [Ne.symm c1, Ne.symm c2, c1, c2, hi]
  · by_cases c1 : i = j
    · rw [if_pos c1]; exact h.len c hc
    · by_cases c2 : i = c
      · rw [if_neg c1, if_pos c2]; exact h.len j hj
      · rw [if_neg c1, if_neg c2]; exact h.len i hi
  · by_cases c1 : i = j
    · rw [if_pos c1]; exact h.cap c hc
    · by_cases c2 : i = c
      · rw [if_neg c1, if_pos c2]; exact h.cap j hj
      · rw [if_neg c1, if_neg c2]; exact h.cap i hi
  · by_cases c1 : i = j
    · rw [if_pos c1]; exact h.bb c hc
    · by_cases c2 : i = c
      · rw [if_neg c1, if_pos c2]; exact h.bb j hj
      · rw [if_neg c1, if_neg c2]; exact h.bb i hi
  · have far : ∀ q, q < n → ((w.setCell ⟨g, c, none⟩ (.slice (some ⟨β j, 0, none⟩) n (κ j))).setCell ⟨g, j, none⟩ (.slice (some ⟨β c, 0, none⟩) n (κ c))).heap[β q]? = w.heap[β q]? := by
      intro q hq
      rw [Below.heap_setCell _ _ _ _ (h.g_ne he hq), Below.heap_setCell _ _ _ _ (h.g_ne he hq)]
    by_cases c1 : i = j
    · simp only [if_pos c1]
      obtain ⟨cur, hh, hr⟩ := h.row c hc
      exact ⟨cur, (far c hc).trans hh, hr⟩
    · by_cases c2 : i = c
      · simp only [if_neg c1, if_pos c2]
        obtain ⟨cur, hh, hr⟩ := h.row j hj
        exact ⟨cur, (far j hj).trans hh, hr⟩
      · simp only [if_neg c1, if_neg c2]
        obtain ⟨cur, hh, hr⟩ := h.row i hi
        exact ⟨cur, (far i hi).trans hh, hr⟩
  · have n1 := h.ne
    by_cases a1 : i = j
    · by_cases a2 : t = c
      · rw [if_pos a1, if_neg (by omega), if_pos a2]
        by_cases a3 : c = j
        · omega
        · exact n1 c j hc hj a3
      · rw [if_pos a1, if_neg (by omega), if_neg a2]
        by_cases a3 : c = t
        · omega
        · exact n1 c t hc ht a3
    · by_cases a2 : i = c
      · rw [if_neg a1, if_pos a2]
        by_cases a3 : t = j
        · rw [if_pos a3]; exact n1 j c hj hc (by omega)
        · rw [if_neg a3, if_neg (by omega)]; exact n1 j t hj ht (by omega)
      · rw [if_neg a1, if_neg a2]
        by_cases a3 : t = j
        · rw [if_pos a3]; exact n1 i c hi hc a2
        · by_cases a4 : t = c
          · rw [if_neg a3, if_pos a4]; exact n1 i j hi hj a1
          · rw [if_neg a3, if_neg a4]; exact n1 i t hi ht hit
/-- One more row is put. -/
theorem Mx.more (h : Mx e e' w b g n m β κ M) (he : e ≠ e') (hm : m < n) {q c : Nat} {cur : Array Value} (hq : w.heap[q]? = some (.cells cur e' (0, 0))) (hb : b ≤ q) (hc : n ≤ c) (l : List Int) (hl : l.length = n)
    (hr : ∀ k, k < n → cur[k]? = some (.int .i64 (l.getD k 0))) (hne : ∀ i, i < m → β i ≠ q) :
    Mx e e' (w.setCell ⟨g, m, none⟩ (.slice (some ⟨q, 0, none⟩) n c)) b g n (m + 1) (fun i => if i = m then q else β i) (fun i => if i = m then c else κ i) (fun i => if i = m then l else M i) := by
  have hqg : q ≠ g := by
    intro eq
    rw [eq, h.out] at hq
    injection hq with hq
    injection hq with _ hq
    exact he hq
  refine ⟨?_, h.bg, hm, fun i hi => ?_, fun i hi => ?_, fun i hi => ?_, fun i hi => ?_, fun i j hi hj hij => ?_⟩
  · rw [blk_set h.out m]
    congr 2
    apply Array.ext
    · simp
    · intro i h1 h2
      have hi : i < n := by simpa using h2
      simp only [List.getElem_toArray, List.getElem_map, List.getElem_range]
      by_cases c1 : i = m
      · subst c1; simp
      · by_cases c2 : i < m
        · simp [Ne.symm c1, c1, c2, show i < m + 1 from by omega]
        · simp [Ne.symm c1, c2, show ¬ i < m + 1 from by omega]
  · by_cases c1 : i = m
    · rw [if_pos c1]; exact hl
    · rw [if_neg c1]; exact h.len i (by omega)
  · by_cases c1 : i = m
    · rw [if_pos c1]; exact hc
    · rw [if_neg c1]; exact h.cap i (by omega)
  · by_cases c1 : i = m
    · rw [if_pos c1]; exact hb
    · rw [if_neg c1]; exact h.bb i (by omega)
  · by_cases c1 : i = m
    · simp only [if_pos c1]
      exact ⟨cur, (Below.heap_setCell w ⟨g, m, none⟩ _ q hqg).trans hq, hr⟩
    · simp only [if_neg c1]
      obtain ⟨cu, hh, hr'⟩ := h.row i (by omega)
      exact ⟨cu, (Below.heap_setCell w ⟨g, m, none⟩ _ _ (h.g_ne he (by omega))).trans hh, hr'⟩
  · by_cases c1 : i = m
    · rw [if_pos c1, if_neg (by omega)]; exact Ne.symm (hne j (by omega))
    · rw [if_neg c1]
      by_cases c2 : j = m
      · rw [if_pos c2]; exact hne i (by omega)
      · rw [if_neg c2]; exact h.ne i j (by omega) (by omega) hij
end
/- Quotients modulo p in the program; no condition. -/
theorem implDiv_ev {p : Int} (hp : Pm p) {x y : Int} (hx : 0 ≤ x ∧ x < p) (hy : 0 ≤ y ∧ y < p) : Ev (fun n => impl_field_div.f n p x y) (x * invF p y % p) := by
  unfold impl_field_div.f
  exact Ev.bind (implInv_ev hp hy) (Ev.bindE (fmul_eq hp hx (invF_in hp y)) (Ev.now _))
/- What the walk of the determinant leans on: a matrix as a list of rows that is read, its making, its cuts, the search for a pivot, and the callees in plain form. -/
theorem addr_add (g c j : Nat) : (⟨g, c, none⟩ : Addr).add j = ⟨g, c + j, none⟩ := by unfold Addr.add; split <;> simp_all
/-- The m rows from c on. -/
def rowsFrom (M : Nat → List Int) (c m : Nat) : List (List Int) := (List.range m).map fun j => M (c + j)
theorem rowsFrom_len (M : Nat → List Int) (c m : Nat) : (rowsFrom M c m).length = m := by simp [rowsFrom]
theorem rowsFrom_get (M : Nat → List Int) (c : Nat) {m j : Nat} (h : j < m) : (rowsFrom M c m).getD j [] = M (c + j) := by
  rw [rowsFrom, List.getD_eq_getElem?_getD, List.getElem?_map, List.getElem?_range h]; rfl
/-- Where the cut from c on begins. -/
def cutAt (g n c : Nat) : Addr := if n = c then ⟨g, 0, none⟩ else ⟨g, c, none⟩
section
variable {e e' : TypeId} {w w1 : World} {b g n m : Nat} {β κ : Nat → Nat} {M : Nat → List Int}
theorem Mx.rowC (h : Mx e e' w b g n m β κ M) (hn : n ≤ 1000) {i : Nat} (hi : i < m) : Kd.C (Kd.int .i64) w (some ⟨β i, 0, none⟩) n (M i) :=
  ⟨h.len i hi, by omega, fun h0 => ⟨_, rfl, fun j p hj => ⟨[.int .i64 p], rfl, rfl, fun t u hu => by
    cases t with
    | zero =>
      have hl : j < n := by have := (List.getElem?_eq_some_iff.1 hj).1; have := h.len i hi; omega
      have hu : Value.int .i64 p = u := by simpa using hu
      subst hu
      have he : (⟨β i, 0, none⟩ : Addr).add (j * (Kd.int .i64).sz + 0) = ⟨β i, j, none⟩ := by rw [addr_add]; show (⟨β i, 0 + (j * 1 + 0), none⟩ : Addr) = _; rw [show 0 + (j * 1 + 0) = j from by omega]
      rw [he, h.cell hi hl, List.getD_eq_getElem?_getD, hj]; rfl
    | succ t => simp at hu⟩⟩⟩
theorem Mx.C (h : Mx e e' w b g n n β κ M) (hn : n ≤ 1000) {c : Nat} (hc : c ≤ n) : Kd.C (Kd.slice e' (Kd.int .i64)) w (some (cutAt g n c)) (rowsFrom M c (n - c)).length (rowsFrom M c (n - c)) :=
  ⟨rfl, by rw [rowsFrom_len]; omega, fun h0 => ⟨_, rfl, fun j p hj => by
    rw [rowsFrom_len] at h0
    have hl : j < n - c := by have := (List.getElem?_eq_some_iff.1 hj).1; rwa [rowsFrom_len] at this
    have hp : M (c + j) = p := by
      have := rowsFrom_get M c hl
      rw [List.getD_eq_getElem?_getD, hj] at this
      exact this.symm
    subst hp
    have hlen := h.len (c + j) (by omega)
    refine ⟨[.slice (some ⟨β (c + j), 0, none⟩) (M (c + j)).length (κ (c + j))], rfl, ⟨_, _, rfl, by rw [hlen]; exact h.cap _ (by omega), by rw [hlen]; exact h.rowC hn (by omega)⟩, fun t u hu => ?_⟩
    cases t with
    | zero =>
      have hu : Value.slice (some ⟨β (c + j), 0, none⟩) (M (c + j)).length (κ (c + j)) = u := by simpa using hu
      subst hu
      have he : (cutAt g n c).add (j * (Kd.slice e' (Kd.int .i64)).sz + 0) = ⟨g, c + j, none⟩ := by
        rw [cutAt, if_neg (by omega), addr_add]; show (⟨g, c + (j * 1 + 0), none⟩ : Addr) = _; rw [show c + (j * 1 + 0) = c + j from by omega]
      rw [he, h.outer (show c + j < n from by omega), hlen]
    | succ t => simp at hu⟩⟩
theorem Mx.outer0 (h : Mx e e' w b g n m β κ M) {i : Nat} (hm : m ≤ i) (hi : i < n) : w.cell? ⟨g, i, none⟩ = some (.slice none 0 0) := by
  rw [blk_cell h.out i, List.getElem?_toArray, List.getElem?_map, List.getElem?_range hi]
  simp [show ¬ i < m from by omega]
/-- A row of one's own, its block laid open. -/
theorem row_open {e : Nat} {ok : Nat → Prop} {v : Value} {l : List Int} {base : Nat} (h : Kd.R (Kd.int .i64) e w base ok v l) (h0 : 0 < l.length) :
    ∃ q c cur, v = .slice (some ⟨q, 0, none⟩) l.length c ∧ base ≤ q ∧ l.length ≤ c ∧ w.heap[q]? = some (.cells cur e (0, 0)) ∧ ∀ k, k < l.length → cur[k]? = some (.int .i64 (l.getD k 0)) := by
  obtain ⟨q, c, rfl, hb, _, cur, hc⟩ := Kd.R_form h h0
  obtain ⟨_, hl, hC⟩ := Kd.R_reads' h
  refine ⟨q, c, cur, rfl, hb, hl, hc, fun k hk => ?_⟩
  obtain ⟨ad, ea, hx⟩ := Kd.at_int hC (k : Int) (by omega) (by omega)
  cases ea
  rw [toNat_nat, add_plain, blk_cell hc, rd_nat] at hx
  exact hx
end
/-- The cut from c on. -/
theorem cut_run {P : Program} {t e : TypeId} (ht : P.underlying t = some (.slice e)) (hs : (P.info? e).map (fun i => i.size) = some 1) (g n c : Nat) (hc : c ≤ n) (W : World) :
    (Instr.slice t (.slice (some ⟨g, 0, none⟩) n n) (some (.int .i64 (c : Int))) none none).run P W = .ok (.slice (some (cutAt g n c)) (n - c) (n - c)) W := by
  obtain ⟨i, hi, hsz⟩ := Option.map_eq_some_iff.1 hs
  have hel : P.elem t = e := by simp [Program.elem, ht]
  have hu : P.underlying t = some (.slice (P.elem t)) := by rw [hel]; exact ht
  rw [run_slice_l W t _ n n hu .i64 (c : Int) (Int.natCast_nonneg _) (by omega), hel]
  have hsz : i.size = 1 := hsz
  simp [sizeOf, typeInfo, hi, hsz, sliced, Result.andThen, cutAt, addr_add]
  split <;> rfl
section
variable {P : Program} {ops : Array Oper} {Q : Exit → Act → World → Prop} {rest : List Oper} {oi : Oper} {a : Act} {w : World}
set_option linter.unusedVariables false in
/-- make([][]int64, n). -/
theorem mx_make (N : Tmp) {t e e' : TypeId} {x y : Operand} (n : Nat) (ht : P.underlying t = some (.slice e)) (hinfo : (P.info? e).map (fun i => (i.zero, i.size, i.bytes)) = some (some (.slice none 0 0), 1, 24)) (hn : n ≤ 1000) (β κ : Nat → Nat) (M : Nat → List Int)
    (h : ∀ g, g = w.heap.size → ∀ w1, Mx e e' w1 w.heap.size g n 0 β κ M → Below w.heap.size w w1 → wpList P ops Q rest (a.put oi.dst (.slice (some ⟨g, 0, none⟩) n n)) w1)
    (hd : oi.dst = some N := by rfl) (hg : oi.guard = none := by rfl) (ho : oi.op = .makeSlice t x y := by rfl) (hx : a.eval x = .int .i64 (n : Int) := by rfl) (hy : a.eval y = .int .i64 (n : Int) := by rfl) : wpList P ops Q (oi :: rest) a w := by
  obtain ⟨i0, hi, hz⟩ := Option.map_eq_some_iff.1 hinfo
  simp only [Prod.mk.injEq] at hz
  obtain ⟨hz0, hz1, hz2⟩ := hz
  have hr := run_make (P := P) w t e i0 _ ht hi hz0 .i64 .i64 (n : Int) (n : Int) (by omega) (by omega) (by rw [hz2]; omega) (by omega)
  simp only [Int.toNat_natCast] at hr
  rw [hz1] at hr
  refine Kd.event_run hg (w1 := w.alloc (.cells (madeCells (Value.slice none 0 0).cells (n * 1)) e)) (v := .slice (some ⟨w.heap.size, 0, none⟩) n n) (by simp [execOp, ho, hx, hy, hr]) (h _ rfl _ ?_ (below_alloc (Below.refl _ _) _))
  have hb := blk_new w (.cells (madeCells (Value.slice none 0 0).cells (n * 1)) e)
  refine ⟨hb.trans ?_, Nat.le_refl _, Nat.zero_le _, fun i hi => absurd hi (by omega), fun i hi => absurd hi (by omega), fun i hi => absurd hi (by omega), fun i hi => absurd hi (by omega), fun i j hi => absurd hi (by omega)⟩
  congr 2
  apply Array.ext
  · simp [madeCells]
  · intro i h1 h2
    simp [madeCells, Value.cells, Nat.mod_one]
end
/-! ### two loads of which each may come up first -/
section
variable {P : Program} {ops : Array Oper} {Q : Exit → Act → World → Prop} {S : World → Prop} {ds : List Nat} {T : Bool × List (List Nat × List Nat)} {fuel : Nat} {l : Array Bool} {a a' ai aj : Act} {w : World} {oi oj : Oper} {vi vj : Value}
theorem lo2_ (i j : Nat) (Ni Nj : Tmp) (li lj l' : Array Bool) (HT : Aside0 (rtab .any ops = T)) (hS : S w) (h : wpAnyLast P .any ops Q S ds fuel l' a' w)
    (hi : ops[i]? = some oi := by rfl) (hj : ops[j]? = some oj := by rfl) (hNi : oi.dst = some Ni := by rfl) (hNj : oj.dst = some Nj := by rfl)
    (hc : (readyT T.2 l.toList == [i, j] && l.toList.set i true == li.toList && l.toList.set j true == lj.toList) = true := by kernel_rfl)
    (hci : (readyT T.2 li.toList == [j] && li.toList.set j true == l'.toList) = true := by kernel_rfl) (hcj : (readyT T.2 lj.toList == [i] && lj.toList.set i true == l'.toList) = true := by kernel_rfl)
    (hdi : i ∉ ds := by decide) (hdj : j ∉ ds := by decide)
    (hwi : Region.wanted oi (yielded ops a.tmps) = true := by rfl) (hwj : Region.wanted oj (yielded ops a.tmps) = true := by rfl)
    (ri : (execOp a.eval oi).run P w = .ok (.value vi) w := by (go_simp; with_reducible rfl)) (rj : (execOp a.eval oj).run P w = .ok (.value vj) w := by (go_simp; with_reducible rfl))
    (hai : a.put (some Ni) vi = ai := by (simp only [Act.put, ls, lz, ln, i64_w, i32_w]; rfl)) (haj : a.put (some Nj) vj = aj := by (simp only [Act.put, ls, lz, ln, i64_w, i32_w]; rfl))
    (hwj' : Region.wanted oj (yielded ops ai.tmps) = true := by rfl) (hwi' : Region.wanted oi (yielded ops aj.tmps) = true := by rfl)
    (rj' : (execOp ai.eval oj).run P w = .ok (.value vj) w := by first | (go_simp; done) | (go_simp; with_reducible rfl)) (ri' : (execOp aj.eval oi).run P w = .ok (.value vi) w := by first | (go_simp; done) | (go_simp; with_reducible rfl))
    (h1 : ai.put (some Nj) vj = a' := by (simp only [Act.put, ls, lz, ln, i64_w, i32_w]; rfl)) (h2 : aj.put (some Ni) vi = a' := by first | (simp only [Act.put, ls, lz, ln, i64_w, i32_w]; done) | (simp only [Act.put, ls, lz, ln, i64_w, i32_w]; rfl)) : wpAnyLast P .any ops Q S ds (fuel + 2) l a w := by
  subst hai
  subst haj
  exact two_ li lj hi hj hNi hNj (two_of HT.out hc) hdi hdj (fun K hK => value_ hwi hNi ri (hK.out _ _ hS (fun _ => lo_ j Nj l' HT hS h hj hNj hci hdj hwj' rj' h1)))
    (fun K hK => value_ hwj hNj rj (hK.out _ _ hS (fun _ => lo_ i Ni l' HT hS h hi hNi hcj hdi hwi' ri' h2)))
end
theorem Mx.box_ne {e e' : TypeId} {w : World} {b g n m : Nat} {β κ : Nat → Nat} {M : Nat → List Int} (h : Mx e e' w b g n m β κ M) {q : Nat} {cs : Array Value} {t : TypeId} (hb : w.heap[q]? = some (.cells cs t (0, 0))) (h1 : t ≠ e) (h2 : t ≠ e') : q ≠ g ∧ ∀ i, i < m → q ≠ β i :=
  ⟨blk_ne hb h.out h1, fun i hi => by
    obtain ⟨cur, hc, _⟩ := h.row i hi
    exact blk_ne hb hc h2⟩
theorem Mx.congr {e e' : TypeId} {w : World} {b g n m : Nat} {β κ : Nat → Nat} {M M' : Nat → List Int} (h : Mx e e' w b g n m β κ M) (hM : ∀ i, i < m → M i = M' i) : Mx e e' w b g n m β κ M' :=
  ⟨h.out, h.bg, h.mn, fun i hi => by rw [← hM i hi]; exact h.len i hi, h.cap, h.bb, fun i hi => by rw [← hM i hi]; exact h.row i hi, h.ne⟩
theorem cutAt_add {g n c : Nat} (h : c < n) (j : Nat) : (cutAt g n c).add j = ⟨g, c + j, none⟩ := by rw [cutAt, if_neg (by omega), addr_add]
/-! ### a row of which the first k numbers are done -/
def partRow (p f : Int) (r own : List Int) (n k : Nat) : List Int := (List.range n).map fun q => if q < k then (r.getD q 0 - f * own.getD q 0) % p else r.getD q 0
theorem partRow_len (p f : Int) (r own : List Int) (n k : Nat) : (partRow p f r own n k).length = n := by simp [partRow]
theorem partRow_get (p f : Int) (r own : List Int) {n k q : Nat} (h : q < n) : (partRow p f r own n k).getD q 0 = if q < k then (r.getD q 0 - f * own.getD q 0) % p else r.getD q 0 := by
  rw [partRow, List.getD_eq_getElem?_getD, List.getElem?_map, List.getElem?_range h]; rfl
theorem partRow_zero (p f : Int) {r : List Int} (own : List Int) {n : Nat} (h : r.length = n) : partRow p f r own n 0 = r := by
  subst h
  apply List.ext_getElem (partRow_len _ _ _ _ _ _)
  intro i h1 h2
  simp [partRow, List.getD_eq_getElem?_getD, List.getElem?_eq_getElem h2]
theorem partRow_all (p f : Int) (r own : List Int) (n : Nat) : partRow p f r own n n = elimRow p f r own n := by
  unfold partRow elimRow
  refine List.map_congr_left fun q hq => ?_
  rw [if_pos (List.mem_range.1 hq)]
theorem partRow_set (p f : Int) (r own : List Int) (n k : Nat) : (partRow p f r own n k).set k ((r.getD k 0 - f * own.getD k 0) % p) = partRow p f r own n (k + 1) := by
  apply List.ext_getElem (by rw [List.length_set, partRow_len, partRow_len])
  intro i h1 h2
  rw [List.getElem_set]
  by_cases hi : k = i
  · subst hi
    rw [if_pos rfl]
    simp [partRow]
  · rw [if_neg hi]
    simp only [partRow, List.getElem_map, List.getElem_range]
    by_cases hk : i < k
    · rw [if_pos hk, if_pos (by omega)]
    · rw [if_neg hk, if_neg (by omega)]
/-! ### the search -/
theorem det1_eq {l : List Int} {c : Nat} (h : c < l.length) : impl_field_determinant_1.f l (c : Int) = some (l.getD c 0 != 0) := by
  unfold impl_field_determinant_1.f
  rw [if_pos (by omega), if_pos (by omega), rd_nat]
theorem find_eq (M : Nat → List Int) (c m : Nat) (hm : m ≤ 1000) (hl : ∀ j, j < m → c < (M (c + j)).length) (d : Nat) : ∀ i, i + d = m →
    slices_IndexFunc_rows.l0 (d + 1) (rowsFrom M c m) (fun z => impl_field_determinant_1.f z (c : Int)) (m : Int) (i : Int) = some (if pivot M c d (c + i) = c + m then -1 else ((pivot M c d (c + i) - c : Nat) : Int)) := by
  induction d with
  | zero =>
    intro i hi
    rw [slices_IndexFunc_rows.l0, if_neg (by omega), pivot, if_pos (by omega)]
  | succ d ih =>
    intro i hi
    rw [slices_IndexFunc_rows.l0, if_pos (by omega), if_pos (by omega), if_pos (by rw [rowsFrom_len]; omega), rdL_nat, rowsFrom_get _ _ (by omega), det1_eq (hl i (by omega)), Option.bind_some, pivot]
    by_cases h0 : (M (c + i)).getD c 0 = 0
    · rw [if_neg (by simp only [h0]; decide), if_pos h0, wsucc (n := 1001) (by omega) (by omega)]
      exact ih (i + 1) (by omega)
    · rw [if_pos (bne_iff_ne.2 h0), if_neg h0, if_neg (by omega), show c + i - c = i from by omega]
theorem find_all (M : Nat → List Int) (c m : Nat) (hm : m ≤ 1000) (hl : ∀ j, j < m → c < (M (c + j)).length) :
    slices_IndexFunc_rows.f (m + 1) (rowsFrom M c m) (fun z => impl_field_determinant_1.f z (c : Int)) = some (if pivot M c m c = c + m then -1 else ((pivot M c m c - c : Nat) : Int)) := by
  unfold slices_IndexFunc_rows.f
  rw [rowsFrom_len]
  exact find_eq M c m hm hl m 0 (by omega)
/-! ### the callees -/
theorem mod_calls {p : Int} (hp : Pm p) (x : Int) (w : World) : Calls Try.prog 88 #[.int .i64 p, .int .i64 x] w fun e w' => e = .returned (.int .i64 (x % p)) ∧ Drawn0 w w' :=
  impl_field_mod.calls p x _ w (mod_eq hp x)
theorem mod_calls2 {p : Int} (hp : Pm p) {x y : Int} (h : x % p = y) (w : World) : Calls Try.prog 88 #[.int .i64 p, .int .i64 x] w fun e w' => e = .returned (.int .i64 y) ∧ Drawn0 w w' :=
  h ▸ mod_calls hp x w
theorem mul_calls {p : Int} (hp : Pm p) {x y : Int} (hx : 0 ≤ x ∧ x < p) (hy : 0 ≤ y ∧ y < p) (w : World) : Calls Try.prog 89 #[.int .i64 p, .int .i64 x, .int .i64 y] w fun e w' => e = .returned (.int .i64 (x * y % p)) ∧ Drawn0 w w' :=
  impl_field_mul.calls p x y _ w (fmul_eq hp hx hy)
theorem div_calls {p : Int} (hp : Pm p) {x y : Int} (hx : 0 ≤ x ∧ x < p) (hy : 0 ≤ y ∧ y < p) (w : World) : Calls Try.prog 90 #[.int .i64 p, .int .i64 x, .int .i64 y] w fun e w' => e = .returned (.int .i64 (x * invF p y % p)) ∧ Drawn0 w w' := by
  obtain ⟨K, h⟩ := implDiv_ev hp hx hy
  exact impl_field_div.calls K p x y _ w (h K (Nat.le_refl _))
theorem find_calls {w : World} {b g n c gq : Nat} {β κ : Nat → Nat} {M : Nat → List Int} {v : Int} (h : Mx 22 2 w b g n n β κ M) (hn : n ≤ 1000) (hc : c < n) (hbox : w.heap[gq]? = some (.cells #[.int .i64 (c : Int)] 3 (0, 0)))
    (hv : v = if pivot M c (n - c) c = n then -1 else ((pivot M c (n - c) c - c : Nat) : Int)) :
    Calls Try.prog 159 #[.slice (some (cutAt g n c)) (n - c) (n - c), .func (.func 160) #[] #[.pointer (some ⟨gq, 0, none⟩)]] w fun e w' => e = .returned (.int .i64 v) ∧ Below w.heap.size w w' := by
  have hl : ∀ j, j < n - c → c < (M (c + j)).length := fun j hj => by rw [h.len (c + j) (by omega)]; exact hc
  have hf := find_all M c (n - c) (by omega) hl
  rw [show c + (n - c) = n from by omega, ← hv] at hf
  have hC := h.C hn (Nat.le_of_lt hc)
  have hlen := rowsFrom_len M c (n - c)
  refine calls_of_args (args' := #[.slice (some (cutAt g n c)) (rowsFrom M c (n - c)).length (n - c), .func (.func 160) #[] #[.pointer (some ⟨gq, 0, none⟩)]]) (by rw [hlen]) ?_
  refine slices_IndexFunc_rows.calls (n - c + 1) _ _ (rowsFrom M c (n - c)) _ (fun z => impl_field_determinant_1.f z (c : Int)) v w hC (by rw [hlen]; exact Nat.le_refl _) ?_ hf
  refine FnL.of Try.func160 (by kernel_rfl) rfl (fun z r A c0 hr W hW hCz hc0 => calls_of_args (args' := #[.slice A z.length c0, .pointer (some ⟨gq, 0, none⟩)]) (by simp) ?_)
  refine (impl_field_determinant_1.calls A c0 z gq (c : Int) r W hCz hc0 (blk_below hbox hW) hr).mono ?_
  rintro e w' ⟨rfl, ⟨nd, rfl⟩⟩
  exact ⟨rfl, pw_below_drewN (Below.refl _ _) _⟩
theorem mul_calls2 {p : Int} (hp : Pm p) {x y z : Int} (hx : 0 ≤ x ∧ x < p) (hy : 0 ≤ y ∧ y < p) (h : x * y % p = z) (w : World) : Calls Try.prog 89 #[.int .i64 p, .int .i64 x, .int .i64 y] w fun e w' => e = .returned (.int .i64 z) ∧ Drawn0 w w' :=
  h ▸ mul_calls hp hx hy w
theorem div_calls2 {p : Int} (hp : Pm p) {x y z : Int} (hx : 0 ≤ x ∧ x < p) (hy : 0 ≤ y ∧ y < p) (h : x * invF p y % p = z) (w : World) : Calls Try.prog 90 #[.int .i64 p, .int .i64 x, .int .i64 y] w fun e w' => e = .returned (.int .i64 z) ∧ Drawn0 w w' :=
  h ▸ div_calls hp hx hy w
theorem clone_calls {l : List Int} {n c : Nat} {A : Option Addr} {w : World} (hl : l.length = n) (h0 : 0 < n) (hn : n ≤ 1000) (hC : Kd.C (Kd.int .i64) w A n l) (hc : n ≤ c) :
    Calls Try.prog 140 #[.slice A n c] w fun e w' => ∃ q c' cur, e = .returned (.slice (some ⟨q, 0, none⟩) n c') ∧ w.heap.size ≤ q ∧ n ≤ c' ∧ w'.heap[q]? = some (.cells cur 2 (0, 0)) ∧ (∀ k, k < n → cur[k]? = some (.int .i64 (l.getD k 0))) ∧ Below w.heap.size w w' := by
  subst hl
  refine (slices_Clone_ints.calls A c l l w hC hc (by unfold slices_Clone_ints.f; rw [if_pos (by omega)])).mono ?_
  rintro e w' ⟨v, rfl, hR, hb⟩
  obtain ⟨q, c', cur, rfl, h1, h2, h3, h4⟩ := row_open hR h0
  exact ⟨q, c', cur, rfl, h1, h2, h3, h4, hb⟩
/- A list of rows of one's own in memory, of which the rows are read and the slots are set (rows may share their blocks); the reference's callees in plain form. -/
/-- The block q holds a row. -/
def Row (e' : TypeId) (w : World) (b q n : Nat) (l : List Int) : Prop := b ≤ q ∧ ∃ cur : Array Value, w.heap[q]? = some (.cells cur e' (0, 0)) ∧ ∀ k, k < n → cur[k]? = some (.int .i64 (l.getD k 0))
section
variable {e e' : TypeId} {w w1 : World} {b g n q : Nat} {l : List Int} {M : Nat → List Int}
theorem Row.cell (h : Row e' w b q n l) {k : Nat} (hk : k < n) : w.cell? ⟨q, k, none⟩ = some (.int .i64 (l.getD k 0)) := by
  obtain ⟨_, cur, hc, hr⟩ := h
  rw [blk_cell hc k]
  exact hr k hk
theorem Row.step (h : Row e' w b q n l) (hm : w1.heap[q]? = w.heap[q]?) : Row e' w1 b q n l := by
  obtain ⟨hb, cur, hc, hr⟩ := h
  exact ⟨hb, cur, hm.trans hc, hr⟩
theorem Row.below (h : Row e' w b q n l) (hb : Below w.heap.size w w1) : Row e' w1 b q n l := h.step (by
  obtain ⟨_, cur, hc, _⟩ := h
  exact hb.block _ (blk_lt hc))
theorem Row.far (h : Row e' w b q n l) {cs : Array Value} (hg : w.heap[g]? = some (.cells cs e (0, 0))) (he : e ≠ e') (i : Nat) (u : Value) : Row e' (w.setCell ⟨g, i, none⟩ u) b q n l := h.step (by
  obtain ⟨_, cur, hc, _⟩ := h
  exact Below.heap_setCell w ⟨g, i, none⟩ u q (blk_ne hc hg (Ne.symm he)))
theorem Row.low {b' : Nat} (h : Row e' w b q n l) (hb : b' ≤ b) : Row e' w b' q n l := ⟨Nat.le_trans hb h.1, h.2⟩
structure Ms (e e' : TypeId) (w : World) (b g n : Nat) (M : Nat → List Int) : Prop where
  bg : b ≤ g
  out : ∃ cs : Array Value, w.heap[g]? = some (.cells cs e (0, 0)) ∧ ∀ i, i < n → ∃ q c, cs[i]? = some (.slice (some ⟨q, 0, none⟩) n c) ∧ Row e' w b q n (M i)
theorem Ms.get (h : Ms e e' w b g n M) {i : Nat} (hi : i < n) : ∃ q c, w.cell? ⟨g, i, none⟩ = some (.slice (some ⟨q, 0, none⟩) n c) ∧ Row e' w b q n (M i) := by
  obtain ⟨cs, hc, hr⟩ := h.out
  obtain ⟨q, c, hq, hR⟩ := hr i hi
  exact ⟨q, c, by rw [blk_cell hc i]; exact hq, hR⟩
theorem Ms.frozen (h : Ms e e' w b g n M) (i : Nat) : w.frozen? ⟨g, i, none⟩ = false := by
  obtain ⟨cs, hc, _⟩ := h.out
  exact blk_frozen hc i
theorem Ms.below (h : Ms e e' w b g n M) (hb : Below w.heap.size w w1) : Ms e e' w1 b g n M := by
  obtain ⟨cs, hc, hr⟩ := h.out
  exact ⟨h.bg, cs, blk_below hc hb, fun i hi => by
    obtain ⟨q, c, hq, hR⟩ := hr i hi
    exact ⟨q, c, hq, hR.below hb⟩⟩
theorem Ms.far (h : Ms e e' w b g n M) (he : e ≠ e') {q' : Nat} {l' : List Int} (hR : Row e' w b q' n l') (i : Nat) (u : Value) : Row e' (w.setCell ⟨g, i, none⟩ u) b q' n l' := by
  obtain ⟨cs, hc, _⟩ := h.out
  exact hR.far hc he i u
theorem Ms.set (h : Ms e e' w b g n M) (he : e ≠ e') {i c : Nat} (hi : i < n) (hR : Row e' w b q n l) :
    Ms e e' (w.setCell ⟨g, i, none⟩ (.slice (some ⟨q, 0, none⟩) n c)) b g n (fun t => if t = i then l else M t) := by
  obtain ⟨cs, hc, hr⟩ := h.out
  refine ⟨h.bg, _, blk_set hc i _, fun t ht => ?_⟩
  obtain ⟨q1, c1, hq, hR1⟩ := hr t ht
  by_cases ti : t = i
  · subst ti
    refine ⟨q, c, ?_, ?_⟩
    · rw [Array.getElem?_setIfInBounds_self_of_lt (Array.getElem?_eq_some_iff.1 hq).1]
    · simp only [if_true]
      exact hR.far hc he t _
  · refine ⟨q1, c1, ?_, ?_⟩
    · rw [Array.getElem?_setIfInBounds_ne (Ne.symm ti)]; exact hq
    · simp only [if_neg ti]
      exact hR1.far hc he i _
theorem Ms.congr {M' : Nat → List Int} (h : Ms e e' w b g n M) (hM : ∀ i, i < n → M i = M' i) : Ms e e' w b g n M' := by
  obtain ⟨cs, hc, hr⟩ := h.out
  exact ⟨h.bg, cs, hc, fun i hi => by
    obtain ⟨q, c, hq, hR⟩ := hr i hi
    exact ⟨q, c, hq, by rw [← hM i hi]; exact hR⟩⟩
/-- A row of rows, each as long as there are rows. -/
theorem ms_of {ok : Nat → Prop} {v : Value} {rows : List (List Int)} {base : Nat} (h : Kd.R (Kd.slice e' (Kd.int .i64)) e w base ok v rows) (h0 : 0 < rows.length) (hl : ∀ r ∈ rows, r.length = rows.length) :
    ∃ g c, v = .slice (some ⟨g, 0, none⟩) rows.length c ∧ Ms e e' w base g rows.length (fun i => rows.getD i []) := by
  obtain ⟨g, c, rfl, hb, _, cs, hc⟩ := Kd.R_form h h0
  refine ⟨g, c, rfl, hb, cs, hc, fun i hi => ?_⟩
  obtain ⟨cl, hcl, ⟨v1, rfl, hR⟩, hcc⟩ := Kd.R_get h ([] : List Int) (i : Int) (by omega) (by omega)
  simp only [toNat_nat] at hR hcc
  have hlen : (rows.getD i []).length = rows.length := hl _ (getD_mem hi)
  obtain ⟨q, c', cur, rfl, h1, h2, h3, h4⟩ := row_open hR (by rw [hlen]; exact h0)
  rw [hlen] at h4
  refine ⟨q, c', ?_, h1, cur, h3, h4⟩
  have h5 := hcc 0 _ rfl
  have he : (⟨g, 0, none⟩ : Addr).add (i * (Kd.slice e' (Kd.int .i64)).sz + 0) = ⟨g, i, none⟩ := by rw [addr_add]; show (⟨g, 0 + (i * 1 + 0), none⟩ : Addr) = _; rw [show 0 + (i * 1 + 0) = i from by omega]
  rw [he, blk_cell hc, hlen] at h5
  exact h5
end
theorem smod_calls {p : Int} (hp : Pm p) {x y : Int} (h : x % p = y) (w : World) : Calls Try.prog 60 #[.int .i64 p, .int .i64 x] w fun e w' => e = .returned (.int .i64 y) ∧ Drawn0 w w' :=
  spec_l01Mod.calls p x y w (by unfold spec_l01Mod.f; rw [if_neg hp.ne, go_mod hp, h])
theorem sinv_calls {p : Int} (hp : Pm p) {x y : Int} (hx : 0 ≤ x ∧ x < p) (h : invF p x = y) (w : World) : Calls Try.prog 86 #[.int .i64 p, .int .i64 x] w fun e w' => e = .returned (.int .i64 y) ∧ Drawn0 w w' := by
  obtain ⟨K, hK⟩ := specInv_ev hp hx
  subst h
  exact spec_l01Inverse.calls K p x _ w (hK K (Nat.le_refl _))
end Go.Proofs.Ytokkabgkjhpecaa.Pr
