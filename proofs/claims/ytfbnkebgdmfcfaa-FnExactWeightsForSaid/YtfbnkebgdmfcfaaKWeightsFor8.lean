/- Texts of this session in one: what functions of the program compute, and plain facts of it, under the conditions that each theorem names. -/
import Derived.Test.YtfbnkebgdmfcfaaKWeightsFor1
import Derived.Test.YtfbnkebgdmfcfaaKWeightsFor2
import Derived.Test.YtfbnkebgdmfcfaaKWeightsFor4
import Derived.Test.YtfbnkebgdmfcfaaKWeightsFor7
namespace Go.Proofs.Ytfbnkebgdmfcfaa.Pr
/- Determinants modulo p by elimination, as one plain function; and a matrix in memory: a block of slices, one block a row, all of them different. No condition beside the ones named. -/
open Go Go.RowKit Go.Proofs.YtfbnkebgdmfcfaaW.PrintWords Go.Proofs.YtfbnkebgdmfcfaaW.PrintLast Go.Proofs.YtfbnkebgdmfcfaaW.PrintMore
/-! ### the plain function -/
/-- The first place from i on, d places at most, whose row has a number other than 0 in column c. -/
def pivot (M : Nat → List Int) (c : Nat) : Nat → Nat → Nat
  | 0, i => i
  | d + 1, i => if (M i).getD c 0 = 0 then pivot M c d (i + 1) else i
def swapM (M : Nat → List Int) (c j : Nat) : Nat → List Int := fun i => if i = c then M j else if i = j then M c else M i
def elimRow (p f : Int) (r own : List Int) (n : Nat) : List Int := (List.range n).map fun k => (r.getD k 0 - f * own.getD k 0) % p
def stepM (p v : Int) (n c : Nat) (M : Nat → List Int) : Nat → List Int := fun i => if c < i then elimRow p ((M i).getD c 0 * v % p) (M i) (M c) n else M i
def detGo (p : Int) (n : Nat) : Nat → Nat → (Nat → List Int) → Int → Int
  | 0, _, _, o => o
  | d + 1, c, M, o =>
    if pivot M c (n - c) c = n then 0
    else detGo p n d (c + 1) (stepM p (invF p ((M (pivot M c (n - c) c)).getD c 0)) n c (swapM M c (pivot M c (n - c) c)))
      ((if pivot M c (n - c) c = c then o else (-o) % p) * (M (pivot M c (n - c) c)).getD c 0 % p)
def detV (p : Int) (rows : List (List Int)) : Int := detGo p rows.length rows.length 0 (fun i => rows.getD i []) 1
/-- Square rows of numbers modulo p. -/
def sqrB (p : Int) (rows : List (List Int)) : Prop := (2 ≤ p ∧ p ≤ 10007) ∧ rows.length ≤ 1000 ∧ ∀ r ∈ rows, r.length = rows.length ∧ Nm p r
instance (p : Int) (rows : List (List Int)) : Decidable (sqrB p rows) := by unfold sqrB; infer_instance
theorem pivot_in (M : Nat → List Int) (c d : Nat) : ∀ i, i ≤ pivot M c d i ∧ pivot M c d i ≤ i + d := by
  induction d with
  | zero => intro i; exact ⟨Nat.le_refl _, Nat.le_refl _⟩
  | succ d ih =>
    intro i
    rw [pivot]
    split
    · have := ih (i + 1); omega
    · omega
theorem pivot_ne (M : Nat → List Int) (c d : Nat) : ∀ i, pivot M c d i ≠ i + d → (M (pivot M c d i)).getD c 0 ≠ 0 := by
  induction d with
  | zero => intro i h; exact absurd rfl h
  | succ d ih =>
    intro i h
    rw [pivot] at h ⊢
    split at h
    · rename_i g
      rw [if_pos g]
      exact ih (i + 1) (by omega)
    · rename_i g
      rw [if_neg g]
      exact g
theorem elimRow_len (p f : Int) (r own : List Int) (n : Nat) : (elimRow p f r own n).length = n := by simp [elimRow]
theorem elimRow_nm {p : Int} (hp : 0 < p) (f : Int) (r own : List Int) (n : Nat) : Nm p (elimRow p f r own n) := fun x hx => by
  obtain ⟨i, _, rfl⟩ := List.mem_map.1 hx
  exact emodB hp _
theorem elimRow_get (p f : Int) (r own : List Int) {n k : Nat} (h : k < n) : (elimRow p f r own n).getD k 0 = (r.getD k 0 - f * own.getD k 0) % p := by
  rw [elimRow, List.getD_eq_getElem?_getD, List.getElem?_map, List.getElem?_range h]; rfl

/-! ### a matrix in memory -/
/-- e: the type of the rows' slices, e': of the numbers; the first m rows are there. -/
structure Mx (e e' : TypeId) (w : World) (b g n m : Nat) (β κ : Nat → Nat) (M : Nat → List Int) : Prop where
  out : w.heap[g]? = some (.cells ((List.range n).map fun i => if i < m then Value.slice (some ⟨β i, 0, none⟩) n (κ i) else Value.slice none 0 0).toArray e (0, 0))
  bg : b ≤ g
  mn : m ≤ n
  len : ∀ i, i < m → (M i).length = n
  cap : ∀ i, i < m → n ≤ κ i
  bb : ∀ i, i < m → b ≤ β i
  row : ∀ i, i < m → ∃ cur : Array Value, w.heap[β i]? = some (.cells cur e' (0, 0)) ∧ ∀ k, k < n → cur[k]? = some (.int .i64 ((M i).getD k 0))
  ne : ∀ i j, i < m → j < m → i ≠ j → β i ≠ β j
section
variable {e e' : TypeId} {w w1 : World} {b g n m : Nat} {β κ : Nat → Nat} {M : Nat → List Int}
theorem Mx.g_ne (h : Mx e e' w b g n m β κ M) (he : e ≠ e') {i : Nat} (hi : i < m) : β i ≠ g := by
  intro eq
  obtain ⟨cur, hc, _⟩ := h.row i hi
  rw [eq, h.out] at hc
  injection hc with hc
  injection hc with _ hc
  exact he hc
theorem Mx.outer (h : Mx e e' w b g n m β κ M) {i : Nat} (hi : i < m) : w.cell? ⟨g, i, none⟩ = some (.slice (some ⟨β i, 0, none⟩) n (κ i)) := by
  have hm := h.mn
  rw [blk_cell h.out i, List.getElem?_toArray, List.getElem?_map, List.getElem?_range (by omega)]
  simp [hi]
theorem Mx.outer_frozen (h : Mx e e' w b g n m β κ M) (i : Nat) : w.frozen? ⟨g, i, none⟩ = false := blk_frozen h.out i
theorem Mx.cell (h : Mx e e' w b g n m β κ M) {i k : Nat} (hi : i < m) (hk : k < n) : w.cell? ⟨β i, k, none⟩ = some (.int .i64 ((M i).getD k 0)) := by
  obtain ⟨cur, hc, hr⟩ := h.row i hi
  rw [blk_cell hc k]
  exact hr k hk
theorem Mx.frozen (h : Mx e e' w b g n m β κ M) {i : Nat} (hi : i < m) (k : Nat) : w.frozen? ⟨β i, k, none⟩ = false := by
  obtain ⟨cur, hc, _⟩ := h.row i hi
  exact blk_frozen hc k
theorem Mx.lt (h : Mx e e' w b g n m β κ M) {i : Nat} (hi : i < m) : β i < w.heap.size := by
  obtain ⟨cur, hc, _⟩ := h.row i hi
  exact blk_lt hc
theorem Mx.step (h : Mx e e' w b g n m β κ M) (hm : ∀ k, b ≤ k → k < w.heap.size → w1.heap[k]? = w.heap[k]?) : Mx e e' w1 b g n m β κ M :=
  ⟨(hm g h.bg (blk_lt h.out)).trans h.out, h.bg, h.mn, h.len, h.cap, h.bb, fun i hi => by
    obtain ⟨cur, hc, hr⟩ := h.row i hi
    exact ⟨cur, (hm _ (h.bb i hi) (blk_lt hc)).trans hc, hr⟩, h.ne⟩
theorem Mx.below (h : Mx e e' w b g n m β κ M) (hb : Below w.heap.size w w1) : Mx e e' w1 b g n m β κ M := h.step fun k _ hk => hb.block k hk
/-- A store into another block than the matrix's. -/
theorem Mx.far (h : Mx e e' w b g n m β κ M) {q : Nat} (hg : q ≠ g) (hq : ∀ i, i < m → q ≠ β i) (j : Nat) (u : Value) : Mx e e' (w.setCell ⟨q, j, none⟩ u) b g n m β κ M :=
  ⟨(Below.heap_setCell w ⟨q, j, none⟩ u g (Ne.symm hg)).trans h.out, h.bg, h.mn, h.len, h.cap, h.bb, fun i hi => by
    obtain ⟨cur, hc, hr⟩ := h.row i hi
    exact ⟨cur, (Below.heap_setCell w ⟨q, j, none⟩ u _ (Ne.symm (hq i hi))).trans hc, hr⟩, h.ne⟩
/-- A number of a row is set. -/
theorem Mx.put (h : Mx e e' w b g n m β κ M) (he : e ≠ e') {i k : Nat} (hi : i < m) (hk : k < n) (x : Int) :
    Mx e e' (w.setCell ⟨β i, k, none⟩ (.int .i64 x)) b g n m β κ (fun t => if t = i then (M i).set k x else M t) := by
  refine ⟨(Below.heap_setCell w ⟨β i, k, none⟩ _ g (Ne.symm (h.g_ne he hi))).trans h.out, h.bg, h.mn, fun t ht => ?_, h.cap, h.bb, fun t ht => ?_, h.ne⟩
  · by_cases c : t = i
    · rw [if_pos c, List.length_set]; exact h.len i hi
    · rw [if_neg c]; exact h.len t ht
  · by_cases c : t = i
    · subst c
      obtain ⟨cur, hc, hr⟩ := h.row t ht
      refine ⟨cur.setIfInBounds k (.int .i64 x), blk_set hc k _, fun j hj => ?_⟩
      have hl := h.len t ht
      rw [if_pos rfl]
      by_cases d : k = j
      · subst d
        have hs : k < cur.size := by
          have := hr k hk
          exact (Array.getElem?_eq_some_iff.1 this).1
        rw [Array.getElem?_setIfInBounds_self_of_lt hs, List.getD_eq_getElem?_getD, List.getElem?_set_self (by omega)]; rfl
      · rw [Array.getElem?_setIfInBounds_ne d, hr j hj, List.getD_eq_getElem?_getD, List.getD_eq_getElem?_getD, List.getElem?_set_ne d]
    · obtain ⟨cur, hc, hr⟩ := h.row t ht
      refine ⟨cur, (Below.heap_setCell w ⟨β i, k, none⟩ _ _ (h.ne t i ht hi c)).trans hc, fun j hj => ?_⟩
      rw [if_neg c]
      exact hr j hj
/-- Two rows change their places. -/
theorem Mx.swap (h : Mx e e' w b g n n β κ M) (he : e ≠ e') {c j : Nat} (hc : c < n) (hj : j < n) :
    Mx e e' ((w.setCell ⟨g, c, none⟩ (.slice (some ⟨β j, 0, none⟩) n (κ j))).setCell ⟨g, j, none⟩ (.slice (some ⟨β c, 0, none⟩) n (κ c))) b g n n
      (fun i => if i = j then β c else if i = c then β j else β i) (fun i => if i = j then κ c else if i = c then κ j else κ i) (fun i => if i = j then M c else if i = c then M j else M i) := by
  refine ⟨?_, h.bg, Nat.le_refl _, fun i hi => ?_, fun i hi => ?_, fun i hi => ?_, fun i hi => ?_, fun i t hi ht hit => ?_⟩
  · have h1 := blk_set (blk_set h.out c (.slice (some ⟨β j, 0, none⟩) n (κ j))) j (.slice (some ⟨β c, 0, none⟩) n (κ c))
    rw [h1]
    congr 2
    apply Array.ext
    · simp
    · intro i h1 h2
      have hi : i < n := by simpa using h2
      simp only [List.getElem_toArray, List.getElem_map, List.getElem_range, hi, if_true]
      by_cases c1 : i = j
      · subst c1; simp
      · by_cases c2 : i = c
        · subst c2; simp [Ne.symm c1, c1]
        · simp [Ne.symm c1, Ne.symm c2, c1, c2, hi]
  · by_cases c1 : i = j
    · rw [if_pos c1]; exact h.len c hc
    · by_cases c2 : i = c
      · rw [if_neg c1, if_pos c2]; exact h.len j hj
      · rw [if_neg c1, if_neg c2]; exact h.len i hi
  · by_cases c1 : i = j
    · rw [if_pos c1]; exact h.cap c hc
    · by_cases c2 : i = c
      · rw [if_neg c1, if_pos c2]; exact h.cap j hj
      · rw [if_neg c1, if_neg c2]; exact h.cap i hi
  · by_cases c1 : i = j
    · rw [if_pos c1]; exact h.bb c hc
    · by_cases c2 : i = c
      · rw [if_neg c1, if_pos c2]; exact h.bb j hj
      · rw [if_neg c1, if_neg c2]; exact h.bb i hi
  · have far : ∀ q, q < n → ((w.setCell ⟨g, c, none⟩ (.slice (some ⟨β j, 0, none⟩) n (κ j))).setCell ⟨g, j, none⟩ (.slice (some ⟨β c, 0, none⟩) n (κ c))).heap[β q]? = w.heap[β q]? := by
      intro q hq
      rw [Below.heap_setCell _ _ _ _ (h.g_ne he hq), Below.heap_setCell _ _ _ _ (h.g_ne he hq)]
    by_cases c1 : i = j
    · simp only [if_pos c1]
      obtain ⟨cur, hh, hr⟩ := h.row c hc
      exact ⟨cur, (far c hc).trans hh, hr⟩
    · by_cases c2 : i = c
      · simp only [if_neg c1, if_pos c2]
        obtain ⟨cur, hh, hr⟩ := h.row j hj
        exact ⟨cur, (far j hj).trans hh, hr⟩
      · simp only [if_neg c1, if_neg c2]
        obtain ⟨cur, hh, hr⟩ := h.row i hi
        exact ⟨cur, (far i hi).trans hh, hr⟩
  · have n1 := h.ne
    by_cases a1 : i = j
    · by_cases a2 : t = c
      · rw [if_pos a1, if_neg (by omega), if_pos a2]
        by_cases a3 : c = j
        · omega
        · exact n1 c j hc hj a3
      · rw [if_pos a1, if_neg (by omega), if_neg a2]
        by_cases a3 : c = t
        · omega
        · exact n1 c t hc ht a3
    · by_cases a2 : i = c
      · rw [if_neg a1, if_pos a2]
        by_cases a3 : t = j
        · rw [if_pos a3]; exact n1 j c hj hc (by omega)
        · rw [if_neg a3, if_neg (by omega)]; exact n1 j t hj ht (by omega)
      · rw [if_neg a1, if_neg a2]
        by_cases a3 : t = j
        · rw [if_pos a3]; exact n1 i c hi hc a2
        · by_cases a4 : t = c
          · rw [if_neg a3, if_pos a4]; exact n1 i j hi hj a1
          · rw [if_neg a3, if_neg a4]; exact n1 i t hi ht hit
/-- One more row is put. -/
theorem Mx.more (h : Mx e e' w b g n m β κ M) (he : e ≠ e') (hm : m < n) {q c : Nat} {cur : Array Value} (hq : w.heap[q]? = some (.cells cur e' (0, 0))) (hb : b ≤ q) (hc : n ≤ c) (l : List Int) (hl : l.length = n)
    (hr : ∀ k, k < n → cur[k]? = some (.int .i64 (l.getD k 0))) (hne : ∀ i, i < m → β i ≠ q) :
    Mx e e' (w.setCell ⟨g, m, none⟩ (.slice (some ⟨q, 0, none⟩) n c)) b g n (m + 1) (fun i => if i = m then q else β i) (fun i => if i = m then c else κ i) (fun i => if i = m then l else M i) := by
  have hqg : q ≠ g := by
    intro eq
    rw [eq, h.out] at hq
    injection hq with hq
    injection hq with _ hq
    exact he hq
  refine ⟨?_, h.bg, hm, fun i hi => ?_, fun i hi => ?_, fun i hi => ?_, fun i hi => ?_, fun i j hi hj hij => ?_⟩
  · rw [blk_set h.out m]
    congr 2
    apply Array.ext
    · simp
    · intro i h1 h2
      have hi : i < n := by simpa using h2
      simp only [List.getElem_toArray, List.getElem_map, List.getElem_range]
      by_cases c1 : i = m
      · subst c1; simp
      · by_cases c2 : i < m
        · simp [Ne.symm c1, c1, c2, show i < m + 1 from by omega]
        · simp [Ne.symm c1, c2, show ¬ i < m + 1 from by omega]
  · by_cases c1 : i = m
    · rw [if_pos c1]; exact hl
    · rw [if_neg c1]; exact h.len i (by omega)
  · by_cases c1 : i = m
    · rw [if_pos c1]; exact hc
    · rw [if_neg c1]; exact h.cap i (by omega)
  · by_cases c1 : i = m
    · rw [if_pos c1]; exact hb
    · rw [if_neg c1]; exact h.bb i (by omega)
  · by_cases c1 : i = m
    · simp only [if_pos c1]
      exact ⟨cur, (Below.heap_setCell w ⟨g, m, none⟩ _ q hqg).trans hq, hr⟩
    · simp only [if_neg c1]
      obtain ⟨cu, hh, hr'⟩ := h.row i (by omega)
      exact ⟨cu, (Below.heap_setCell w ⟨g, m, none⟩ _ _ (h.g_ne he (by omega))).trans hh, hr'⟩
  · by_cases c1 : i = m
    · rw [if_pos c1, if_neg (by omega)]; exact Ne.symm (hne j (by omega))
    · rw [if_neg c1]
      by_cases c2 : j = m
      · rw [if_pos c2]; exact hne i (by omega)
      · rw [if_neg c2]; exact h.ne i j (by omega) (by omega) hij
end
/- Quotients modulo p in the program; no condition. -/
open Go.RowKit Go.Proofs.YtfbnkebgdmfcfaaW.PrintWords Go.Proofs.YtfbnkebgdmfcfaaW.PrintLast Go.Proofs.YtfbnkebgdmfcfaaW.PrintMore
theorem implDiv_ev {p : Int} (hp : Pm p) {x y : Int} (hx : 0 ≤ x ∧ x < p) (hy : 0 ≤ y ∧ y < p) : Ev (fun n => impl_field_div.f n p x y) (x * invF p y % p) := by
  unfold impl_field_div.f
  exact Ev.bind (implInv_ev hp hy) (Ev.bindE (fmul_eq hp hx (invF_in hp y)) (Ev.now _))
/- What the walk of the determinant leans on: a matrix as a list of rows that is read, its making, its cuts, the search for a pivot, and the callees in plain form. -/
theorem addr_add (g c j : Nat) : (⟨g, c, none⟩ : Addr).add j = ⟨g, c + j, none⟩ := by unfold Addr.add; split <;> simp_all
/-- The m rows from c on. -/
def rowsFrom (M : Nat → List Int) (c m : Nat) : List (List Int) := (List.range m).map fun j => M (c + j)
theorem rowsFrom_len (M : Nat → List Int) (c m : Nat) : (rowsFrom M c m).length = m := by simp [rowsFrom]
theorem rowsFrom_get (M : Nat → List Int) (c : Nat) {m j : Nat} (h : j < m) : (rowsFrom M c m).getD j [] = M (c + j) := by
  rw [rowsFrom, List.getD_eq_getElem?_getD, List.getElem?_map, List.getElem?_range h]; rfl
/-- Where the cut from c on begins. -/
def cutAt (g n c : Nat) : Addr := if n = c then ⟨g, 0, none⟩ else ⟨g, c, none⟩
section
variable {e e' : TypeId} {w w1 : World} {b g n m : Nat} {β κ : Nat → Nat} {M : Nat → List Int}
theorem Mx.rowC (h : Mx e e' w b g n m β κ M) (hn : n ≤ 1000) {i : Nat} (hi : i < m) : Kd.C (Kd.int .i64) w (some ⟨β i, 0, none⟩) n (M i) :=
  ⟨h.len i hi, by omega, fun h0 => ⟨_, rfl, fun j p hj => ⟨[.int .i64 p], rfl, rfl, fun t u hu => by
    cases t with
    | zero =>
      have hl : j < n := by have := (List.getElem?_eq_some_iff.1 hj).1; have := h.len i hi; omega
      have hu : Value.int .i64 p = u := by simpa using hu
      subst hu
      have he : (⟨β i, 0, none⟩ : Addr).add (j * (Kd.int .i64).sz + 0) = ⟨β i, j, none⟩ := by rw [addr_add]; show (⟨β i, 0 + (j * 1 + 0), none⟩ : Addr) = _; rw [show 0 + (j * 1 + 0) = j from by omega]
      rw [he, h.cell hi hl, List.getD_eq_getElem?_getD, hj]; rfl
    | succ t => simp at hu⟩⟩⟩
theorem Mx.C (h : Mx e e' w b g n n β κ M) (hn : n ≤ 1000) {c : Nat} (hc : c ≤ n) : Kd.C (Kd.slice e' (Kd.int .i64)) w (some (cutAt g n c)) (rowsFrom M c (n - c)).length (rowsFrom M c (n - c)) :=
  ⟨rfl, by rw [rowsFrom_len]; omega, fun h0 => ⟨_, rfl, fun j p hj => by
    rw [rowsFrom_len] at h0
    have hl : j < n - c := by have := (List.getElem?_eq_some_iff.1 hj).1; rwa [rowsFrom_len] at this
    have hp : M (c + j) = p := by
      have := rowsFrom_get M c hl
      rw [List.getD_eq_getElem?_getD, hj] at this
      exact this.symm
    subst hp
    have hlen := h.len (c + j) (by omega)
    refine ⟨[.slice (some ⟨β (c + j), 0, none⟩) (M (c + j)).length (κ (c + j))], rfl, ⟨_, _, rfl, by rw [hlen]; exact h.cap _ (by omega), by rw [hlen]; exact h.rowC hn (by omega)⟩, fun t u hu => ?_⟩
    cases t with
    | zero =>
      have hu : Value.slice (some ⟨β (c + j), 0, none⟩) (M (c + j)).length (κ (c + j)) = u := by simpa using hu
      subst hu
      have he : (cutAt g n c).add (j * (Kd.slice e' (Kd.int .i64)).sz + 0) = ⟨g, c + j, none⟩ := by
        rw [cutAt, if_neg (by omega), addr_add]; show (⟨g, c + (j * 1 + 0), none⟩ : Addr) = _; rw [show c + (j * 1 + 0) = c + j from by omega]
      rw [he, h.outer (show c + j < n from by omega), hlen]
    | succ t => simp at hu⟩⟩
theorem Mx.outer0 (h : Mx e e' w b g n m β κ M) {i : Nat} (hm : m ≤ i) (hi : i < n) : w.cell? ⟨g, i, none⟩ = some (.slice none 0 0) := by
  rw [blk_cell h.out i, List.getElem?_toArray, List.getElem?_map, List.getElem?_range hi]
  simp [show ¬ i < m from by omega]
/-- A row of one's own, its block laid open. -/
theorem row_open {e : Nat} {ok : Nat → Prop} {v : Value} {l : List Int} {base : Nat} (h : Kd.R (Kd.int .i64) e w base ok v l) (h0 : 0 < l.length) :
    ∃ q c cur, v = .slice (some ⟨q, 0, none⟩) l.length c ∧ base ≤ q ∧ l.length ≤ c ∧ w.heap[q]? = some (.cells cur e (0, 0)) ∧ ∀ k, k < l.length → cur[k]? = some (.int .i64 (l.getD k 0)) := by
  obtain ⟨q, c, rfl, hb, _, cur, hc⟩ := Kd.R_form h h0
  obtain ⟨_, hl, hC⟩ := Kd.R_reads' h
  refine ⟨q, c, cur, rfl, hb, hl, hc, fun k hk => ?_⟩
  obtain ⟨ad, ea, hx⟩ := Kd.at_int hC (k : Int) (by omega) (by omega)
  cases ea
  rw [toNat_nat, add_plain, blk_cell hc, rd_nat] at hx
  exact hx
end
/-- The cut from c on. -/
theorem cut_run {P : Program} {t e : TypeId} (ht : P.underlying t = some (.slice e)) (hs : (P.info? e).map (fun i => i.size) = some 1) (g n c : Nat) (hc : c ≤ n) (W : World) :
    (Instr.slice t (.slice (some ⟨g, 0, none⟩) n n) (some (.int .i64 (c : Int))) none none).run P W = .ok (.slice (some (cutAt g n c)) (n - c) (n - c)) W := by
  obtain ⟨i, hi, hsz⟩ := Option.map_eq_some_iff.1 hs
  have hel : P.elem t = e := by simp [Program.elem, ht]
  have hu : P.underlying t = some (.slice (P.elem t)) := by rw [hel]; exact ht
  rw [run_slice_l W t _ n n hu .i64 (c : Int) (Int.natCast_nonneg _) (by omega), hel]
  have hsz : i.size = 1 := hsz
  simp [sizeOf, typeInfo, hi, hsz, sliced, Result.andThen, cutAt, addr_add]
  split <;> rfl
section
variable {P : Program} {ops : Array Oper} {Q : Exit → Act → World → Prop} {rest : List Oper} {oi : Oper} {a : Act} {w : World}
set_option linter.unusedVariables false in
/-- make([][]int64, n). -/
theorem mx_make (N : Tmp) {t e e' : TypeId} {x y : Operand} (n : Nat) (ht : P.underlying t = some (.slice e)) (hinfo : (P.info? e).map (fun i => (i.zero, i.size, i.bytes)) = some (some (.slice none 0 0), 1, 24)) (hn : n ≤ 1000) (β κ : Nat → Nat) (M : Nat → List Int)
    (h : ∀ g, g = w.heap.size → ∀ w1, Mx e e' w1 w.heap.size g n 0 β κ M → Below w.heap.size w w1 → wpList P ops Q rest (a.put oi.dst (.slice (some ⟨g, 0, none⟩) n n)) w1)
    (hd : oi.dst = some N := by rfl) (hg : oi.guard = none := by rfl) (ho : oi.op = .makeSlice t x y := by rfl) (hx : a.eval x = .int .i64 (n : Int) := by rfl) (hy : a.eval y = .int .i64 (n : Int) := by rfl) : wpList P ops Q (oi :: rest) a w := by
  obtain ⟨i0, hi, hz⟩ := Option.map_eq_some_iff.1 hinfo
  simp only [Prod.mk.injEq] at hz
  obtain ⟨hz0, hz1, hz2⟩ := hz
  have hr := run_make (P := P) w t e i0 _ ht hi hz0 .i64 .i64 (n : Int) (n : Int) (by omega) (by omega) (by rw [hz2]; omega) (by omega)
  simp only [Int.toNat_natCast] at hr
  rw [hz1] at hr
  refine Kd.event_run hg (w1 := w.alloc (.cells (madeCells (Value.slice none 0 0).cells (n * 1)) e)) (v := .slice (some ⟨w.heap.size, 0, none⟩) n n) (by simp [execOp, ho, hx, hy, hr]) (h _ rfl _ ?_ (below_alloc (Below.refl _ _) _))
  have hb := blk_new w (.cells (madeCells (Value.slice none 0 0).cells (n * 1)) e)
  refine ⟨hb.trans ?_, Nat.le_refl _, Nat.zero_le _, fun i hi => absurd hi (by omega), fun i hi => absurd hi (by omega), fun i hi => absurd hi (by omega), fun i hi => absurd hi (by omega), fun i j hi => absurd hi (by omega)⟩
  congr 2
  apply Array.ext
  · simp [madeCells]
  · intro i h1 h2
    simp [madeCells, Value.cells, Nat.mod_one]
end
/-! ### two loads of which each may come up first -/
section
variable {P : Program} {ops : Array Oper} {Q : Exit → Act → World → Prop} {S : World → Prop} {ds : List Nat} {T : Bool × List (List Nat × List Nat)} {fuel : Nat} {l : Array Bool} {a a' ai aj : Act} {w : World} {oi oj : Oper} {vi vj : Value}
theorem lo2_ (i j : Nat) (Ni Nj : Tmp) (li lj l' : Array Bool) (HT : Aside0 (rtab .any ops = T)) (hS : S w) (h : wpAnyLast P .any ops Q S ds fuel l' a' w)
    (hi : ops[i]? = some oi := by rfl) (hj : ops[j]? = some oj := by rfl) (hNi : oi.dst = some Ni := by rfl) (hNj : oj.dst = some Nj := by rfl)
    (hc : (readyT T.2 l.toList == [i, j] && l.toList.set i true == li.toList && l.toList.set j true == lj.toList) = true := by kernel_rfl)
    (hci : (readyT T.2 li.toList == [j] && li.toList.set j true == l'.toList) = true := by kernel_rfl) (hcj : (readyT T.2 lj.toList == [i] && lj.toList.set i true == l'.toList) = true := by kernel_rfl)
    (hdi : i ∉ ds := by decide) (hdj : j ∉ ds := by decide)
    (hwi : Region.wanted oi (yielded ops a.tmps) = true := by rfl) (hwj : Region.wanted oj (yielded ops a.tmps) = true := by rfl)
    (ri : (execOp a.eval oi).run P w = .ok (.value vi) w := by (go_simp; with_reducible rfl)) (rj : (execOp a.eval oj).run P w = .ok (.value vj) w := by (go_simp; with_reducible rfl))
    (hai : a.put (some Ni) vi = ai := by (simp only [Act.put, ls, lz, ln, i64_w, i32_w]; rfl)) (haj : a.put (some Nj) vj = aj := by (simp only [Act.put, ls, lz, ln, i64_w, i32_w]; rfl))
    (hwj' : Region.wanted oj (yielded ops ai.tmps) = true := by rfl) (hwi' : Region.wanted oi (yielded ops aj.tmps) = true := by rfl)
    (rj' : (execOp ai.eval oj).run P w = .ok (.value vj) w := by first | (go_simp; done) | (go_simp; with_reducible rfl)) (ri' : (execOp aj.eval oi).run P w = .ok (.value vi) w := by first | (go_simp; done) | (go_simp; with_reducible rfl))
    (h1 : ai.put (some Nj) vj = a' := by (simp only [Act.put, ls, lz, ln, i64_w, i32_w]; rfl)) (h2 : aj.put (some Ni) vi = a' := by first | (simp only [Act.put, ls, lz, ln, i64_w, i32_w]; done) | (simp only [Act.put, ls, lz, ln, i64_w, i32_w]; rfl)) : wpAnyLast P .any ops Q S ds (fuel + 2) l a w := by
  subst hai
  subst haj
  exact two_ li lj hi hj hNi hNj (two_of HT.out hc) hdi hdj (fun K hK => value_ hwi hNi ri (hK.out _ _ hS (fun _ => lo_ j Nj l' HT hS h hj hNj hci hdj hwj' rj' h1)))
    (fun K hK => value_ hwj hNj rj (hK.out _ _ hS (fun _ => lo_ i Ni l' HT hS h hi hNi hcj hdi hwi' ri' h2)))
end
theorem Mx.box_ne {e e' : TypeId} {w : World} {b g n m : Nat} {β κ : Nat → Nat} {M : Nat → List Int} (h : Mx e e' w b g n m β κ M) {q : Nat} {cs : Array Value} {t : TypeId} (hb : w.heap[q]? = some (.cells cs t (0, 0))) (h1 : t ≠ e) (h2 : t ≠ e') : q ≠ g ∧ ∀ i, i < m → q ≠ β i :=
  ⟨blk_ne hb h.out h1, fun i hi => by
    obtain ⟨cur, hc, _⟩ := h.row i hi
    exact blk_ne hb hc h2⟩
theorem Mx.congr {e e' : TypeId} {w : World} {b g n m : Nat} {β κ : Nat → Nat} {M M' : Nat → List Int} (h : Mx e e' w b g n m β κ M) (hM : ∀ i, i < m → M i = M' i) : Mx e e' w b g n m β κ M' :=
  ⟨h.out, h.bg, h.mn, fun i hi => by rw [← hM i hi]; exact h.len i hi, h.cap, h.bb, fun i hi => by rw [← hM i hi]; exact h.row i hi, h.ne⟩
theorem cutAt_add {g n c : Nat} (h : c < n) (j : Nat) : (cutAt g n c).add j = ⟨g, c + j, none⟩ := by rw [cutAt, if_neg (by omega), addr_add]
/-! ### a row of which the first k numbers are done -/
def partRow (p f : Int) (r own : List Int) (n k : Nat) : List Int := (List.range n).map fun q => if q < k then (r.getD q 0 - f * own.getD q 0) % p else r.getD q 0
theorem partRow_len (p f : Int) (r own : List Int) (n k : Nat) : (partRow p f r own n k).length = n := by simp [partRow]
theorem partRow_get (p f : Int) (r own : List Int) {n k q : Nat} (h : q < n) : (partRow p f r own n k).getD q 0 = if q < k then (r.getD q 0 - f * own.getD q 0) % p else r.getD q 0 := by
  rw [partRow, List.getD_eq_getElem?_getD, List.getElem?_map, List.getElem?_range h]; rfl
theorem partRow_zero (p f : Int) {r : List Int} (own : List Int) {n : Nat} (h : r.length = n) : partRow p f r own n 0 = r := by
  subst h
  apply List.ext_getElem (partRow_len _ _ _ _ _ _)
  intro i h1 h2
  simp [partRow, List.getD_eq_getElem?_getD, List.getElem?_eq_getElem h2]
theorem partRow_all (p f : Int) (r own : List Int) (n : Nat) : partRow p f r own n n = elimRow p f r own n := by
  unfold partRow elimRow
  refine List.map_congr_left fun q hq => ?_
  rw [if_pos (List.mem_range.1 hq)]
theorem partRow_set (p f : Int) (r own : List Int) (n k : Nat) : (partRow p f r own n k).set k ((r.getD k 0 - f * own.getD k 0) % p) = partRow p f r own n (k + 1) := by
  apply List.ext_getElem (by rw [List.length_set, partRow_len, partRow_len])
  intro i h1 h2
  rw [List.getElem_set]
  by_cases hi : k = i
  · subst hi
    rw [if_pos rfl]
    simp [partRow]
  · rw [if_neg hi]
    simp only [partRow, List.getElem_map, List.getElem_range]
    by_cases hk : i < k
    · rw [if_pos hk, if_pos (by omega)]
    · rw [if_neg hk, if_neg (by omega)]
/-! ### the search -/
theorem det1_eq {l : List Int} {c : Nat} (h : c < l.length) : impl_field_determinant_1.f l (c : Int) = some (l.getD c 0 != 0) := by
  unfold impl_field_determinant_1.f
  rw [if_pos (by omega), if_pos (by omega), rd_nat]
theorem find_eq (M : Nat → List Int) (c m : Nat) (hm : m ≤ 1000) (hl : ∀ j, j < m → c < (M (c + j)).length) (d : Nat) : ∀ i, i + d = m →
    slices_IndexFunc_rows.l0 (d + 1) (rowsFrom M c m) (fun z => impl_field_determinant_1.f z (c : Int)) (m : Int) (i : Int) = some (if pivot M c d (c + i) = c + m then -1 else ((pivot M c d (c + i) - c : Nat) : Int)) := by
  induction d with
  | zero =>
    intro i hi
    rw [slices_IndexFunc_rows.l0, if_neg (by omega), pivot, if_pos (by omega)]
  | succ d ih =>
    intro i hi
    rw [slices_IndexFunc_rows.l0, if_pos (by omega), if_pos (by omega), if_pos (by rw [rowsFrom_len]; omega), rdL_nat, rowsFrom_get _ _ (by omega), det1_eq (hl i (by omega)), Option.bind_some, pivot]
    by_cases h0 : (M (c + i)).getD c 0 = 0
    · rw [if_neg (by simp only [h0]; decide), if_pos h0, wsucc (n := 1001) (by omega) (by omega)]
      exact ih (i + 1) (by omega)
    · rw [if_pos (bne_iff_ne.2 h0), if_neg h0, if_neg (by omega), show c + i - c = i from by omega]
theorem find_all (M : Nat → List Int) (c m : Nat) (hm : m ≤ 1000) (hl : ∀ j, j < m → c < (M (c + j)).length) :
    slices_IndexFunc_rows.f (m + 1) (rowsFrom M c m) (fun z => impl_field_determinant_1.f z (c : Int)) = some (if pivot M c m c = c + m then -1 else ((pivot M c m c - c : Nat) : Int)) := by
  unfold slices_IndexFunc_rows.f
  rw [rowsFrom_len]
  exact find_eq M c m hm hl m 0 (by omega)
/-! ### the callees -/
theorem mod_calls {p : Int} (hp : Pm p) (x : Int) (w : World) : Calls Try.prog 122 #[.int .i64 p, .int .i64 x] w fun e w' => e = .returned (.int .i64 (x % p)) ∧ Drawn0 w w' :=
  impl_field_mod.calls p x _ w (mod_eq hp x)
theorem mod_calls2 {p : Int} (hp : Pm p) {x y : Int} (h : x % p = y) (w : World) : Calls Try.prog 122 #[.int .i64 p, .int .i64 x] w fun e w' => e = .returned (.int .i64 y) ∧ Drawn0 w w' :=
  h ▸ mod_calls hp x w
theorem mul_calls {p : Int} (hp : Pm p) {x y : Int} (hx : 0 ≤ x ∧ x < p) (hy : 0 ≤ y ∧ y < p) (w : World) : Calls Try.prog 131 #[.int .i64 p, .int .i64 x, .int .i64 y] w fun e w' => e = .returned (.int .i64 (x * y % p)) ∧ Drawn0 w w' :=
  impl_field_mul.calls p x y _ w (fmul_eq hp hx hy)
theorem div_calls {p : Int} (hp : Pm p) {x y : Int} (hx : 0 ≤ x ∧ x < p) (hy : 0 ≤ y ∧ y < p) (w : World) : Calls Try.prog 132 #[.int .i64 p, .int .i64 x, .int .i64 y] w fun e w' => e = .returned (.int .i64 (x * invF p y % p)) ∧ Drawn0 w w' := by
  obtain ⟨K, h⟩ := implDiv_ev hp hx hy
  exact impl_field_div.calls K p x y _ w (h K (Nat.le_refl _))
theorem find_calls {w : World} {b g n c gq : Nat} {β κ : Nat → Nat} {M : Nat → List Int} {v : Int} (h : Mx 22 2 w b g n n β κ M) (hn : n ≤ 1000) (hc : c < n) (hbox : w.heap[gq]? = some (.cells #[.int .i64 (c : Int)] 3 (0, 0)))
    (hv : v = if pivot M c (n - c) c = n then -1 else ((pivot M c (n - c) c - c : Nat) : Int)) :
    Calls Try.prog 157 #[.slice (some (cutAt g n c)) (n - c) (n - c), .func (.func 158) #[] #[.pointer (some ⟨gq, 0, none⟩)]] w fun e w' => e = .returned (.int .i64 v) ∧ Below w.heap.size w w' := by
  have hl : ∀ j, j < n - c → c < (M (c + j)).length := fun j hj => by rw [h.len (c + j) (by omega)]; exact hc
  have hf := find_all M c (n - c) (by omega) hl
  rw [show c + (n - c) = n from by omega, ← hv] at hf
  have hC := h.C hn (Nat.le_of_lt hc)
  have hlen := rowsFrom_len M c (n - c)
  refine calls_of_args (args' := #[.slice (some (cutAt g n c)) (rowsFrom M c (n - c)).length (n - c), .func (.func 158) #[] #[.pointer (some ⟨gq, 0, none⟩)]]) (by rw [hlen]) ?_
  refine slices_IndexFunc_rows.calls (n - c + 1) _ _ (rowsFrom M c (n - c)) _ (fun z => impl_field_determinant_1.f z (c : Int)) v w hC (by rw [hlen]; exact Nat.le_refl _) ?_ hf
  refine FnL.of Try.func158 (by kernel_rfl) rfl (fun z r A c0 hr W hW hCz hc0 => calls_of_args (args' := #[.slice A z.length c0, .pointer (some ⟨gq, 0, none⟩)]) (by simp) ?_)
  refine (impl_field_determinant_1.calls A c0 z gq (c : Int) r W hCz hc0 (blk_below hbox hW) hr).mono ?_
  rintro e w' ⟨rfl, ⟨nd, rfl⟩⟩
  exact ⟨rfl, pw_below_drewN (Below.refl _ _) _⟩
theorem mul_calls2 {p : Int} (hp : Pm p) {x y z : Int} (hx : 0 ≤ x ∧ x < p) (hy : 0 ≤ y ∧ y < p) (h : x * y % p = z) (w : World) : Calls Try.prog 131 #[.int .i64 p, .int .i64 x, .int .i64 y] w fun e w' => e = .returned (.int .i64 z) ∧ Drawn0 w w' :=
  h ▸ mul_calls hp hx hy w
theorem div_calls2 {p : Int} (hp : Pm p) {x y z : Int} (hx : 0 ≤ x ∧ x < p) (hy : 0 ≤ y ∧ y < p) (h : x * invF p y % p = z) (w : World) : Calls Try.prog 132 #[.int .i64 p, .int .i64 x, .int .i64 y] w fun e w' => e = .returned (.int .i64 z) ∧ Drawn0 w w' :=
  h ▸ div_calls hp hx hy w
theorem clone_calls {l : List Int} {n c : Nat} {A : Option Addr} {w : World} (hl : l.length = n) (h0 : 0 < n) (hn : n ≤ 1000) (hC : Kd.C (Kd.int .i64) w A n l) (hc : n ≤ c) :
    Calls Try.prog 73 #[.slice A n c] w fun e w' => ∃ q c' cur, e = .returned (.slice (some ⟨q, 0, none⟩) n c') ∧ w.heap.size ≤ q ∧ n ≤ c' ∧ w'.heap[q]? = some (.cells cur 2 (0, 0)) ∧ (∀ k, k < n → cur[k]? = some (.int .i64 (l.getD k 0))) ∧ Below w.heap.size w w' := by
  subst hl
  refine (slices_Clone_ints.calls A c l l w hC hc (by unfold slices_Clone_ints.f; rw [if_pos (by omega)])).mono ?_
  rintro e w' ⟨v, rfl, hR, hb⟩
  obtain ⟨q, c', cur, rfl, h1, h2, h3, h4⟩ := row_open hR h0
  exact ⟨q, c', cur, rfl, h1, h2, h3, h4, hb⟩
/- slices.Delete of one number of a row that is the call's own: what is read afterwards is the row without it. -/
set_option linter.unusedVariables false
set_option linter.unusedSimpArgs false
def del.T5 : Bool × List (List Nat × List Nat) := (true, [([], []), ([], []), ([0, 1], [0, 1]), ([], []), ([], []), ([3, 4], [3, 4]), ([2, 5], [2, 5]), ([6, 6, 0, 1, 2, 3, 4, 5, 6], [0, 3, 6])])
def del.B5 : List Nat := [0, 0, 3, 0, 0, 24, 63, 127]
theorem del.tab5 : rtab .any (opsOf Try.f124 5) = del.T5 := by kernel_rfl
theorem del.bits5 : waitsOk del.T5.2 del.B5 = true := by kernel_rfl
theorem del_h {P : Program} {t e : TypeId} (ht : P.underlying t = some (.slice e)) (hs : (P.info? e).map (fun i => i.size) = some 1) (g n c k : Nat) (hk : k ≤ c) (W : World) :
    (Instr.slice t (.slice (some ⟨g, 0, none⟩) n c) none (some (.int .i64 (k : Int))) none).run P W = .ok (.slice (some ⟨g, 0, none⟩) k c) W := by
  obtain ⟨i, hi, hsz⟩ := Option.map_eq_some_iff.1 hs
  have hel : P.elem t = e := by simp [Program.elem, ht]
  have hu : P.underlying t = some (.slice (P.elem t)) := by rw [hel]; exact ht
  rw [run_slice_h W t _ n c hu .i64 (k : Int) (Int.natCast_nonneg _) (by omega), hel]
  have hsz : i.size = 1 := hsz
  simp [sizeOf, typeInfo, hi, hsz, sliced, Result.andThen, addr_add]
theorem del_l {P : Program} {t e : TypeId} (ht : P.underlying t = some (.slice e)) (hs : (P.info? e).map (fun i => i.size) = some 1) (g n c k : Nat) (hk : k + 1 ≤ n) (W : World) :
    (Instr.slice t (.slice (some ⟨g, 0, none⟩) n c) (some (.int .i64 ((k : Int) + 1))) none none).run P W = .ok (.slice (if c = k + 1 then some ⟨g, 0, none⟩ else (some (⟨g, 0, none⟩ : Addr)).map (·.add ((k + 1) * 1))) (n - (k + 1)) (c - (k + 1))) W := by
  obtain ⟨i, hi, hsz⟩ := Option.map_eq_some_iff.1 hs
  have hel : P.elem t = e := by simp [Program.elem, ht]
  have hu : P.underlying t = some (.slice (P.elem t)) := by rw [hel]; exact ht
  rw [run_slice_l W t _ n c hu .i64 ((k : Int) + 1) (by omega) (by omega), hel]
  have hsz : i.size = 1 := hsz
  have e1 : ((k : Int) + 1).toNat = k + 1 := by omega
  simp [sizeOf, typeInfo, hi, hsz, sliced, Result.andThen, e1]
theorem del_lh {P : Program} {t e : TypeId} (ht : P.underlying t = some (.slice e)) (hs : (P.info? e).map (fun i => i.size) = some 1) (g n c : Nat) (h0 : 0 < n) (hc : n ≤ c) (W : World) :
    (Instr.slice t (.slice (some ⟨g, 0, none⟩) (n - 1) c) (some (.int .i64 ((n - 1 : Nat) : Int))) (some (.int .i64 (n : Int))) none).run P W = .ok (.slice (some ⟨g, n - 1, none⟩) 1 (c - (n - 1))) W := by
  obtain ⟨i, hi, hsz⟩ := Option.map_eq_some_iff.1 hs
  have hel : P.elem t = e := by simp [Program.elem, ht]
  have hu : P.underlying t = some (.slice (P.elem t)) := by rw [hel]; exact ht
  rw [run_slice_lh W t _ (n - 1) c hu .i64 .i64 ((n - 1 : Nat) : Int) (n : Int) (by omega) (by omega) (by omega), hel]
  have hsz : i.size = 1 := hsz
  have e1 : n - (n - 1) = 1 := by omega
  have e2 : ¬ c = n - 1 := by omega
  simp [sizeOf, typeInfo, hi, hsz, sliced, Result.andThen, e1, e2, addr_add]
set_option maxHeartbeats 8000000 in
set_option maxRecDepth 100000 in
theorem delete_calls (w0 w : World) (g n c k : Nat) (xs : List Int) (P0_ : Nat → Prop) (hB : Below w0.heap.size w0 w) (hR : Kd.R (Kd.int .i64) 2 w w0.heap.size P0_ (.slice (some ⟨g, 0, none⟩) n c) xs) (hl : xs.length = n) (hn : n ≤ 4611686018427387904) (hc : n ≤ c) (hk : k < n) :
    Calls Try.prog 124 #[.slice (some ⟨g, 0, none⟩) n c, .int .i64 (k : Int), .int .i64 ((k : Int) + 1)] w fun e w' => ∃ v0_ : Value, e = .returned v0_ ∧ Kd.R (Kd.int .i64) 2 w' w0.heap.size (fun k_ => (P0_ k_ ∨ w.heap.size ≤ k_)) v0_ (xs.eraseIdx k) ∧ Below w0.heap.size w0 w' ∧ Kept w w' (fun k_ => P0_ k_) := by
  have hb := hB.size
  have HG : Aside0 (P0_ g) := ⟨hR.1 g rfl⟩
  have HK := Aside0.mk (Kept.refl w (fun k_ => P0_ k_))
  have hu := Try.underlying22
  have HR := Aside0.mk hR
  clear hR
  have HB := Aside0.mk hB
  clear hB
  go_enter Try.func124, Try.ntmps124
  have q0 : (0 ≤ (k : Int)) = True := eq_true (by omega)
  have q1 : ((k : Int) ≤ (k : Int) + 1) = True := eq_true (by omega)
  have q2 : ((k : Int) + 1 ≤ (n : Int)) = True := eq_true (by omega)
  have q3 : ((n : Int) ≤ (c : Int)) = True := eq_true (by omega)
  have q4 : (n ≤ c) = True := eq_true hc
  have q5 : ((k : Int) == (k : Int) + 1) = false := by simp; omega
  have q6 : ((k : Int) = (k : Int) + 1) = False := eq_false (by omega)
  have hs1 := del_h (P := Try.prog) hu (by kernel_rfl) g n c k (by omega)
  have hs2 := del_l (P := Try.prog) hu (by kernel_rfl) g n c k (by omega)
  obtain ⟨A, hA⟩ : ∃ A : Option Addr, (if c = k + 1 then some ⟨g, 0, none⟩ else (some (⟨g, 0, none⟩ : Addr)).map (·.add ((k + 1) * 1))) = A := ⟨_, rfl⟩
  rw [hA] at hs2
  go_wp2
  refine start_ (n := 8) (S := fun _ => True) (ds := []) (bl 8 0) (by kernel_rfl) rfl (by kernel_rfl) trivial (fun hHeld => ?_)
  refine with_tabW del.tab5 del.bits5 (fun HT_ HW_ => ?_)
  have n0_ := Aside0.mk (Kd.R_drew HR.out)
  have n1_ := Aside0.mk (below_drew1 HB.out)
  have n2_ := Aside0.mk (below_size (below_drew1 (Below.refl w.heap.size w)))
  have n3_ := Aside0.mk HK.out.drew
  clear HR HB HK
  have HR := n0_; have HB := n1_; have HS := n2_; have HK := n3_
  clear n0_ n1_ n2_ n3_
  generalize w.drew = w1 at HR HB HS HK hHeld ⊢
  refine pu_ 0 20 (bl 8 1) HT_ ?_
  refine pu_ 1 21 (bl 8 3) HT_ ?_
  refine pu_ 2 22 (bl 8 7) HT_ ?_
  refine pu_ 3 23 (bl 8 15) HT_ ?_
  refine pu_ 4 24 (bl 8 31) HT_ ?_
  refine pu_ 5 25 (bl 8 63) HT_ ?_
  refine on_ 6 (some 26) (bl 8 127) HT_ (fun K hK => ?_)
  refine Kd.R_delete_step (Kd.int .i64) (w0 := w0) w0.heap.size (by rfl) (.tmp 22) (.tmp 25) 22 2 rfl hu (by kernel_rfl) rfl rfl hA.symm rfl HR.out hk HB.out (Nat.le_trans hb HS.out) ?_
  intro w2 hR2 hB2 hg2
  refine hK.out _ _ trivial (fun hHeld => ?_)
  clear hK K
  refine no_ 26 ?_
  refine pu_ 7 0 (bl 8 255) HT_ ?_
  refine done_ (done_of HT_.out (by kernel_rfl)) ?_
  obtain ⟨inner, ho, hr⟩ := hR2.2
  have hlen : (xs.eraseIdx k).length = n - 1 := by rw [List.length_eraseIdx]; simp [hl, hk]
  rw [hlen] at ho
  rcases ho.2 with ⟨hv, _⟩ | ⟨g', cap, cur, hv, hg, hh, h1, h2, hsz, htk⟩
  · cases hv
  injection hv with e1 e2 e3
  injection e1 with e1
  injection e1 with e1
  subst e1
  subst e3
  have hsz : cur.size = c := by rw [hsz]; exact Nat.mul_one _
  have hs3 := del_lh (P := Try.prog) hu (by kernel_rfl) g n c (by omega) hc
  have hcell : w2.cell? ⟨g, n - 1, none⟩ = some (cur[n - 1]'(by omega)) := (blk_cell hh (n - 1)).trans (Array.getElem?_eq_getElem (by omega))
  have hfr := blk_frozen hh (n - 1)
  have hclr : (Builtin.clear_ #[22] 0 #[.slice (some ⟨g, n - 1, none⟩) 1 (c - (n - 1))]).run Try.prog w2 = .ok (.tuple #[]) (w2.setCell ⟨g, n - 1, none⟩ (.int .i64 0)) := by
    unfold Builtin.clear_
    go_simp
    rw [show (Builtin.zeroCells #[Value.int IntKind.i64 0] 1).toList = [Value.int IntKind.i64 0] from by first | (simp [Builtin.zeroCells]; done) | decide]
    simp only [storeCells]
    go_simp
  go_wp2
  go_ret
  have hb3 := blk_set hh (n - 1) (.int .i64 0)
  have ho3 : (w2.setCell ⟨g, n - 1, none⟩ (.int .i64 0)).ownsRow w0.heap.size 2 1 (.slice (some ⟨g, 0, none⟩) (n - 1) c) (n - 1) inner :=
    ⟨ho.1, .inr ⟨g, c, _, rfl, hg, hb3, h1, h2, by simp [hsz], by rw [← htk]; show (cur.setIfInBounds (n - 1) _).toList.take ((n - 1) * 1) = _; rw [Array.toList_setIfInBounds, List.take_set_of_le (by omega)]; rfl⟩⟩
  have hR3 : Kd.R (Kd.int .i64) 2 (w2.setCell ⟨g, n - 1, none⟩ (.int .i64 0)) w0.heap.size P0_ (.slice (some ⟨g, 0, none⟩) (n - 1) c) (xs.eraseIdx k) :=
    ⟨hR2.1, inner, by rw [hlen]; exact ho3, hr.imp_ (fun _ _ hp => (Kd.int .i64).M_move (fun q hq => Below.heap_setCell w2 ⟨g, n - 1, none⟩ _ q (fun e => hq.2 (by rw [e]; rfl))) hp)⟩
  have hK2 : Kept w w2 (fun k_ => P0_ k_) := Kept.of_grown hg2 HK.out (fun q e => .inl (by injection e with e; rw [← e]; exact HG.out))
  exact ⟨_, rfl, Kd.R_mono hR3 (fun q hq => .inl hq), hB2.setCell hg _, hK2.setCell (.inl HG.out) _⟩
/-- s without its number i, for a cut of one number. -/
def slices_Delete_ints.f (l : List Int) (i j : Int) : Option (List Int) := if (0 ≤ i ∧ j = i + 1) ∧ (i < (l.length : Int) ∧ l.length ≤ 1152921504606846976) then some (l.eraseIdx i.toNat) else none
theorem slices_Delete_ints.calls (P0_ : Nat → Prop) (u : Value) (l0 : List Int) (a1 a2 : Int) (r : List Int) (w0 w : World) (hB : Below w0.heap.size w0 w) (ho0 : Kd.R (Kd.int .i64) 2 w w0.heap.size P0_ u l0) (h : slices_Delete_ints.f l0 a1 a2 = some r) :
    Calls Try.prog 124 #[u, .int .i64 a1, .int .i64 a2] w fun e w' => ∃ v0_ : Value, e = .returned (v0_) ∧ Kd.R (Kd.int .i64) 2 w' w0.heap.size (fun k_ => (P0_ k_ ∨ w.heap.size ≤ k_)) v0_ r ∧ Below w0.heap.size w0 w' ∧ Kept w w' (fun k_ => P0_ k_) := by
  unfold slices_Delete_ints.f at h
  split at h
  case isFalse => cases h
  rename_i hh
  obtain ⟨⟨h0, rfl⟩, h1, h2⟩ := hh
  obtain rfl := Option.some.inj h
  obtain ⟨k, rfl⟩ := Int.eq_ofNat_of_zero_le h0
  obtain ⟨g, c, rfl, _⟩ := Kd.R_form ho0 (by omega)
  rw [toNat_nat]
  exact delete_calls w0 w g l0.length c k l0 P0_ hB ho0 rfl (by omega) (Kd.R_reads' ho0).2.1 (by omega)
/- A list of rows of one's own in memory, of which the rows are read and the slots are set (rows may share their blocks); the reference's callees in plain form. -/
/-- The block q holds a row. -/
def Row (e' : TypeId) (w : World) (b q n : Nat) (l : List Int) : Prop := b ≤ q ∧ ∃ cur : Array Value, w.heap[q]? = some (.cells cur e' (0, 0)) ∧ ∀ k, k < n → cur[k]? = some (.int .i64 (l.getD k 0))
section
variable {e e' : TypeId} {w w1 : World} {b g n q : Nat} {l : List Int} {M : Nat → List Int}
theorem Row.cell (h : Row e' w b q n l) {k : Nat} (hk : k < n) : w.cell? ⟨q, k, none⟩ = some (.int .i64 (l.getD k 0)) := by
  obtain ⟨_, cur, hc, hr⟩ := h
  rw [blk_cell hc k]
  exact hr k hk
theorem Row.step (h : Row e' w b q n l) (hm : w1.heap[q]? = w.heap[q]?) : Row e' w1 b q n l := by
  obtain ⟨hb, cur, hc, hr⟩ := h
  exact ⟨hb, cur, hm.trans hc, hr⟩
theorem Row.below (h : Row e' w b q n l) (hb : Below w.heap.size w w1) : Row e' w1 b q n l := h.step (by
  obtain ⟨_, cur, hc, _⟩ := h
  exact hb.block _ (blk_lt hc))
theorem Row.far (h : Row e' w b q n l) {cs : Array Value} (hg : w.heap[g]? = some (.cells cs e (0, 0))) (he : e ≠ e') (i : Nat) (u : Value) : Row e' (w.setCell ⟨g, i, none⟩ u) b q n l := h.step (by
  obtain ⟨_, cur, hc, _⟩ := h
  exact Below.heap_setCell w ⟨g, i, none⟩ u q (blk_ne hc hg (Ne.symm he)))
theorem Row.low {b' : Nat} (h : Row e' w b q n l) (hb : b' ≤ b) : Row e' w b' q n l := ⟨Nat.le_trans hb h.1, h.2⟩
structure Ms (e e' : TypeId) (w : World) (b g n : Nat) (M : Nat → List Int) : Prop where
  bg : b ≤ g
  out : ∃ cs : Array Value, w.heap[g]? = some (.cells cs e (0, 0)) ∧ ∀ i, i < n → ∃ q c, cs[i]? = some (.slice (some ⟨q, 0, none⟩) n c) ∧ Row e' w b q n (M i)
theorem Ms.get (h : Ms e e' w b g n M) {i : Nat} (hi : i < n) : ∃ q c, w.cell? ⟨g, i, none⟩ = some (.slice (some ⟨q, 0, none⟩) n c) ∧ Row e' w b q n (M i) := by
  obtain ⟨cs, hc, hr⟩ := h.out
  obtain ⟨q, c, hq, hR⟩ := hr i hi
  exact ⟨q, c, by rw [blk_cell hc i]; exact hq, hR⟩
theorem Ms.frozen (h : Ms e e' w b g n M) (i : Nat) : w.frozen? ⟨g, i, none⟩ = false := by
  obtain ⟨cs, hc, _⟩ := h.out
  exact blk_frozen hc i
theorem Ms.below (h : Ms e e' w b g n M) (hb : Below w.heap.size w w1) : Ms e e' w1 b g n M := by
  obtain ⟨cs, hc, hr⟩ := h.out
  exact ⟨h.bg, cs, blk_below hc hb, fun i hi => by
    obtain ⟨q, c, hq, hR⟩ := hr i hi
    exact ⟨q, c, hq, hR.below hb⟩⟩
theorem Ms.far (h : Ms e e' w b g n M) (he : e ≠ e') {q' : Nat} {l' : List Int} (hR : Row e' w b q' n l') (i : Nat) (u : Value) : Row e' (w.setCell ⟨g, i, none⟩ u) b q' n l' := by
  obtain ⟨cs, hc, _⟩ := h.out
  exact hR.far hc he i u
theorem Ms.set (h : Ms e e' w b g n M) (he : e ≠ e') {i c : Nat} (hi : i < n) (hR : Row e' w b q n l) :
    Ms e e' (w.setCell ⟨g, i, none⟩ (.slice (some ⟨q, 0, none⟩) n c)) b g n (fun t => if t = i then l else M t) := by
  obtain ⟨cs, hc, hr⟩ := h.out
  refine ⟨h.bg, _, blk_set hc i _, fun t ht => ?_⟩
  obtain ⟨q1, c1, hq, hR1⟩ := hr t ht
  by_cases ti : t = i
  · subst ti
    refine ⟨q, c, ?_, ?_⟩
    · rw [Array.getElem?_setIfInBounds_self_of_lt (Array.getElem?_eq_some_iff.1 hq).1]
    · simp only [if_true]
      exact hR.far hc he t _
  · refine ⟨q1, c1, ?_, ?_⟩
    · rw [Array.getElem?_setIfInBounds_ne (Ne.symm ti)]; exact hq
    · simp only [if_neg ti]
      exact hR1.far hc he i _
theorem Ms.congr {M' : Nat → List Int} (h : Ms e e' w b g n M) (hM : ∀ i, i < n → M i = M' i) : Ms e e' w b g n M' := by
  obtain ⟨cs, hc, hr⟩ := h.out
  exact ⟨h.bg, cs, hc, fun i hi => by
    obtain ⟨q, c, hq, hR⟩ := hr i hi
    exact ⟨q, c, hq, by rw [← hM i hi]; exact hR⟩⟩
/-- A row of rows, each as long as there are rows. -/
theorem ms_of {ok : Nat → Prop} {v : Value} {rows : List (List Int)} {base : Nat} (h : Kd.R (Kd.slice e' (Kd.int .i64)) e w base ok v rows) (h0 : 0 < rows.length) (hl : ∀ r ∈ rows, r.length = rows.length) :
    ∃ g c, v = .slice (some ⟨g, 0, none⟩) rows.length c ∧ Ms e e' w base g rows.length (fun i => rows.getD i []) := by
  obtain ⟨g, c, rfl, hb, _, cs, hc⟩ := Kd.R_form h h0
  refine ⟨g, c, rfl, hb, cs, hc, fun i hi => ?_⟩
  obtain ⟨cl, hcl, ⟨v1, rfl, hR⟩, hcc⟩ := Kd.R_get h ([] : List Int) (i : Int) (by omega) (by omega)
  simp only [toNat_nat] at hR hcc
  have hlen : (rows.getD i []).length = rows.length := hl _ (getD_mem hi)
  obtain ⟨q, c', cur, rfl, h1, h2, h3, h4⟩ := row_open hR (by rw [hlen]; exact h0)
  rw [hlen] at h4
  refine ⟨q, c', ?_, h1, cur, h3, h4⟩
  have h5 := hcc 0 _ rfl
  have he : (⟨g, 0, none⟩ : Addr).add (i * (Kd.slice e' (Kd.int .i64)).sz + 0) = ⟨g, i, none⟩ := by rw [addr_add]; show (⟨g, 0 + (i * 1 + 0), none⟩ : Addr) = _; rw [show 0 + (i * 1 + 0) = i from by omega]
  rw [he, blk_cell hc, hlen] at h5
  exact h5
end
theorem smod_calls {p : Int} (hp : Pm p) {x y : Int} (h : x % p = y) (w : World) : Calls Try.prog 102 #[.int .i64 p, .int .i64 x] w fun e w' => e = .returned (.int .i64 y) ∧ Drawn0 w w' :=
  spec_l01Mod.calls p x y w (by unfold spec_l01Mod.f; rw [if_neg hp.ne, go_mod hp, h])
theorem sinv_calls {p : Int} (hp : Pm p) {x y : Int} (hx : 0 ≤ x ∧ x < p) (h : invF p x = y) (w : World) : Calls Try.prog 66 #[.int .i64 p, .int .i64 x] w fun e w' => e = .returned (.int .i64 y) ∧ Drawn0 w w' := by
  obtain ⟨K, hK⟩ := specInv_ev hp hx
  subst h
  exact spec_l01Inverse.calls K p x _ w (hK K (Nat.le_refl _))
/- The reference's determinant: for own square rows of numbers modulo p it computes detV. -/
def spec_l02Det.f (_k : Nat) (a0 : Int) (l1 : List (List Int)) : Option Int := if sqrB a0 l1 then some (detV a0 l1) else none
def spec_l02Det.T24 : Bool × List (List Nat × List Nat) := (true, [([], []), ([], []), ([], []), ([], []), ([2, 3], [2, 3]), ([4], [4]), ([], []), ([5, 6], [5, 6]), ([7], [7]), ([], []), ([], []), ([], []), ([10, 11], [10, 11]), ([12], [12]), ([9, 13], [9, 13]), ([8, 14], [8, 14]), ([1, 15], [1, 15]), ([16], [16]), ([0, 17, 16], [0, 17]), ([18, 18, 0, 1, 2, 3, 4, 5, 6, 7, 8, 9, 10, 11, 12, 13, 14, 15, 16, 17, 18], [0, 18])])
def spec_l02Det.B24 : List Nat := [0, 0, 0, 0, 12, 28, 0, 124, 252, 0, 0, 0, 3072, 7168, 15872, 32764, 65534, 131070, 262143, 524287]
theorem spec_l02Det.tab24 : rtab .any (opsOf Try.f151 24) = spec_l02Det.T24 := by kernel_rfl
theorem spec_l02Det.bits24 : waitsOk spec_l02Det.T24.2 spec_l02Det.B24 = true := by kernel_rfl

set_option maxHeartbeats 8000000 in
set_option maxRecDepth 100000 in
theorem spec_l02Det.calls (k : Nat) (a0 : Int) (v1 : Value) (l1 : List (List Int)) (r : Int) (w W : World) (ok : Nat → Prop) (hB : Below w.heap.size w W) (hR : Kd.R (Kd.slice 2 (Kd.int .i64)) 22 W w.heap.size ok v1 l1) (h : spec_l02Det.f k a0 l1 = some r) :
    Calls Try.prog 151 #[.int .i64 a0, v1] W fun e w' => e = .returned (.int .i64 r) ∧ Below w.heap.size w w' := by
  unfold spec_l02Det.f at h
  split at h
  case isFalse => cases h
  rename_i c2
  have HD := Aside0.mk (Option.some.inj h)
  clear h
  obtain ⟨⟨hp2, hpt⟩, hn, hrows⟩ := c2
  have HP := Aside0.mk (Pm.mk hp2 hpt)
  have HN := Aside0.mk hn
  have HROWS := Aside0.mk hrows
  have HB := Aside0.mk hB
  clear hp2 hpt hn hB
  have HMK : Aside0 (Try.prog.underlying 22 = some (.slice 2)) := ⟨Try.underlying22⟩
  have HIN : Aside0 ((Try.prog.info? 2).map (fun i => (i.zero, i.size, i.bytes)) = some (some (.int .i64 0), 1, 8)) := ⟨by kernel_rfl⟩
  by_cases h0 : 0 < l1.length
  case neg =>
    obtain rfl : l1 = [] := List.length_eq_zero_iff.1 (by omega)
    obtain ⟨A, c, rfl⟩ := Kd.R_slice hR
    clear hR hrows h0
    have e : (1 : Int) = r := HD.out
    subst e
    go_enter Try.func151, Try.ntmps151
    go_wp2
    go_loopg [5, 7] 1 (fun kq v5 v7 w' => v5 = .int .i64 1 ∧ v7 = .int .i64 0 ∧ Aside0 (Below w.heap.size w w'))
    case atStart => exact ⟨rfl, rfl, ⟨uH HB.out⟩⟩
    case round =>
      clear HB
      obtain ⟨rfl, rfl, HB⟩ := hrel
      have c1 : decide ((0 : Int) < 0) = false := rfl
      go_wp2
      go_ret
      exact ⟨rfl, uH HB.out⟩
  case pos =>
    obtain ⟨g, cap, rfl, hM⟩ := ms_of hR h0 (fun x hx => (hrows x hx).1)
    have HM := Aside0.mk hM
    have H0 := Aside0.mk h0
    clear hM hR hrows h0
    go_enter Try.func151, Try.ntmps151
    go_wp2
    go_loopg [5, 7] (l1.length + 1) (fun kq v5 v7 w' => ∃ (c : Nat) (o : Int) (M : Nat → List Int), v5 = .int .i64 o ∧ v7 = .int .i64 (c : Int) ∧ Aside0 (kq + c = l1.length + 1 ∧ c ≤ l1.length) ∧ Aside0 ((0 ≤ o ∧ o < a0) ∧ ∀ i, i < l1.length → Nm a0 (M i)) ∧ Aside0 (detGo a0 l1.length (l1.length - c) c M o = r) ∧ Aside0 (Ms 22 2 w' w.heap.size g l1.length (M)) ∧ Aside0 (Below w.heap.size w w'))
    case atStart => exact ⟨0, 1, _, rfl, rfl, ⟨by omega, by omega⟩, ⟨⟨by omega, by have := HP.out.two; omega⟩, fun i hi => (HROWS.out _ (getD_mem hi)).2⟩, HD, ⟨HM.out.below (by repeat (first | exact Below.refl _ _ | apply below_drew1 | apply pw_below_drewN))⟩, ⟨uH HB.out⟩⟩
    case round =>
      clear HM HB HD
      obtain ⟨c, o, M, rfl, rfl, HC, HO, HG, HM, HB⟩ := hrel
      by_cases cc : c < l1.length
      case neg =>
        obtain rfl : c = l1.length := by have := HC.out; omega
        have c1 : decide ((l1.length : Int) < (l1.length : Int)) = false := decide_eq_false (by omega)
        have e : o = r := by have := HG.out; rw [Nat.sub_self, detGo] at this; exact this
        subst e
        go_wp2
        go_ret
        exact ⟨rfl, uH HB.out⟩
      case pos =>
        have c1 : decide ((c : Int) < (l1.length : Int)) = true := decide_eq_true (by omega)
        have CC := Aside0.mk cc
        obtain ⟨P, hP⟩ : ∃ P, pivot M c (l1.length - c) c = P := ⟨_, rfl⟩
        have HPE := Aside0.mk hP
        clear hP
        go_wp2
        clear cc c1
        go_loopg [8] (l1.length + 1 - c) (fun kq v8 w' => ∃ s : Nat, v8 = .int .i64 (s : Int) ∧ Aside0 (kq + s = l1.length + 1 ∧ c ≤ s ∧ s ≤ l1.length) ∧ Aside0 (pivot M c (l1.length - s) s = P) ∧ Aside0 (Ms 22 2 w' w.heap.size g l1.length (M)) ∧ Aside0 (Below w.heap.size w w'))
        case atStart => exact ⟨c, rfl, ⟨by have := CC.out; omega, by omega, by have := CC.out; omega⟩, HPE, ⟨HM.out.below (by repeat (first | exact Below.refl _ _ | apply below_drew1 | apply pw_below_drewN))⟩, ⟨uH HB.out⟩⟩
        case round =>
          clear HM HB
          obtain ⟨s, rfl, HS, HPS, HM, HB⟩ := hrel
          by_cases cs : s < l1.length
          case neg =>
            obtain rfl : s = l1.length := by have := HS.out; omega
            have c1 : decide ((l1.length : Int) < (l1.length : Int)) = false := decide_eq_false (by omega)
            have hP : P = l1.length := by have := HPS.out; rw [Nat.sub_self, pivot] at this; exact this.symm
            have e : (0 : Int) = r := by
              have h := HG.out
              rw [show l1.length - c = (l1.length - c - 1) + 1 from by have := CC.out; omega, detGo, if_pos (by rw [HPE.out, hP])] at h
              exact h
            subst e
            clear hP
            go_wp2
            go_ret
            exact ⟨rfl, uH HB.out⟩
          case pos =>
            have c1 : decide ((s : Int) < (l1.length : Int)) = true := decide_eq_true (by omega)
            obtain ⟨q, cq, hx, hrow⟩ := HM.out.get cs
            have HROW := Aside0.mk hrow
            obtain ⟨y0, hy0⟩ : ∃ y0, (M s).getD c 0 = y0 := ⟨_, rfl⟩
            have hcell := hrow.cell CC.out
            rw [hy0] at hcell
            have CS := Aside0.mk cs
            have HY := Aside0.mk hy0
            clear hrow hy0
            have q0 : (0 ≤ (s : Int)) = True := eq_true (by omega)
            have q1 : ((s : Int) < (l1.length : Int)) = True := eq_true (by omega)
            have q2 : (0 ≤ (c : Int)) = True := eq_true (by omega)
            have q3 : ((c : Int) < (l1.length : Int)) = True := eq_true (by have := CC.out; omega)
            by_cases hy : y0 = 0
            case pos =>
              subst hy
              have e0 : ((0 : Int) == 0) = true := rfl
              go_wp2
              go_roundg (l1.length - s)
              case measure => have := HS.out; have := CS.out; omega
              case rel =>
                refine ⟨s + 1, by rw [wsucc CS.out (by have := HN.out; omega)], ⟨by have := HS.out; have := CS.out; omega, by have := HS.out; omega, CS.out⟩, ⟨?_⟩, ⟨HM.out.below (by repeat (first | exact Below.refl _ _ | apply below_drew1 | apply pw_below_drewN))⟩, ⟨uH HB.out⟩⟩
                have h := HPS.out
                rw [show l1.length - s = (l1.length - (s + 1)) + 1 from by have := CS.out; omega, pivot, if_pos HY.out] at h
                exact h
            case neg =>
              have e0 : (y0 == 0) = false := beq_eq_false_iff_ne.mpr hy
              have hP : P = s := by
                have h := HPS.out
                rw [show l1.length - s = (l1.length - (s + 1)) + 1 from by have := CS.out; omega, pivot, if_neg (by rw [HY.out]; exact hy)] at h
                exact h.symm
              subst hP
              have hG : detGo a0 l1.length (l1.length - (c + 1)) (c + 1) (stepM a0 (invF a0 ((M P).getD c 0)) l1.length c (swapM M c P)) ((if P = c then o else (-o) % a0) * (M P).getD c 0 % a0) = r := by
                have h := HG.out
                rw [show l1.length - c = (l1.length - c - 1) + 1 from by have := CC.out; omega, detGo, if_neg (by rw [HPE.out]; have := CS.out; omega), HPE.out] at h
                rw [show l1.length - (c + 1) = l1.length - c - 1 from by omega]
                exact h
              clear HG HPE HPS
              have HG := Aside0.mk hG
              have hsn : ((P : Int) == (l1.length : Int)) = false := beq_eq_false_iff_ne.mpr (by omega)
              clear hG
              go_upto_if 47 with (fail)
              clear e0 hsn q0 q1 q2 q3 c1
              go_cut [5] (fun v5 wc => v5 = .int .i64 (if P = c then o else (-o) % a0) ∧ Aside0 (Ms 22 2 wc w.heap.size g l1.length (swapM M c P)) ∧ Aside0 (Row 2 wc w.heap.size q l1.length (M P)) ∧ Aside0 (Below w.heap.size w wc))
              case first =>
                clear hx hcell
                by_cases hpc : P = c
                case pos =>
                  have e1 : ((P : Int) != (c : Int)) = false := bne_eq_false_iff_eq.mpr (by rw [hpc])
                  have e2 : ((P : Int) == (c : Int)) = true := beq_iff_eq.mpr (by rw [hpc])
                  have hpi : (P : Int) = (c : Int) := by rw [hpc]
                  go_wp2
                  go_meet
                  case rel =>
                    have e : swapM M c P = M := funext fun i => by
                      unfold swapM
                      by_cases hi : i = c
                      · rw [if_pos hi, hpc, hi]
                      · rw [if_neg hi, if_neg (by rw [hpc]; exact hi)]
                    exact ⟨by rw [if_pos hpc], ⟨by rw [e]; exact HM.out.below (by repeat (first | exact Below.refl _ _ | apply below_drew1 | apply pw_below_drewN))⟩, ⟨HROW.out.below (by repeat (first | exact Below.refl _ _ | apply below_drew1 | apply pw_below_drewN))⟩, ⟨uH HB.out⟩⟩
                case neg =>
                  have e1 : ((P : Int) != (c : Int)) = true := bne_iff_ne.mpr (by omega)
                  have e2 : ((P : Int) == (c : Int)) = false := beq_eq_false_iff_ne.mpr (by omega)
                  have hpi : ¬ (P : Int) = (c : Int) := by omega
                  obtain ⟨qc, kc, hxc, hrowc⟩ := HM.out.get CC.out
                  have HROWC := Aside0.mk hrowc
                  obtain ⟨qp, kp, hxp, _⟩ := HM.out.get CS.out
                  have hfp := HM.out.frozen P
                  clear hrowc
                  have q0 : (0 ≤ (P : Int)) = True := eq_true (by omega)
                  have q1 : ((P : Int) < (l1.length : Int)) = True := eq_true (by omega)
                  have q2 : (0 ≤ (c : Int)) = True := eq_true (by omega)
                  have q3 : ((c : Int) < (l1.length : Int)) = True := eq_true (by have := CC.out; omega)
                  go_wp2_with (first | ((with_reducible refine gate_store (t := 22) (p := 54) rfl ?_); refine store_event (t := 22) (p := 54) (v := ?vo) (w1 := (wr.setCell ⟨g, P, none⟩ (.slice (some ⟨qc, 0, none⟩) l1.length kc))) ?hg ?ho ?hn ?hr ?_; (case ho => rfl); (case hg => rfl); (case hn => rfl); (case hr => first | (go_simp; done) | (go_simp; rfl)); intro w2 hw; have n0_ := Aside0.mk (HM.out.set (c := kc) (by decide) CS.out HROWC.out); have n1_ := Aside0.mk (HM.out.far (by decide) HROW.out P (.slice (some ⟨qc, 0, none⟩) l1.length kc)); have n2_ := Aside0.mk (below_set (j := P) (v := .slice (some ⟨qc, 0, none⟩) l1.length kc) HB.out HM.out.bg); rw [← hw] at n0_ n1_ n2_; clear HM HB HROW hw hxc hxp hfp HROWC; have HM := n0_; have HROW := n1_; have HB := n2_; clear n0_ n1_ n2_; obtain ⟨qd, kd, hxd, _⟩ := HM.out.get CC.out; have hfc := HM.out.frozen c) | ((with_reducible refine gate_callee (f := 102) rfl ?_); refine gL (some 62) Try.func102 #[.int .i64 a0, .int .i64 (wrap64 (-o))] ?_; refine (smod_calls HP.out (y := (-o) % a0) ?wv _).mono ?_; (case wv => have := HO.out; have := HP.out.top; rw [wrap_id (by omega) (by omega)]); rintro e w' ⟨rfl, ⟨nd, rfl⟩⟩; refine ⟨_, rfl, ?_⟩))
                  go_meet
                  case rel =>
                    have n0_ := (HM.out.set (c := cq) (by decide) CC.out HROW.out).congr (M' := swapM M c P) (fun i _ => rfl)
                    have n1_ := HM.out.far (by decide) HROW.out c (.slice (some ⟨q, 0, none⟩) l1.length cq)
                    have n2_ := below_set (j := c) (v := .slice (some ⟨q, 0, none⟩) l1.length cq) HB.out HM.out.bg
                    exact ⟨by rw [if_neg hpc], ⟨n0_.below (by repeat (first | exact Below.refl _ _ | apply below_drew1 | apply pw_below_drewN))⟩, ⟨n1_.below (by repeat (first | exact Below.refl _ _ | apply below_drew1 | apply pw_below_drewN))⟩, ⟨uH n2_⟩⟩
              case rest =>
                clear HM HB HROW hx hcell
                obtain ⟨rfl, HM, HROW, HB⟩ := hcut
                have hMc : swapM M c P c = M P := by unfold swapM; rw [if_pos rfl]
                have hNm : ∀ i, i < l1.length → Nm a0 (swapM M c P i) := fun i hi => by
                  unfold swapM
                  by_cases h1 : i = c
                  · rw [if_pos h1]; exact HO.out.2 _ CS.out
                  · by_cases h2 : i = P
                    · rw [if_neg h1, if_pos h2]; exact HO.out.2 _ CC.out
                    · rw [if_neg h1, if_neg h2]; exact HO.out.2 _ hi
                have hoB : 0 ≤ (if P = c then o else (-o) % a0) ∧ (if P = c then o else (-o) % a0) < a0 := by
                  by_cases h1 : P = c
                  · rw [if_pos h1]; exact HO.out.1
                  · rw [if_neg h1]; exact emodB HP.out.pos _
                have hG := HG.out
                have hR1 := HROW.out
                have hy1 := HY.out
                rw [← hMc] at hG hR1 hy1
                clear HG hMc HO HROW HY hy
                generalize swapM M c P = M1 at HM hNm hG hR1 hy1
                generalize (if P = c then o else (-o) % a0) = o1 at hoB hG ⊢
                have hy0B := (hNm c CC.out).getp HP.out.pos c
                rw [hy1] at hy0B hG
                obtain ⟨o2, ho2⟩ : ∃ o2, o1 * y0 % a0 = o2 := ⟨_, rfl⟩
                obtain ⟨iv, hiv⟩ : ∃ iv, invF a0 y0 = iv := ⟨_, rfl⟩
                have hivB := invF_in HP.out y0
                rw [hiv] at hivB
                rw [ho2, hiv] at hG
                have hm1 := mulP HP.out hoB.1 hoB.2 hy0B.1 hy0B.2
                have hmul : IntKind.i64.wrap (o1 * y0) = o1 * y0 := by rw [i64_w, wrap_id (by omega) (by omega)]
                have htm : Int.tmod (o1 * y0) a0 = o2 := by rw [tmod_pos hm1.1, ho2]
                have HOB2 : Aside0 (0 ≤ o2 ∧ o2 < a0) := ⟨by rw [← ho2]; exact emodB HP.out.pos _⟩
                have HG := Aside0.mk hG
                have HNM := Aside0.mk hNm
                have HROW := Aside0.mk hR1
                have HY := Aside0.mk hy1
                have HYB := Aside0.mk hy0B
                have HIV := Aside0.mk hiv
                have HIVB := Aside0.mk hivB
                have hcell : wc.cell? ⟨q, c, none⟩ = some (.int .i64 y0) := by rw [← hy1]; exact hR1.cell CC.out
                clear hG hNm hR1 hy1 hy0B hiv hivB hm1 ho2 hoB HS CS cs
                have hpz : (a0 == 0) = false := beq_eq_false_iff_ne.mpr HP.out.ne
                have hpz2 : ¬ a0 = 0 := HP.out.ne
                have q2 : (0 ≤ (c : Int)) = True := eq_true (by omega)
                have q3 : ((c : Int) < (l1.length : Int)) = True := eq_true (by have := CC.out; omega)
                have hadd : IntKind.i64.wrap ((c : Int) + 1) = ((c + 1 : Nat) : Int) := by rw [i64_w, wsucc CC.out (by have := HN.out; omega)]
                go_wp2_with (first | ((with_reducible refine gate_callee (f := 66) rfl ?_); refine gL (some 76) Try.func66 #[.int .i64 a0, .int .i64 y0] ?_; refine (sinv_calls HP.out HYB.out HIV.out _).mono ?_; rintro e w' ⟨rfl, ⟨nd, rfl⟩⟩; refine ⟨_, rfl, ?_⟩))
                have n0_ := Aside0.mk (HM.out.below (pw_below_drewN (Below.refl _ _) nd))
                have n1_ := Aside0.mk (HROW.out.below (pw_below_drewN (Below.refl _ _) nd))
                have n2_ := Aside0.mk (pw_below_drewN HB.out nd)
                clear HM HROW HB hcell hmul htm q2 q3 hadd
                have HM := n0_; have HROW := n1_; have HB := n2_
                clear n0_ n1_ n2_
                generalize wc.drewN nd = w4 at HM HROW HB ⊢
                obtain ⟨E, hE⟩ : ∃ E : Nat → List Int, E = fun i => elimRow a0 ((M1 i).getD c 0 * iv % a0) (M1 i) (M1 c) l1.length := ⟨_, rfl⟩
                have HE := Aside0.mk hE
                clear hE
                go_loopg [11] (l1.length - c) (fun kq v11 w' => ∃ s : Nat, v11 = .int .i64 (s : Int) ∧ Aside0 (kq + s = l1.length + 1 ∧ c < s ∧ s ≤ l1.length) ∧ Aside0 (Ms 22 2 w' w.heap.size g l1.length (fun t => if c < t ∧ t < s then E t else M1 t)) ∧ Aside0 (Row 2 w' w.heap.size q l1.length (M1 c)) ∧ Aside0 (Below w.heap.size w w'))
                case atStart =>
                  refine ⟨c + 1, rfl, ⟨by have := CC.out; omega, by omega, CC.out⟩, ⟨(HM.out.below (by repeat (first | exact Below.refl _ _ | apply below_drew1 | apply pw_below_drewN))).congr fun t _ => ?_⟩, ⟨HROW.out.below (by repeat (first | exact Below.refl _ _ | apply below_drew1 | apply pw_below_drewN))⟩, ⟨uH HB.out⟩⟩
                  rw [if_neg (by omega)]
                case round =>
                  clear HM HROW HB
                  obtain ⟨s, rfl, HS, HM, HROW, HB⟩ := hrel
                  by_cases cs : s < l1.length
                  case neg =>
                    obtain rfl : s = l1.length := by have := HS.out; omega
                    have c1 : decide ((l1.length : Int) < (l1.length : Int)) = false := decide_eq_false (by omega)
                    go_wp2
                    go_roundg (l1.length - c)
                    case measure => have := HC.out; have := CC.out; omega
                    case rel =>
                      refine ⟨c + 1, o2, stepM a0 iv l1.length c M1, rfl, by rw [wsucc CC.out (by have := HN.out; omega)], ⟨by have := HC.out; have := CC.out; omega, CC.out⟩, ⟨HOB2.out, fun t ht => ?_⟩, HG, ⟨(HM.out.below (by repeat (first | exact Below.refl _ _ | apply below_drew1 | apply pw_below_drewN))).congr fun t ht => ?_⟩, ⟨uH HB.out⟩⟩
                      · unfold stepM
                        by_cases h1 : c < t
                        · rw [if_pos h1]; exact elimRow_nm HP.out.pos _ _ _ _
                        · rw [if_neg h1]; exact HNM.out t ht
                      · unfold stepM
                        by_cases h1 : c < t
                        · rw [if_pos h1, if_pos (by omega), HE.out]
                        · rw [if_neg h1, if_neg (by omega)]
                  case pos =>
                    have CS := Aside0.mk cs
                    have c1 : decide ((s : Int) < (l1.length : Int)) = true := decide_eq_true (by omega)
                    obtain ⟨qs, ks, hx, hrow⟩ := HM.out.get cs
                    simp only [if_neg (show ¬ (c < s ∧ s < s) from by omega)] at hrow
                    obtain ⟨x0, hx0⟩ : ∃ x0, (M1 s).getD c 0 = x0 := ⟨_, rfl⟩
                    have hcell := hrow.cell CC.out
                    have hxB := (HNM.out s cs).getp HP.out.pos c
                    rw [hx0] at hcell hxB
                    obtain ⟨f, hf⟩ : ∃ f, x0 * iv % a0 = f := ⟨_, rfl⟩
                    have hm1 := mulP HP.out hxB.1 hxB.2 HIVB.out.1 HIVB.out.2
                    have hmul : IntKind.i64.wrap (x0 * iv) = x0 * iv := by rw [i64_w, wrap_id (by omega) (by omega)]
                    have htm : Int.tmod (x0 * iv) a0 = f := by rw [tmod_pos hm1.1, hf]
                    have HF : Aside0 (E s = elimRow a0 f (M1 s) (M1 c) l1.length) := ⟨by rw [HE.out, ← hf, ← hx0]⟩
                    have HFB : Aside0 (0 ≤ f ∧ f < a0) := ⟨by rw [← hf]; exact emodB HP.out.pos _⟩
                    have HRS := Aside0.mk hrow
                    clear hrow hx0 hxB hf hm1
                    have q0 : (0 ≤ (s : Int)) = True := eq_true (by omega)
                    have q1 : ((s : Int) < (l1.length : Int)) = True := eq_true (by omega)
                    have q2 : (0 ≤ (c : Int)) = True := eq_true (by omega)
                    have q3 : ((c : Int) < (l1.length : Int)) = True := eq_true (by have := CC.out; omega)
                    obtain ⟨W1, hW1⟩ : ∃ W1, W1 = wr := ⟨_, rfl⟩
                    subst hW1
                    go_wp2_with (first | ((with_reducible refine gate_dst (N := 95) rfl ?_); refine Kd.R_lit (Kd.int .i64) _ 2 ?hg (N := 95) ?hd (xs := ([] : List Int)) (inner := []) (ok := fun _ => True) (okp := fun _ => True) ?hr ?hp (fun _ hk => hk) trivial (Below.refl _ _) (Nat.le_refl _) (by simp) ?_; (case hd => rfl); (case hg => rfl); (case hr => first | (go_simp; done) | (go_simp; rfl)); (case hp => exact (Reps.none _ _)); intro v95 w5 ho hb hg_ hnew_; clear hg_ hnew_; have HN0 := Aside0.mk ho; have HB0 := Aside0.mk hb; clear ho hb))
                    clear hmul htm hcell q2 q3 c1 hpz hpz2
                    have HX := Aside0.mk hx
                    clear hx
                    go_loopg [13, 14] (l1.length + 1) (fun kq v13 v14 w' => ∃ (z13 : Value) (p : Nat), v13 = z13 ∧ v14 = .int .i64 (p : Int) ∧ Aside0 (kq + p = l1.length + 1 ∧ p ≤ l1.length) ∧ Aside0 (Kd.R (Kd.int .i64) 2 w' W1.heap.size (fun _ => True) z13 (elimRow a0 f (M1 s) (M1 c) p)) ∧ Aside0 (Below W1.heap.size W1 w'))
                    case atStart => exact ⟨_, 0, rfl, rfl, ⟨by omega, by omega⟩, ⟨uR HN0.out⟩, ⟨uH HB0.out⟩⟩
                    case round =>
                      clear HN0 HB0
                      obtain ⟨z13, p, hz13, rfl, HPP, HN0, HB0⟩ := hrel
                      rw [hz13]
                      clear hz13
                      by_cases cp : p < l1.length
                      case neg =>
                        obtain rfl : p = l1.length := by have := HPP.out; omega
                        have c1 : decide ((l1.length : Int) < (l1.length : Int)) = false := decide_eq_false (by omega)
                        obtain ⟨q2, k2, cur, rfl, hb2, hl2, hc2, hr2⟩ := row_open HN0.out (by rw [elimRow_len]; exact H0.out)
                        rw [elimRow_len] at hr2 hl2 ⊢
                        have n0_ := Aside0.mk (HM.out.below HB0.out)
                        have n1_ := Aside0.mk (HROW.out.below HB0.out)
                        have n2_ := xH HB HB0.out
                        have HR2 : Aside0 (Row 2 wr w.heap.size q2 l1.length (E s)) := ⟨Nat.le_trans (below_size HB.out) hb2, cur, hc2, by rw [HF.out]; exact hr2⟩
                        have hx2 := pw_cell_below HB0.out HX.out
                        clear HM HROW HB hb2 hl2 hc2 hr2 HN0
                        have HM := n0_; have HROW := n1_; have HB := n2_
                        clear n0_ n1_ n2_
                        have hfs := HM.out.frozen s
                        go_wp2
                        go_roundg (l1.length - s)
                        case measure => have := HS.out; have := CS.out; omega
                        case rel =>
                          have n0_ := (HM.out.set (c := k2) (by decide) CS.out HR2.out).congr (M' := fun t => if c < t ∧ t < s + 1 then E t else M1 t) (fun t ht => by
                            by_cases hts : t = s
                            · rw [if_pos hts, if_pos (by have := HS.out; omega), hts]
                            · rw [if_neg hts]
                              by_cases h2 : c < t ∧ t < s
                              · rw [if_pos h2, if_pos (by omega)]
                              · rw [if_neg h2, if_neg (by omega)])
                          have n1_ := HM.out.far (by decide) HROW.out s (.slice (some ⟨q2, 0, none⟩) l1.length k2)
                          have n2_ := below_set (j := s) (v := .slice (some ⟨q2, 0, none⟩) l1.length k2) HB.out HM.out.bg
                          exact ⟨s + 1, by rw [wsucc CS.out (by have := HN.out; omega)], ⟨by have := HS.out; have := CS.out; omega, by have := HS.out; omega, CS.out⟩, ⟨n0_.below (by repeat (first | exact Below.refl _ _ | apply below_drew1 | apply pw_below_drewN))⟩, ⟨n1_.below (by repeat (first | exact Below.refl _ _ | apply below_drew1 | apply pw_below_drewN))⟩, ⟨uH n2_⟩⟩
                      case pos =>
                        have CP := Aside0.mk cp
                        have c1 : decide ((p : Int) < (l1.length : Int)) = true := decide_eq_true (by omega)
                        obtain ⟨x1, hx1⟩ : ∃ x1, (M1 s).getD p 0 = x1 := ⟨_, rfl⟩
                        obtain ⟨y1, hy1⟩ : ∃ y1, (M1 c).getD p 0 = y1 := ⟨_, rfl⟩
                        have hA := HX.out
                        have hB1 := HRS.out.cell cp
                        have hC1 := HROW.out.cell cp
                        have hx1B := (HNM.out s CS.out).getp HP.out.pos p
                        have hy1B := (HNM.out c CC.out).getp HP.out.pos p
                        rw [hx1] at hB1 hx1B
                        rw [hy1] at hC1 hy1B
                        obtain ⟨z, hz⟩ : ∃ z, (x1 - f * y1) % a0 = z := ⟨_, rfl⟩
                        have HZ : Aside0 (elimRow a0 f (M1 s) (M1 c) (p + 1) = elimRow a0 f (M1 s) (M1 c) p ++ [z]) := ⟨by unfold elimRow; rw [List.range_succ, List.map_append, List.map_singleton, hx1, hy1, hz]⟩
                        have HZE := Aside0.mk hz
                        have HXB := Aside0.mk hx1B
                        have HYB1 := Aside0.mk hy1B
                        have HA := Aside0.mk hA
                        have HB1 := Aside0.mk hB1
                        have HC1 := Aside0.mk hC1
                        have HLEN := Aside0.mk (elimRow_len a0 f (M1 s) (M1 c) p)
                        clear hx1 hy1 hz hx1B hy1B hA hB1 hC1 cp
                        generalize elimRow a0 f (M1 s) (M1 c) p = L at HN0 HZ HLEN
                        have cp1 := CP.out
                        go_wp2
                        clear cp1
                        have q2 : (0 ≤ (p : Int)) = True := eq_true (by omega)
                        have q3 : ((p : Int) < (l1.length : Int)) = True := eq_true (by have := CP.out; omega)
                        have n0_ := Aside0.mk (Kd.R_drew HN0.out)
                        have n1_ := Aside0.mk (below_drew1 HB0.out)
                        clear HN0 HB0
                        have HN0 := n0_; have HB0 := n1_
                        clear n0_ n1_
                        refine start_ (n := 20) (S := fun w' => w'.cell? ⟨g, s, none⟩ = some (.slice (some ⟨qs, 0, none⟩) l1.length ks) ∧ w'.cell? ⟨qs, p, none⟩ = some (.int .i64 x1) ∧ w'.cell? ⟨q, p, none⟩ = some (.int .i64 y1)) (ds := []) (bl 20 0) (by kernel_rfl) rfl (by kernel_rfl) ⟨pw_cell_below HB0.out HA.out, pw_cell_below HB0.out HB1.out, pw_cell_below HB0.out HC1.out⟩ (fun hHeld => ?_)
                        refine with_tabW spec_l02Det.tab24 spec_l02Det.bits24 (fun HT_ HW_ => ?_)
                        generalize wr.drew = w6 at HN0 HB0 hHeld ⊢
                        refine pu_ 0 101 (bl 20 1) HT_ ?_
                        refine pu_ 1 102 (bl 20 3) HT_ ?_
                        refine pu_ 2 103 (bl 20 7) HT_ ?_
                        refine pu_ 3 104 (bl 20 15) HT_ ?_
                        refine pu_ 4 105 (bl 20 31) HT_ ?_
                        refine ta_ 5 106 (bl 20 63) HT_ HW_ hHeld ?_
                        refine pu_ 6 107 (bl 20 127) HT_ ?_
                        refine pu_ 7 108 (bl 20 255) HT_ ?_
                        refine ta_ 8 109 (bl 20 511) HT_ HW_ hHeld ?_
                        refine pu_ 9 110 (bl 20 1023) HT_ ?_
                        refine pu_ 10 111 (bl 20 2047) HT_ ?_
                        refine pu_ 11 112 (bl 20 4095) HT_ ?_
                        refine pu_ 12 113 (bl 20 8191) HT_ ?_
                        refine ta_ 13 114 (bl 20 16383) HT_ HW_ hHeld ?_
                        refine pu_ 14 115 (bl 20 32767) HT_ ?_
                        refine pu_ 15 116 (bl 20 65535) HT_ ?_
                        refine on_ 16 (some 117) (bl 20 131071) HT_ (fun K hK => ?_)
                        refine gS Try.func102 #[.int .i64 a0, .int .i64 (wrap64 (x1 - wrap64 (f * y1)))] ?_
                        refine (smod_calls HP.out (y := z) ?wv _).mono ?_
                        (case wv => have h1 := HXB.out; have h2 := HYB1.out; have h3 := mulP HP.out HFB.out.1 HFB.out.2 h2.1 h2.2; have h4 := HP.out.top; rw [wrap_id (x := f * y1) (by omega) (by omega), wrap_id (by omega) (by omega), HZE.out])
                        rintro e w' ⟨rfl, ⟨nd, rfl⟩⟩
                        refine ⟨_, rfl, ?_⟩
                        refine hK.out _ _ hHeld (fun hHeld => ?_)
                        clear hK K
                        refine no_ 117 ?_
                        have n0_ := Aside0.mk (Kd.R_drewN HN0.out nd)
                        have n1_ := Aside0.mk (pw_below_drewN HB0.out nd)
                        clear HN0 HB0
                        have HN0 := n0_; have HB0 := n1_
                        clear n0_ n1_
                        generalize w6.drewN nd = w7 at HN0 HB0 hHeld ⊢
                        refine on_ 17 (some 118) (bl 20 262143) HT_ (fun K hK => ?_)
                        refine value_ (w1 := ?_) (v := ?_) (by rfl) rfl ?_ ?_
                        rotate_left 2
                        · go_simp
                          constructor
                          · rfl
                          · rfl
                        refine hK.out _ _ ⟨pw_cell_below (below_alloc (Below.refl _ _) _) hHeld.1, pw_cell_below (below_alloc (Below.refl _ _) _) hHeld.2.1, pw_cell_below (below_alloc (Below.refl _ _) _) hHeld.2.2⟩ (fun hHeld => ?_)
                        clear hK K
                        refine no_ 118 ?_
                        refine on_ 18 (some 119) (bl 20 524287) HT_ (fun K hK => ?_)
                        refine Kd.R_append_step (Kd.int .i64) (w0 := W1) W1.heap.size (by rfl) (.tmp 101) (.tmp 118) 22 2 (.int .i64 0) 8 rfl HMK.out HIN.out rfl (by decide) (by omega) z13 L z [.int .i64 z] (fun _ => True) (fun _ => False) rfl rfl ?aP (fun _ hk => hk.elim) ?aF ?aO ?aB ?aS ?aL ?_
                        (case aP => exact rfl)
                        (case aB => exact (uH HB0.out))
                        (case aF => exact (fun _ _ => trivial))
                        (case aO => exact (uR HN0.out))
                        (case aS => exact (below_size (uH HB0.out)))
                        (case aL => have := HLEN.out; have := CP.out; have := HN.out; omega)
                        intro v119 w8 ho hb hg hat
                        rw [← HZ.out] at ho
                        have n0_ := Aside0.mk ho
                        have n1_ := Aside0.mk hb
                        clear HN0 HB0 ho hb hg hat
                        have HN0 := n0_; have HB0 := n1_
                        clear n0_ n1_
                        refine hK.out _ _ ⟨pw_cell_below HB0.out HA.out, pw_cell_below HB0.out HB1.out, pw_cell_below HB0.out HC1.out⟩ (fun hHeld => ?_)
                        clear hK K
                        refine no_ 119 ?_
                        refine pu_ 19 13 (bl 20 1048575) HT_ ?_
                        refine done_ (done_of HT_.out (by kernel_rfl)) ?_
                        clear hHeld q2 q3
                        go_wp2
                        go_roundg (l1.length - p)
                        case measure => have := HPP.out; have := CP.out; omega
                        case rel => exact ⟨_, p + 1, rfl, by rw [wsucc CP.out (by have := HN.out; omega)], ⟨by have := HPP.out; have := CP.out; omega, CP.out⟩, ⟨uR HN0.out⟩, ⟨uH HB0.out⟩⟩
end Go.Proofs.Ytfbnkebgdmfcfaa.Pr
