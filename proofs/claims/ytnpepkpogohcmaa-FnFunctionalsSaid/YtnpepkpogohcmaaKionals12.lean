/- Texts of this session in one: what functions of the program compute, and plain facts of it, under the conditions that each theorem names. -/
import Derived.Test.YtnpepkpogohcmaaKionals10
import Derived.Test.YtnpepkpogohcmaaKionals11
import Derived.Test.YtnpepkpogohcmaaKionals4
import Derived.Test.YtnpepkpogohcmaaKionals9
namespace Go.Proofs.Ytnpepkpogohcmaa.Pr
/- The draws of moments and polynomials come to some value, of small length; no condition. -/
open Go Go.RowKit Go.Proofs.YtnpepkpogohcmaaW.PrintWords Go.Proofs.YtnpepkpogohcmaaW.PrintLast Go.Proofs.YtnpepkpogohcmaaW.PrintMore
section
variable {c : List Int} {i : Int}
theorem prime_ex (s : St c i) (h : Int) : Ex (fun _ => spec_l01DrawPrime.f c i h) (fun r => St c r.2.1 ∧ primeB r.1 = true) := by
  unfold spec_l01DrawPrime.f
  refine Ex.bind (pick_ex s h _ (by decide)) (fun r hr => Ex.now ⟨hr.1, ?_⟩)
  have e : ∀ x ∈ ([2, 3, 5, 7, 7, 11, 13, 17, 31, 101, 997, 10007] : List Int), primeB x = true := by decide
  exact e _ hr.2
theorem near_ex (s : St c i) (h n : Int) : Ex (fun _ => spec_l01Near.f c i h n) (fun r => St c r.2.1) := by
  unfold spec_l01Near.f
  refine Ex.bind (next_ex s h 14) (fun r hr => ?_)
  refine Ex.ite (fun _ => ?_) (fun _ => ?_)
  · exact Ex.bind (pick_ex hr.1 _ _ (by simp)) (fun r hr => Ex.now hr.1)
  · exact Ex.bind (next_ex hr.1 _ _) (fun r hr => Ex.now hr.1)
theorem fine_ex (p : Int) : Ex (fun k => spec_l01Fine.f k p) (fun q => primeB q = true) := by
  unfold spec_l01Fine.f
  refine Ex.bind (P := fun b => b = primeB p) ⟨_, specPrime_ev p, rfl⟩ (fun b hb => Ex.ite (fun g => Ex.now ?_) (fun _ => Ex.now (by decide)))
  rw [← hb]; exact g
theorem list_l0 (p : Int) (m : Int) (d : Nat) : ∀ (j n h : Int) (o : List Int), St c j → n ≤ (d : Int) → o.length + d ≤ 1000 → Ex (fun k => spec_l01DrawList.l0 k p n o m c j h) (fun r => St c r.2.1 ∧ r.1.length ≤ o.length + d) := by
  induction d with
  | zero =>
    intro j n h o s hn ho
    refine Ex.step (fun k => by rw [spec_l01DrawList.l0]) ?_
    exact Ex.neg (by omega) (Ex.now ⟨s, by dsimp only; omega⟩)
  | succ d ih =>
    intro j n h o s hn ho
    refine Ex.step (fun k => by rw [spec_l01DrawList.l0]) ?_
    refine Ex.ite (fun g => ?_) (fun g => Ex.now ⟨s, by dsimp only; omega⟩)
    have hw : wrap64 (n - 1) = n - 1 := wrap_id (by omega) (by omega)
    have next : ∀ (j' h' x : Int), St c j' → Ex (fun k => spec_l01DrawList.l0 k p (wrap64 (n - 1)) (o ++ [x]) m c j' h') (fun r => St c r.2.1 ∧ r.1.length ≤ o.length + (d + 1)) := by
      intro j' h' x s'
      rw [hw]
      refine Ex.weak (ih j' (n - 1) h' (o ++ [x]) s' (by omega) (by simp; omega)) (fun r hr => ⟨hr.1, ?_⟩)
      have := hr.2
      simp only [List.length_append, List.length_singleton] at this
      omega
    refine Ex.ite (fun _ => ?_) (fun _ => ?_)
    · exact Ex.bind (next_ex s h p) (fun r hr => Ex.pos (by omega) (next _ _ _ hr.1))
    · refine Ex.bind (next_ex s h 3) (fun r hr => ?_)
      refine Ex.ite (fun _ => ?_) (fun _ => ?_)
      · exact Ex.bind (next_ex hr.1 _ p) (fun r hr => Ex.pos (by omega) (next _ _ _ hr.1))
      · exact Ex.pos (by omega) (next _ _ _ hr.1)
theorem drawPoly_ex (s : St c i) (h p : Int) (n : Int) (hn : -1000 ≤ n ∧ n ≤ 100) : Ex (fun k => spec_l01DrawPoly.f k c i h p n) (fun r => St c r.2.1 ∧ r.1.length ≤ 102) := by
  unfold spec_l01DrawPoly.f
  refine Ex.bind (next_ex s h _) (fun r hr => ?_)
  obtain ⟨s1, h1, h2, h3⟩ := hr
  rw [wrap_id (x := n + 2) (by omega) (by omega)] at h2 h3
  have hb : r.1 ≤ 101 := by
    by_cases g : 1 ≤ n + 2
    · have := h2 g; omega
    · have := h3 (by omega); omega
  have hf : Ex (fun k => spec_l01DrawList.f k c r.2.1 r.2.2 p r.1) (fun r' => St c r'.2.1 ∧ r'.1.length ≤ 102) := by
    unfold spec_l01DrawList.f
    refine Ex.bind (next_ex s1 _ 3) (fun r' hr' => ?_)
    refine Ex.weak (list_l0 p _ 101 _ _ _ [] hr'.1 (by omega) (by simp)) (fun a ha => ⟨ha.1, ?_⟩)
    have := ha.2
    simp only [List.length_nil] at this
    omega
  refine Ex.bind hf (fun r' hr' => ?_)
  refine Ex.bind (P := fun l => l = trim r'.1) ⟨_, specTrim_ev r'.1 (by unfold Sm; omega), rfl⟩ (fun l hl => Ex.now ⟨hr'.1, ?_⟩)
  have := trim_len r'.1
  dsimp only
  rw [hl]
  have := hr'.2
  omega
theorem weights_l0 (p n : Int) (hn : n ≤ 100) (d : Nat) : ∀ (j h : Int) (o : List Int), St c j → o.length ≤ 100 → (n ≤ (o.length : Int) ∧ d = 0 ∨ (o.length : Int) + d = n) →
    Ex (fun k => spec_l02Weights.l0 k p n o (o.length : Int) c j h) (fun r => St c r.2.1 ∧ (r.1.length = o.length + d)) := by
  induction d with
  | zero =>
    intro j h o s ho hi
    refine Ex.step (fun k => by rw [spec_l02Weights.l0]) ?_
    exact Ex.neg (by omega) (Ex.now ⟨s, rfl⟩)
  | succ d ih =>
    intro j h o s ho hi
    refine Ex.step (fun k => by rw [spec_l02Weights.l0]) ?_
    refine Ex.pos (by omega) ?_
    have hw : wrap64 ((o.length : Int) + 1) = ((o.length + 1 : Nat) : Int) := wsucc (n := 1000) (by omega) (by omega)
    have next : ∀ (j' h' x : Int), St c j' → Ex (fun k => spec_l02Weights.l0 k p n (o ++ [x]) (wrap64 ((o.length : Int) + 1)) c j' h') (fun r => St c r.2.1 ∧ r.1.length = o.length + (d + 1)) := by
      intro j' h' x s'
      have := ih j' h' (o ++ [x]) s' (by simp; omega) (by simp; omega)
      simp only [List.length_append, List.length_singleton] at this
      rw [hw]
      refine Ex.weak this (fun r hr => ⟨hr.1, ?_⟩)
      have := hr.2
      omega
    refine Ex.bind (next_ex s h _) (fun r hr => Ex.bind (next_ex hr.1 _ 16) (fun r' hr' => ?_))
    exact Ex.ite (fun _ => Ex.pos (by omega) (next _ _ _ hr'.1)) (fun _ => Ex.pos (by omega) (next _ _ _ hr'.1))
theorem weights_ex (s : St c i) (h p n : Int) (hn : n ≤ 100) : Ex (fun k => spec_l02Weights.f k c i h p n) (fun r => St c r.2.1 ∧ r.1.length = n.toNat) := by
  unfold spec_l02Weights.f
  have e : spec_l02Weights.l0 = spec_l02Weights.l0 := rfl
  by_cases g : n ≤ 0
  · refine Ex.weak (weights_l0 p n hn 0 i h [] s (by simp) (.inl ⟨by simpa using g, rfl⟩)) (fun r hr => ⟨hr.1, ?_⟩)
    have := hr.2
    simp only [List.length_nil] at this
    omega
  · refine Ex.weak (weights_l0 p n hn n.toNat i h [] s (by simp) (.inr (by simp; omega))) (fun r hr => ⟨hr.1, ?_⟩)
    have := hr.2
    simp only [List.length_nil] at this
    omega
theorem nodes_l1 (p x8 x9 : Int) (o : List Int) (h : Int) {j : Int} {P : List Int × Int × Int → Prop} (ho : o.length ≤ 1000)
    (hno : Ex (fun k => spec_l02DrawNodes.l0 k p o (wrap64 (x8 - 1)) c j h) P) (hyes : Ex (fun k => spec_l02DrawNodes.l0 k p (o ++ [x9]) (wrap64 (x8 - 1)) c j h) P) (d : Nat) : ∀ (i : Nat) (b : Bool), i + d = o.length →
    Ex (fun k => spec_l02DrawNodes.l1 k p o x8 x9 b (i : Int) c j h) P := by
  induction d with
  | zero =>
    intro i b hi
    refine Ex.step (fun k => by rw [spec_l02DrawNodes.l1]) ?_
    exact Ex.neg (by omega) (Ex.ite (fun _ => hno) (fun _ => Ex.pos (by omega) hyes))
  | succ d ih =>
    intro i b hi
    refine Ex.step (fun k => by rw [spec_l02DrawNodes.l1]) ?_
    refine Ex.pos (by omega) ?_
    rw [wsucc (i := i) (n := o.length) (by omega) (by omega)]
    exact Ex.ite (fun _ => ih (i + 1) _ (by omega)) (fun _ => Ex.pos (by omega) (ih (i + 1) _ (by omega)))
theorem nodes_l0 (p : Int) (d : Nat) : ∀ (j n h : Int) (o : List Int), St c j → n ≤ (d : Int) → o.length + d ≤ 100 → Ex (fun k => spec_l02DrawNodes.l0 k p o n c j h) (fun r => St c r.2.1 ∧ r.1.length ≤ o.length + d) := by
  induction d with
  | zero =>
    intro j n h o s hn ho
    refine Ex.step (fun k => by rw [spec_l02DrawNodes.l0]) ?_
    exact Ex.neg (by omega) (Ex.now ⟨s, by dsimp only; omega⟩)
  | succ d ih =>
    intro j n h o s hn ho
    refine Ex.step (fun k => by rw [spec_l02DrawNodes.l0]) ?_
    refine Ex.ite (fun g => ?_) (fun g => Ex.now ⟨s, by dsimp only; omega⟩)
    have hw : wrap64 (n - 1) = n - 1 := wrap_id (by omega) (by omega)
    refine Ex.bind (next_ex s h p) (fun r hr => Ex.bind (next_ex hr.1 _ _) (fun r' hr' => Ex.bind (pick_ex hr'.1 _ _ (by simp)) (fun r'' hr'' => ?_)))
    refine nodes_l1 p n r''.1 o r''.2.2 (by omega) ?_ ?_ o.length 0 false (by omega)
    · rw [hw]
      exact Ex.weak (ih _ (n - 1) _ o hr''.1 (by omega) (by omega)) (fun a ha => ⟨ha.1, by have := ha.2; omega⟩)
    · rw [hw]
      refine Ex.weak (ih _ (n - 1) _ (o ++ [r''.1]) hr''.1 (by omega) (by simp; omega)) (fun a ha => ⟨ha.1, ?_⟩)
      have := ha.2
      simp only [List.length_append, List.length_singleton] at this
      omega
theorem nodes_ex (s : St c i) (h p : Int) : Ex (fun k => spec_l02DrawNodes.f k c i h p 6) (fun r => St c r.2.1 ∧ r.1.length ≤ 7) := by
  unfold spec_l02DrawNodes.f
  refine Ex.bind (next_ex s h _) (fun r hr => ?_)
  obtain ⟨s1, h1, h2, _⟩ := hr
  rw [wrap_id (x := (6 : Int) + 1) (by omega) (by omega)] at h2
  have h2 := h2 (by omega)
  refine Ex.weak (nodes_l0 p 7 _ _ _ [] s1 (by omega) (by simp)) (fun a ha => ⟨ha.1, ?_⟩)
  have := ha.2
  simp only [List.length_nil] at this
  omega
theorem of_l1 {p : Int} (hp : p ≠ 0) (nodes : List Int) (n : Int) (o : List Int) (ho : o.length ≤ 1000) (q : Nat) {P : Int × List Int → Prop} (hq : nodes.length = q) (hq2 : q ≤ 100) (x11 : Int)
    (k : ∀ (ws' : List Int) (s : Int), ws'.length = q → Ex (fun k => spec_l02Of.l0 k p nodes n ws' (wrap64 (x11 + 1)) p (o ++ [s])) P) (d : Nat) : ∀ (i : Nat) (s : Int) (ws' : List Int), ws'.length = q → i + d = q →
    Ex (fun k => spec_l02Of.l1 k p nodes n ws' x11 s (i : Int) p o) P := by
  induction d with
  | zero =>
    intro i s ws' hw hi
    refine Ex.step (fun k => by rw [spec_l02Of.l1]) ?_
    exact Ex.neg (by omega) (Ex.pos (by omega) (k ws' s hw))
  | succ d ih =>
    intro i s ws' hw hi
    refine Ex.step (fun k => by rw [spec_l02Of.l1]) ?_
    refine Ex.pos (by omega) (Ex.pos (by omega) (Ex.pos (by omega) (Ex.neg hp ?_)))
    rw [wsucc (i := i) (n := q) (by omega) (by omega)]
    exact ih (i + 1) _ _ (by rw [List.length_set]; exact hw) (by omega)
theorem of_l0 {p : Int} (hp : p ≠ 0) (nodes : List Int) (n : Int) (q : Nat) (hq : nodes.length = q) (hq2 : q ≤ 100) (d : Nat) : ∀ (o ws : List Int), ws.length = q → o.length + d ≤ 100 → (n ≤ (o.length : Int) ∧ d = 0 ∨ (o.length : Int) + d = n) →
    Ex (fun k => spec_l02Of.l0 k p nodes n ws (o.length : Int) p o) (fun r => r.2.length = o.length + d) := by
  induction d with
  | zero =>
    intro o ws hw ho hi
    refine Ex.step (fun k => by rw [spec_l02Of.l0]) ?_
    exact Ex.neg (by omega) (Ex.now rfl)
  | succ d ih =>
    intro o ws hw ho hi
    refine Ex.step (fun k => by rw [spec_l02Of.l0]) ?_
    refine Ex.pos (by omega) ?_
    refine of_l1 hp nodes n o (by omega) q hq hq2 _ (fun ws' s hw' => ?_) q 0 0 ws hw (by omega)
    rw [wsucc (i := o.length) (n := 1000) (by omega) (by omega)]
    have := ih (o ++ [s]) ws' hw' (by simp; omega) (by simp; omega)
    simp only [List.length_append, List.length_singleton] at this
    exact Ex.weak this (fun r hr => by omega)
theorem of_ex {p : Int} (hp : p ≠ 0) (nodes ws : List Int) (n : Int) (hq : ws.length = nodes.length) (hq2 : nodes.length ≤ 100) (hn : n ≤ 100) : Ex (fun k => spec_l02Of.f k p nodes ws n) (fun r => r.2.length ≤ 100) := by
  unfold spec_l02Of.f
  refine Ex.bind (P := fun l => l = ws) (Ex.eq (own_eq ws (by unfold Sm; omega)) rfl) (fun l hl => ?_)
  subst hl
  by_cases g : n ≤ 0
  · refine Ex.weak (of_l0 hp nodes n nodes.length rfl hq2 0 [] l hq (by simp) (.inl ⟨by simpa using g, rfl⟩)) (fun r hr => ?_)
    simp only [List.length_nil] at hr
    omega
  · refine Ex.weak (of_l0 hp nodes n nodes.length rfl hq2 n.toNat [] l hq (by simp; omega) (.inr (by simp; omega))) (fun r hr => ?_)
    simp only [List.length_nil] at hr
    omega
end
theorem back_l0 (l : List Int) (hl : l.length ≤ 1000) (d : Nat) : ∀ (o : List Int), o.length + d = l.length → Ex (fun k => spec_l02Back.l0 k l o ((d : Int) - 1)) (fun r => r.length = l.length) := by
  induction d with
  | zero =>
    intro o ho
    refine Ex.step (fun k => by rw [spec_l02Back.l0]) ?_
    exact Ex.neg (by omega) (Ex.now (by omega))
  | succ d ih =>
    intro o ho
    refine Ex.step (fun k => by rw [spec_l02Back.l0]) ?_
    refine Ex.pos (by omega) (Ex.pos (by omega) (Ex.pos (by omega) (Ex.pos (by omega) ?_)))
    rw [wrap_id (x := ((d + 1 : Nat) : Int) - 1 - 1) (by omega) (by omega), show ((d + 1 : Nat) : Int) - 1 - 1 = (d : Int) - 1 from by omega]
    exact ih _ (by simp; omega)
theorem back_ex (l : List Int) (hl : l.length ≤ 1000) : Ex (fun k => spec_l02Back.f k l) (fun r => r.length = l.length) := by
  unfold spec_l02Back.f
  rw [wrap_id (by omega) (by omega)]
  exact back_l0 l hl l.length [] (by simp)
theorem sum_l0 {p : Int} (hp : p ≠ 0) (n : Nat) (a b : List Int) (ha : n ≤ a.length) (hb : n ≤ b.length) (hn : n ≤ 1000) (d : Nat) : ∀ (i : Nat) (s : Int), i + d = n → Ex (fun k => spec_l02Sum.l0 k p (n : Int) a b s (i : Int)) (fun _ => True) := by
  induction d with
  | zero =>
    intro i s hi
    refine Ex.step (fun k => by rw [spec_l02Sum.l0]) ?_
    exact Ex.neg (by omega) (Ex.now trivial)
  | succ d ih =>
    intro i s hi
    refine Ex.step (fun k => by rw [spec_l02Sum.l0]) ?_
    refine Ex.pos (by omega) (Ex.pos (by omega) (Ex.pos (by omega) (Ex.pos (by omega) (Ex.neg hp ?_))))
    rw [wsucc (i := i) (n := n) (by omega) (by omega)]
    exact ih (i + 1) _ (by omega)
theorem sum_ex {p : Int} (hp : p ≠ 0) (n : Nat) (a b : List Int) (ha : n ≤ a.length) (hb : n ≤ b.length) (hn : n ≤ 1000) : Ex (fun k => spec_l02Sum.f k p (n : Int) a b) (fun _ => True) := by
  unfold spec_l02Sum.f
  exact Ex.ite (fun _ => Ex.neg hp (Ex.now trivial)) (fun _ => sum_l0 hp n a b ha hb hn n 0 0 (by omega))
theorem pascal_l0 {p : Int} (hp : p ≠ 0) (l : List Int) (hl : l.length ≤ 1000) (d : Nat) : ∀ (i : Nat) (o : List Int), 1 ≤ i → i + d = l.length → o.length = i → Ex (fun k => spec_l02Pascal.l0 k p l o (i : Int)) (fun r => r.length = l.length + 1) := by
  induction d with
  | zero =>
    intro i o h1 hi ho
    refine Ex.step (fun k => by rw [spec_l02Pascal.l0]) ?_
    exact Ex.neg (by omega) (Ex.neg hp (Ex.pos (by omega) (Ex.now (by simp; omega))))
  | succ d ih =>
    intro i o h1 hi ho
    refine Ex.step (fun k => by rw [spec_l02Pascal.l0]) ?_
    rw [wpred (i := i) (by omega) (by omega), wsucc (i := i) (n := l.length) (by omega) (by omega)]
    refine Ex.pos (by omega) (Ex.pos (by omega) (Ex.pos (by omega) (Ex.pos (by omega) (Ex.neg hp (Ex.pos (by omega) ?_)))))
    exact ih (i + 1) _ (by omega) (by omega) (by simp; omega)
theorem pascal_ex {p : Int} (hp : p ≠ 0) (l : List Int) (h1 : 1 ≤ l.length) (hl : l.length ≤ 1000) : Ex (fun k => spec_l02Pascal.f k p l) (fun r => r.length = l.length + 1) := by
  unfold spec_l02Pascal.f
  exact Ex.neg hp (pascal_l0 hp l hl (l.length - 1) 1 _ (by omega) (by omega) rfl)
theorem power_l0 {p : Int} (hp : p ≠ 0) (d : Nat) : ∀ (n a b : Int), n ≤ (d : Int) → d ≤ 100000 → Ex (fun k => spec_l01Power.l0 k p n a b) (fun _ => True) := by
  induction d with
  | zero =>
    intro n a b hn _
    refine Ex.step (fun k => by rw [spec_l01Power.l0]) ?_
    exact Ex.neg (by omega) (Ex.neg hp (Ex.now trivial))
  | succ d ih =>
    intro n a b hn hd
    refine Ex.step (fun k => by rw [spec_l01Power.l0]) ?_
    refine Ex.ite (fun g => ?_) (fun _ => Ex.neg hp (Ex.now trivial))
    have e : wrap64 (Int.tdiv n 2) = n / 2 := by
      rw [Int.tdiv_eq_ediv_of_nonneg (by omega), wrap_id (by omega) (by omega)]
    rw [e]
    exact Ex.ite (fun _ => Ex.neg hp (ih _ _ _ (by omega) (by omega))) (fun _ => Ex.neg hp (ih _ _ _ (by omega) (by omega)))
theorem inverse_ex {p : Int} (hp : Pm p) (x : Int) : Ex (fun k => spec_l01Inverse.f k p x) (fun _ => True) := by
  have ht := hp.top
  have h2 := hp.two
  unfold spec_l01Inverse.f spec_l01Power.f
  refine Ex.bind (P := fun _ => True) (Ex.bind (P := fun _ => True) (Ex.eq (smod_eq hp x) trivial) (fun a _ => ?_)) (fun a _ => Ex.now trivial)
  rw [wrap_id (by omega) (by omega)]
  exact power_l0 hp.ne 100000 _ _ _ (by omega) (by omega)
def named4 (name : ByteArray) : Prop := name.toList = ([117, 110, 105, 102, 111, 114, 109] : List UInt8) ∨ name.toList = ([108, 97, 103, 117, 101, 114, 114, 101] : List UInt8) ∨ name.toList = ([104, 101, 114, 109, 105, 116, 101] : List UInt8) ∨ name.toList = ([99, 97, 116, 97, 108, 97, 110] : List UInt8)
theorem named_l0 {p : Int} (hp : Pm p) (name : ByteArray) (n : Int) (hn : n ≤ 100) (d : Nat) : ∀ (o row : List Int), o.length ≤ 100 → (row.length = max o.length 1 ∨ named4 name) → (n ≤ (o.length : Int) ∧ d = 0 ∨ (o.length : Int) + d = n) →
    Ex (fun k => spec_l02Named.l0 k name p n o row (o.length : Int)) (fun r => r.1.length ≤ 200) := by
  have ht := hp.top
  have h2 := hp.two
  induction d with
  | zero =>
    intro o row ho hr hi
    refine Ex.step (fun k => by rw [spec_l02Named.l0]) ?_
    exact Ex.neg (by omega) (Ex.now (by dsimp only; omega))
  | succ d ih =>
    intro o row ho hr hi
    refine Ex.step (fun k => by rw [spec_l02Named.l0]) ?_
    refine Ex.pos (by omega) ?_
    have hw : wrap64 ((o.length : Int) + 1) = ((o.length + 1 : Nat) : Int) := wsucc (n := 1000) (by omega) (by omega)
    have next : ∀ (x : Int) (row' : List Int), row'.length = o.length + 1 ∨ named4 name → Ex (fun k => spec_l02Named.l0 k name p n (o ++ [x]) row' (wrap64 ((o.length : Int) + 1))) (fun r => r.1.length ≤ 200) := by
      intro x row' hr'
      have := ih (o ++ [x]) row' (by simp; omega) (hr'.imp (fun g => by simp; omega) id) (by simp; omega)
      simp only [List.length_append, List.length_singleton] at this
      rw [hw]
      exact this
    refine Ex.ite (fun g1 => ?_) (fun g1 => ?_)
    · refine Ex.neg hp.ne (Ex.ite (fun _ => Ex.now (by dsimp only; simp)) (fun _ => ?_))
      exact Ex.bind (inverse_ex hp _) (fun a _ => Ex.pos (by omega) (next _ _ (.inr (.inl g1))))
    refine Ex.ite (fun g2 => ?_) (fun g2 => ?_)
    · refine Ex.ite (fun g => ?_) (fun _ => Ex.pos (by omega) (next _ _ (.inr (.inr (.inl g2)))))
      rw [wrap_id (x := (o.length : Int) - 1) (by omega) (by omega)]
      exact Ex.pos (by omega) (Ex.pos (by omega) (Ex.neg hp.ne (Ex.pos (by omega) (next _ _ (.inr (.inr (.inl g2)))))))
    refine Ex.ite (fun g3 => ?_) (fun g3 => ?_)
    · refine Ex.ite (fun _ => Ex.pos (by omega) (next _ _ (.inr (.inr (.inr (.inl g3)))))) (fun g => ?_)
      refine Ex.ite (fun g' => ?_) (fun _ => Ex.pos (by omega) (next _ _ (.inr (.inr (.inr (.inl g3))))))
      rw [tmod_pos (by omega)] at g'
      rw [wrap_id (x := (o.length : Int) - 2) (by omega) (by omega)]
      exact Ex.pos (by omega) (Ex.pos (by omega) (Ex.neg hp.ne (Ex.pos (by omega) (next _ _ (.inr (.inr (.inr (.inl g3))))))))
    refine Ex.ite (fun g4 => ?_) (fun g4 => ?_)
    · refine Ex.bind (back_ex o (by omega)) (fun a ha => Ex.bind (sum_ex hp.ne o.length o a (by omega) (by omega) (by omega)) (fun b _ => ?_))
      exact Ex.pos (by omega) (next _ _ (.inr (.inr (.inr (.inr g4)))))
    · have hr : row.length = max o.length 1 := hr.resolve_right (by rintro (g | g | g | g) <;> contradiction)
      refine Ex.bind (sum_ex hp.ne o.length o row (by omega) (by omega) (by omega)) (fun b _ => ?_)
      refine Ex.ite (fun g => ?_) (fun g => Ex.pos (by omega) (next _ _ (.inl (by omega))))
      exact Ex.bind (pascal_ex hp.ne row (by omega) (by omega)) (fun a ha => Ex.pos (by omega) (next _ _ (.inl (by omega))))
theorem named_ex {p : Int} (hp : Pm p) (name : ByteArray) (n : Int) (hn : n ≤ 100) : Ex (fun k => spec_l02Named.f k name p n) (fun r => r.1.length ≤ 200) := by
  unfold spec_l02Named.f
  by_cases g : n ≤ 0
  · exact named_l0 hp name n hn 0 [] [1] (by simp) (.inl rfl) (.inl ⟨by simpa using g, rfl⟩)
  · exact named_l0 hp name n hn n.toNat [] [1] (by simp) (.inl rfl) (.inr (by simp; omega))
section
variable {c : List Int} {i : Int}
theorem drawOf_ex (s : St c i) (h p n : Int) (hp : primeB p = true) (hn : n ≤ 100) : Ex (fun k => spec_l02DrawOf.f k c i h p n) (fun r => St c r.2.2.1 ∧ r.2.1.length ≤ 200) := by
  have hm := primeB.pm hp
  unfold spec_l02DrawOf.f
  refine Ex.bind (next_ex s h 4) (fun r hr => ?_)
  refine Ex.ite (fun _ => ?_) (fun _ => ?_)
  · refine Ex.bind (nodes_ex hr.1 _ _) (fun a ha => Ex.bind (weights_ex ha.1 _ _ _ (by have := ha.2; omega)) (fun b hb => Ex.bind (of_ex hm.ne a.1 b.1 n (by have := hb.2; omega) (by have := ha.2; omega) hn) (fun q hq => Ex.now ⟨hb.1, by dsimp only; omega⟩)))
  · refine Ex.ite (fun _ => ?_) (fun _ => ?_)
    · refine Ex.bind (P := fun y => y.length = 5) (Ex.now rfl) (fun y hy => Ex.bind (next_ex hr.1 _ 5) (fun a ha => ?_))
      have h2 := ha.2.2.1 (by omega)
      refine Ex.pos ha.2.1 (Ex.pos (by omega) (Ex.bind (named_ex hm _ n hn) (fun b hb => ?_)))
      refine Ex.ite (fun _ => Ex.now ⟨ha.1, hb⟩) (fun _ => ?_)
      exact Ex.bind (weights_ex ha.1 _ _ _ hn) (fun q hq => Ex.now ⟨hq.1, by have := hq.2; dsimp only; omega⟩)
    · exact Ex.bind (weights_ex hr.1 _ _ _ hn) (fun q hq => Ex.now ⟨hq.1, by have := hq.2; dsimp only; omega⟩)
theorem draw_ex (s : St c i) (h : Int) : Ex (fun k => spec_l02Draw.f k c i h) (fun r => St c r.2.2.1 ∧ r.2.1.length ≤ 200) := by
  unfold spec_l02Draw.f
  refine Ex.bind (prime_ex s h) (fun a ha => Ex.bind (near_ex ha.1 _ _) (fun b hb => Ex.bind (pick_ex hb _ _ (by simp)) (fun q hq => ?_)))
  refine Ex.bind (drawOf_ex hq.1 _ _ _ ha.2 (by unfold mn; split <;> omega)) (fun r hr => Ex.now ⟨hr.1, hr.2⟩)
theorem bad_l0 (c : List Int) (j h p : Int) (d : Nat) : ∀ o : List Int, o.length + d = 25 ∨ d = 0 ∧ 25 ≤ o.length → o.length ≤ 200 → Ex (fun k => spec_l02Bad.l0 k c j h p o) (fun r => r.2.2.1 = j ∧ r.2.1.length ≤ 201) := by
  induction d with
  | zero =>
    intro o ho hl
    refine Ex.step (fun k => by rw [spec_l02Bad.l0]) ?_
    exact Ex.neg (by omega) (Ex.now ⟨rfl, by dsimp only; omega⟩)
  | succ d ih =>
    intro o ho hl
    refine Ex.step (fun k => by rw [spec_l02Bad.l0]) ?_
    refine Ex.pos (by omega) (Ex.bind (P := fun y => y = [0]) (Ex.now rfl) (fun y hy => ?_))
    subst hy
    exact Ex.pos (by simp; omega) (ih _ (by simp; omega) (by simp; omega))
theorem bad_ex (s : St c i) (h p : Int) (l : List Int) (hl : l.length ≤ 200) : Ex (fun k => spec_l02Bad.f k c i h p l) (fun r => St c r.2.2.1 ∧ r.2.1.length ≤ 201) := by
  unfold spec_l02Bad.f
  refine Ex.bind (next_ex s h 50) (fun r hr => ?_)
  refine Ex.ite (fun _ => ?_) (fun _ => ?_)
  · exact Ex.bind (pick_ex hr.1 _ _ (by decide)) (fun a ha => Ex.now ⟨ha.1, by dsimp only; omega⟩)
  refine Ex.ite (fun _ => ?_) (fun _ => ?_)
  · refine Ex.bind (P := fun y => y = l) (Ex.eq (own_eq l (by unfold Sm; omega)) rfl) (fun y hy => Ex.bind (P := fun y => y = [p]) (Ex.now rfl) (fun z hz => ?_))
    subst hy hz
    exact Ex.pos (by simp; omega) (Ex.now ⟨hr.1, by simp; omega⟩)
  refine Ex.ite (fun _ => Ex.now ⟨hr.1, by simp⟩) (fun _ => ?_)
  refine Ex.ite (fun _ => ?_) (fun _ => Ex.now ⟨hr.1, by dsimp only; omega⟩)
  have st := hr.1
  by_cases g : l.length ≤ 25
  · exact Ex.weak (bad_l0 c _ _ p (25 - l.length) l (by omega) hl) (fun a ha => ⟨by rw [ha.1]; exact st, ha.2⟩)
  · exact Ex.weak (bad_l0 c _ _ p 0 l (by omega) hl) (fun a ha => ⟨by rw [ha.1]; exact st, ha.2⟩)
theorem spoil_ex (s : St c i) (h : Int) : Ex (fun k => spec_l02Spoil.f k c i h) (fun r => St c r.2.2.1 ∧ r.2.1.length ≤ 201) := by
  unfold spec_l02Spoil.f
  exact Ex.bind (draw_ex s h) (fun a ha => Ex.bind (bad_ex ha.1 _ _ _ ha.2) (fun b hb => Ex.now ⟨hb.1, hb.2⟩))
end
/- The draws of FnFunctionals. -/
section
variable {c : List Int} (hb : ∀ x ∈ c, 0 ≤ x ∧ x < 256) (hl : c.length ≤ 4096)
include hb hl
theorem with_ex : Ex (fun k => spec_l02With.f k c) (fun r => Sm r.2.1.length ∧ Sm r.2.2.length) := by
  unfold spec_l02With.f
  refine Ex.bind (from_ex hb hl) (fun a ha => ?_)
  obtain ⟨e, st⟩ := ha
  rw [e]
  refine Ex.bind (spoil_ex st _) (fun b hb => Ex.bind (fine_ex _) (fun q hq => Ex.bind (next_ex hb.1 _ 16) (fun d hd => ?_)))
  have h1 := hd.2.1
  have h2 := hd.2.2.1 (by omega)
  have h3 := hb.2
  have ht : Int.tdiv d.1 15 = d.1 / 15 := Int.tdiv_eq_ediv_of_nonneg h1
  have hn : -1000 ≤ mn (wrap64 (wrap64 ((b.2.1.length : Int) - 1) + wrap64 (Int.tdiv d.1 15))) 24 ∧ mn (wrap64 (wrap64 ((b.2.1.length : Int) - 1) + wrap64 (Int.tdiv d.1 15))) 24 ≤ 100 := by
    rw [ht, wrap_id (x := (b.2.1.length : Int) - 1) (by omega) (by omega), wrap_id (x := d.1 / 15) (by omega) (by omega), wrap_id (by omega) (by omega)]
    unfold mn
    split <;> omega
  refine Ex.bind (drawPoly_ex hd.1 _ _ _ hn) (fun f hf => Ex.now ⟨?_, ?_⟩)
  · dsimp only; unfold Sm; omega
  · have := hf.2
    dsimp only; unfold Sm; omega
theorem drawApply_ex : Ex (fun k => spec_DrawApplyFunctional.f k c) (fun r => Sm r.2.1.length ∧ Sm r.2.2.length) := by
  unfold spec_DrawApplyFunctional.f
  exact Ex.bind (with_ex hb hl) (fun r hr => Ex.now hr)
theorem drawProd_ex : Ex (fun k => spec_DrawProductMoments.f k c) (fun r => Sm r.2.1.length ∧ Sm r.2.2.length) := by
  unfold spec_DrawProductMoments.f
  exact Ex.bind (with_ex hb hl) (fun r hr => Ex.now hr)
theorem drawShift_ex : Ex (fun k => spec_DrawShiftMoments.f k c) (fun r => Sm r.2.length) := by
  unfold spec_DrawShiftMoments.f
  refine Ex.bind (from_ex hb hl) (fun a ha => ?_)
  obtain ⟨e, st⟩ := ha
  rw [e]
  exact Ex.bind (spoil_ex st _) (fun b hb => Ex.now (by have := hb.2; dsimp only; unfold Sm; omega))
theorem drawCut_ex : Ex (fun k => spec_DrawCutMoments.f k c) (fun r => Sm r.2.1.length) := by
  unfold spec_DrawCutMoments.f
  refine Ex.bind (from_ex hb hl) (fun a ha => ?_)
  obtain ⟨e, st⟩ := ha
  rw [e]
  exact Ex.bind (spoil_ex st _) (fun b hb => Ex.bind (next_ex hb.1 _ _) (fun d _ => Ex.now (by have := hb.2; dsimp only; unfold Sm; omega)))
end
end Go.Proofs.Ytnpepkpogohcmaa.Pr
