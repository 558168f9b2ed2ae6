/- Texts of this session in one: what functions of the program compute, and plain facts of it, under the conditions that each theorem names. -/
import Derived.Test.YtokkabgkjhpecaaKAffineMoments1
import Derived.Test.YtokkabgkjhpecaaKAffineMoments2
import Derived.Test.YtokkabgkjhpecaaKAffineMoments3
import Derived.Test.YtokkabgkjhpecaaKAffineMoments4
import Derived.Test.YtokkabgkjhpecaaKAffineMoments5
namespace Go.Proofs.Ytokkabgkjhpecaa.Pr
/- Moments: which lists are some, for the program and for the reference; no condition. -/
open Go.RowKit Go.Proofs.YtokkabgkjhpecaaW.PrintWords Go.Proofs.YtokkabgkjhpecaaW.PrintLast Go.Proofs.YtokkabgkjhpecaaW.PrintMore
theorem numbers_l0 (p : Int) (hp : -9223372036854775807 ≤ p) (hp' : p ≤ 9223372036854775807) (l : List Int) (hl : Sm l.length) (d : Nat) : ∀ i, i + d = l.length → Ev (fun k => spec_l02Numbers.l0 k p l (i : Int)) (decide (Nm p (l.drop i))) := by
  induction d with
  | zero =>
    intro i hi
    refine Ev.step (fun k => by rw [spec_l02Numbers.l0]) ?_
    refine Ev.neg (by omega) (Ev.some' ?_)
    rw [List.drop_eq_nil_of_le (by omega)]
    exact (decide_eq_true (Nm.nil p)).symm
  | succ d ih =>
    intro i hi
    refine Ev.step (fun k => by rw [spec_l02Numbers.l0]) ?_
    refine Ev.pos (by omega) (Ev.pos (by omega) (Ev.bindE (in_eq _ _ _) ?_))
    rw [rd_nat, wrap_id (x := p - 1) (by omega) (by omega), wsucc (i := i) (n := l.length) (by omega) (by unfold Sm at hl; omega)]
    by_cases h : 0 ≤ l.getD i 0 ∧ l.getD i 0 ≤ p - 1
    · refine Ev.pos (decide_eq_true h) (Ev.cast (ih (i + 1) (by omega)) ?_)
      apply decide_eq_decide.2
      rw [Nm_drop (by omega : i < l.length)]
      exact ⟨fun g => ⟨⟨h.1, by omega⟩, g⟩, fun g => g.2⟩
    · refine Ev.neg (by simpa using h) (Ev.some' (decide_eq_false ?_).symm)
      rw [Nm_drop (by omega : i < l.length)]
      exact fun g => h ⟨g.1.1, by omega⟩
theorem numbers_ev {p : Int} (hp : Pm p) (l : List Int) (hl : Sm l.length) : Ev (fun k => spec_l02Numbers.f k p l) (decide (Nm p l)) := by
  unfold spec_l02Numbers.f
  have h2 := hp.two
  have ht := hp.top
  simpa using numbers_l0 p (by omega) (by omega) l hl l.length 0 (by omega)

/-! ### moments -/
def momB (p : Int) (l : List Int) : Bool := primeB p && (decide (1 ≤ l.length ∧ l.length ≤ 24) && decide (Nm p l))
theorem momB.pm {p : Int} {l : List Int} (h : momB p l = true) : Pm p := by
  simp only [momB, Bool.and_eq_true] at h; exact primeB.pm h.1
theorem momB.nm {p : Int} {l : List Int} (h : momB p l = true) : Nm p l := by
  simp only [momB, Bool.and_eq_true, decide_eq_true_eq] at h; exact h.2.2
theorem momB.len {p : Int} {l : List Int} (h : momB p l = true) : 1 ≤ l.length ∧ l.length ≤ 24 := by
  simp only [momB, Bool.and_eq_true, decide_eq_true_eq] at h; exact h.2.1
theorem momB.prime {p : Int} {l : List Int} (h : momB p l = true) : primeB p = true := by
  simp only [momB, Bool.and_eq_true] at h; exact h.1
theorem specAre_ev (p : Int) (l : List Int) (hl : Sm l.length) : Ev (fun k => spec_l02Are.f k p l) (momB p l) := by
  unfold spec_l02Are.f momB
  refine Ev.bind (specPrime_ev p) ?_
  by_cases hp : primeB p = true
  · rw [hp, Bool.true_and]
    refine Ev.pos rfl ?_
    by_cases h1 : 1 ≤ l.length
    · refine Ev.pos (by omega) ?_
      by_cases h2 : l.length ≤ 24
      · refine Ev.pos (by omega) (Ev.bind (numbers_ev (primeB.pm hp) l hl) (Ev.some' ?_))
        rw [decide_eq_true (⟨h1, h2⟩ : 1 ≤ l.length ∧ l.length ≤ 24), Bool.true_and]
      · exact Ev.neg (by omega) (Ev.some' (by simp [h2]))
    · exact Ev.neg (by omega) (Ev.some' (by simp [h1]))
  · rw [Bool.eq_false_iff.2 hp, Bool.false_and]
    exact Ev.neg (by simp) (Ev.now _)
theorem implAre_ev (p : Int) (l : List Int) (hl : Sm l.length) : Ev (fun k => impl_AreMoments.f k p l) (momB p l) := by
  unfold impl_AreMoments.f momB
  refine Ev.bind (implPrime_ev p) ?_
  by_cases hp : primeB p = true
  · rw [hp, Bool.true_and]
    refine Ev.pos rfl (Ev.bindE (a := (l.length : Int)) rfl (Ev.bindE (within_eq _ _ _) ?_))
    by_cases h : 1 ≤ l.length ∧ l.length ≤ 24
    · refine Ev.pos (decide_eq_true (by omega)) (Ev.bindE (a := p) rfl (Ev.bindE (areAll_has p l (by unfold Sm at hl; omega)) (Ev.some' ?_)))
      rw [decide_eq_true h, Bool.true_and]
    · refine Ev.neg (by simp; omega) (Ev.some' ?_)
      rw [decide_eq_false h, Bool.false_and]
  · rw [Bool.eq_false_iff.2 hp, Bool.false_and]
    exact Ev.neg (by simp) (Ev.now _)
theorem momentsCode_ev (p : Int) (l : List Int) (hl : Sm l.length) (b : Bool) (ls : List (List Int)) (hs : Sm ls.length) (hls : ∀ l ∈ ls, Sm l.length) :
    Ev (fun k => impl_momentsCode.f k p l b ls) (if momB p l && ls.all (polyB p) then (if b then 0 else 2) else 1) := by
  unfold impl_momentsCode.f
  refine Ev.bind (implAre_ev p l hl) ?_
  by_cases h : momB p l = true
  · rw [h, Bool.true_and]
    refine Ev.pos rfl (Ev.bind (polyCode_ev p b ls hs hls) (Ev.some' ?_))
    rw [momB.prime h, Bool.true_and]
  · rw [Bool.eq_false_iff.2 h, Bool.false_and]
    exact Ev.neg (by simp) (Ev.some' rfl)
/- What the functional makes of a polynomial: one sum modulo p, in the program and in the reference. -/
/-- The functional at f times x^s. -/
def applyM (p : Int) (m f : List Int) (s : Nat) : Int := sumTo (fun j => f.getD j 0 * m.getD (j + s) 0) f.length % p

theorem specApply_l0 {p : Int} (hp : Pm p) (m f : List Int) (hm : Nm p m) (hf : Nm p f) (s : Nat) (hs : f.length + s ≤ m.length ∨ f = []) (hl : Sm f.length) (hss : Sm s) (d : Nat) : ∀ i, i + d = f.length →
    Ev (fun k => spec_l02Apply.l0 k f (s : Int) (sumTo (fun j => f.getD j 0 * m.getD (j + s) 0) i % p) (i : Int) p m) (applyM p m f s) := by
  induction d with
  | zero =>
    intro i hi
    refine Ev.step (fun k => by rw [spec_l02Apply.l0]) ?_
    refine Ev.neg (by omega) (Ev.some' ?_)
    unfold applyM
    rw [show i = f.length from by omega]
  | succ d ih =>
    intro i hi
    have hs' : f.length + s ≤ m.length := by
      rcases hs with h | h
      · exact h
      · rw [h] at hi; simp at hi
    unfold Sm at hl hss
    have h1 := hf.get (i := i) (by omega)
    have h2 := hm.get (i := i + s) (by omega)
    have h3 := mulP hp h1.1 h1.2 h2.1 h2.2
    have h4 := emodB hp.pos (sumTo (fun j => f.getD j 0 * m.getD (j + s) 0) i)
    have ht := hp.top
    refine Ev.step (fun k => by rw [spec_l02Apply.l0]) ?_
    refine Ev.pos (by omega) (Ev.pos (by omega) ?_)
    rw [wadd (i := i) (j := s) (n := i + s + 1) (by omega) (by omega)]
    refine Ev.pos (by omega) (Ev.pos (by omega) (Ev.neg hp.ne ?_))
    rw [rd_nat, rd_nat, wrap_id (x := f.getD i 0 * m.getD (i + s) 0) (by omega) (by omega), wrap_id (by omega) (by omega), tmod_pos (by omega), Int.emod_add_emod, wsucc (i := i) (n := f.length) (by omega) (by omega)]
    exact ih (i + 1) (by omega)
theorem specApply_ev {p : Int} (hp : Pm p) (m f : List Int) (hm : Nm p m) (hf : Nm p f) (s : Nat) (hs : f.length + s ≤ m.length ∨ f = []) (hl : Sm f.length) (hss : Sm s) :
    Ev (fun k => spec_l02Apply.f k p m f (s : Int)) (applyM p m f s) := by
  unfold spec_l02Apply.f
  have h := specApply_l0 hp m f hm hf s hs hl hss f.length 0 (by omega)
  simpa [sumTo] using h

theorem implApply_l0 {p : Int} (hp : Pm p) (m f : List Int) (hm : Nm p m) (hf : Nm p f) (hs : f.length ≤ m.length) (hl : Sm f.length) (d : Nat) : ∀ i, i + d = f.length →
    Ev (fun k => impl_Moments_apply.l0 k (sumTo (fun j => f.getD j 0 * m.getD j 0) i % p) f (f.length : Int) (i : Int) p m) (applyM p m f 0) := by
  induction d with
  | zero =>
    intro i hi
    refine Ev.step (fun k => by rw [impl_Moments_apply.l0]) ?_
    refine Ev.neg (by omega) (Ev.some' ?_)
    unfold applyM
    rw [show i = f.length from by omega]
    rfl
  | succ d ih =>
    intro i hi
    unfold Sm at hl
    have h1 := hf.get (i := i) (by omega)
    have h2 := hm.get (i := i) (by omega)
    have h3 := mulP hp h1.1 h1.2 h2.1 h2.2
    have h4 := emodB hp.pos (sumTo (fun j => f.getD j 0 * m.getD j 0) i)
    have ht := hp.top
    refine Ev.step (fun k => by rw [impl_Moments_apply.l0]) ?_
    refine Ev.pos (by omega) (Ev.pos (by omega) (Ev.pos (by omega) (Ev.bindE (a := p) rfl (Ev.pos (by omega) (Ev.bindE (mod_eq hp _) ?_)))))
    rw [rd_nat, rd_nat, wrap_id (x := f.getD i 0 * m.getD i 0) (by omega) (by omega), wrap_id (by omega) (by omega), Int.emod_add_emod, wsucc (i := i) (n := f.length) (by omega) (by omega)]
    exact ih (i + 1) (by omega)
theorem implApply_ev {p : Int} (hp : Pm p) (m f : List Int) (hm : Nm p m) (hf : Nm p f) (hs : f.length ≤ m.length) (hl : Sm f.length) :
    Ev (fun k => impl_Moments_apply.f k p m f) (applyM p m f 0) := by
  unfold impl_Moments_apply.f
  have h := implApply_l0 hp m f hm hf hs hl f.length 0 (by omega)
  simpa [sumTo] using h
theorem getD_drop (m : List Int) (i j : Nat) : (m.drop i).getD j 0 = m.getD (j + i) 0 := by
  rw [List.getD_eq_getElem?_getD, List.getD_eq_getElem?_getD, List.getElem?_drop, Nat.add_comm]
theorem applyM_drop (p : Int) (m f : List Int) (i s : Nat) : applyM p (m.drop i) f s = applyM p m f (s + i) := by
  unfold applyM
  congr 2
  funext j
  rw [getD_drop, Nat.add_assoc]
/- Lists without noughts at their end; no condition. -/
theorem smod_eq {p : Int} (hp : Pm p) (x : Int) : spec_l01Mod.f p x = some (x % p) := by
  unfold spec_l01Mod.f
  rw [if_neg hp.ne, go_mod hp]

/-! ### noughts at the end -/
theorem getD_snoc (l : List Int) (x : Int) (m : List Int) : ((l ++ [x]) ++ m).getD l.length 0 = x := by
  rw [List.append_assoc, List.getD_eq_getElem?_getD, List.getElem?_append_right (Nat.le_refl _), Nat.sub_self]; rfl
theorem implTrim_l0 (l : List Int) : Sm l.length → Ev (fun k => impl_trimmed.l0 k l) (trim l) := by
  induction l using snocInd with
  | h0 =>
    intro _
    refine Ev.step (fun k => by rw [impl_trimmed.l0]) ?_
    exact Ev.neg (by simp) (Ev.now _)
  | h1 l x ih =>
    intro hl
    have hn : (l ++ [x]).length = l.length + 1 := by simp
    rw [hn] at hl
    unfold Sm at hl
    have e : wrap64 (((l ++ [x]).length : Int) - 1) = (l.length : Int) := by rw [hn, wrap_id (by omega) (by omega)]; omega
    have er : rd (l ++ [x]) (l.length : Int) = x := by
      rw [rd_nat]; have := getD_snoc l x []; rwa [List.append_nil] at this
    refine Ev.step (fun k => by rw [impl_trimmed.l0]) ?_
    rw [e, er]
    refine Ev.pos (by omega) (Ev.pos (by omega) (Ev.pos (by omega) ?_))
    by_cases hx : x = 0
    · refine Ev.pos hx (Ev.pos (by omega) ?_)
      rw [toNat_nat, List.take_left, hx, trim_snoc_zero]
      exact ih (by unfold Sm; omega)
    · refine Ev.neg hx (Ev.some' ?_)
      rw [trim_snoc l hx]
theorem implTrim_ev (l : List Int) (hl : Sm l.length) : Ev (fun k => impl_trimmed.f k l) (trim l) := by
  unfold impl_trimmed.f
  exact implTrim_l0 l hl
theorem specTrim_l0 (l : List Int) : ∀ m : List Int, Sm (l ++ m).length → Ev (fun k => spec_l01Trim.l0 k (l ++ m) (l.length : Int)) (trim l) := by
  induction l using snocInd with
  | h0 =>
    intro m hl
    refine Ev.step (fun k => by rw [spec_l01Trim.l0]) ?_
    refine Ev.neg (by simp) (Ev.pos (by simp) (Ev.pos (by simp) (Ev.bindE (own_eq _ (hl.take _)) (Ev.some' ?_))))
    simp [trim_nil]
  | h1 l x ih =>
    intro m hl
    have hn : (l ++ [x]).length = l.length + 1 := by simp
    have hl' := hl
    rw [List.length_append, hn] at hl'
    have hm : (l ++ [x] ++ m).length = l.length + 1 + m.length := by rw [List.length_append, hn]
    unfold Sm at hl'
    have e : wrap64 (((l ++ [x]).length : Int) - 1) = (l.length : Int) := by rw [hn, wrap_id (by omega) (by omega)]; omega
    have er : rd ((l ++ [x]) ++ m) (l.length : Int) = x := by
      rw [rd_nat]; exact getD_snoc l x m
    refine Ev.step (fun k => by rw [spec_l01Trim.l0]) ?_
    rw [e, er]
    refine Ev.pos (by omega) (Ev.pos (by omega) (Ev.pos (by omega) ?_))
    by_cases hx : x = 0
    · refine Ev.pos hx ?_
      have := ih ([x] ++ m) (by rw [← List.append_assoc]; exact hl)
      rw [← List.append_assoc] at this
      rw [hx, trim_snoc_zero]
      rw [hx] at this
      exact this
    · refine Ev.neg hx (Ev.pos (by omega) (Ev.pos (by omega) (Ev.bindE (own_eq _ (hl.take _)) (Ev.some' ?_))))
      rw [toNat_nat, List.take_left, trim_snoc l hx]
theorem specTrim_ev (l : List Int) (hl : Sm l.length) : Ev (fun k => spec_l01Trim.f k l) (trim l) := by
  unfold spec_l01Trim.f
  have := specTrim_l0 l [] (by rw [List.append_nil]; exact hl)
  rwa [List.append_nil] at this
theorem trim_len (l : List Int) : (trim l).length ≤ l.length := by
  obtain ⟨n, h⟩ := trim_sub l
  have := congrArg List.length h
  rw [List.length_append] at this
  omega
theorem Nm.trim {p : Int} {l : List Int} (h : Nm p l) : Nm p (trim l) := by
  obtain ⟨n, e⟩ := trim_sub l
  intro x hx
  refine h x ?_
  rw [e]
  exact List.mem_append_left _ hx
/- Products of polynomials modulo p; no condition. -/
/-! ### products -/
def mulIn (p c : Int) (g : List Int) (i : Nat) : Nat → Nat → List Int → List Int
  | 0, _, o => o
  | d + 1, j, o => mulIn p c g i d (j + 1) (o.set (i + j) ((o.getD (i + j) 0 + c * g.getD j 0) % p))
theorem mulIn_len (p c : Int) (g : List Int) (i d : Nat) : ∀ j o, (mulIn p c g i d j o).length = o.length := by
  induction d with
  | zero => intro j o; rfl
  | succ d ih => intro j o; rw [mulIn, ih, List.length_set]
theorem mulIn_nm {p : Int} (hp : 0 < p) (c : Int) (g : List Int) (i d : Nat) : ∀ j o, Nm p o → Nm p (mulIn p c g i d j o) := by
  induction d with
  | zero => intro j o h; exact h
  | succ d ih => intro j o h; exact ih _ _ (h.set (emodB hp _).1 (emodB hp _).2 _)
def mulOut (p : Int) (f g : List Int) : Nat → Nat → List Int → List Int
  | 0, _, o => o
  | d + 1, i, o => mulOut p f g d (i + 1) (mulIn p (f.getD i 0) g i g.length 0 o)
theorem mulOut_len (p : Int) (f g : List Int) (d : Nat) : ∀ i o, (mulOut p f g d i o).length = o.length := by
  induction d with
  | zero => intro i o; rfl
  | succ d ih => intro i o; rw [mulOut, ih, mulIn_len]
theorem mulOut_nm {p : Int} (hp : 0 < p) (f g : List Int) (d : Nat) : ∀ i o, Nm p o → Nm p (mulOut p f g d i o) := by
  induction d with
  | zero => intro i o h; exact h
  | succ d ih => intro i o h; exact ih _ _ (mulIn_nm hp _ _ _ _ _ _ h)
/-- f times g. -/
def pmul (p : Int) (f g : List Int) : List Int := if f.length = 0 ∨ g.length = 0 then [] else trim (mulOut p f g f.length 0 (List.replicate (f.length + g.length - 1) 0))
theorem pmul_len (p : Int) (f g : List Int) : (pmul p f g).length ≤ f.length + g.length - 1 := by
  unfold pmul
  split
  · simp
  · have := trim_len (mulOut p f g f.length 0 (List.replicate (f.length + g.length - 1) 0))
    rw [mulOut_len, List.length_replicate] at this
    exact this
theorem pmul_nm {p : Int} (hp : 0 < p) (f g : List Int) : Nm p (pmul p f g) := by
  unfold pmul
  split
  · exact Nm.nil p
  · exact (mulOut_nm hp _ _ _ _ _ (Nm.zeros hp _)).trim
theorem implMul1 {p : Int} (hp : Pm p) (f g : List Int) (hg : Nm p g) (c : Int) (hc : 0 ≤ c ∧ c < p) (i : Nat) (r : List Int) (d : Nat) : ∀ (j : Nat) (o : List Int), j + d = g.length → i + g.length ≤ o.length → Nm p o → Sm o.length →
    Ev (fun n => impl_field_product.l0 n p g (mulIn p c g i d j o) f (f.length : Int) (wrap64 ((i : Int) + 1))) r →
    Ev (fun n => impl_field_product.l1 n p g o (i : Int) c f (f.length : Int) (i : Int) g (g.length : Int) (j : Int)) r := by
  induction d with
  | zero =>
    intro j o hj hl ho hs e
    refine Ev.step (fun n => by rw [impl_field_product.l1]) ?_
    exact Ev.neg (by omega) e
  | succ d ih =>
    intro j o hj hl ho hs e
    have h1 := ho.get (i := i + j) (by omega)
    have h2 := hg.get (i := j) (by omega)
    have h3 := mulP hp hc.1 hc.2 h2.1 h2.2
    have ht := hp.top
    have hm := emodB hp.pos (o.getD (i + j) 0 + c * g.getD j 0)
    have hs' := hs
    unfold Sm at hs'
    have hw : wrap64 ((i : Int) + (j : Int)) = ((i + j : Nat) : Int) := wadd (n := o.length) (by omega) (by omega)
    refine Ev.step (fun n => by rw [impl_field_product.l1]) ?_
    rw [hw]
    have c1 : (j : Int) < (g.length : Int) := by clear h1 h2 h3 hm hw e; omega
    have c2 : (0 : Int) ≤ (j : Int) := by clear h1 h2 h3 hm hw e; omega
    have c3 : (0 : Int) ≤ ((i + j : Nat) : Int) := by clear h1 h2 h3 hm hw e; omega
    have c4 : ((i + j : Nat) : Int) < (o.length : Int) := by clear h1 h2 h3 hm hw e; omega
    refine Ev.pos c1 (Ev.pos c2 (Ev.pos c1 (Ev.pos c3 (Ev.pos c4 ?_))))
    rw [rd_nat, rd_nat, wrap_id (x := c * g.getD j 0) (by omega) (by omega), wrap_id (by omega) (by omega)]
    refine Ev.bindE (mod_eq hp _) ?_
    rw [wsucc (i := j) (n := g.length) (by clear h1 h2 h3 hm hw e; omega) (by clear h1 h2 h3 hm hw e; omega), toNat_nat]
    exact ih (j + 1) _ (by clear h1 h2 h3 hm hw e; omega) (by rw [List.length_set]; clear h1 h2 h3 hm hw e; omega) (ho.set hm.1 hm.2 _) (by rw [List.length_set]; exact hs) e
theorem implMul0 {p : Int} (hp : Pm p) (f g : List Int) (hf : Nm p f) (hg : Nm p g) (d : Nat) : ∀ (i : Nat) (o : List Int), i + d = f.length → f.length + g.length ≤ o.length + 1 → Nm p o → Sm o.length →
    Ev (fun n => impl_field_product.l0 n p g o f (f.length : Int) (i : Int)) (trim (mulOut p f g d i o)) := by
  induction d with
  | zero =>
    intro i o hi hl ho hs
    refine Ev.step (fun n => by rw [impl_field_product.l0]) ?_
    exact Ev.neg (by omega) (Ev.bind (implTrim_ev o hs) (Ev.now _))
  | succ d ih =>
    intro i o hi hl ho hs
    have hs' := hs
    unfold Sm at hs'
    refine Ev.step (fun n => by rw [impl_field_product.l0]) ?_
    refine Ev.pos (by omega) (Ev.pos (by omega) (Ev.pos (by omega) ?_))
    rw [rd_nat]
    refine implMul1 hp f g hg _ (hf.get (i := i) (by omega)) i _ g.length 0 o (by omega) (by omega) ho hs ?_
    by_cases hg0 : f.length ≤ 4611686018427387903
    · rw [wsucc (i := i) (n := f.length) (by omega) (by omega)]
      exact ih (i + 1) _ (by omega) (by rw [mulIn_len]; exact hl) (mulIn_nm hp.pos _ _ _ _ _ _ ho) (by rw [mulIn_len]; exact hs)
    · omega
theorem implMul_ev {p : Int} (hp : Pm p) (f g : List Int) (hf : Nm p f) (hg : Nm p g) (sf : Sm f.length) (sg : Sm g.length) (sfg : Sm (f.length + g.length)) :
    Ev (fun n => impl_field_product.f n p f g) (pmul p f g) := by
  unfold impl_field_product.f pmul
  unfold Sm at sf sg sfg
  by_cases h1 : f.length = 0
  · rw [if_pos (Or.inl h1)]
    refine Ev.pos (by omega) ?_
    refine Ev.step (fun n => by rw [impl_field_product.j0]) ?_
    exact Ev.pos rfl (Ev.now _)
  · refine Ev.neg (by omega) ?_
    by_cases h2 : g.length = 0
    · rw [if_pos (Or.inr h2), show ((g.length : Int) == 0) = true from by simp [h2]]
      refine Ev.step (fun n => by rw [impl_field_product.j0]) ?_
      exact Ev.pos rfl (Ev.now _)
    · rw [if_neg (by omega), show ((g.length : Int) == 0) = false from by simp; exact fun h => h2 (by simp [h])]
      refine Ev.step (fun n => by rw [impl_field_product.j0]) ?_
      have e : wrap64 (wrap64 ((f.length : Int) + (g.length : Int)) - 1) = ((f.length + g.length - 1 : Nat) : Int) := by
        rw [wrap_id (x := (f.length : Int) + (g.length : Int)) (by omega) (by omega), wrap_id (by omega) (by omega)]; omega
      rw [e, toNat_nat]
      refine Ev.neg (by decide) (Ev.pos (by omega) (Ev.pos (by omega) ?_))
      exact implMul0 hp f g hf hg f.length 0 _ (by omega) (by rw [List.length_replicate]; omega) (Nm.zeros hp.pos _) (by rw [List.length_replicate]; unfold Sm; omega)
theorem specMul1 {p : Int} (hp : Pm p) (f g : List Int) (hf : Nm p f) (hg : Nm p g) (i : Nat) (hi : i < f.length) (r : List Int) (d : Nat) : ∀ (j : Nat) (o : List Int), j + d = g.length → i + g.length ≤ o.length → Nm p o → Sm o.length →
    Ev (fun n => spec_l01Times.l0 n p f g (mulIn p (f.getD i 0) g i d j o) (wrap64 ((i : Int) + 1))) r →
    Ev (fun n => spec_l01Times.l1 n p f g o (i : Int) (j : Int)) r := by
  induction d with
  | zero =>
    intro j o hj hl ho hs e
    refine Ev.step (fun n => by rw [spec_l01Times.l1]) ?_
    exact Ev.neg (by omega) e
  | succ d ih =>
    intro j o hj hl ho hs e
    have hc := hf.get (i := i) hi
    have h1 := ho.get (i := i + j) (by omega)
    have h2 := hg.get (i := j) (by omega)
    have h3 := mulP hp hc.1 hc.2 h2.1 h2.2
    have ht := hp.top
    have hm := emodB hp.pos (o.getD (i + j) 0 + f.getD i 0 * g.getD j 0)
    have hs' := hs
    unfold Sm at hs'
    have hw : wrap64 ((i : Int) + (j : Int)) = ((i + j : Nat) : Int) := wadd (n := o.length) (by omega) (by omega)
    refine Ev.step (fun n => by rw [spec_l01Times.l1]) ?_
    rw [hw]
    have c1 : (j : Int) < (g.length : Int) := by clear h1 h2 h3 hm hw e; omega
    have c2 : (0 : Int) ≤ (j : Int) := by clear h1 h2 h3 hm hw e; omega
    have c3 : (0 : Int) ≤ ((i + j : Nat) : Int) := by clear h1 h2 h3 hm hw e; omega
    have c4 : ((i + j : Nat) : Int) < (o.length : Int) := by clear h1 h2 h3 hm hw e; omega
    have c5 : (0 : Int) ≤ (i : Int) := by clear h1 h2 h3 hm hw e; omega
    have c6 : (i : Int) < (f.length : Int) := by clear h1 h2 h3 hm hw e; omega
    refine Ev.pos c1 (Ev.pos c3 (Ev.pos c4 (Ev.pos c5 (Ev.pos c6 (Ev.pos c2 (Ev.neg hp.ne ?_))))))
    rw [rd_nat, rd_nat, rd_nat, wrap_id (x := f.getD i 0 * g.getD j 0) (by omega) (by omega), wrap_id (by omega) (by omega), tmod_pos (by omega), wsucc (i := j) (n := g.length) (by clear h1 h2 h3 hm hw e; omega) (by clear h1 h2 h3 hm hw e; omega), toNat_nat]
    exact ih (j + 1) _ (by clear h1 h2 h3 hm hw e; omega) (by rw [List.length_set]; clear h1 h2 h3 hm hw e; omega) (ho.set hm.1 hm.2 _) (by rw [List.length_set]; exact hs) e
theorem specMul0 {p : Int} (hp : Pm p) (f g : List Int) (hf : Nm p f) (hg : Nm p g) (d : Nat) : ∀ (i : Nat) (o : List Int), i + d = f.length → f.length + g.length ≤ o.length + 1 → Nm p o → Sm o.length →
    Ev (fun n => spec_l01Times.l0 n p f g o (i : Int)) (trim (mulOut p f g d i o)) := by
  induction d with
  | zero =>
    intro i o hi hl ho hs
    refine Ev.step (fun n => by rw [spec_l01Times.l0]) ?_
    exact Ev.neg (by omega) (Ev.bind (specTrim_ev o hs) (Ev.now _))
  | succ d ih =>
    intro i o hi hl ho hs
    have hs' := hs
    unfold Sm at hs'
    refine Ev.step (fun n => by rw [spec_l01Times.l0]) ?_
    refine Ev.pos (by omega) ?_
    refine specMul1 hp f g hf hg i (by omega) _ g.length 0 o (by omega) (by omega) ho hs ?_
    by_cases hg0 : f.length ≤ 4611686018427387903
    · rw [wsucc (i := i) (n := f.length) (by omega) (by omega)]
      exact ih (i + 1) _ (by omega) (by rw [mulIn_len]; exact hl) (mulIn_nm hp.pos _ _ _ _ _ _ ho) (by rw [mulIn_len]; exact hs)
    · omega
theorem specMul_ev {p : Int} (hp : Pm p) (f g : List Int) (hf : Nm p f) (hg : Nm p g) (sf : Sm f.length) (sg : Sm g.length) (sfg : Sm (f.length + g.length)) :
    Ev (fun n => spec_l01Times.f n p f g) (pmul p f g) := by
  unfold spec_l01Times.f pmul
  unfold Sm at sf sg sfg
  by_cases h1 : f.length = 0
  · rw [if_pos (Or.inl h1)]
    refine Ev.pos (by omega) ?_
    refine Ev.step (fun n => by rw [spec_l01Times.j0]) ?_
    exact Ev.pos rfl (Ev.now _)
  · refine Ev.neg (by omega) ?_
    by_cases h2 : g.length = 0
    · rw [if_pos (Or.inr h2), show ((g.length : Int) == 0) = true from by simp [h2]]
      refine Ev.step (fun n => by rw [spec_l01Times.j0]) ?_
      exact Ev.pos rfl (Ev.now _)
    · rw [if_neg (by omega), show ((g.length : Int) == 0) = false from by simp; exact fun h => h2 (by simp [h])]
      refine Ev.step (fun n => by rw [spec_l01Times.j0]) ?_
      have e : wrap64 (wrap64 ((f.length : Int) + (g.length : Int)) - 1) = ((f.length + g.length - 1 : Nat) : Int) := by
        rw [wrap_id (x := (f.length : Int) + (g.length : Int)) (by omega) (by omega), wrap_id (by omega) (by omega)]; omega
      rw [e, toNat_nat]
      refine Ev.neg (by decide) (Ev.pos (by omega) (Ev.pos (by omega) ?_))
      exact specMul0 hp f g hf hg f.length 0 _ (by omega) (by rw [List.length_replicate]; omega) (Nm.zeros hp.pos _) (by rw [List.length_replicate]; unfold Sm; omega)
end Go.Proofs.Ytokkabgkjhpecaa.Pr
