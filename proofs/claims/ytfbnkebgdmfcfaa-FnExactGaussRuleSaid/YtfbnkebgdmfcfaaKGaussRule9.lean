/- Texts of this session in one: what functions of the program compute, and plain facts of it, under the conditions that each theorem names. -/
import Derived.Deep.RegionHeld
import Derived.RangeFuncBound
import Derived.RangeFuncCalls
import Derived.RangeFuncFrom
import Derived.Test.YtfbnkebgdmfcfaaKGaussRule1
import Derived.Test.YtfbnkebgdmfcfaaKGaussRule2
import Derived.Test.YtfbnkebgdmfcfaaKGaussRule3
import Derived.Test.YtfbnkebgdmfcfaaKGaussRule5
import Derived.Test.YtfbnkebgdmfcfaaKGaussRule6
import Derived.Test.YtfbnkebgdmfcfaaKGaussRule8
namespace Go.Proofs.Ytfbnkebgdmfcfaa.Pr
/- Products of polynomials modulo p; no condition. -/
open Go.RowKit Go.Proofs.YtfbnkebgdmfcfaaW.PrintWords Go.Proofs.YtfbnkebgdmfcfaaW.PrintLast Go.Proofs.YtfbnkebgdmfcfaaW.PrintMore
/-! ### products -/
def mulIn (p c : Int) (g : List Int) (i : Nat) : Nat → Nat → List Int → List Int
  | 0, _, o => o
  | d + 1, j, o => mulIn p c g i d (j + 1) (o.set (i + j) ((o.getD (i + j) 0 + c * g.getD j 0) % p))
theorem mulIn_len (p c : Int) (g : List Int) (i d : Nat) : ∀ j o, (mulIn p c g i d j o).length = o.length := by
  induction d with
  | zero => intro j o; rfl
  | succ d ih => intro j o; rw [mulIn, ih, List.length_set]
theorem mulIn_nm {p : Int} (hp : 0 < p) (c : Int) (g : List Int) (i d : Nat) : ∀ j o, Nm p o → Nm p (mulIn p c g i d j o) := by
  induction d with
  | zero => intro j o h; exact h
  | succ d ih => intro j o h; exact ih _ _ (h.set (emodB hp _).1 (emodB hp _).2 _)
def mulOut (p : Int) (f g : List Int) : Nat → Nat → List Int → List Int
  | 0, _, o => o
  | d + 1, i, o => mulOut p f g d (i + 1) (mulIn p (f.getD i 0) g i g.length 0 o)
theorem mulOut_len (p : Int) (f g : List Int) (d : Nat) : ∀ i o, (mulOut p f g d i o).length = o.length := by
  induction d with
  | zero => intro i o; rfl
  | succ d ih => intro i o; rw [mulOut, ih, mulIn_len]
theorem mulOut_nm {p : Int} (hp : 0 < p) (f g : List Int) (d : Nat) : ∀ i o, Nm p o → Nm p (mulOut p f g d i o) := by
  induction d with
  | zero => intro i o h; exact h
  | succ d ih => intro i o h; exact ih _ _ (mulIn_nm hp _ _ _ _ _ _ h)
/-- f times g. -/
def pmul (p : Int) (f g : List Int) : List Int := if f.length = 0 ∨ g.length = 0 then [] else trim (mulOut p f g f.length 0 (List.replicate (f.length + g.length - 1) 0))
theorem pmul_len (p : Int) (f g : List Int) : (pmul p f g).length ≤ f.length + g.length - 1 := by
  unfold pmul
  split
  · simp
  · have := trim_len (mulOut p f g f.length 0 (List.replicate (f.length + g.length - 1) 0))
    rw [mulOut_len, List.length_replicate] at this
    exact this
theorem pmul_nm {p : Int} (hp : 0 < p) (f g : List Int) : Nm p (pmul p f g) := by
  unfold pmul
  split
  · exact Nm.nil p
  · exact (mulOut_nm hp _ _ _ _ _ (Nm.zeros hp _)).trim
theorem implMul1 {p : Int} (hp : Pm p) (f g : List Int) (hg : Nm p g) (c : Int) (hc : 0 ≤ c ∧ c < p) (i : Nat) (r : List Int) (d : Nat) : ∀ (j : Nat) (o : List Int), j + d = g.length → i + g.length ≤ o.length → Nm p o → Sm o.length →
    Ev (fun n => impl_field_product.l0 n p g (mulIn p c g i d j o) f (f.length : Int) (wrap64 ((i : Int) + 1))) r →
    Ev (fun n => impl_field_product.l1 n p g o (i : Int) c f (f.length : Int) (i : Int) g (g.length : Int) (j : Int)) r := by
  induction d with
  | zero =>
    intro j o hj hl ho hs e
    refine Ev.step (fun n => by rw [impl_field_product.l1]) ?_
    exact Ev.neg (by omega) e
  | succ d ih =>
    intro j o hj hl ho hs e
    have h1 := ho.get (i := i + j) (by omega)
    have h2 := hg.get (i := j) (by omega)
    have h3 := mulP hp hc.1 hc.2 h2.1 h2.2
    have ht := hp.top
    have hm := emodB hp.pos (o.getD (i + j) 0 + c * g.getD j 0)
    have hs' := hs
    unfold Sm at hs'
    have hw : wrap64 ((i : Int) + (j : Int)) = ((i + j : Nat) : Int) := wadd (n := o.length) (by omega) (by omega)
    refine Ev.step (fun n => by rw [impl_field_product.l1]) ?_
    rw [hw]
    have c1 : (j : Int) < (g.length : Int) := by clear h1 h2 h3 hm hw e; omega
    have c2 : (0 : Int) ≤ (j : Int) := by clear h1 h2 h3 hm hw e; omega
    have c3 : (0 : Int) ≤ ((i + j : Nat) : Int) := by clear h1 h2 h3 hm hw e; omega
    have c4 : ((i + j : Nat) : Int) < (o.length : Int) := by clear h1 h2 h3 hm hw e; omega
    refine Ev.pos c1 (Ev.pos c2 (Ev.pos c1 (Ev.pos c3 (Ev.pos c4 ?_))))
    rw [rd_nat, rd_nat, wrap_id (x := c * g.getD j 0) (by omega) (by omega), wrap_id (by omega) (by omega)]
    refine Ev.bindE (mod_eq hp _) ?_
    rw [wsucc (i := j) (n := g.length) (by clear h1 h2 h3 hm hw e; omega) (by clear h1 h2 h3 hm hw e; omega), toNat_nat]
    exact ih (j + 1) _ (by clear h1 h2 h3 hm hw e; omega) (by rw [List.length_set]; clear h1 h2 h3 hm hw e; omega) (ho.set hm.1 hm.2 _) (by rw [List.length_set]; exact hs) e
theorem implMul0 {p : Int} (hp : Pm p) (f g : List Int) (hf : Nm p f) (hg : Nm p g) (d : Nat) : ∀ (i : Nat) (o : List Int), i + d = f.length → f.length + g.length ≤ o.length + 1 → Nm p o → Sm o.length →
    Ev (fun n => impl_field_product.l0 n p g o f (f.length : Int) (i : Int)) (trim (mulOut p f g d i o)) := by
  induction d with
  | zero =>
    intro i o hi hl ho hs
    refine Ev.step (fun n => by rw [impl_field_product.l0]) ?_
    exact Ev.neg (by omega) (Ev.bind (implTrim_ev o hs) (Ev.now _))
  | succ d ih =>
    intro i o hi hl ho hs
    have hs' := hs
    unfold Sm at hs'
    refine Ev.step (fun n => by rw [impl_field_product.l0]) ?_
    refine Ev.pos (by omega) (Ev.pos (by omega) (Ev.pos (by omega) ?_))
    rw [rd_nat]
    refine implMul1 hp f g hg _ (hf.get (i := i) (by omega)) i _ g.length 0 o (by omega) (by omega) ho hs ?_
    by_cases hg0 : f.length ≤ 4611686018427387903
    · rw [wsucc (i := i) (n := f.length) (by omega) (by omega)]
      exact ih (i + 1) _ (by omega) (by rw [mulIn_len]; exact hl) (mulIn_nm hp.pos _ _ _ _ _ _ ho) (by rw [mulIn_len]; exact hs)
    · omega
theorem implMul_ev {p : Int} (hp : Pm p) (f g : List Int) (hf : Nm p f) (hg : Nm p g) (sf : Sm f.length) (sg : Sm g.length) (sfg : Sm (f.length + g.length)) :
    Ev (fun n => impl_field_product.f n p f g) (pmul p f g) := by
  unfold impl_field_product.f pmul
  unfold Sm at sf sg sfg
  by_cases h1 : f.length = 0
  · rw [if_pos (Or.inl h1)]
    refine Ev.pos (by omega) ?_
    refine Ev.step (fun n => by rw [impl_field_product.j0]) ?_
    exact Ev.pos rfl (Ev.now _)
  · refine Ev.neg (by omega) ?_
    by_cases h2 : g.length = 0
    · rw [if_pos (Or.inr h2), show ((g.length : Int) == 0) = true from by simp [h2]]
      refine Ev.step (fun n => by rw [impl_field_product.j0]) ?_
      exact Ev.pos rfl (Ev.now _)
    · rw [if_neg (by omega), show ((g.length : Int) == 0) = false from by simp; exact fun h => h2 (by simp [h])]
      refine Ev.step (fun n => by rw [impl_field_product.j0]) ?_
      have e : wrap64 (wrap64 ((f.length : Int) + (g.length : Int)) - 1) = ((f.length + g.length - 1 : Nat) : Int) := by
        rw [wrap_id (x := (f.length : Int) + (g.length : Int)) (by omega) (by omega), wrap_id (by omega) (by omega)]; omega
      rw [e, toNat_nat]
      refine Ev.neg (by decide) (Ev.pos (by omega) (Ev.pos (by omega) ?_))
      exact implMul0 hp f g hf hg f.length 0 _ (by omega) (by rw [List.length_replicate]; omega) (Nm.zeros hp.pos _) (by rw [List.length_replicate]; unfold Sm; omega)
theorem specMul1 {p : Int} (hp : Pm p) (f g : List Int) (hf : Nm p f) (hg : Nm p g) (i : Nat) (hi : i < f.length) (r : List Int) (d : Nat) : ∀ (j : Nat) (o : List Int), j + d = g.length → i + g.length ≤ o.length → Nm p o → Sm o.length →
    Ev (fun n => spec_l01Times.l0 n p f g (mulIn p (f.getD i 0) g i d j o) (wrap64 ((i : Int) + 1))) r →
    Ev (fun n => spec_l01Times.l1 n p f g o (i : Int) (j : Int)) r := by
  induction d with
  | zero =>
    intro j o hj hl ho hs e
    refine Ev.step (fun n => by rw [spec_l01Times.l1]) ?_
    exact Ev.neg (by omega) e
  | succ d ih =>
    intro j o hj hl ho hs e
    have hc := hf.get (i := i) hi
    have h1 := ho.get (i := i + j) (by omega)
    have h2 := hg.get (i := j) (by omega)
    have h3 := mulP hp hc.1 hc.2 h2.1 h2.2
    have ht := hp.top
    have hm := emodB hp.pos (o.getD (i + j) 0 + f.getD i 0 * g.getD j 0)
    have hs' := hs
    unfold Sm at hs'
    have hw : wrap64 ((i : Int) + (j : Int)) = ((i + j : Nat) : Int) := wadd (n := o.length) (by omega) (by omega)
    refine Ev.step (fun n => by rw [spec_l01Times.l1]) ?_
    rw [hw]
    have c1 : (j : Int) < (g.length : Int) := by clear h1 h2 h3 hm hw e; omega
    have c2 : (0 : Int) ≤ (j : Int) := by clear h1 h2 h3 hm hw e; omega
    have c3 : (0 : Int) ≤ ((i + j : Nat) : Int) := by clear h1 h2 h3 hm hw e; omega
    have c4 : ((i + j : Nat) : Int) < (o.length : Int) := by clear h1 h2 h3 hm hw e; omega
    have c5 : (0 : Int) ≤ (i : Int) := by clear h1 h2 h3 hm hw e; omega
    have c6 : (i : Int) < (f.length : Int) := by clear h1 h2 h3 hm hw e; omega
    refine Ev.pos c1 (Ev.pos c3 (Ev.pos c4 (Ev.pos c5 (Ev.pos c6 (Ev.pos c2 (Ev.neg hp.ne ?_))))))
    rw [rd_nat, rd_nat, rd_nat, wrap_id (x := f.getD i 0 * g.getD j 0) (by omega) (by omega), wrap_id (by omega) (by omega), tmod_pos (by omega), wsucc (i := j) (n := g.length) (by clear h1 h2 h3 hm hw e; omega) (by clear h1 h2 h3 hm hw e; omega), toNat_nat]
    exact ih (j + 1) _ (by clear h1 h2 h3 hm hw e; omega) (by rw [List.length_set]; clear h1 h2 h3 hm hw e; omega) (ho.set hm.1 hm.2 _) (by rw [List.length_set]; exact hs) e
theorem specMul0 {p : Int} (hp : Pm p) (f g : List Int) (hf : Nm p f) (hg : Nm p g) (d : Nat) : ∀ (i : Nat) (o : List Int), i + d = f.length → f.length + g.length ≤ o.length + 1 → Nm p o → Sm o.length →
    Ev (fun n => spec_l01Times.l0 n p f g o (i : Int)) (trim (mulOut p f g d i o)) := by
  induction d with
  | zero =>
    intro i o hi hl ho hs
    refine Ev.step (fun n => by rw [spec_l01Times.l0]) ?_
    exact Ev.neg (by omega) (Ev.bind (specTrim_ev o hs) (Ev.now _))
  | succ d ih =>
    intro i o hi hl ho hs
    have hs' := hs
    unfold Sm at hs'
    refine Ev.step (fun n => by rw [spec_l01Times.l0]) ?_
    refine Ev.pos (by omega) ?_
    refine specMul1 hp f g hf hg i (by omega) _ g.length 0 o (by omega) (by omega) ho hs ?_
    by_cases hg0 : f.length ≤ 4611686018427387903
    · rw [wsucc (i := i) (n := f.length) (by omega) (by omega)]
      exact ih (i + 1) _ (by omega) (by rw [mulIn_len]; exact hl) (mulIn_nm hp.pos _ _ _ _ _ _ ho) (by rw [mulIn_len]; exact hs)
    · omega
theorem specMul_ev {p : Int} (hp : Pm p) (f g : List Int) (hf : Nm p f) (hg : Nm p g) (sf : Sm f.length) (sg : Sm g.length) (sfg : Sm (f.length + g.length)) :
    Ev (fun n => spec_l01Times.f n p f g) (pmul p f g) := by
  unfold spec_l01Times.f pmul
  unfold Sm at sf sg sfg
  by_cases h1 : f.length = 0
  · rw [if_pos (Or.inl h1)]
    refine Ev.pos (by omega) ?_
    refine Ev.step (fun n => by rw [spec_l01Times.j0]) ?_
    exact Ev.pos rfl (Ev.now _)
  · refine Ev.neg (by omega) ?_
    by_cases h2 : g.length = 0
    · rw [if_pos (Or.inr h2), show ((g.length : Int) == 0) = true from by simp [h2]]
      refine Ev.step (fun n => by rw [spec_l01Times.j0]) ?_
      exact Ev.pos rfl (Ev.now _)
    · rw [if_neg (by omega), show ((g.length : Int) == 0) = false from by simp; exact fun h => h2 (by simp [h])]
      refine Ev.step (fun n => by rw [spec_l01Times.j0]) ?_
      have e : wrap64 (wrap64 ((f.length : Int) + (g.length : Int)) - 1) = ((f.length + g.length - 1 : Nat) : Int) := by
        rw [wrap_id (x := (f.length : Int) + (g.length : Int)) (by omega) (by omega), wrap_id (by omega) (by omega)]; omega
      rw [e, toNat_nat]
      refine Ev.neg (by decide) (Ev.pos (by omega) (Ev.pos (by omega) ?_))
      exact specMul0 hp f g hf hg f.length 0 _ (by omega) (by rw [List.length_replicate]; omega) (Nm.zeros hp.pos _) (by rw [List.length_replicate]; unfold Sm; omega)
/- One step of a recurrence: (x - a) f - b g, and the program's function for it; no condition. -/
/-- (x - a) f - b g. -/
def pnext (p a b : Int) (f g : List Int) : List Int := padd p (pmul p [(-a) % p, 1] f) g ((-b) % p)
theorem pnext_nm {p : Int} (hp : Pm p) (a b : Int) (f g : List Int) : Nm p (pnext p a b f g) := padd_nm hp.pos (pmul_nm hp.pos _ _) _
theorem pnext_len (p a b : Int) (f g : List Int) : (pnext p a b f g).length ≤ max (f.length + 1) g.length := by
  have h1 := padd_len p (pmul p [(-a) % p, 1] f) g ((-b) % p)
  have h2 := pmul_len p [(-a) % p, 1] f
  simp only [List.length_cons, List.length_nil] at h2
  unfold pnext
  omega
theorem two_nm {p : Int} (hp : Pm p) (a : Int) : Nm p [(-a) % p, 1] := by
  have := hp.two
  exact Nm.cons (emodB hp.pos _).1 (emodB hp.pos _).2 (Nm.cons (by omega) (by omega) (Nm.nil p))
theorem neg_wrap {p a : Int} (hp : Pm p) (h : 0 ≤ a ∧ a < p) : wrap64 (-a) = -a := by
  have := hp.top
  exact wrap_id (by omega) (by omega)
theorem implNext_ev {p a b : Int} (hp : Pm p) (ha : 0 ≤ a ∧ a < p) (hb : 0 ≤ b ∧ b < p) (f g : List Int) (hf : Nm p f) (hg : Nm p g) (sf : f.length ≤ 1000) (sg : g.length ≤ 1000) :
    Ev (fun n => impl_field_next.f n p a b f g) (pnext p a b f g) := by
  unfold impl_field_next.f
  have h2 := pmul_len p [(-a) % p, 1] f
  simp only [List.length_cons, List.length_nil] at h2
  rw [neg_wrap hp ha, neg_wrap hp hb]
  refine Ev.bindE (mod_eq hp _) (Ev.bind (implMul_ev hp _ f (two_nm hp a) hf (by simp [Sm]) (by unfold Sm; omega) (by simp only [List.length_cons, List.length_nil]; unfold Sm; omega)) (Ev.bindE (mod_eq hp _) (Ev.bind ?_ (Ev.now _))))
  exact implAdd_ev hp (emodB hp.pos _) _ g (pmul_nm hp.pos _ _) hg (by unfold Sm; omega) (by unfold Sm; omega)
theorem one_nm {p : Int} (hp : Pm p) : Nm p [1] := by
  have := hp.two
  exact Nm.cons (by omega) (by omega) (Nm.nil p)
/- The polynomials of data of recurrences, and the associated ones: what the program and the reference come to; no condition. -/
theorem specStep_ev {p a b : Int} (hp : Pm p) (ha : 0 ≤ a ∧ a < p) (hb : 0 ≤ b ∧ b < p) (f g : List Int) (hf : Nm p f) (hg : Nm p g) (sf : f.length ≤ 1000) (sg : g.length ≤ 1000) :
    Ev (fun n => spec_l03Step.f n p f g a b) (pnext p a b f g) := by
  unfold spec_l03Step.f
  have h2 := pmul_len p [(-a) % p, 1] f
  simp only [List.length_cons, List.length_nil] at h2
  rw [neg_wrap hp ha, neg_wrap hp hb]
  refine Ev.bindE (smod_eq hp _) (Ev.bind (specMul_ev hp _ f (two_nm hp a) hf (by simp [Sm]) (by unfold Sm; omega) (by simp only [List.length_cons, List.length_nil]; unfold Sm; omega)) (Ev.bindE (smod_eq hp _) (Ev.bind ?_ (Ev.now _))))
  exact specAdd_ev hp (emodB hp.pos _) _ g (pmul_nm hp.pos _ _) hg (by unfold Sm; omega) (by unfold Sm; omega)
/-- P(k - 1) and P(k). -/
def pPair (p : Int) (a b : List Int) : Nat → List Int × List Int
  | 0 => ([], [1])
  | k + 1 => ((pPair p a b k).2, pnext p (a.getD k 0) (b.getD k 0) (pPair p a b k).2 (pPair p a b k).1)
/-- Q(k) and Q(k + 1). -/
def qPair (p : Int) (a b : List Int) : Nat → List Int × List Int
  | 0 => ([], [1])
  | k + 1 => ((qPair p a b k).2, pnext p (a.getD (k + 1) 0) (b.getD (k + 1) 0) (qPair p a b k).2 (qPair p a b k).1)
theorem pPair_ok {p : Int} (hp : Pm p) (a b : List Int) (k : Nat) : (Nm p (pPair p a b k).1 ∧ Nm p (pPair p a b k).2) ∧ ((pPair p a b k).1.length ≤ k + 1 ∧ (pPair p a b k).2.length ≤ k + 1) := by
  induction k with
  | zero => exact ⟨⟨Nm.nil p, one_nm hp⟩, by simp [pPair], by simp [pPair]⟩
  | succ k ih =>
    refine ⟨⟨ih.1.2, pnext_nm hp _ _ _ _⟩, by have := ih.2.2; simp only [pPair]; omega, ?_⟩
    have := pnext_len p (a.getD k 0) (b.getD k 0) (pPair p a b k).2 (pPair p a b k).1
    have h := ih.2
    simp only [pPair]
    omega
theorem qPair_ok {p : Int} (hp : Pm p) (a b : List Int) (k : Nat) : (Nm p (qPair p a b k).1 ∧ Nm p (qPair p a b k).2) ∧ ((qPair p a b k).1.length ≤ k + 1 ∧ (qPair p a b k).2.length ≤ k + 1) := by
  induction k with
  | zero => exact ⟨⟨Nm.nil p, one_nm hp⟩, by simp [qPair], by simp [qPair]⟩
  | succ k ih =>
    refine ⟨⟨ih.1.2, pnext_nm hp _ _ _ _⟩, by have := ih.2.2; simp only [qPair]; omega, ?_⟩
    have := pnext_len p (a.getD (k + 1) 0) (b.getD (k + 1) 0) (qPair p a b k).2 (qPair p a b k).1
    have h := ih.2
    simp only [qPair]
    omega

theorem specPoly03_l0 {p : Int} (hp : Pm p) (a b : List Int) (ha : Nm p a) (hb : Nm p b) (n : Nat) (hn : n ≤ a.length) (hl : a.length ≤ 12) (hab : b.length = a.length) (d : Nat) : ∀ i, i + d = n →
    Ev (fun m => spec_l03Poly.l0 m (n : Int) (pPair p a b i).1 (pPair p a b i).2 (i : Int) p a b) (pPair p a b n).2 := by
  induction d with
  | zero =>
    intro i hi
    refine Ev.step (fun m => by rw [spec_l03Poly.l0]) ?_
    refine Ev.neg (by omega) (Ev.some' ?_)
    rw [show i = n from by omega]
  | succ d ih =>
    intro i hi
    have h := pPair_ok hp a b i
    refine Ev.step (fun m => by rw [spec_l03Poly.l0]) ?_
    refine Ev.pos (by omega) (Ev.pos (by omega) (Ev.pos (by omega) (Ev.pos (by omega) ?_)))
    rw [rd_nat, rd_nat]
    refine Ev.bind (specStep_ev hp (ha.get (i := i) (by omega)) (hb.get (i := i) (by omega)) _ _ h.1.2 h.1.1 (by omega) (by omega)) ?_
    rw [wsucc (i := i) (n := n) (by omega) (by omega)]
    exact ih (i + 1) (by omega)
theorem specPoly03_ev {p : Int} (hp : Pm p) (a b : List Int) (ha : Nm p a) (hb : Nm p b) (n : Nat) (hn : n ≤ a.length) (hl : a.length ≤ 12) (hab : b.length = a.length) :
    Ev (fun m => spec_l03Poly.f m p a b (n : Int)) (pPair p a b n).2 := by
  unfold spec_l03Poly.f
  exact specPoly03_l0 hp a b ha hb n hn hl hab n 0 (by omega)
theorem specSecond_l0 {p : Int} (hp : Pm p) (a b : List Int) (ha : Nm p a) (hb : Nm p b) (n : Nat) (hn : n + 1 ≤ a.length) (hl : a.length ≤ 12) (hab : b.length = a.length) (d : Nat) : ∀ i, i + d = n →
    Ev (fun m => spec_l03Second.l0 m ((n + 1 : Nat) : Int) (qPair p a b i).1 (qPair p a b i).2 ((i + 1 : Nat) : Int) p a b) (qPair p a b n).2 := by
  induction d with
  | zero =>
    intro i hi
    refine Ev.step (fun m => by rw [spec_l03Second.l0]) ?_
    refine Ev.neg (by omega) (Ev.some' ?_)
    rw [show i = n from by omega]
  | succ d ih =>
    intro i hi
    have h := qPair_ok hp a b i
    refine Ev.step (fun m => by rw [spec_l03Second.l0]) ?_
    refine Ev.pos (by omega) (Ev.pos (by omega) (Ev.pos (by omega) (Ev.pos (by omega) ?_)))
    rw [rd_nat, rd_nat]
    refine Ev.bind (specStep_ev hp (ha.get (i := i + 1) (by omega)) (hb.get (i := i + 1) (by omega)) _ _ h.1.2 h.1.1 (by omega) (by omega)) ?_
    rw [wsucc (i := i + 1) (n := n + 1) (by omega) (by omega)]
    exact ih (i + 1) (by omega)
/-- Q(k). -/
theorem specSecond_ev {p : Int} (hp : Pm p) (a b : List Int) (ha : Nm p a) (hb : Nm p b) (n : Nat) (hn : n ≤ a.length) (hl : a.length ≤ 12) (hab : b.length = a.length) :
    Ev (fun m => spec_l03Second.f m p a b (n : Int)) (qPair p a b n).1 := by
  unfold spec_l03Second.f
  cases n with
  | zero => exact Ev.pos (by simp) (Ev.now _)
  | succ n =>
    refine Ev.neg (by omega) ?_
    exact specSecond_l0 hp a b ha hb n hn hl hab n 0 (by omega)

theorem getD_map_range {α : Type} (g : Nat → α) (d : α) {n i : Nat} (h : i < n) : ((List.range n).map g).getD i d = g i := by
  rw [List.getD_eq_getElem?_getD, List.getElem?_map, List.getElem?_range h]; rfl
theorem map_range_succ {α : Type} (g : Nat → α) (n : Nat) : (List.range (n + 1)).map g = (List.range n).map g ++ [g n] := by
  rw [List.range_succ, List.map_append]; rfl
/-- All polynomials P(0) to P(n - 1). -/
def pAll (p : Int) (a b : List Int) (n : Nat) : List (List Int) := (List.range n).map fun k => (pPair p a b k).2
def qAll (p : Int) (a b : List Int) (n : Nat) : List (List Int) := (List.range n).map fun k => (qPair p a b k).1
theorem implPolys_l0 {p : Int} (hp : Pm p) (a b : List Int) (ha : Nm p a) (hb : Nm p b) (hl : a.length ≤ 12) (hab : b.length = a.length) (d : Nat) : ∀ i, i + d = a.length →
    Ev (fun m => impl_Jacobi_polys.l0 m (pAll p a b (i + 1)) (pPair p a b i).1 a (a.length : Int) (i : Int) p a b) (pAll p a b (a.length + 1)) := by
  induction d with
  | zero =>
    intro i hi
    refine Ev.step (fun m => by rw [impl_Jacobi_polys.l0]) ?_
    refine Ev.neg (by omega) (Ev.some' ?_)
    rw [show i = a.length from by omega]
  | succ d ih =>
    intro i hi
    have h := pPair_ok hp a b i
    have hn : (pAll p a b (i + 1)).length = i + 1 := by simp [pAll]
    have hr : rd_L1 (pAll p a b (i + 1)) (i : Int) = (pPair p a b i).2 := by
      rw [rdL_nat]; exact getD_map_range _ _ (by omega)
    refine Ev.step (fun m => by rw [impl_Jacobi_polys.l0]) ?_
    rw [hr]
    refine Ev.pos (by omega) (Ev.pos (by omega) (Ev.pos (by omega) (Ev.pos (by omega) (Ev.bindE (a := p) rfl (Ev.pos (by omega) ?_)))))
    rw [rd_nat, rd_nat]
    refine Ev.bind (implNext_ev hp (ha.get (i := i) (by omega)) (hb.get (i := i) (by omega)) _ _ h.1.2 h.1.1 (by omega) (by omega)) (Ev.pos (by omega) ?_)
    rw [wsucc (i := i) (n := a.length) (by omega) (by omega)]
    have := ih (i + 1) (by omega)
    rw [show pAll p a b (i + 1 + 1) = pAll p a b (i + 1) ++ [(pPair p a b (i + 1)).2] from map_range_succ _ _] at this
    exact this
theorem implPolys_ev {p : Int} (hp : Pm p) (a b : List Int) (ha : Nm p a) (hb : Nm p b) (hl : a.length ≤ 12) (hab : b.length = a.length) :
    Ev (fun m => impl_Jacobi_polys.f m p a b) (pAll p a b (a.length + 1)) := by
  unfold impl_Jacobi_polys.f
  exact implPolys_l0 hp a b ha hb hl hab a.length 0 (by omega)
theorem implAssoc_l0 {p : Int} (hp : Pm p) (a b : List Int) (ha : Nm p a) (hb : Nm p b) (hl : a.length ≤ 12) (hab : b.length = a.length) (d : Nat) : ∀ i, i + 1 + d = a.length →
    Ev (fun m => impl_Jacobi_associated.l0 m (qAll p a b (i + 2)) ((i + 1 : Nat) : Int) p a b) (qAll p a b (a.length + 1)) := by
  induction d with
  | zero =>
    intro i hi
    refine Ev.step (fun m => by rw [impl_Jacobi_associated.l0]) ?_
    refine Ev.neg (by omega) (Ev.some' ?_)
    rw [show i + 2 = a.length + 1 from by omega]
  | succ d ih =>
    intro i hi
    have h := qPair_ok hp a b i
    have hn : (qAll p a b (i + 2)).length = i + 2 := by simp [qAll]
    have hw : wrap64 (((i + 1 : Nat) : Int) - 1) = (i : Int) := by rw [wrap_id (by omega) (by omega)]; omega
    have hr : rd_L1 (qAll p a b (i + 2)) ((i + 1 : Nat) : Int) = (qPair p a b i).2 := by
      rw [rdL_nat]; exact getD_map_range _ _ (by omega)
    have hr' : rd_L1 (qAll p a b (i + 2)) (i : Int) = (qPair p a b i).1 := by
      rw [rdL_nat]; exact getD_map_range _ _ (by omega)
    refine Ev.step (fun m => by rw [impl_Jacobi_associated.l0]) ?_
    rw [hw, hr, hr']
    refine Ev.pos (by omega) (Ev.bindE (a := p) rfl (Ev.pos (by omega) (Ev.pos (by omega) (Ev.pos (by omega) (Ev.pos (by omega) (Ev.pos (by omega) ?_))))))
    rw [rd_nat, rd_nat]
    refine Ev.bind (implNext_ev hp (ha.get (i := i + 1) (by omega)) (hb.get (i := i + 1) (by omega)) _ _ h.1.2 h.1.1 (by omega) (by omega)) (Ev.pos (by omega) ?_)
    rw [wsucc (i := i + 1) (n := a.length) (by omega) (by omega)]
    have := ih (i + 1) (by omega)
    rw [show qAll p a b (i + 1 + 2) = qAll p a b (i + 2) ++ [(qPair p a b (i + 2)).1] from map_range_succ _ _] at this
    exact this
theorem implAssoc_ev {p : Int} (hp : Pm p) (a b : List Int) (ha : Nm p a) (hb : Nm p b) (h1 : 1 ≤ a.length) (hl : a.length ≤ 12) (hab : b.length = a.length) :
    Ev (fun m => impl_Jacobi_associated.f m p a b) (qAll p a b (a.length + 1)) := by
  unfold impl_Jacobi_associated.f
  exact implAssoc_l0 hp a b ha hb hl hab (a.length - 1) 0 (by omega)
/- Reading the lists of all polynomials of data; no condition. -/
theorem pAll_rd (p : Int) (a b : List Int) {n i : Nat} (h : i < n) : rd_L1 (pAll p a b n) (i : Int) = (pPair p a b i).2 := by
  rw [rdL_nat]; exact getD_map_range _ _ h
theorem qAll_rd (p : Int) (a b : List Int) {n i : Nat} (h : i < n) : rd_L1 (qAll p a b n) (i : Int) = (qPair p a b i).1 := by
  rw [rdL_nat]; exact getD_map_range _ _ h
theorem pAll_len (p : Int) (a b : List Int) (n : Nat) : (pAll p a b n).length = n := by simp [pAll]
theorem qAll_len (p : Int) (a b : List Int) (n : Nat) : (qAll p a b n).length = n := by simp [qAll]
theorem ofCode {p : Int} {a b : List Int} {r : Bool} {c : Int} (h : jacC p a b r = c) (ha : Sm a.length) (hb : Sm b.length) : Ev (fun n => impl_jacobiCode.f n p a b r) c := by
  subst h; exact implJacCode_ev p a b r ha hb
/- Powers modulo p: what the program and the reference compute; no condition. -/
theorem fmul_eq {p : Int} (hp : Pm p) {x y : Int} (hx : 0 ≤ x ∧ x < p) (hy : 0 ≤ y ∧ y < p) : impl_field_mul.f p x y = some (x * y % p) := by
  unfold impl_field_mul.f
  have h := mulP hp hx.1 hx.2 hy.1 hy.2
  rw [wrap_id (by omega) (by omega), mod_eq hp]; rfl
def powGo (p : Int) : Nat → Int → Nat → Int → Int
  | 0, _, _, o => o
  | d + 1, x, k, o => if k = 0 then o else powGo p d (x * x % p) (k / 2) (if k % 2 = 1 then o * x % p else o)
theorem powGo_in {p : Int} (hp : 0 < p) (d : Nat) : ∀ (x : Int) (k : Nat) (o : Int), 0 ≤ o ∧ o < p → 0 ≤ powGo p d x k o ∧ powGo p d x k o < p := by
  induction d with
  | zero => intro x k o h; exact h
  | succ d ih =>
    intro x k o h
    rw [powGo]
    split
    · exact h
    · refine ih _ _ _ ?_
      split
      · exact emodB hp _
      · exact h
theorem half {k : Nat} (h : k < 4611686018427387904) : wrap64 (Int.tdiv (k : Int) 2) = ((k / 2 : Nat) : Int) := by
  rw [Int.tdiv_eq_ediv_of_nonneg (by omega), wrap_id (by omega) (by omega)]; omega
theorem odd (k : Nat) : Int.tmod (k : Int) 2 = ((k % 2 : Nat) : Int) := by rw [tmod_pos (by omega)]; omega
theorem implPow_l0 {p : Int} (hp : Pm p) (d : Nat) : ∀ (x : Int) (k : Nat) (o : Int), k ≤ d → k < 4611686018427387904 → 0 ≤ x ∧ x < p → 0 ≤ o ∧ o < p →
    Ev (fun n => impl_field_power.l0 n p x (k : Int) o) (powGo p d x k o) := by
  induction d with
  | zero =>
    intro x k o hk hk2 hx ho
    refine Ev.step (fun n => by rw [impl_field_power.l0]) ?_
    exact Ev.neg (by omega) (Ev.now _)
  | succ d ih =>
    intro x k o hk hk2 hx ho
    rw [powGo]
    by_cases h : k = 0
    · rw [if_pos h]
      refine Ev.step (fun n => by rw [impl_field_power.l0]) ?_
      exact Ev.neg (by omega) (Ev.now _)
    · rw [if_neg h]
      refine Ev.step (fun n => by rw [impl_field_power.l0]) ?_
      refine Ev.pos (by omega) ?_
      rw [odd, half hk2]
      by_cases g : k % 2 = 1
      · rw [if_pos g]
        refine Ev.pos (by omega) (Ev.bindE (fmul_eq hp ho hx) (Ev.bindE (fmul_eq hp hx hx) ?_))
        exact ih _ _ _ (by omega) (by omega) (emodB hp.pos _) (emodB hp.pos _)
      · rw [if_neg g]
        refine Ev.neg (by omega) (Ev.bindE (fmul_eq hp hx hx) ?_)
        exact ih _ _ _ (by omega) (by omega) (emodB hp.pos _) ho
theorem specPow_l0 {p : Int} (hp : Pm p) (d : Nat) : ∀ (x : Int) (k : Nat) (o : Int), k ≤ d → k < 4611686018427387904 → 0 ≤ x ∧ x < p → 0 ≤ o ∧ o < p →
    Ev (fun n => spec_l01Power.l0 n p (k : Int) o x) (powGo p d x k o) := by
  induction d with
  | zero =>
    intro x k o hk hk2 hx ho
    refine Ev.step (fun n => by rw [spec_l01Power.l0]) ?_
    refine Ev.neg (by omega) (Ev.neg hp.ne (Ev.some' ?_))
    rw [tmod_pos ho.1, Int.emod_eq_of_lt ho.1 ho.2]; rfl
  | succ d ih =>
    intro x k o hk hk2 hx ho
    have h1 := mulP hp hx.1 hx.2 hx.1 hx.2
    have h2 := mulP hp ho.1 ho.2 hx.1 hx.2
    rw [powGo]
    by_cases h : k = 0
    · rw [if_pos h]
      refine Ev.step (fun n => by rw [spec_l01Power.l0]) ?_
      refine Ev.neg (by omega) (Ev.neg hp.ne (Ev.some' ?_))
      rw [tmod_pos ho.1, Int.emod_eq_of_lt ho.1 ho.2]
    · rw [if_neg h]
      refine Ev.step (fun n => by rw [spec_l01Power.l0]) ?_
      refine Ev.pos (by omega) ?_
      rw [odd, half hk2, wrap_id (x := x * x) (by omega) (by omega), wrap_id (x := o * x) (by omega) (by omega), tmod_pos (a := x * x) (by omega), tmod_pos (a := o * x) (by omega)]
      by_cases g : k % 2 = 1
      · rw [if_pos g]
        refine Ev.pos (by omega) (Ev.neg hp.ne ?_)
        exact ih _ _ _ (by omega) (by omega) (emodB hp.pos _) (emodB hp.pos _)
      · rw [if_neg g]
        refine Ev.neg (by omega) (Ev.neg hp.ne ?_)
        exact ih _ _ _ (by omega) (by omega) (emodB hp.pos _) ho
/-- x to the k-th power modulo p. -/
def powF (p x : Int) (k : Nat) : Int := powGo p k x k 1
theorem powF_in {p : Int} (hp : Pm p) (x : Int) (k : Nat) : 0 ≤ powF p x k ∧ powF p x k < p := powGo_in hp.pos _ _ _ _ (by have := hp.two; omega)
theorem implPow_ev {p : Int} (hp : Pm p) {x : Int} (hx : 0 ≤ x ∧ x < p) (k : Nat) (hk : k < 4611686018427387904) : Ev (fun n => impl_field_power.f n p x (k : Int)) (powF p x k) := by
  have h2 := hp.two
  unfold impl_field_power.f powF
  refine Ev.bindE (mod_eq hp _) ?_
  rw [Int.emod_eq_of_lt (by omega) (by omega)]
  exact implPow_l0 hp k x k 1 (Nat.le_refl _) hk hx (by omega)
theorem specPow_ev {p : Int} (hp : Pm p) {x : Int} (hx : 0 ≤ x ∧ x < p) (k : Nat) (hk : k < 4611686018427387904) : Ev (fun n => spec_l01Power.f n p x (k : Int)) (powF p x k) := by
  have h2 := hp.two
  unfold spec_l01Power.f powF
  refine Ev.bindE (a := x) ?_ (specPow_l0 hp k x k 1 (Nat.le_refl _) hk hx (by omega))
  unfold spec_l01Mod.f
  rw [if_neg hp.ne, go_mod hp, Int.emod_eq_of_lt hx.1 hx.2]
/- Inverses and quotients modulo p: what the program and the reference compute; no condition. -/
/-- The power p - 2. -/
def invF (p x : Int) : Int := powF p x (p.toNat - 2)
theorem invF_in {p : Int} (hp : Pm p) (x : Int) : 0 ≤ invF p x ∧ invF p x < p := powF_in hp _ _
theorem two_sub {p : Int} (hp : Pm p) : wrap64 (p - 2) = ((p.toNat - 2 : Nat) : Int) := by
  have := hp.two
  have := hp.top
  rw [wrap_id (by omega) (by omega)]
  omega
theorem implInv_ev {p : Int} (hp : Pm p) {x : Int} (hx : 0 ≤ x ∧ x < p) : Ev (fun n => impl_field_inverse.f n p x) (invF p x) := by
  have := hp.top
  unfold impl_field_inverse.f invF
  rw [two_sub hp]
  exact Ev.bind (implPow_ev hp hx _ (by omega)) (Ev.now _)
theorem specInv_ev {p : Int} (hp : Pm p) {x : Int} (hx : 0 ≤ x ∧ x < p) : Ev (fun n => spec_l01Inverse.f n p x) (invF p x) := by
  have := hp.top
  unfold spec_l01Inverse.f invF
  rw [two_sub hp]
  exact Ev.bind (specPow_ev hp hx _ (by omega)) (Ev.now _)
theorem mul_mod_mid (u v w p : Int) : (u * v % p * w) % p = (u * (v * w % p)) % p := by
  rw [Int.mul_emod (u * v % p), Int.emod_emod, ← Int.mul_emod, Int.mul_assoc, Int.mul_emod u (v * w % p), Int.emod_emod, ← Int.mul_emod]
theorem mul_mod_one (v w p : Int) : (v % p * w) % p = (v * w) % p := by
  rw [Int.mul_emod (v % p), Int.emod_emod, ← Int.mul_emod]
theorem sub_mod_right (c x p : Int) : (c - x % p) % p = (c - x) % p := by
  rw [Int.sub_emod, Int.emod_emod, ← Int.sub_emod]
/- Quotients modulo p in the program; no condition. -/
theorem implDiv_ev {p : Int} (hp : Pm p) {x y : Int} (hx : 0 ≤ x ∧ x < p) (hy : 0 ≤ y ∧ y < p) : Ev (fun n => impl_field_div.f n p x y) (x * invF p y % p) := by
  unfold impl_field_div.f
  exact Ev.bind (implInv_ev hp hy) (Ev.bindE (fmul_eq hp hx (invF_in hp y)) (Ev.now _))
/- field.value: the value of a polynomial, read from the last number on: what the call answers, for every list within the reach and every p other than 0. -/
open Go.RowKit Go.Shelf Go.Proofs.YtfbnkebgdmfcfaaW.PrintWords Go.Proofs.YtfbnkebgdmfcfaaW.PrintLast Go.Proofs.YtfbnkebgdmfcfaaW.PrintMore
attribute [local go_sem] Oper.semAt_some
/-- One round. -/
def valStep (p x o c : Int) : Int := Int.tmod (wrap64 (Int.tmod (wrap64 (wrap64 (o * x) + c)) p + p)) p
def valOf (p x : Int) (ys : List (Int × Int)) : Int := ys.foldl (fun o y => valStep p x o y.2) 0
theorem valOf_snoc (p x : Int) (ys : List (Int × Int)) (y : Int × Int) : valOf p x (ys ++ [y]) = valStep p x (valOf p x ys) y.2 := by simp [valOf]
def impl_field_value.f (p : Int) (l : List Int) (x : Int) : Option Int := if p = 0 then none else if l.length ≤ 17592186040320 then some (valOf p x (upto (bk l l.length) l.length)) else none

theorem cell_of_box_v {W : World} {B : Nat} {v : Value} {t : TypeId} (h : W.heap[B]? = some (.cells #[v] t (0, 0))) : W.cell? ⟨B, 0, none⟩ = some v ∧ W.frozen? ⟨B, 0, none⟩ = false := by
  constructor <;> simp [World.cell?, World.frozen?, h]
theorem cell_new_v (W : World) (v : Value) (t : TypeId) : (W.alloc (.cells #[v] t)).cell? ⟨W.heap.size, 0, none⟩ = some v ∧ (W.alloc (.cells #[v] t)).frozen? ⟨W.heap.size, 0, none⟩ = false :=
  cell_of_box_v (World.alloc_heap_new W _)
theorem cell_alloc_v {W : World} {a : Addr} {v : Value} (o : Obj) (h : W.cell? a = some v) : (W.alloc o).cell? a = some v := cell_kept h (World.grownBy_alloc W o none) (fun r e => by cases e)
theorem frozen_alloc_v {W : World} {a : Addr} {v : Value} (o : Obj) (h : W.cell? a = some v) (hf : W.frozen? a = false) : (W.alloc o).frozen? a = false := (frozen_kept h (World.grownBy_alloc W o none) (fun r e => by cases e)).trans hf

set_option maxRecDepth 100000 in
set_option maxHeartbeats 2000000 in
theorem impl_field_value.calls_in (F : Fence) (n : Nat) (h1 : F.fn 110) (h2 : F.fn 145) (h3 : F.fn 154) (h4 : F.fn 122) (hro : F.round = none) (hn : 4 ≤ n)
    (hmod : ∀ (k m : Nat) (x y r : Int) (W : World), impl_field_mod.f x y = some r → CallsIn (F.inRound k) m Try.prog 122 #[.int .i64 x, .int .i64 y] W fun e W' => e = .returned (.int .i64 r) ∧ Drawn0 W W')
    (a0 : Int) (A1 : Option Addr) (c1 : Nat) (l1 : List Int) (a2 : Int) (hp : a0 ≠ 0) (hl : l1.length ≤ 17592186040320) (w : World) (hI : IntsB w.heap.size w (.slice A1 l1.length c1) l1) :
    CallsIn F n Try.prog 110 #[.int .i64 a0, .slice A1 l1.length c1, .int .i64 a2] w fun e W' => e = .returned (.int .i64 (valOf a0 a2 (upto (bk l1 l1.length) l1.length))) ∧ Below w.heap.size w W' := by
  have hn1 : 1 ≤ n := by omega
  refine callsIn_of_wp_marks Try.func110 rfl h1 ?_ hro
  simp only [Try.ntmps110, List.size_toArray, List.length_cons, List.length_nil, Nat.reduceAdd, Nat.reduceSub, Array.replicate_succ, Array.replicate_zero, List.push_toArray, List.append_toArray, List.nil_append, List.cons_append]
  gi_wp2_with (gi_at_call 145; refine (back_in F (n - 1) h2 hro _ _ _ _).mono ?_; rintro e w' ⟨rfl, rfl⟩)
  have c0 := cell_new_v w (.int .i64 a0) 82
  have c1' := cell_new_v (w.alloc (.cells #[.int .i64 a0] 82)) (.int .i64 a2) 2
  have c2 := cell_new_v ((w.alloc (.cells #[.int .i64 a0] 82)).alloc (.cells #[.int .i64 a2] 2)) (.int .i64 0) 2
  have c3 := cell_new_v (((w.alloc (.cells #[.int .i64 a0] 82)).alloc (.cells #[.int .i64 a2] 2)).alloc (.cells #[.int .i64 0] 2)) (.slice A1 l1.length c1) 22
  simp only [World.size_alloc] at c1' c2 c3
  have hB0 : Below w.heap.size w ((((w.alloc (.cells #[.int .i64 a0] 82)).alloc (.cells #[.int .i64 a2] 2)).alloc (.cells #[.int .i64 0] 2)).alloc (.cells #[.slice A1 l1.length c1] 22)) := ((((Below.refl _ w).alloc (Nat.le_refl _) _).alloc (by simp) _).alloc (by simp; omega) _).alloc (by simp; omega) _
  refine wpIn_rangeFunc_ownF hro hn1 (gf := 154) (lb := #[.pointer (some ⟨w.heap.size + 1 + 1 + 1, 0, none⟩)]) rfl h3 (enters_of Try.func154 (by kernel_rfl) rfl)
    (back_stops F (n - 1) h3 hro (by omega) (w.heap.size + 1 + 1 + 1) w.heap.size (.slice A1 l1.length c1) l1 (by omega) _ (by simp) (by simp; omega) c3.1 (hI.below hB0)) (fun h k => h.trans k)
    (fun W l o o' hl ho hc hw => ⟨belowK_b (by simp; omega) W l o o' hl ho hc hw, fun v hv => cell_kept hv (grownBy_putObj' _ l o') (fun r e => by cases e; exact ⟨_, ho, hc⟩)⟩) (Below.refl _ _) (fun _ => rfl)
    (fun pre W => ((W.cell? ⟨w.heap.size, 0, none⟩ = some (.int .i64 a0) ∧ W.cell? ⟨w.heap.size + 1, 0, none⟩ = some (.int .i64 a2)) ∧ (W.cell? ⟨w.heap.size + 1 + 1, 0, none⟩ = some (.int .i64 (valOf a0 a2 pre)) ∧ W.frozen? ⟨w.heap.size + 1 + 1, 0, none⟩ = false)) ∧ Below w.heap.size w W)
    (fun _ _ _ => False)
    (OwnFrom.and (Own.from (fun s A B row hs hg hr => ⟨⟨cell_kept hs.1.1 hg hr, cell_kept hs.1.2 hg hr⟩, cell_kept hs.2.1 hg hr, (frozen_kept hs.2.1 hg hr).trans hs.2.2⟩) _) (ownFrom_below (Nat.le_refl _) (by simp; omega)))
    (fun _ _ _ _ _ hs _ _ => hs)
    ⟨⟨⟨cell_alloc_v _ (cell_alloc_v _ (cell_alloc_v _ c0.1)), cell_alloc_v _ (cell_alloc_v _ c1'.1)⟩, cell_alloc_v _ c2.1, frozen_alloc_v _ c2.1 c2.2⟩, hB0⟩
    (fun x => { tmps := #[.int .i64 a0, .slice A1 l1.length c1, .int .i64 a2, .pointer (some ⟨w.heap.size, 0, none⟩), undef, .pointer (some ⟨w.heap.size + 1, 0, none⟩), .int .i64 0, .pointer (some ⟨w.heap.size + 1 + 1, 0, none⟩), undef, .int .i64 x.2, .slice A1 l1.length c1, .func (.func 154) #[] #[.pointer (some ⟨w.heap.size + 1 + 1 + 1, 0, none⟩)], .int .i64 x.1, .int .i64 x.2, undef, undef, undef, undef, undef, undef, undef, undef], defers := [] }) ?assign ?body ?done ?stop
  case assign =>
    intro l x W K hK
    gi_wp2
    exact hK
  case body =>
    rintro l pre x W ⟨⟨⟨hc0, hc1⟩, hc2, hf2⟩, hB⟩ _
    have hm : impl_field_mod.f a0 (wrap64 (wrap64 (valOf a0 a2 pre * a2) + x.2)) = some (valStep a0 a2 (valOf a0 a2 pre) x.2) := by
      unfold impl_field_mod.f valStep
      rw [if_neg hp]
    gi_wp2
    refine ⟨fun _ => by omega, (hmod _ _ _ _ _ _ hm).mono ?_⟩
    rintro e w' ⟨rfl, ⟨nd, rfl⟩⟩
    have d0 : (W.drewN nd).cell? ⟨w.heap.size + 1 + 1, 0, none⟩ = some (.int .i64 (valOf a0 a2 pre)) := hc2
    have d1 : (W.drewN nd).frozen? ⟨w.heap.size + 1 + 1, 0, none⟩ = false := hf2
    have d2 : (W.drewN nd).cell? ⟨w.heap.size, 0, none⟩ = some (.int .i64 a0) := hc0
    have d3 : (W.drewN nd).cell? ⟨w.heap.size + 1, 0, none⟩ = some (.int .i64 a2) := hc1
    have kO : KeepsOthers W (W.drewN nd) := ⟨Nat.le_refl _, fun _ _ h _ => h⟩
    have kB : Below w.heap.size W (W.drewN nd) := pw_below_drewN (Below.refl _ _) nd
    have oth : ∀ (g : Nat) (v v' : Value), g ≠ w.heap.size + 1 + 1 → (W.drewN nd).cell? ⟨g, 0, none⟩ = some v → ((W.drewN nd).setCell ⟨w.heap.size + 1 + 1, 0, none⟩ v').cell? ⟨g, 0, none⟩ = some v := by
      intro g v v' hg hv
      exact (World.cell?_setCell_far _ _ _ _ (fun e => hg e.symm)).trans hv
    gi_wp2
    exact ⟨kO.trans (KeepsOthers.setCell _ _ _), ⟨kB.setCell (p := ⟨w.heap.size + 1 + 1, 0, none⟩) (show w.heap.size ≤ w.heap.size + 1 + 1 from by omega) _, fun v hv => oth _ _ _ (by omega) hv⟩, ⟨⟨oth _ _ _ (by omega) d2, oth _ _ _ (by omega) d3⟩, by rw [valOf_snoc]; exact World.cell?_setCell_same' _ _ _ (by rw [d0]; rfl), by rw [World.frozen?_setCell]; exact d1⟩, (hB.trans kB).setCell (p := ⟨w.heap.size + 1 + 1, 0, none⟩) (show w.heap.size ≤ w.heap.size + 1 + 1 from by omega) _⟩
  case done =>
    rintro D ys W hD rfl ⟨⟨_, hc, _⟩, hB⟩ hK
    gi_wp2
    refine ⟨by simp, .inl ⟨_, _, rfl, run_takeDeferred hK, ?_⟩⟩
    exact ⟨_, results_tmp rfl _ _ _, rfl, hB.trans (belowK_b (w := w) (Nat.le_refl _) W D _ _ (by simp at hD; omega) hK rfl rfl)⟩
  case stop =>
    rintro D c pre W _ _ h _
    exact h.elim
/-- What a slice that came in holds, as the loop wants it. -/
theorem intsB_of_C {w : World} {A1 : Option Addr} {c1 : Nat} {l1 : List Int} (hr1 : Kd.C (Kd.int .i64) w A1 l1.length l1) (hc1 : l1.length ≤ c1) : IntsB w.heap.size w (.slice A1 l1.length c1) l1 := by
  have h := Kd.reads_of_C (enc := Value.int .i64) (d := (0 : Int)) (h1 := fun _ => rfl) hr1
  by_cases h0 : l1.length = 0
  · rw [List.length_eq_zero_iff] at h0
    subst h0
    exact .inl ⟨rfl, A1, c1, rfl⟩
  · obtain ⟨ad, rfl, hc⟩ := h.2.2 (by omega)
    refine .inr ⟨ad, c1, rfl, ?_, fun j hj => ?_⟩
    · have := World.block_lt_of_cell? w _ (hc 0 (by omega))
      rwa [add_block] at this
    · have := hc j hj
      rw [List.getD_eq_getElem?_getD] at this
      exact this
theorem impl_field_value.calls (a0 : Int) (A1 : Option Addr) (c1 : Nat) (l1 : List Int) (a2 : Int) (r : Int) (w : World) (hr1 : Kd.C (Kd.int .i64) w A1 l1.length l1) (hc1 : l1.length ≤ c1) (h : impl_field_value.f a0 l1 a2 = some r) :
    Calls Try.prog 110 #[.int .i64 a0, .slice A1 l1.length c1, .int .i64 a2] w fun e w' => e = .returned (.int .i64 r) ∧ Below w.heap.size w w' := by
  unfold impl_field_value.f at h
  split at h
  · cases h
  · rename_i hp
    split at h
    · rename_i hl
      cases h
      exact callsIn_wide.1 (impl_field_value.calls_in Fence.wide 4 trivial trivial trivial trivial rfl (by omega) (fun k m x y r W hm => (CallsIn.inRound k (callsIn_wide.2 (impl_field_mod.calls x y r W hm)))) a0 A1 c1 l1 a2 hp hl w (intsB_of_C hr1 hc1))
    · cases h
attribute [local go_sem] max2_int min2_int max_two min_two max_three min_three max_four min_four   -- for this text's walks alone
set_option linter.unusedVariables false
set_option linter.unusedSimpArgs false
/-! ### impl_Jacobi_christoffel: function 82 -/
def impl_Jacobi_christoffel.f (k : Nat) (a0_0 : Int) (l0_1 : List Int) (l0_2 : List Int) (a1 : Int) : Option (Int) := (impl_Jacobi_field.f a0_0 l0_1 l0_2).bind fun t1421 => ((impl_Jacobi_size.f a0_0 l0_1 l0_2).bind fun t1422 => (if 0 < (l0_2.length : Int) then ((impl_Jacobi_associated.f k a0_0 l0_1 l0_2).bind fun t1424 => (if 0 ≤ t1422 then (if t1422 < (t1424.length : Int) then ((impl_field_value.f t1421 (rd_L1 t1424 t1422) a1).bind fun t1428 => ((impl_Jacobi_polys.f k a0_0 l0_1 l0_2).bind fun t1429 => (if t1422 < (t1429.length : Int) then ((impl_field_derivative.f k t1421 (rd_L1 t1429 t1422)).bind fun t1433 => ((impl_field_value.f t1421 t1433 a1).bind fun t1436 => ((impl_field_div.f k t1421 t1428 t1436).bind fun t1437 => ((impl_field_mul.f t1421 (rd l0_2 0) t1437).bind fun t1438 => (some t1438))))) else (none)))) else (none)) else (none))) else (none)))
def impl_Jacobi_christoffel.T2 : Bool × List (List Nat × List Nat) := (true, [([], []), ([], []), ([1], [1]), ([2], [2]), ([3], [3]), ([], []), ([], []), ([], []), ([7], [7]), ([], []), ([8, 9], [8, 9]), ([10], [10]), ([], []), ([6, 11, 12, 8], [6, 11, 12]), ([], []), ([], []), ([], []), ([16, 13], [16]), ([], []), ([17, 18], [17, 18]), ([19], [19]), ([15, 20, 17], [15, 20]), ([], []), ([14, 21, 22, 21], [14, 21, 22]), ([5, 13, 23, 23], [5, 13, 23]), ([0, 4, 24, 24], [0, 4, 24]), ([25, 25, 0, 1, 2, 3, 4, 5, 6, 7, 8, 9, 10, 11, 12, 13, 14, 15, 16, 17, 18, 19, 20, 21, 22, 23, 24, 25], [25])])
def impl_Jacobi_christoffel.B2 : List Nat := [0, 0, 2, 6, 14, 0, 0, 0, 128, 0, 896, 1920, 0, 8128, 0, 0, 0, 81856, 0, 475072, 999360, 2080704, 0, 8388544, 16777184, 33554431, 67108863]
theorem impl_Jacobi_christoffel.tab2 : rtab .any (opsOf Try.f82 2) = impl_Jacobi_christoffel.T2 := by kernel_rfl
theorem impl_Jacobi_christoffel.bits2 : waitsOk impl_Jacobi_christoffel.T2.2 impl_Jacobi_christoffel.B2 = true := by kernel_rfl
set_option maxHeartbeats 8000000 in
set_option maxRecDepth 100000 in
theorem impl_Jacobi_christoffel.calls (k : Nat) (a0_0 : Int) (A0_1 : Option Addr) (c0_1 : Nat) (l0_1 : List Int) (A0_2 : Option Addr) (c0_2 : Nat) (l0_2 : List Int) (a1 : Int) (r : Int) (w : World) (hr0_1 : Kd.C (Kd.int .i64) w A0_1 l0_1.length l0_1) (hc0_1 : l0_1.length ≤ c0_1) (hr0_2 : Kd.C (Kd.int .i64) w A0_2 l0_2.length l0_2) (hc0_2 : l0_2.length ≤ c0_2) (h : impl_Jacobi_christoffel.f k a0_0 l0_1 l0_2 a1 = some r) :
  Calls Try.prog 82 #[.agg #[.int .i64 a0_0, .slice A0_1 l0_1.length c0_1, .slice A0_2 l0_2.length c0_2], .int .i64 a1] w fun e w' => e = .returned (.int .i64 r) ∧ Below w.heap.size w w' := by
 have hu26 := Try.underlying26
 have HR0_1 := zA hr0_1
 have HC0_1 := zA hc0_1
 clear hr0_1 hc0_1
 have HR0_2 := zA hr0_2
 have HC0_2 := zA hc0_2
 clear hr0_2 hc0_2
 have HB := zA (Below.refl w.heap.size w)
 have H : ((impl_Jacobi_field.f a0_0 l0_1 l0_2).bind fun t1421 => ((impl_Jacobi_size.f a0_0 l0_1 l0_2).bind fun t1422 => (if 0 < (l0_2.length : Int) then ((impl_Jacobi_associated.f k a0_0 l0_1 l0_2).bind fun t1424 => (if 0 ≤ t1422 then (if t1422 < (t1424.length : Int) then ((impl_field_value.f t1421 (rd_L1 t1424 t1422) a1).bind fun t1428 => ((impl_Jacobi_polys.f k a0_0 l0_1 l0_2).bind fun t1429 => (if t1422 < (t1429.length : Int) then ((impl_field_derivative.f k t1421 (rd_L1 t1429 t1422)).bind fun t1433 => ((impl_field_value.f t1421 t1433 a1).bind fun t1436 => ((impl_field_div.f k t1421 t1428 t1436).bind fun t1437 => ((impl_field_mul.f t1421 (rd l0_2 0) t1437).bind fun t1438 => (some t1438))))) else (none)))) else (none)) else (none))) else (none)))) = some r := h
 clear h
 replace H := Option.bind_eq_some_iff.mp H
 obtain ⟨t1421, A30, H⟩ := H
 replace H : ((impl_Jacobi_size.f a0_0 l0_1 l0_2).bind fun t1422 => (if 0 < (l0_2.length : Int) then ((impl_Jacobi_associated.f k a0_0 l0_1 l0_2).bind fun t1424 => (if 0 ≤ t1422 then (if t1422 < (t1424.length : Int) then ((impl_field_value.f t1421 (rd_L1 t1424 t1422) a1).bind fun t1428 => ((impl_Jacobi_polys.f k a0_0 l0_1 l0_2).bind fun t1429 => (if t1422 < (t1429.length : Int) then ((impl_field_derivative.f k t1421 (rd_L1 t1429 t1422)).bind fun t1433 => ((impl_field_value.f t1421 t1433 a1).bind fun t1436 => ((impl_field_div.f k t1421 t1428 t1436).bind fun t1437 => ((impl_field_mul.f t1421 (rd l0_2 0) t1437).bind fun t1438 => (some t1438))))) else (none)))) else (none)) else (none))) else (none))) = some r := H
 have A3 := zA A30
 clear A30
 replace H := Option.bind_eq_some_iff.mp H
 obtain ⟨t1422, A40, H⟩ := H
 replace H : (if 0 < (l0_2.length : Int) then ((impl_Jacobi_associated.f k a0_0 l0_1 l0_2).bind fun t1424 => (if 0 ≤ t1422 then (if t1422 < (t1424.length : Int) then ((impl_field_value.f t1421 (rd_L1 t1424 t1422) a1).bind fun t1428 => ((impl_Jacobi_polys.f k a0_0 l0_1 l0_2).bind fun t1429 => (if t1422 < (t1429.length : Int) then ((impl_field_derivative.f k t1421 (rd_L1 t1429 t1422)).bind fun t1433 => ((impl_field_value.f t1421 t1433 a1).bind fun t1436 => ((impl_field_div.f k t1421 t1428 t1436).bind fun t1437 => ((impl_field_mul.f t1421 (rd l0_2 0) t1437).bind fun t1438 => (some t1438))))) else (none)))) else (none)) else (none))) else (none)) = some r := H
 have A4 := zA A40
 clear A40
 by_cases c5 : 0 < (l0_2.length : Int)
 rotate_left
 ·rw [if_neg c5] at H
  exact absurd H (by simp)

 rw [if_pos c5] at H
 have c5b0 : decide (0 < (l0_2.length : Int)) = true := decide_eq_true c5
 have c5b1 : decide (0 < l0_2.length) = true := decide_eq_true (by omega)
 clear c5
 replace H := Option.bind_eq_some_iff.mp H
 obtain ⟨t1424, A60, H⟩ := H
 replace H : (if 0 ≤ t1422 then (if t1422 < (t1424.length : Int) then ((impl_field_value.f t1421 (rd_L1 t1424 t1422) a1).bind fun t1428 => ((impl_Jacobi_polys.f k a0_0 l0_1 l0_2).bind fun t1429 => (if t1422 < (t1429.length : Int) then ((impl_field_derivative.f k t1421 (rd_L1 t1429 t1422)).bind fun t1433 => ((impl_field_value.f t1421 t1433 a1).bind fun t1436 => ((impl_field_div.f k t1421 t1428 t1436).bind fun t1437 => ((impl_field_mul.f t1421 (rd l0_2 0) t1437).bind fun t1438 => (some t1438))))) else (none)))) else (none)) else (none)) = some r := H
 have A6 := zA A60
 clear A60
 by_cases c7 : 0 ≤ t1422
 rotate_left
 ·rw [if_neg c7] at H
  exact absurd H (by simp)
 rw [if_pos c7] at H
 have c7b0 : decide (0 ≤ t1422) = true := decide_eq_true c7
 clear c7
 by_cases c8 : t1422 < (t1424.length : Int)
 rotate_left
 ·rw [if_neg c8] at H
  exact absurd H (by simp)
 rw [if_pos c8] at H
 have c8b0 : decide (t1422 < (t1424.length : Int)) = true := decide_eq_true c8
 clear c8
 replace H := Option.bind_eq_some_iff.mp H
 obtain ⟨t1428, A90, H⟩ := H
 replace H : ((impl_Jacobi_polys.f k a0_0 l0_1 l0_2).bind fun t1429 => (if t1422 < (t1429.length : Int) then ((impl_field_derivative.f k t1421 (rd_L1 t1429 t1422)).bind fun t1433 => ((impl_field_value.f t1421 t1433 a1).bind fun t1436 => ((impl_field_div.f k t1421 t1428 t1436).bind fun t1437 => ((impl_field_mul.f t1421 (rd l0_2 0) t1437).bind fun t1438 => (some t1438))))) else (none))) = some r := H
 have A9 := zA A90
 clear A90
 replace H := Option.bind_eq_some_iff.mp H
 obtain ⟨t1429, A100, H⟩ := H
 replace H : (if t1422 < (t1429.length : Int) then ((impl_field_derivative.f k t1421 (rd_L1 t1429 t1422)).bind fun t1433 => ((impl_field_value.f t1421 t1433 a1).bind fun t1436 => ((impl_field_div.f k t1421 t1428 t1436).bind fun t1437 => ((impl_field_mul.f t1421 (rd l0_2 0) t1437).bind fun t1438 => (some t1438))))) else (none)) = some r := H
 have A10 := zA A100
 clear A100
 by_cases c11 : t1422 < (t1429.length : Int)
 rotate_left
 ·rw [if_neg c11] at H
  exact absurd H (by simp)
 rw [if_pos c11] at H
 have c11b0 : decide (t1422 < (t1429.length : Int)) = true := decide_eq_true c11
 clear c11
 replace H := Option.bind_eq_some_iff.mp H
 obtain ⟨t1433, A120, H⟩ := H
 replace H : ((impl_field_value.f t1421 t1433 a1).bind fun t1436 => ((impl_field_div.f k t1421 t1428 t1436).bind fun t1437 => ((impl_field_mul.f t1421 (rd l0_2 0) t1437).bind fun t1438 => (some t1438)))) = some r := H
 have A12 := zA A120
 clear A120
 replace H := Option.bind_eq_some_iff.mp H
 obtain ⟨t1436, A130, H⟩ := H
 replace H : ((impl_field_div.f k t1421 t1428 t1436).bind fun t1437 => ((impl_field_mul.f t1421 (rd l0_2 0) t1437).bind fun t1438 => (some t1438))) = some r := H
 have A13 := zA A130
 clear A130
 replace H := Option.bind_eq_some_iff.mp H
 obtain ⟨t1437, A140, H⟩ := H
 replace H : ((impl_field_mul.f t1421 (rd l0_2 0) t1437).bind fun t1438 => (some t1438)) = some r := H
 have A14 := zA A140
 clear A140
 replace H := Option.bind_eq_some_iff.mp H
 obtain ⟨t1438, A150, H⟩ := H
 replace H : (some t1438) = some r := H
 have A15 := zA A150
 clear A150
 obtain rfl := Option.some.inj H
 go_enter Try.func82, Try.ntmps82
 try go_wp2_with (first | ((with_reducible refine gate_dst (N := 2) rfl ?_); refine bx 2 #[.int .i64 a0_0, .slice A0_1 l0_1.length c0_1, .slice A0_2 l0_2.length c0_2] 26 ?_; intro gb1420 hg w16 hbox hb; have BK1420 := zA (hbox); have GW1420 := gq HB hg; have GE1420 := gq HB hg; replace HB := xH HB hb; have := geI GE1420; clear hb hbox hg))
 replace BK1420 := zA (blk_drew BK1420.out)
 replace HB := zA (below_drew1 HB.out)
 refine start_ (n := 6) (S := fun w' => w'.cell? ⟨gb1420, 0, none⟩ = some (.int .i64 a0_0) ∧ w'.cell? ⟨gb1420, 1, none⟩ = some (.slice A0_1 l0_1.length c0_1) ∧ w'.cell? ⟨gb1420, 2, none⟩ = some (.slice A0_2 l0_2.length c0_2)) (ds := []) #[false, false, false, false, false, false] (by kernel_rfl) rfl rfl ⟨bcu BK1420 0, bcu BK1420 1, bcu BK1420 2⟩ (fun hHeld => ?_)
 generalize w16.drew = w17 at BK1420 HB hHeld ⊢
 refine take_ (i := 0) (N := some 7) (v := ?_) (a' := ?_) (bl 6 1) rfl rfl (by kernel_rfl) (fun _ _ _ h => h) (Or.inl ⟨by rfl, ?_⟩) hHeld ?_ ?_
 rotate_left
 ·rintro w' ⟨s0, s1, s2⟩
  go_simp
  with_reducible rfl
 rotate_left
 ·simp only [Act.put, ls, lz, ln, i64_w, i32_w]
  rfl
 refine take_ (i := 2) (N := some 9) (v := ?_) (a' := ?_) (bl 6 5) rfl rfl (by kernel_rfl) (fun _ _ _ h => h) (Or.inl ⟨by rfl, ?_⟩) hHeld ?_ ?_
 rotate_left
 ·rintro w' ⟨s0, s1, s2⟩
  go_simp
  with_reducible rfl
 rotate_left
 ·simp only [Act.put, ls, lz, ln, i64_w, i32_w]
  rfl
 refine one_ (i := 1) (N := some 8) (bl 6 7) rfl rfl (by kernel_rfl) (by decide) (fun K hK => ?_)
 refine gS Try.func79 #[.agg #[.int .i64 a0_0, .slice A0_1 l0_1.length c0_1, .slice A0_2 l0_2.length c0_2]] ?_
 with_reducible refine (impl_Jacobi_field.calls a0_0 _ _ l0_1 _ _ l0_2 t1421 _ ?side1 ?side2 ?side3 ?side4 A3.out).mono ?_
 (case side1 => exact uC ((Kd.C_below HR0_1.out HB.out)))
 (case side2 => exact HC0_1.out)
 (case side3 => exact uC ((Kd.C_below HR0_2.out HB.out)))
 (case side4 => exact HC0_2.out)
 rintro e w18 ⟨rfl, hb⟩
 refine ⟨_, rfl, ?_⟩
 replace BK1420 := xB BK1420 hb
 replace HB := xH HB hb
 (try clear hb); (try clear hb2); (try clear hk); (try clear hi)
 refine hK.out _ _ ⟨bcu BK1420 0, bcu BK1420 1, bcu BK1420 2⟩ (fun hHeld => ?_)
 clear hK K
 refine no_ 8 ?_
 refine one_ (i := 3) (N := some 10) (bl 6 15) rfl rfl (by kernel_rfl) (by decide) (fun K hK => ?_)
 refine gS Try.func59 #[.agg #[.int .i64 a0_0, .slice A0_1 l0_1.length c0_1, .slice A0_2 l0_2.length c0_2]] ?_
 with_reducible refine (impl_Jacobi_size.calls a0_0 _ _ l0_1 _ _ l0_2 t1422 _ ?side1 ?side2 ?side3 ?side4 A4.out).mono ?_
 (case side1 => exact uC ((Kd.C_below HR0_1.out HB.out)))
 (case side2 => exact HC0_1.out)
 (case side3 => exact uC ((Kd.C_below HR0_2.out HB.out)))
 (case side4 => exact HC0_2.out)
 rintro e w19 ⟨rfl, hb⟩
 refine ⟨_, rfl, ?_⟩
 replace BK1420 := xB BK1420 hb
 replace HB := xH HB hb
 (try clear hb); (try clear hb2); (try clear hk); (try clear hi)
 refine hK.out _ _ ⟨bcu BK1420 0, bcu BK1420 1, bcu BK1420 2⟩ (fun hHeld => ?_)
 clear hK K
 refine no_ 10 ?_
 refine pure_ (i := 4) (N := some 5) (v := ?_) (a' := ?_) (bl 6 31) rfl rfl (by kernel_rfl) (fun _ _ _ h => h) (Or.inl ⟨by rfl, ?_⟩) ?_ ?_
 rotate_left
 ·intro w'
  go_simp
  with_reducible rfl
 rotate_left
 ·simp only [Act.put, ls, lz, ln, i64_w, i32_w]
  rfl
 refine pure_ (i := 5) (N := some 6) (v := ?_) (a' := ?_) (bl 6 63) rfl rfl (by kernel_rfl) (fun _ _ _ h => h) (Or.inl ⟨by rfl, ?_⟩) ?_ ?_
 rotate_left
 ·intro w'
  go_simp
  with_reducible rfl
 rotate_left
 ·simp only [Act.put, ls, lz, ln, i64_w, i32_w]
  rfl
 refine done_ (by kernel_rfl) ?_
 try go_wp2
 replace BK1420 := zA (blk_drew BK1420.out)
 replace HB := zA (below_drew1 HB.out)
 have p1423 : 0 ≤ (0 : Int) := (by omega)
 have q1423 : 0 < (l0_2.length : Int) := of_decide_eq_true (by first | (with_reducible assumption) | assumption)
 obtain ⟨ad1423, e1423, hx1423_0⟩ := Kd.at_int HR0_2.out 0 p1423 q1423
 have hw1423_0 := hx1423_0
 (try rw [show ((0 : Int)).toNat = 0 from rfl] at hw1423_0)
 (try rw [show 0 * 1 = 0 from rfl] at hw1423_0)
 (try rw [Addr.add_zero'] at hw1423_0)
 cases e1423
 have qi1423 : (0 < l0_2.length) = True := eq_true (by omega)
 (try rw [show ((0 : Int)).toNat = 0 from rfl] at hx1423_0)
 (try rw [Addr.add_zero'] at hx1423_0)
 replace hx1423_0 := hc HB hx1423_0
 replace p1423 := eq_true p1423
 replace q1423 := eq_true q1423
 refine start_ (n := 27) (S := fun w' => w'.cell? ⟨gb1420, 0, none⟩ = some (.int .i64 a0_0) ∧ w'.cell? ⟨gb1420, 1, none⟩ = some (.slice A0_1 l0_1.length c0_1) ∧ w'.cell? ⟨gb1420, 2, none⟩ = some (.slice (some ad1423) l0_2.length c0_2) ∧ w'.cell? ad1423 = some (.int .i64 (rd l0_2 0))) (ds := []) #[false, false, false, false, false, false, false, false, false, false, false, false, false, false, false, false, false, false, false, false, false, false, false, false, false, false, false] (by kernel_rfl) rfl rfl ⟨bcu BK1420 0, bcu BK1420 1, bcu BK1420 2, (hcu HB hw1423_0)⟩ (fun hHeld => ?_); refine with_tabW impl_Jacobi_christoffel.tab2 impl_Jacobi_christoffel.bits2 (fun HT_ HW_ => ?_)
 generalize w19.drew = w20 at BK1420 HB hx1423_0 hHeld ⊢
 refine pu_ 0 11 (bl 27 1) HT_ ?_
 refine pu_ 1 12 (bl 27 3) HT_ ?_
 refine pu_ 5 16 (bl 27 35) HT_ ?_
 refine pu_ 6 17 (bl 27 99) HT_ ?_
 refine pu_ 9 20 (bl 27 611) HT_ ?_
 refine pu_ 12 23 (bl 27 4707) HT_ ?_
 refine pu_ 14 25 (bl 27 21091) HT_ ?_
 refine pu_ 15 26 (bl 27 53859) HT_ ?_
 refine pu_ 18 29 (bl 27 316003) HT_ ?_
 refine pu_ 22 33 (bl 27 4510307) HT_ ?_
 refine ta_ 2 13 (bl 27 4510311) HT_ HW_ hHeld ?_
 refine pu_ 3 14 (bl 27 4510319) HT_ ?_
 refine ta_ 4 15 (bl 27 4510335) HT_ HW_ hHeld ?_
 refine ta_ 7 18 (bl 27 4510463) HT_ HW_ hHeld ?_
 refine ta_ 16 27 (bl 27 4575999) HT_ HW_ hHeld ?_
 refine on_ 8 (some 19) (bl 27 4576255) HT_ (fun K hK => ?_)
 refine gS Try.func133 #[.agg #[.int .i64 a0_0, .slice A0_1 l0_1.length c0_1, .slice (some ad1423) l0_2.length c0_2]] ?_
 with_reducible refine (impl_Jacobi_associated.calls k a0_0 _ _ l0_1 _ _ l0_2 t1424 _ ?side1 ?side2 ?side3 ?side4 A6.out).mono ?_
 (case side1 => exact uC ((Kd.C_below HR0_1.out HB.out)))
 (case side2 => exact HC0_1.out)
 (case side3 => exact uC ((Kd.C_below HR0_2.out HB.out)))
 (case side4 => exact HC0_2.out)
 rintro e w21 ⟨v1425, rfl, ho0, hb⟩
 refine ⟨_, rfl, ?_⟩
 have HO1426 := zA (Kd.N_lower (Kd.N_mono (ok' := fun k_ => k_ ≠ gb1420) ho0 (fun k_ hk_ => (Kd.freshB (g := gb1420) (o := .cells #[.int .i64 a0_0, .slice A0_1 l0_1.length c0_1, .slice (some ad1423) l0_2.length c0_2] 26 (0, 0)) (uB BK1420.out) k_ hk_))) (below_size (uH HB.out)))
 replace BK1420 := xB BK1420 hb
 replace HB := xH HB hb
 (try clear hb); (try clear hb2); (try clear hk); (try clear hi); (try clear ho0)
 obtain ⟨Ao22, co22, eo22⟩ := Kd.N_slice HO1426.out
 (first | subst eo22 | (injection eo22 with f1_ f2_ f3_; have f4_ := f1_.symm; have f5_ := f3_.symm; clear f1_ f2_ f3_; subst f4_; subst f5_))
 have p1427 : 0 ≤ (t1422 : Int) := of_decide_eq_true (by first | (with_reducible assumption) | assumption)
 have q1427 : t1422 < (t1424.length : Int) := of_decide_eq_true (by first | (with_reducible assumption) | assumption)
 obtain ⟨ad1427, A1427_0, c1427_0, e1427, hx1427_0, hl1427_0, hi1427_0⟩ := at_L1 (Kd.N_reads' HO1426.out).2.2 t1422 p1427 q1427
 cases e1427
 obtain ⟨ce1427, hce1427, hMe1427, hcc1427⟩ := Kd.N_get HO1426.out [] t1422 p1427 (by first | exact q1427 | exact of_decide_eq_true (by first | (with_reducible assumption) | assumption) | (have e_ := (Kd.N_reads' HO1426.out).1; omega))
 obtain ⟨ua1427_0, uc1427_0, rfl, ul1427_0, ge1427_0⟩ := Kd.FK_slice_open hMe1427
 have hv1427_0 := hcc1427 0 _ rfl
 rw [Nat.add_zero, show ((Kd.slice 2 (Kd.int .i64))).sz = 1 from rfl, Nat.mul_one] at hv1427_0
 replace hv1427_0 := Option.some.inj (hv1427_0.symm.trans hx1427_0)
 injection hv1427_0 with hva_ hvn_ hvc_
 rw [hva_] at ge1427_0
 rw [hvc_] at ul1427_0
 have HL1427_0 := zA (show Kd.V (Kd.int .i64) 2 _ w.heap.size _ _ (rd_L1 t1424 t1422) from Kd.V_mk ul1427_0 ge1427_0)
 clear hva_ hvn_ hvc_ ge1427_0 ul1427_0
 clear hcc1427 hce1427
 have HR1427_0 := zA hi1427_0
 have HC1427_0 := zA hl1427_0
 clear hi1427_0 hl1427_0
 replace p1427 := eq_true p1427
 replace q1427 := eq_true q1427
 refine hK.out _ _ ⟨bcu BK1420 0, bcu BK1420 1, bcu BK1420 2, (hcu HB hw1423_0)⟩ (fun hHeld => ?_)
 clear hK K
 refine no_ 19 ?_
 refine pu_ 10 21 (bl 27 4577279) HT_ ?_
 refine lo_ 11 22 (bl 27 4579327) HT_ hHeld ?_
 refine on_ 13 (some 24) (bl 27 4587519) HT_ (fun K hK => ?_)
 refine gS Try.func110 #[.int .i64 t1421, .slice A1427_0 (rd_L1 t1424 t1422).length c1427_0, .int .i64 a1] ?_
 with_reducible refine (impl_field_value.calls t1421 _ _ (rd_L1 t1424 t1422) a1 t1428 _ ?side1 ?side2 A9.out).mono ?_
 (case side1 => repeat (first | exact (by repeat (first | (with_reducible exact HR1427_0.out) | (with_reducible refine Kd.C_alloc ?_ _) | (with_reducible refine Kd.C_drewN ?_ _) | (with_reducible refine Kd.C_drew ?_) | exact HR1427_0.out)) | (with_reducible refine Kd.C_alloc ?_ _) | (with_reducible refine Kd.C_drewN ?_ _) | (with_reducible refine Kd.C_drew ?_)))
 (case side2 => exact HC1427_0.out)
 rintro e w23 ⟨rfl, hb⟩
 refine ⟨_, rfl, ?_⟩
 replace HO1426 := zA (Kd.N_below (by (with_reducible repeat (first | apply Kd.N_alloc | apply Kd.N_drewN | apply Kd.N_drew)); exact HO1426.out) hb)
 replace HL1427_0 := zA (Kd.V_below (by (with_reducible repeat (first | apply Kd.V_alloc | apply Kd.V_drewN | apply Kd.V_drew)); exact HL1427_0.out) hb)
 replace BK1420 := xB BK1420 hb
 replace HR1427_0 := zA (Kd.C_below (by repeat (first | (with_reducible exact HR1427_0.out) | (with_reducible refine Kd.C_alloc ?_ _) | (with_reducible refine Kd.C_drewN ?_ _) | (with_reducible refine Kd.C_drew ?_) | exact HR1427_0.out)) hb)
 replace HB := xH HB hb
 (try clear hb); (try clear hb2); (try clear hk); (try clear hi)
 refine hK.out _ _ ⟨bcu BK1420 0, bcu BK1420 1, bcu BK1420 2, (hcu HB hw1423_0)⟩ (fun hHeld => ?_)
 clear hK K
 refine no_ 24 ?_
 refine on_ 17 (some 28) (bl 27 4718591) HT_ (fun K hK => ?_)
 refine gS Try.func81 #[.agg #[.int .i64 a0_0, .slice A0_1 l0_1.length c0_1, .slice (some ad1423) l0_2.length c0_2]] ?_
 with_reducible refine (impl_Jacobi_polys.calls k a0_0 _ _ l0_1 _ _ l0_2 t1429 _ ?side1 ?side2 ?side3 ?side4 A10.out).mono ?_
 (case side1 => exact uC ((Kd.C_below HR0_1.out HB.out)))
 (case side2 => exact HC0_1.out)
 (case side3 => exact uC ((Kd.C_below HR0_2.out HB.out)))
 (case side4 => exact HC0_2.out)
 rintro e w24 ⟨v1430, rfl, ho0, hb⟩
 refine ⟨_, rfl, ?_⟩
 replace HL1427_0 := zA (Kd.V_elder' (by (with_reducible repeat (first | apply Kd.V_alloc | apply Kd.V_drewN | apply Kd.V_drew)); exact HL1427_0.out) (Kd.N_base ho0) hb)
 have HO1431 := zA (Kd.N_lower (Kd.N_mono (ok' := fun k_ => ax k_ (.slice (some ad1427) t1424.length co22) ∧ k_ ≠ gb1420) ho0 (fun k_ hk_ => ⟨(Kd.fresh' (Kd.N_lt (by (with_reducible repeat (first | apply Kd.N_alloc | apply Kd.N_drewN | apply Kd.N_drew)); exact HO1426.out)) k_ hk_), (Kd.freshB (g := gb1420) (o := .cells #[.int .i64 a0_0, .slice A0_1 l0_1.length c0_1, .slice (some ad1423) l0_2.length c0_2] 26 (0, 0)) (uB BK1420.out) k_ hk_)⟩)) (below_size (uH HB.out)))
 replace HO1426 := zA (Kd.N_elder' (by (with_reducible repeat (first | apply Kd.N_alloc | apply Kd.N_drewN | apply Kd.N_drew)); exact HO1426.out) (Kd.N_base ho0) hb)
 replace BK1420 := xB BK1420 hb
 replace HR1427_0 := zA (Kd.C_below (by repeat (first | (with_reducible exact HR1427_0.out) | (with_reducible refine Kd.C_alloc ?_ _) | (with_reducible refine Kd.C_drewN ?_ _) | (with_reducible refine Kd.C_drew ?_) | exact HR1427_0.out)) hb)
 replace HB := xH HB hb
 (try clear hb); (try clear hb2); (try clear hk); (try clear hi); (try clear ho0)
 obtain ⟨Ao25, co25, eo25⟩ := Kd.N_slice HO1431.out
 (first | subst eo25 | (injection eo25 with f1_ f2_ f3_; have f4_ := f1_.symm; have f5_ := f3_.symm; clear f1_ f2_ f3_; subst f4_; subst f5_))
 have p1432 : 0 ≤ (t1422 : Int) := of_decide_eq_true (by first | (with_reducible assumption) | assumption)
 have q1432 : t1422 < (t1429.length : Int) := of_decide_eq_true (by first | (with_reducible assumption) | assumption)
 obtain ⟨ad1432, A1432_0, c1432_0, e1432, hx1432_0, hl1432_0, hi1432_0⟩ := at_L1 (Kd.N_reads' HO1431.out).2.2 t1422 p1432 q1432
 cases e1432
 obtain ⟨ce1432, hce1432, hMe1432, hcc1432⟩ := Kd.N_get HO1431.out [] t1422 p1432 (by first | exact q1432 | exact of_decide_eq_true (by first | (with_reducible assumption) | assumption) | (have e_ := (Kd.N_reads' HO1431.out).1; omega))
 obtain ⟨ua1432_0, uc1432_0, rfl, ul1432_0, ge1432_0⟩ := Kd.FK_slice_open hMe1432
 have hv1432_0 := hcc1432 0 _ rfl
 rw [Nat.add_zero, show ((Kd.slice 2 (Kd.int .i64))).sz = 1 from rfl, Nat.mul_one] at hv1432_0
 replace hv1432_0 := Option.some.inj (hv1432_0.symm.trans hx1432_0)
 injection hv1432_0 with hva_ hvn_ hvc_
 rw [hva_] at ge1432_0
 rw [hvc_] at ul1432_0
 have HL1432_0 := zA (show Kd.V (Kd.int .i64) 2 _ w.heap.size _ _ (rd_L1 t1429 t1422) from Kd.V_mk ul1432_0 ge1432_0)
 clear hva_ hvn_ hvc_ ge1432_0 ul1432_0
 clear hcc1432 hce1432
 have HR1432_0 := zA hi1432_0
 have HC1432_0 := zA hl1432_0
 clear hi1432_0 hl1432_0
 replace p1432 := eq_true p1432
 replace q1432 := eq_true q1432
 refine hK.out _ _ ⟨bcu BK1420 0, bcu BK1420 1, bcu BK1420 2, (hcu HB hw1423_0)⟩ (fun hHeld => ?_)
 clear hK K
 refine no_ 28 ?_
 refine pu_ 19 30 (bl 27 5242879) HT_ ?_
 refine lo_ 20 31 (bl 27 6291455) HT_ hHeld ?_
 refine on_ 21 (some 32) (bl 27 8388607) HT_ (fun K hK => ?_)
 refine gS Try.func134 #[.int .i64 t1421, .slice A1432_0 (rd_L1 t1429 t1422).length c1432_0] ?_
 with_reducible refine (impl_field_derivative.calls k t1421 _ _ (rd_L1 t1429 t1422) t1433 _ ?side1 ?side2 A12.out).mono ?_
 (case side1 => repeat (first | exact (by repeat (first | (with_reducible exact HR1432_0.out) | (with_reducible refine Kd.C_alloc ?_ _) | (with_reducible refine Kd.C_drewN ?_ _) | (with_reducible refine Kd.C_drew ?_) | exact HR1432_0.out)) | (with_reducible refine Kd.C_alloc ?_ _) | (with_reducible refine Kd.C_drewN ?_ _) | (with_reducible refine Kd.C_drew ?_)))
 (case side2 => exact HC1432_0.out)
 rintro e w26 ⟨v1434, rfl, ho0, hb⟩
 refine ⟨_, rfl, ?_⟩
 replace HO1426 := zA (Kd.N_elder' (by (with_reducible repeat (first | apply Kd.N_alloc | apply Kd.N_drewN | apply Kd.N_drew)); exact HO1426.out) (Kd.R_base ho0) hb)
 replace HL1427_0 := zA (Kd.V_elder' (by (with_reducible repeat (first | apply Kd.V_alloc | apply Kd.V_drewN | apply Kd.V_drew)); exact HL1427_0.out) (Kd.R_base ho0) hb)
 replace HO1431 := zA (Kd.N_elder' (by (with_reducible repeat (first | apply Kd.N_alloc | apply Kd.N_drewN | apply Kd.N_drew)); exact HO1431.out) (Kd.R_base ho0) hb)
 replace HL1432_0 := zA (Kd.V_elder' (by (with_reducible repeat (first | apply Kd.V_alloc | apply Kd.V_drewN | apply Kd.V_drew)); exact HL1432_0.out) (Kd.R_base ho0) hb)
 have HO1435 := zA (Kd.R_lower ho0 (below_size (uH HB.out)))
 replace BK1420 := xB BK1420 hb
 replace HR1427_0 := zA (Kd.C_below (by repeat (first | (with_reducible exact HR1427_0.out) | (with_reducible refine Kd.C_alloc ?_ _) | (with_reducible refine Kd.C_drewN ?_ _) | (with_reducible refine Kd.C_drew ?_) | exact HR1427_0.out)) hb)
 replace HR1432_0 := zA (Kd.C_below (by repeat (first | (with_reducible exact HR1432_0.out) | (with_reducible refine Kd.C_alloc ?_ _) | (with_reducible refine Kd.C_drewN ?_ _) | (with_reducible refine Kd.C_drew ?_) | exact HR1432_0.out)) hb)
 replace HB := xH HB hb
 (try clear hb); (try clear hb2); (try clear hk); (try clear hi); (try clear ho0)
 obtain ⟨Ao27, co27, eo27⟩ := Kd.R_slice HO1435.out
 (first | subst eo27 | (injection eo27 with f1_ f2_ f3_; have f4_ := f1_.symm; have f5_ := f3_.symm; clear f1_ f2_ f3_; subst f4_; subst f5_))
 refine hK.out _ _ ⟨bcu BK1420 0, bcu BK1420 1, bcu BK1420 2, (hcu HB hw1423_0)⟩ (fun hHeld => ?_)
 clear hK K
 refine no_ 32 ?_
 refine on_ 23 (some 34) (bl 27 16777215) HT_ (fun K hK => ?_)
 refine gS Try.func110 #[.int .i64 t1421, .slice Ao27 t1433.length co27, .int .i64 a1] ?_
 with_reducible refine (impl_field_value.calls t1421 _ _ t1433 a1 t1436 _ ?side1 ?side2 A13.out).mono ?_
 (case side1 => exact uC ((Kd.R_reads' HO1435.out).2.2))
 (case side2 => exact (Kd.R_reads' HO1435.out).2.1)
 rintro e w28 ⟨rfl, hb⟩
 refine ⟨_, rfl, ?_⟩
 replace HO1426 := zA (Kd.N_below (by (with_reducible repeat (first | apply Kd.N_alloc | apply Kd.N_drewN | apply Kd.N_drew)); exact HO1426.out) hb)
 replace HL1427_0 := zA (Kd.V_below (by (with_reducible repeat (first | apply Kd.V_alloc | apply Kd.V_drewN | apply Kd.V_drew)); exact HL1427_0.out) hb)
 replace HO1431 := zA (Kd.N_below (by (with_reducible repeat (first | apply Kd.N_alloc | apply Kd.N_drewN | apply Kd.N_drew)); exact HO1431.out) hb)
 replace HL1432_0 := zA (Kd.V_below (by (with_reducible repeat (first | apply Kd.V_alloc | apply Kd.V_drewN | apply Kd.V_drew)); exact HL1432_0.out) hb)
 replace HO1435 := xR HO1435 hb
 replace BK1420 := xB BK1420 hb
 replace HR1427_0 := zA (Kd.C_below (by repeat (first | (with_reducible exact HR1427_0.out) | (with_reducible refine Kd.C_alloc ?_ _) | (with_reducible refine Kd.C_drewN ?_ _) | (with_reducible refine Kd.C_drew ?_) | exact HR1427_0.out)) hb)
 replace HR1432_0 := zA (Kd.C_below (by repeat (first | (with_reducible exact HR1432_0.out) | (with_reducible refine Kd.C_alloc ?_ _) | (with_reducible refine Kd.C_drewN ?_ _) | (with_reducible refine Kd.C_drew ?_) | exact HR1432_0.out)) hb)
 replace HB := xH HB hb
 (try clear hb); (try clear hb2); (try clear hk); (try clear hi)
 refine hK.out _ _ ⟨bcu BK1420 0, bcu BK1420 1, bcu BK1420 2, (hcu HB hw1423_0)⟩ (fun hHeld => ?_)
 clear hK K
 refine no_ 34 ?_
 refine on_ 24 (some 35) (bl 27 33554431) HT_ (fun K hK => ?_)
 refine gS Try.func132 #[.int .i64 t1421, .int .i64 t1428, .int .i64 t1436] ?_
 with_reducible refine (impl_field_div.calls k t1421 t1428 t1436 t1437 _ A14.out).mono ?_
 rintro e w' ⟨rfl, ⟨nd, rfl⟩⟩
 refine ⟨_, rfl, ?_⟩
 refine hK.out _ _ ⟨bcu BK1420 0, bcu BK1420 1, bcu BK1420 2, (hcu HB hw1423_0)⟩ (fun hHeld => ?_)
 clear hK K
 refine no_ 35 ?_
 refine on_ 25 (some 36) (bl 27 67108863) HT_ (fun K hK => ?_)
 refine gS Try.func131 #[.int .i64 t1421, .int .i64 (rd l0_2 0), .int .i64 t1437] ?_
 with_reducible refine (impl_field_mul.calls t1421 (rd l0_2 0) t1437 t1438 _ A15.out).mono ?_
 rintro e w' ⟨rfl, ⟨nd, rfl⟩⟩
 refine ⟨_, rfl, ?_⟩
 refine hK.out _ _ ⟨bcu BK1420 0, bcu BK1420 1, bcu BK1420 2, (hcu HB hw1423_0)⟩ (fun hHeld => ?_)
 clear hK K
 refine no_ 36 ?_
 refine pu_ 26 4 (bl 27 134217727) HT_ ?_
 refine done_ (done_of HT_.out (by kernel_rfl)) ?_
 try go_wp2
 go_ret
 exact ⟨by first | rfl | (simp [errW_none, errW_some] <;> rfl) | (simp [*, errW_none, errW_some] <;> rfl), uH HB.out⟩
/-! ### impl_field_roots: function 80 -/
def impl_field_roots.l0 : Nat → Int → List Int → List Int → Int → Int → Option (List Int)
 | 0, _, _, _, _, _ => none
 | k + 1, x0, x1, x5, x7, x8 => if x8 < x7 then ((impl_field_value.f x0 x1 x8).bind fun t1373 => (if t1373 = 0 then (if x5.length < 17592186044416 then (impl_field_roots.l0 k x0 x1 (x5 ++ [x8]) x7 (wrap64 (x8 + 1))) else (none)) else (impl_field_roots.l0 k x0 x1 x5 x7 (wrap64 (x8 + 1))))) else (some x5)
def impl_field_roots.f (k : Nat) (a0 : Int) (l1 : List Int) : Option (List Int) := impl_field_roots.l0 k a0 l1 ([] : List Int) a0 0
set_option maxHeartbeats 8000000 in
set_option maxRecDepth 100000 in
theorem impl_field_roots.calls (k : Nat) (a0 : Int) (A1 : Option Addr) (c1 : Nat) (l1 : List Int) (r : List Int) (w : World) (hr1 : Kd.C (Kd.int .i64) w A1 l1.length l1) (hc1 : l1.length ≤ c1) (h : impl_field_roots.f k a0 l1 = some r) :
  Calls Try.prog 80 #[.int .i64 a0, .slice A1 l1.length c1] w fun e w' => ∃ v0_ : Value, e = .returned (v0_) ∧ Kd.R (Kd.int .i64) 2 w' w.heap.size (fun _ => True) v0_ r ∧ Below w.heap.size w w' := by
 have HR1 := zA hr1
 have HC1 := zA hc1
 clear hr1 hc1
 have HB := zA (Below.refl w.heap.size w)
 have H : (impl_field_roots.l0 k a0 l1 ([] : List Int) a0 0) = some r := h
 clear h
 have H' := zA H
 clear H
 go_enter Try.func80, Try.ntmps80
 go_wp2
 go_loopg [5, 8] k (fun kq v5 v8 w' => ∃ (x5_1 : List Int) (x8_1 : Int), v8 = .int .i64 x8_1 ∧ Aside0 (impl_field_roots.l0 kq a0 l1 x5_1 a0 x8_1 = some r) ∧ Aside0 (kq ≤ k) ∧ Aside0 (Kd.R (Kd.int .i64) 2 w' w.heap.size (fun _ => True) v5 x5_1) ∧ Aside0 (Below w.heap.size w w'))
 case atStart => exact ⟨(([] : List Int)), (0), (by first | rfl | (simp; done) | (simp [*]; done)), H', ⟨Nat.le_refl _⟩, ⟨by first | exact Kd.R_nil _ _ _ _ _ | exact Kd.N_nil _ _ _ _ _ | exact Kd.V_nil _ _ _ _ _ | exact Kd.Q_nil _ _ _ _ _ | exact Kd.S_nil _ _ _ _ _⟩, ⟨uH HB.out⟩⟩
 case round =>
  clear H'
  (try clear c1);(try clear p2)
  obtain ⟨x5_1, x8_1, rfl, HA, HK1, HO_5, HB⟩ := hrel
  cases gk with
  | zero => exact absurd HA.out (by simp [impl_field_roots.l0])
  | succ k1 =>
   have H := HA.out
   clear HA
   simp only [impl_field_roots.l0] at H
   by_cases c3 : x8_1 < a0
   rotate_left
   ·rw [if_neg c3] at H
    have c3b0 : decide (x8_1 < a0) = false := decide_eq_false c3
    clear c3
    obtain rfl := Option.some.inj H
    go_wp2
    go_ret
    exact ⟨_, by first | rfl | (simp [errW_none, errW_some] <;> rfl) | (simp [*, errW_none, errW_some] <;> rfl), uR HO_5.out, uH HB.out⟩

   rw [if_pos c3] at H
   have c3b0 : decide (x8_1 < a0) = true := decide_eq_true c3
   clear c3
   replace H := Option.bind_eq_some_iff.mp H
   obtain ⟨t1373, A40, H⟩ := H
   replace H : (if t1373 = 0 then (if x5_1.length < 17592186044416 then (impl_field_roots.l0 k1 a0 l1 (x5_1 ++ [x8_1]) a0 (wrap64 (x8_1 + 1))) else (none)) else (impl_field_roots.l0 k1 a0 l1 x5_1 a0 (wrap64 (x8_1 + 1)))) = some r := H
   have A4 := zA A40
   clear A40
   by_cases c5 : t1373 = 0
   rotate_left
   ·rw [if_neg c5] at H
    have c5b0 : (t1373 == 0) = false := beq_eq_false_iff_ne.mpr c5
    have c5b1 : (t1373 != 0) = true := bne_iff_ne.mpr c5
    have H' := zA H
    clear H
    go_wp2_with (first | ((with_reducible refine gate_callee (f := 110) rfl ?_); refine gL (some 14) Try.func110 #[.int .i64 a0, .slice A1 l1.length c1, .int .i64 x8_1] ?_; (with_reducible refine (impl_field_value.calls a0 _ _ l1 x8_1 t1373 _ ?side1 ?side2 A4.out).mono ?_); (case side1 => exact uC ((Kd.C_below HR1.out HB.out))); (case side2 => exact HC1.out); rintro e w9 ⟨rfl, hb⟩; refine ⟨_, rfl, ?_⟩; replace HO_5 := xR HO_5 hb; replace HB := xH HB hb; (try clear hb); (try clear hb2); (try clear hk); (try clear hi)))
    go_roundg k1
    case measure => have := HK1.out; omega
    case rel => exact ⟨(x5_1), (wrap64 (x8_1 + 1)), (by first | rfl | (simp; done) | (simp [*]; done)), H', ⟨by have := HK1.out; omega⟩, ⟨uR HO_5.out⟩, ⟨uH HB.out⟩⟩
   rw [if_pos c5] at H
   have c5b0 : (t1373 == 0) = true := beq_iff_eq.mpr c5
   have c5b1 : (t1373 != 0) = false := bne_eq_false_iff_eq.mpr c5
   clear c5
   by_cases c6 : x5_1.length < 17592186044416
   rotate_left
   ·rw [if_neg c6] at H
    exact absurd H (by simp)
   rw [if_pos c6] at H
   have LMc6 := zA c6
   clear c6
   obtain ⟨y1374, hy1374⟩ : ∃ y_ : List Int, y_ = (x5_1 ++ [x8_1]) := ⟨_, rfl⟩
   replace H : (impl_field_roots.l0 k1 a0 l1 y1374 a0 (wrap64 (x8_1 + 1))) = some r := by first | (rw [hy1374]; exact H) | exact H
   have Ny1374 := zA hy1374
   clear hy1374
   have H' := zA H
   clear H
   go_wp2_with (first | ((with_reducible refine gate_callee (f := 110) rfl ?_); refine gL (some 14) Try.func110 #[.int .i64 a0, .slice A1 l1.length c1, .int .i64 x8_1] ?_; (with_reducible refine (impl_field_value.calls a0 _ _ l1 x8_1 t1373 _ ?side1 ?side2 A4.out).mono ?_); (case side1 => exact uC ((Kd.C_below HR1.out HB.out))); (case side2 => exact HC1.out); rintro e w7 ⟨rfl, hb⟩; refine ⟨_, rfl, ?_⟩; replace HO_5 := xR HO_5 hb; replace HB := xH HB hb; (try clear hb); (try clear hb2); (try clear hk); (try clear hi)) | ((with_reducible refine gate_builtin (b := .append) (xs := #[.tmp 16, .tmp 18]) rfl ?_); at_builtin; refine Kd.R_append (Kd.int .i64) (w0 := w) w.heap.size rfl (.tmp 16) (.tmp 18) 22 2 (.int .i64 0) 8 rfl Try.underlying22 info2 rfl (by decide) (by omega) u5 x5_1 x8_1 [.int .i64 x8_1] (fun _ => True) (fun _ => False) rfl rfl ?aP (fun _ hk => hk.elim) ?aF ?aO ?aB ?aS ?aL ?_; (case aP => exact rfl); (case aB => exact (uH HB.out)); (case aF => exact (fun _ _ => trivial)); (case aO => exact (uR HO_5.out)); (case aS => exact (below_size (uH HB.out))); (case aL => have := LMc6.out; omega); intro v1375 w8 ho hb hg hat; rw [← Ny1374.out] at ho; replace HB := zA (hb); have HO1376 := zA (ho); clear HO_5 ho hb hg hat))
   go_roundg k1
   case measure => have := HK1.out; omega
   case rel => exact ⟨(y1374), (wrap64 (x8_1 + 1)), (by first | rfl | (simp; done) | (simp [*]; done)), H', ⟨by have := HK1.out; omega⟩, ⟨uR HO1376.out⟩, ⟨uH HB.out⟩⟩
end Go.Proofs.Ytfbnkebgdmfcfaa.Pr
