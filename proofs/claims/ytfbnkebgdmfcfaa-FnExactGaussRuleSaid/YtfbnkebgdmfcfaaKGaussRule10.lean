/- Texts of this session in one: what functions of the program compute, and plain facts of it, under the conditions that each theorem names. -/
import Derived.Test.YtfbnkebgdmfcfaaKGaussRule4
import Derived.Test.YtfbnkebgdmfcfaaKGaussRule7
import Derived.Test.YtfbnkebgdmfcfaaKGaussRule8
import Derived.Test.YtfbnkebgdmfcfaaKGaussRule9
namespace Go.Proofs.Ytfbnkebgdmfcfaa.Pr
/- Values of polynomials: the program's and the reference's come to one number; no condition. -/
open Go.RowKit Go.Proofs.YtfbnkebgdmfcfaaW.PrintWords Go.Proofs.YtfbnkebgdmfcfaaW.PrintLast Go.Proofs.YtfbnkebgdmfcfaaW.PrintMore
/-- The first k numbers from behind taken in. -/
def valG (p x : Int) (l : List Int) : Nat → Int
  | 0 => 0
  | k + 1 => (valG p x l k * x + l.getD (l.length - 1 - k) 0) % p
theorem valG_in {p : Int} (hp : Pm p) (x : Int) (l : List Int) (k : Nat) : 0 ≤ valG p x l k ∧ valG p x l k < p := by
  cases k with
  | zero => exact ⟨Int.le_refl _, hp.pos⟩
  | succ k => exact emodB hp.pos _
def valF (p x : Int) (l : List Int) : Int := valG p x l l.length
theorem valF_in {p : Int} (hp : Pm p) (x : Int) (l : List Int) : 0 ≤ valF p x l ∧ valF p x l < p := valG_in hp x l _
theorem valStep_eq {p x o c : Int} (hp : Pm p) (hx : 0 ≤ x ∧ x < p) (ho : 0 ≤ o ∧ o < p) (hc : 0 ≤ c ∧ c < p) : valStep p x o c = (o * x + c) % p := by
  have h := mulP hp ho.1 ho.2 hx.1 hx.2
  have ht := hp.top
  unfold valStep
  rw [wrap_id (x := o * x) (by omega) (by omega), wrap_id (x := o * x + c) (by omega) (by omega), go_mod hp]
theorem valOf_upto {p x : Int} (hp : Pm p) (hx : 0 ≤ x ∧ x < p) (l : List Int) (hl : Nm p l) (k : Nat) (hk : k ≤ l.length) : valOf p x (upto (bk l l.length) k) = valG p x l k := by
  induction k with
  | zero => rfl
  | succ k ih =>
    have hg := hl.get (i := l.length - 1 - k) (by omega)
    have hv := valG_in hp x l k
    rw [upto_succ, valOf_snoc, ih (by omega), valG]
    have e : (bk l l.length k).2 = l.getD (l.length - 1 - k) 0 := by simp [bk, List.getD_eq_getElem?_getD]
    rw [e, valStep_eq hp hx hv hg]
theorem implValue_eq {p x : Int} (hp : Pm p) (hx : 0 ≤ x ∧ x < p) (l : List Int) (hl : Nm p l) (hs : Sm l.length) : impl_field_value.f p l x = some (valF p x l) := by
  unfold impl_field_value.f
  unfold Sm at hs
  rw [if_neg hp.ne, if_pos (by omega), valOf_upto hp hx l hl l.length (Nat.le_refl _)]; rfl
theorem specAt_l0 {p x : Int} (hp : Pm p) (hx : 0 ≤ x ∧ x < p) (l : List Int) (hl : Nm p l) (hs : Sm l.length) (d : Nat) : ∀ k, k + d = l.length →
    Ev (fun n => spec_l01At.l0 n p l x (valG p x l k) ((l.length : Int) - 1 - (k : Int))) (valF p x l) := by
  induction d with
  | zero =>
    intro k hk
    refine Ev.step (fun n => by rw [spec_l01At.l0]) ?_
    refine Ev.neg (by omega) (Ev.some' ?_)
    rw [show k = l.length from by omega]; rfl
  | succ d ih =>
    intro k hk
    have hv := valG_in hp x l k
    have hg := hl.get (i := l.length - 1 - k) (by omega)
    have h := mulP hp hv.1 hv.2 hx.1 hx.2
    have ht := hp.top
    unfold Sm at hs
    have er : rd l ((l.length : Int) - 1 - (k : Int)) = l.getD (l.length - 1 - k) 0 := by
      rw [show (l.length : Int) - 1 - (k : Int) = ((l.length - 1 - k : Nat) : Int) from by omega, rd_nat]
    have ew : wrap64 ((l.length : Int) - 1 - (k : Int) - 1) = (l.length : Int) - 1 - ((k + 1 : Nat) : Int) := by rw [wrap_id (by omega) (by omega)]; omega
    refine Ev.step (fun n => by rw [spec_l01At.l0]) ?_
    rw [er, ew]
    clear er ew
    refine Ev.pos (by omega) (Ev.pos (by omega) (Ev.pos (by omega) (Ev.neg hp.ne ?_)))
    rw [wrap_id (x := valG p x l k * x) (by omega) (by omega), wrap_id (by omega) (by omega), tmod_pos (by omega)]
    exact ih (k + 1) (by omega)
theorem specAt_ev {p x : Int} (hp : Pm p) (hx : 0 ≤ x ∧ x < p) (l : List Int) (hl : Nm p l) (hs : Sm l.length) : Ev (fun n => spec_l01At.f n p l x) (valF p x l) := by
  unfold spec_l01At.f
  have h := specAt_l0 hp hx l hl hs l.length 0 (by omega)
  have hs' := hs
  unfold Sm at hs'
  rw [wrap_id (x := (l.length : Int) - 1) (by omega) (by omega)]
  rw [show (l.length : Int) - 1 - ((0 : Nat) : Int) = (l.length : Int) - 1 from by omega] at h
  exact h
/- The weight that the Gauss rule has at a number: the program's and the reference's; no condition. -/
/-- The weight that the Gauss rule has at x. -/
def chrF (p : Int) (a b : List Int) (x : Int) : Int :=
  (b.getD 0 0 * (valF p x (qPair p a b a.length).1 * invF p (valF p x (derF p (pPair p a b a.length).2)) % p)) % p
section
variable {p : Int} {a b : List Int} (h : jacB p a b = true) {x : Int} (g : 0 ≤ x ∧ x < p)
include h g
theorem specChr_ev : Ev (fun n => spec_l07Christoffel.f n p a b x) (chrF p a b x) := by
  obtain ⟨⟨⟨h4, h5⟩, h6⟩, h7, h8⟩ := jacB.all h
  have hp := jacB.pm h
  have hp2 := hp.two
  have hpt := hp.top
  have o1 := pPair_ok hp a b a.length
  have o2 := qPair_ok hp a b a.length
  have s1 : Sm (pPair p a b a.length).2.length := by have := o1.2.2; unfold Sm; omega
  have s2 : Sm (qPair p a b a.length).1.length := by have := o2.2.1; unfold Sm; omega
  have d1 := derF_len p (pPair p a b a.length).2
  have s3 : Sm (derF p (pPair p a b a.length).2).length := by unfold Sm at s1 ⊢; omega
  have n3 := derF_nm hp.pos (pPair p a b a.length).2
  have l3 : (pPair p a b a.length).2.length ≤ 1000 := by have := o1.2.2; omega
  have hsP := specPoly03_ev hp a b h7 h8.nm a.length (Nat.le_refl _) h5 h6
  have hsQ := specSecond_ev hp a b h7 h8.nm a.length (Nat.le_refl _) h5 h6
  have v1 := valF_in hp x (qPair p a b a.length).1
  have v2 := valF_in hp x (derF p (pPair p a b a.length).2)
  have v3 := invF_in hp (valF p x (derF p (pPair p a b a.length).2))
  have b0 := h8.nm.get (i := 0) (by omega)
  have er : rd b 0 = b.getD 0 0 := rd_nat b 0
  refine Ev.cast (r := (b.getD 0 0 * valF p x (qPair p a b a.length).1 % p * invF p (valF p x (derF p (pPair p a b a.length).2))) % p) ?_ (mul_mod_mid _ _ _ _)
  unfold spec_l07Christoffel.f
  refine Ev.bind hsP (Ev.bind (specDer_ev hp _ o1.1.2 l3) (Ev.bind (specAt_ev hp g _ n3 s3) (Ev.pos (by omega) (Ev.bind hsQ (Ev.bind (specAt_ev hp g _ o2.1.1 s2) (Ev.neg hp.ne (Ev.bind (specInv_ev hp v2) ?_)))))))
  have m1 := mulP hp b0.1 b0.2 v1.1 v1.2
  have e1 := emodB hp.pos (b.getD 0 0 * valF p x (qPair p a b a.length).1)
  have m2 := mulP hp e1.1 e1.2 v3.1 v3.2
  rw [er, wrap_id (x := b.getD 0 0 * valF p x (qPair p a b a.length).1) (by omega) (by omega), tmod_pos m1.1, wrap_id (by omega) (by omega), tmod_pos m2.1]
  exact Ev.now _
theorem implChr_ev : Ev (fun n => impl_Jacobi_christoffel.f n p a b x) (chrF p a b x) := by
  obtain ⟨⟨⟨h4, h5⟩, h6⟩, h7, h8⟩ := jacB.all h
  have hp := jacB.pm h
  have o1 := pPair_ok hp a b a.length
  have o2 := qPair_ok hp a b a.length
  have s1 : Sm (pPair p a b a.length).2.length := by have := o1.2.2; unfold Sm; omega
  have s2 : Sm (qPair p a b a.length).1.length := by have := o2.2.1; unfold Sm; omega
  have d1 := derF_len p (pPair p a b a.length).2
  have s3 : Sm (derF p (pPair p a b a.length).2).length := by unfold Sm at s1 ⊢; omega
  have n3 := derF_nm hp.pos (pPair p a b a.length).2
  have l3 : (pPair p a b a.length).2.length ≤ 1000 := by have := o1.2.2; omega
  have v1 := valF_in hp x (qPair p a b a.length).1
  have v2 := valF_in hp x (derF p (pPair p a b a.length).2)
  have b0 := h8.nm.get (i := 0) (by omega)
  have er : rd b 0 = b.getD 0 0 := rd_nat b 0
  unfold impl_Jacobi_christoffel.f
  refine Ev.bindE (a := p) rfl (Ev.bindE (size_eq p a b) (Ev.pos (by omega) (Ev.bind (implAssoc_ev hp a b h7 h8.nm h4 h5 h6) ?_)))
  rw [qAll_len, qAll_rd p a b (by omega)]
  refine Ev.pos (by omega) (Ev.pos (by omega) (Ev.bindE (implValue_eq hp g _ o2.1.1 s2) (Ev.bind (implPolys_ev hp a b h7 h8.nm h5 h6) ?_)))
  rw [pAll_len, pAll_rd p a b (by omega)]
  refine Ev.pos (by omega) (Ev.bind (implDer_ev hp _ o1.1.2 l3) (Ev.bindE (implValue_eq hp g _ n3 s3) (Ev.bind (implDiv_ev hp v1 v2) ?_)))
  rw [er]
  exact Ev.bindE (fmul_eq hp b0 (emodB hp.pos _)) (Ev.now _)
end
end Go.Proofs.Ytfbnkebgdmfcfaa.Pr
