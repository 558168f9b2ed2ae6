/- Texts of this session in one: what functions of the program compute, and plain facts of it, under the conditions that each theorem names. -/
import Derived.Test.YtokkabgkjhpecaaKC07
import Derived.Test.YtokkabgkjhpecaaKC08
import Derived.Test.YtokkabgkjhpecaaKDegreeOfRule1
/- Powers of x as polynomials: their values, and what a functional makes of them; no condition. -/
namespace Go.Proofs.Ytokkabgkjhpecaa.Pr
open Go.RowKit Go.Proofs.YtokkabgkjhpecaaW.PrintWords Go.Proofs.YtokkabgkjhpecaaW.PrintLast Go.Proofs.YtokkabgkjhpecaaW.PrintMore

theorem pow_mod_step {p : Int} (a : Int) (m : Nat) : ∀ o : Int, (o * (a % p) ^ m) % p = (o * a ^ m) % p := by
  induction m with
  | zero => intro o; rw [Int.pow_zero, Int.pow_zero]
  | succ m ih =>
    intro o
    rw [Int.pow_succ, Int.pow_succ, Int.mul_comm ((a % p) ^ m), ← Int.mul_assoc, ih, Int.mul_assoc, Int.mul_comm (a % p), ← Int.mul_assoc, Int.mul_emod, Int.emod_emod, ← Int.mul_emod, Int.mul_assoc]
theorem sq_pow (x : Int) (m : Nat) : (x * x) ^ m = x ^ (2 * m) := by
  induction m with
  | zero => rw [Int.pow_zero, Nat.mul_zero, Int.pow_zero]
  | succ m ih => rw [Int.pow_succ, ih, show 2 * (m + 1) = 2 * m + 1 + 1 from by omega, Int.pow_succ, Int.pow_succ, Int.mul_assoc]
theorem powGo_eq {p : Int} (hp : 0 < p) (d : Nat) : ∀ (x : Int) (k : Nat) (o : Int), k ≤ d → 0 ≤ o ∧ o < p → powGo p d x k o = (o * x ^ k) % p := by
  induction d with
  | zero =>
    intro x k o hk ho
    obtain rfl : k = 0 := by omega
    rw [powGo, Int.pow_zero, Int.mul_one, Int.emod_eq_of_lt ho.1 ho.2]
  | succ d ih =>
    intro x k o hk ho
    rw [powGo]
    by_cases h : k = 0
    · subst h; rw [if_pos rfl, Int.pow_zero, Int.mul_one, Int.emod_eq_of_lt ho.1 ho.2]
    · rw [if_neg h]
      by_cases g : k % 2 = 1
      · rw [if_pos g, ih _ _ _ (by omega) (emodB hp _), pow_mod_step, sq_pow, Int.mul_emod, Int.emod_emod, ← Int.mul_emod, Int.mul_assoc, Int.mul_comm x, ← Int.pow_succ, show (2 * (k / 2)).succ = k from by omega]
      · rw [if_neg g, ih _ _ _ (by omega) ho, pow_mod_step, sq_pow, show 2 * (k / 2) = k from by omega]
theorem powF_eq {p : Int} (hp : Pm p) (x : Int) (k : Nat) : powF p x k = x ^ k % p := by
  have := hp.two
  rw [powF, powGo_eq hp.pos k x k 1 (Nat.le_refl _) (by omega), Int.one_mul]

/-- The polynomial x^k. -/
def mono (k : Nat) : List Int := List.replicate k 0 ++ [1]
theorem mono_len (k : Nat) : (mono k).length = k + 1 := by simp [mono]
theorem mono_top (k : Nat) : (mono k).getD k 0 = 1 := by
  rw [mono, List.getD_eq_getElem?_getD, List.getElem?_append_right (by simp)]; simp
theorem mono_low {k j : Nat} (h : j ≠ k) : (mono k).getD j 0 = 0 := by
  rw [mono, List.getD_eq_getElem?_getD]
  by_cases g : j < k
  · rw [List.getElem?_append_left (by simpa using g), List.getElem?_replicate, if_pos g]; rfl
  · rw [List.getElem?_eq_none (by simp; omega)]; rfl
theorem mono_nm {p : Int} (hp : Pm p) (k : Nat) : Nm p (mono k) := by
  have := hp.two
  exact (Nm.zeros hp.pos k).append (Nm.cons (by omega) (by omega) (Nm.nil p))
theorem valG_mono (p x : Int) (k j : Nat) (h : j ≤ k) : valG p x (mono k) (j + 1) = x ^ j % p := by
  induction j with
  | zero => rw [valG, valG, mono_len, show k + 1 - 1 - 0 = k from by omega, mono_top, Int.zero_mul, Int.zero_add, Int.pow_zero]
  | succ j ih =>
    rw [valG, ih (by omega), mono_len, mono_low (by omega), Int.add_zero, Int.mul_emod, Int.emod_emod, ← Int.mul_emod, ← Int.pow_succ]
theorem valF_mono {p : Int} (hp : Pm p) (x : Int) (k : Nat) : valF p x (mono k) = powF p x k := by
  rw [valF, mono_len, valG_mono p x k k (Nat.le_refl _), powF_eq hp]
theorem sumTo_zero {g : Nat → Int} {n : Nat} (h : ∀ i, i < n → g i = 0) : sumTo g n = 0 := by
  induction n with
  | zero => rfl
  | succ n ih => rw [sumTo, ih (fun i hi => h i (by omega)), h n (by omega)]; rfl
theorem applyM_mono {p : Int} (m : List Int) (hm : Nm p m) (k : Nat) (hk : k < m.length) : applyM p m (mono k) 0 = m.getD k 0 := by
  have h := hm.get (i := k) hk
  rw [applyM, mono_len, sumTo, sumTo_zero, mono_top, Int.one_mul, Int.zero_add, Nat.add_zero, Int.emod_eq_of_lt h.1 h.2]
  intro i hi
  rw [mono_low (by omega), Int.zero_mul]
end Go.Proofs.Ytokkabgkjhpecaa.Pr
/- Sums of a rule for powers, in the reference; no condition. -/
namespace Go.Proofs.Ytokkabgkjhpecaa.Pr
open Go.RowKit Go.Proofs.YtokkabgkjhpecaaW.PrintWords Go.Proofs.YtokkabgkjhpecaaW.PrintLast Go.Proofs.YtokkabgkjhpecaaW.PrintMore

def sumGo (p : Int) (n w : List Int) (k : Nat) : Nat → Nat → Int → Int
  | 0, _, s => s
  | d + 1, i, s => sumGo p n w k d (i + 1) ((s + w.getD i 0 * powF p (n.getD i 0) k) % p)
def momsR (p : Int) (n w : List Int) (m : Nat) : List Int := (List.range m).map fun k => sumGo p n w k n.length 0 0
theorem momsR_len (p : Int) (n w : List Int) (m : Nat) : (momsR p n w m).length = m := by simp [momsR]
theorem momsR_succ (p : Int) (n w : List Int) (m : Nat) : momsR p n w (m + 1) = momsR p n w m ++ [sumGo p n w m n.length 0 0] := by simp [momsR, List.range_succ]
theorem specMomR_l1 {p : Int} (hp : Pm p) (n w : List Int) (hn : Nm p n) (hw : Nm p w) (hl : n.length ≤ 24) (hwl : w.length = n.length) (m : Int) (l : List Int) (k : Nat) (hk : k < 1000) (r : List Int) (d : Nat) : ∀ (i : Nat) (s : Int), i + d = n.length → 0 ≤ s ∧ s < p → l.length < 17592186044416 →
    Ev (fun q => spec_l07Moments.l0 q m (l ++ [sumGo p n w k d i s]) (wrap64 ((k : Int) + 1)) p n w) r → Ev (fun q => spec_l07Moments.l1 q m l (k : Int) s (i : Int) p n w) r := by
  induction d with
  | zero =>
    intro i s hi hs hll e
    refine Ev.step (fun q => by rw [spec_l07Moments.l1]) ?_
    exact Ev.neg (by omega) (Ev.pos hll e)
  | succ d ih =>
    intro i s hi hs hll e
    have h1 := hn.get (i := i) (by omega)
    have h2 := hw.get (i := i) (by omega)
    have h3 := powF_in hp (n.getD i 0) k
    have h4 := mulP hp h2.1 h2.2 h3.1 h3.2
    have ht := hp.top
    refine Ev.step (fun q => by rw [spec_l07Moments.l1]) ?_
    refine Ev.pos (by omega) (Ev.pos (by omega) (Ev.pos (by omega) ?_))
    rw [rd_nat, rd_nat]
    refine Ev.bind (specPow_ev hp h1 k (by omega)) (Ev.neg hp.ne ?_)
    rw [wrap_id (x := w.getD i 0 * powF p (n.getD i 0) k) (by omega) (by omega), wrap_id (by omega) (by omega), tmod_pos (by omega), wsucc (i := i) (n := n.length) (by omega) (by omega)]
    exact ih (i + 1) _ (by omega) (emodB hp.pos _) hll e
theorem specMomR_l0 {p : Int} (hp : Pm p) (n w : List Int) (hn : Nm p n) (hw : Nm p w) (hl : n.length ≤ 24) (hwl : w.length = n.length) (m : Nat) (hm : m < 1000) (d : Nat) : ∀ k, k + d = m →
    Ev (fun q => spec_l07Moments.l0 q (m : Int) (momsR p n w k) (k : Int) p n w) (momsR p n w m) := by
  induction d with
  | zero =>
    intro k hk
    refine Ev.step (fun q => by rw [spec_l07Moments.l0]) ?_
    refine Ev.neg (by omega) (Ev.some' ?_)
    rw [show k = m from by omega]
  | succ d ih =>
    intro k hk
    refine Ev.step (fun q => by rw [spec_l07Moments.l0]) ?_
    refine Ev.pos (by omega) ?_
    refine specMomR_l1 hp n w hn hw hl hwl _ _ k (by omega) _ n.length 0 0 (by omega) ⟨Int.le_refl _, hp.pos⟩ (by rw [momsR_len]; omega) ?_
    rw [← momsR_succ, wsucc (i := k) (n := m) (by omega) (by omega)]
    exact ih (k + 1) (by omega)
end Go.Proofs.Ytokkabgkjhpecaa.Pr
