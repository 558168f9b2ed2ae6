/- The first numbers of a quotient: the program's and the reference's; no condition. -/
import Derived.Test.YtjdannndpfkadaaKStepsOf4
import Derived.Test.YtjdannndpfkadaaKStepsOf5
namespace Go.Proofs.Ytjdannndpfkadaa.Pr
open Go.RowKit Go.Proofs.YtjdannndpfkadaaW.PrintWords Go.Proofs.YtjdannndpfkadaaW.PrintLast Go.Proofs.YtjdannndpfkadaaW.PrintMore

def serIn (p : Int) (g o : List Int) (k : Nat) : Nat → Nat → Int → Int
  | 0, _, s => s
  | d + 1, i, s => serIn p g o k d (i + 1) ((s - g.getD i 0 * o.getD (k - i) 0) % p)
theorem serIn_in {p : Int} (hp : 0 < p) (g o : List Int) (k d : Nat) : ∀ (i : Nat) (s : Int), 0 ≤ s ∧ s < p → 0 ≤ serIn p g o k d i s ∧ serIn p g o k d i s < p := by
  induction d with
  | zero => intro i s h; exact h
  | succ d ih => intro i s h; exact ih _ _ (emodB hp _)
theorem serIn_pre (p : Int) (g o z : List Int) (k d : Nat) (hk : o.length = k) : ∀ (i : Nat) (s : Int), 1 ≤ i → i + d ≤ k + 1 → serIn p g (o ++ z) k d i s = serIn p g o k d i s := by
  induction d with
  | zero => intro i s h1 h2; rfl
  | succ d ih =>
    intro i s h1 h2
    rw [serIn, serIn, ih (i + 1) _ (by omega) (by omega)]
    congr 4
    rw [List.getD_eq_getElem?_getD, List.getElem?_append_left (by omega), List.getD_eq_getElem?_getD]
def serL (p : Int) (f g : List Int) (v : Int) : Nat → List Int
  | 0 => []
  | k + 1 => serL p f g v k ++ [(serIn p g (serL p f g v k) k (min k (g.length - 1)) 1 (f.getD k 0) * v) % p]
theorem serL_len (p : Int) (f g : List Int) (v : Int) (k : Nat) : (serL p f g v k).length = k := by
  induction k with
  | zero => rfl
  | succ k ih => rw [serL, List.length_append, ih]; rfl
theorem serL_nm {p : Int} (hp : 0 < p) (f g : List Int) (v : Int) (k : Nat) : Nm p (serL p f g v k) := by
  induction k with
  | zero => exact Nm.nil p
  | succ k ih => exact ih.append (Nm.cons (emodB hp _).1 (emodB hp _).2 (Nm.nil p))
theorem spec5_l1 {p : Int} (hp : Pm p) (f g : List Int) (ng : Nm p g) (v : Int) (hv : 0 ≤ v ∧ v < p) (n : Int) (o : List Int) (no : Nm p o) (k : Nat) (hk : k < 1000) (hg : g.length ≤ 1000) (hg1 : 1 ≤ g.length) (ho : o.length = k) (r : List Int) (d : Nat) : ∀ (i : Nat) (s : Int), i + d = 1 + min k (g.length - 1) → 1 ≤ i → 0 ≤ s ∧ s < p →
    Ev (fun q => spec_l05Series.l0 q p f g n (o ++ [(serIn p g o k d i s * v) % p]) v ((k + 1 : Nat) : Int)) r →
    Ev (fun q => spec_l05Series.l1 q p f g n o v (k : Int) s (i : Int)) r := by
  induction d with
  | zero =>
    intro i s hi h1 hs e
    have hm := mulP hp hs.1 hs.2 hv.1 hv.2
    refine Ev.step (fun q => by rw [spec_l05Series.l1]) ?_
    rw [wrap_id (x := s * v) (by omega) (by omega), tmod_pos hm.1, wsucc (i := k) (n := 1000) (by omega) (by omega)]
    rw [serIn] at e
    by_cases c : i ≤ k
    · exact Ev.pos (by omega) (Ev.neg (by omega) (Ev.neg hp.ne (Ev.pos (by omega) e)))
    · exact Ev.neg (by omega) (Ev.neg hp.ne (Ev.pos (by omega) e))
  | succ d ih =>
    intro i s hi h1 hs e
    have a1 := ng.get (i := i) (by omega)
    have a2 := no.get (i := k - i) (by omega)
    have hm := mulP hp a1.1 a1.2 a2.1 a2.2
    have ht := hp.top
    have ew : wrap64 ((k : Int) - (i : Int)) = ((k - i : Nat) : Int) := by clear hm a1 a2; rw [wrap_id (by omega) (by omega)]; omega
    refine Ev.step (fun q => by rw [spec_l05Series.l1]) ?_
    rw [ew, rd_nat, rd_nat, wrap_id (x := g.getD i 0 * o.getD (k - i) 0) (by omega) (by omega), wrap_id (by omega) (by omega)]
    clear hm a1 a2
    refine Ev.pos (by omega) (Ev.pos (by omega) (Ev.pos (by omega) (Ev.pos (by omega) (Ev.pos (by omega) (Ev.bindE (smod_eq hp _) ?_)))))
    rw [wsucc (i := i) (n := 1002) (by omega) (by omega)]
    exact ih (i + 1) _ (by omega) (by omega) (emodB hp.pos _) e
theorem spec5_l0 {p : Int} (hp : Pm p) (f g : List Int) (nf : Nm p f) (ng : Nm p g) (v : Int) (hv : 0 ≤ v ∧ v < p) (n : Nat) (hn : n < 1000) (hg : g.length ≤ 1000) (hg1 : 1 ≤ g.length) (d : Nat) : ∀ k, k + d = n →
    Ev (fun q => spec_l05Series.l0 q p f g (n : Int) (serL p f g v k) v (k : Int)) (serL p f g v n) := by
  induction d with
  | zero =>
    intro k hk
    refine Ev.step (fun q => by rw [spec_l05Series.l0]) ?_
    refine Ev.neg (by omega) (Ev.some' ?_)
    rw [show k = n from by omega]
  | succ d ih =>
    intro k hk
    have ihk := ih (k + 1) (by omega)
    have step : Ev (fun q => spec_l05Series.j1 q p f g (n : Int) (serL p f g v k) v (k : Int) (f.getD k 0)) (serL p f g v n) := by
      refine Ev.step (fun q => by rw [spec_l05Series.j1]) ?_
      exact spec5_l1 hp f g ng v hv _ _ (serL_nm hp.pos f g v k) k (by omega) hg hg1 (serL_len p f g v k) _ (min k (g.length - 1)) 1 _ (by omega) (by omega) (nf.getp hp.pos k) ihk
    refine Ev.step (fun q => by rw [spec_l05Series.l0]) ?_
    refine Ev.pos (by omega) ?_
    by_cases c : k < f.length
    · rw [rd_nat]
      exact Ev.pos (by omega) (Ev.pos (by omega) step)
    · have e0 : f.getD k 0 = 0 := by rw [List.getD_eq_getElem?_getD, List.getElem?_eq_none (by omega)]; rfl
      rw [e0] at step
      exact Ev.neg (by omega) step
theorem specSer_ev {p : Int} (hp : Pm p) (f g : List Int) (nf : Nm p f) (ng : Nm p g) (n : Nat) (hn : n < 1000) (hg : g.length ≤ 1000) (hg1 : 1 ≤ g.length) :
    Ev (fun q => spec_l05Series.f q p f g (n : Int)) (serL p f g (invF p (g.getD 0 0)) n) := by
  unfold spec_l05Series.f
  have a := ng.get (i := 0) (by omega)
  have er : rd g 0 = g.getD 0 0 := rd_nat g 0
  rw [er]
  exact Ev.pos (by omega) (Ev.bind (specInv_ev hp a) (spec5_l0 hp f g nf ng _ (invF_in hp _) n hn hg hg1 n 0 (by omega)))
theorem impl5_l1 {p : Int} (hp : Pm p) (f g : List Int) (ng : Nm p g) (v : Int) (hv : 0 ≤ v ∧ v < p) (n : Int) (o : List Int) (no : Nm p o) (k : Nat) (hk : k < o.length) (hk2 : k < 1000) (hg : g.length ≤ 1000) (hg1 : 1 ≤ g.length) (r : List Int) (d : Nat) : ∀ (i : Nat) (s : Int), i + d = 1 + min k (g.length - 1) → 1 ≤ i → 0 ≤ s ∧ s < p →
    Ev (fun q => impl_field_series.l0 q p f g (o.set k ((serIn p g o k d i s * v) % p)) v n ((k + 1 : Nat) : Int)) r →
    Ev (fun q => impl_field_series.l1 q p f g o v (k : Int) s (i : Int) n (k : Int)) r := by
  induction d with
  | zero =>
    intro i s hi h1 hs e
    refine Ev.step (fun q => by rw [impl_field_series.l1]) ?_
    rw [wsucc (i := k) (n := 1000) (by omega) (by omega), toNat_nat]
    rw [serIn] at e
    by_cases c : i ≤ k
    · exact Ev.pos (by omega) (Ev.neg (by omega) (Ev.bindE (fmul_eq hp hs hv) (Ev.pos (by omega) (Ev.pos (by omega) e))))
    · exact Ev.neg (by omega) (Ev.bindE (fmul_eq hp hs hv) (Ev.pos (by omega) (Ev.pos (by omega) e)))
  | succ d ih =>
    intro i s hi h1 hs e
    have a1 := ng.get (i := i) (by omega)
    have a2 := no.get (i := k - i) (by omega)
    have hm := mulP hp a1.1 a1.2 a2.1 a2.2
    have ht := hp.top
    have ew : wrap64 ((k : Int) - (i : Int)) = ((k - i : Nat) : Int) := by clear hm a1 a2; rw [wrap_id (by omega) (by omega)]; omega
    refine Ev.step (fun q => by rw [impl_field_series.l1]) ?_
    rw [ew, rd_nat, rd_nat, wrap_id (x := g.getD i 0 * o.getD (k - i) 0) (by omega) (by omega), wrap_id (by omega) (by omega)]
    clear hm a1 a2
    refine Ev.pos (by omega) (Ev.pos (by omega) (Ev.pos (by omega) (Ev.pos (by omega) (Ev.pos (by omega) (Ev.bindE (mod_eq hp _) ?_)))))
    rw [wsucc (i := i) (n := 1002) (by omega) (by omega)]
    exact ih (i + 1) _ (by omega) (by omega) (emodB hp.pos _) e
theorem impl5_l0 {p : Int} (hp : Pm p) (f g : List Int) (nf : Nm p f) (ng : Nm p g) (v : Int) (hv : 0 ≤ v ∧ v < p) (n : Nat) (hn : n < 1000) (hg : g.length ≤ 1000) (hg1 : 1 ≤ g.length) (d : Nat) : ∀ k, k + d = n →
    Ev (fun q => impl_field_series.l0 q p f g (serL p f g v k ++ List.replicate (n - k) 0) v (n : Int) (k : Int)) (serL p f g v n) := by
  induction d with
  | zero =>
    intro k hk
    refine Ev.step (fun q => by rw [impl_field_series.l0]) ?_
    refine Ev.neg (by omega) (Ev.some' ?_)
    rw [show k = n from by omega, Nat.sub_self, List.replicate_zero, List.append_nil]
  | succ d ih =>
    intro k hk
    have ihk := ih (k + 1) (by omega)
    have hlen : (serL p f g v k ++ List.replicate (n - k) (0 : Int)).length = n := by rw [List.length_append, serL_len, List.length_replicate]; omega
    have hset : (serL p f g v k ++ List.replicate (n - k) (0 : Int)).set k ((serIn p g (serL p f g v k ++ List.replicate (n - k) 0) k (min k (g.length - 1)) 1 (f.getD k 0) * v) % p) = serL p f g v (k + 1) ++ List.replicate (n - (k + 1)) 0 := by
      rw [serIn_pre p g _ _ k _ (serL_len p f g v k) 1 _ (by omega) (by omega), List.set_append_right (h := by rw [serL_len]; omega), serL_len, Nat.sub_self, show n - k = (n - (k + 1)) + 1 from by omega, List.replicate_succ, List.set_cons_zero, serL, List.append_assoc]
      rfl
    have step : Ev (fun q => impl_field_series.j1 q p f g (serL p f g v k ++ List.replicate (n - k) 0) v (k : Int) (f.getD k 0) (n : Int) (k : Int)) (serL p f g v n) := by
      refine Ev.step (fun q => by rw [impl_field_series.j1]) ?_
      refine impl5_l1 hp f g ng v hv _ _ ((serL_nm hp.pos f g v k).append (Nm.zeros hp.pos _)) k (by rw [hlen]; omega) (by omega) hg hg1 _ (min k (g.length - 1)) 1 _ (by omega) (by omega) (nf.getp hp.pos k) ?_
      rw [hset]
      exact ihk
    refine Ev.step (fun q => by rw [impl_field_series.l0]) ?_
    refine Ev.pos (by omega) ?_
    by_cases c : k < f.length
    · rw [rd_nat]
      exact Ev.pos (by omega) (Ev.pos (by omega) step)
    · have e0 : f.getD k 0 = 0 := by rw [List.getD_eq_getElem?_getD, List.getElem?_eq_none (by omega)]; rfl
      rw [e0] at step
      exact Ev.neg (by omega) step
theorem implSer_ev {p : Int} (hp : Pm p) (f g : List Int) (nf : Nm p f) (ng : Nm p g) (n : Nat) (hn : n < 1000) (hg : g.length ≤ 1000) (hg1 : 1 ≤ g.length) :
    Ev (fun q => impl_field_series.f q p f g (n : Int)) (serL p f g (invF p (g.getD 0 0)) n) := by
  unfold impl_field_series.f
  have a := ng.get (i := 0) (by omega)
  have er : rd g 0 = g.getD 0 0 := rd_nat g 0
  have h := impl5_l0 hp f g nf ng _ (invF_in hp (g.getD 0 0)) n hn hg hg1 n 0 (by omega)
  rw [toNat_nat]
  refine Ev.pos (by omega) (Ev.pos (by omega) (Ev.bindE (a := List.replicate n 0) rfl ?_))
  rw [er, List.length_replicate]
  refine Ev.pos (by omega) (Ev.bind (implInv_ev hp a) ?_)
  rw [serL, List.nil_append, Nat.sub_zero] at h
  exact h
end Go.Proofs.Ytjdannndpfkadaa.Pr
