/- Texts of this session in one: what functions of the program compute, and plain facts of it, under the conditions that each theorem names. -/
import Derived.Test.YtnpepkpogohcmaaGreatKls11
import Derived.Test.YtnpepkpogohcmaaGreatKls6
import Derived.Test.YtnpepkpogohcmaaGreatKls8
namespace Go.Proofs.YtnpepkpogohcmaaGreat.Pr
/- Three-term recurrences and the pairing of a functional: orthogonality, what vanishes on all of them, Christoffel and Darboux: plain; no condition. -/
open Go.RowKit Go.Proofs.YtnpepkpogohcmaaGreatW.PrintWords Go.Proofs.YtnpepkpogohcmaaGreatW.PrintLast Go.Proofs.YtnpepkpogohcmaaGreatW.PrintMore
section
variable {P : Nat} [NeZero P] {m : Nat → Fin P} {N : Nat}
/-- What the functional makes of f times x^k. -/
def lam (m : Nat → Fin P) (N : Nat) (f : Nat → Fin P) (k : Nat) : Fin P:=sF (fun t=>f t * m (t + k)) N
/-- What the functional makes of f times g. -/
def bi (m : Nat → Fin P) (N : Nat) (f g : Nat → Fin P) : Fin P:=sF (fun j=>g j * lam m N f j) N
/-- Times x. -/
def xs (f : Nat → Fin P) : Nat → Fin P
  | 0=>0
  | i + 1=>f i
theorem sI (f g : Nat → Fin P) : bi m N f g = bi m N g f:=by
  unfold bi lam
  have e1 : sF (fun j=>g j * sF (fun t=>f t * m (t + j)) N) N = sF (fun j=>sF (fun t=>g j * (f t * m (t + j))) N) N:=ji N (fun j _=>(Cb _ _ _).symm)
  have e2 : sF (fun j=>f j * sF (fun t=>g t * m (t + j)) N) N = sF (fun j=>sF (fun t=>f j * (g t * m (t + j))) N) N:=ji N (fun j _=>(Cb _ _ _).symm)
  rw [e1,e2,Wq]
  refine ji N fun j _=>ji N fun t _=>?_
  rw [Nat.add_comm t j]
  grind
theorem agc (f g : Nat → Fin P) (c : Fin P) (k : Nat) : lam m N (fun i=>f i + c * g i) k = lam m N f k + c * lam m N g k:=by
  unfold lam
  rw [← Cb,← Gj]
  exact ji N fun t _=>by grind
theorem De (f g h : Nat → Fin P) (c : Fin P) : bi m N h (fun i=>f i + c * g i) = bi m N h f + c * bi m N h g:=by
  unfold bi
  rw [← Cb,← Gj]
  exact ji N fun t _=>by grind
theorem aio {f : Nat → Fin P} (hf : ∀ i,N ≤ i + 1 → f i = 0) (j : Nat) : lam m N (xs f) j = lam m N f (j + 1):=by
  cases N with
  | zero=>rfl
  | succ M =>
    unfold lam
    rw [wK,sF,hf M (Nat.le_refl _)]
    have : sF (fun t=>xs f (t + 1) * m (t + 1 + j)) M = sF (fun t=>f t * m (t + (j + 1))) M:=ji M fun t _=>by rw [show t + 1 + j = t + (j + 1) from by omega];rfl
    rw [this]
    simp only [xs]
    grind
theorem aCr {f g : Nat → Fin P} (hf : ∀ i,N ≤ i + 1 → f i = 0) (hg : ∀ i,N ≤ i + 1 → g i = 0) : bi m N (xs f) g = bi m N f (xs g):=by
  have l1 : ∀ j,lam m N (xs f) j = lam m N f (j + 1):=aio hf
  cases N with
  | zero=>rfl
  | succ M =>
    unfold bi
    rw [wK (fun j=>xs g j * lam m (M + 1) f j),sF,hg M (Nat.le_refl _)]
    have : sF (fun j=>g j * lam m (M + 1) (xs f) j) M = sF (fun t=>xs g (t + 1) * lam m (M + 1) f (t + 1)) M:=ji M fun t _=>by rw [l1];rfl
    rw [this]
    simp only [xs]
    grind
theorem Ku (f : Nat → Fin P) : bi m N f (fun _=>0) = 0:=Gi N fun _ _=>by grind
/-- Monic polynomials by a recurrence of three terms, with their norms, up to n. -/
structure Tri (m : Nat → Fin P) (N n : Nat) (Q Qb : Nat → Nat → Fin P) (al be h : Nat → Fin P) : Prop where
  q0 : ∀ i,Q 0 i = if i = 0 then 1 else 0
  b0 : ∀ i,Qb 0 i = 0
  bs : ∀ k,Qb (k + 1) = Q k
  st : ∀ k i,Q (k + 1) i = xs (Q k) i - al k * Q k i - be k * Qb k i
  nn : n + 2 ≤ N
  hk : ∀ k,k ≤ n → h k = bi m N (Q k) (Q k)
  ak : ∀ k,k < n → al k * h k = bi m N (xs (Q k)) (Q k)
  bk : ∀ k,k < n → be (k + 1) * h k = h (k + 1)
section
variable {n : Nat} {Q Qb : Nat → Nat → Fin P} {al be h : Nat → Fin P} (T : Tri m N n Q Qb al be h)
include T
theorem Tri.sup (k : Nat) : ∀ i,k < i → Q k i = 0∧Qb k i = 0:=by
  induction k with
  | zero=>intro i hi;exact ⟨by rw [T.q0,if_neg (by omega)],T.b0 i⟩
  | succ k ih =>
    intro i hi
    obtain ⟨j,rfl⟩ : ∃ j,i = j + 1:=⟨i - 1,by omega⟩
    have h1:=ih (j + 1) (by omega)
    have h2:=ih j (by omega)
    refine ⟨?_,by rw [T.bs];exact h1.1⟩
    rw [T.st,h1.1,h1.2]
    simp only [xs]
    rw [h2.1]
    grind
theorem Tri.top (k : Nat) : Q k k = 1:=by
  induction k with
  | zero=>rw [T.q0,if_pos rfl]
  | succ k ih =>
    have h1:=T.sup k (k + 1) (by omega)
    rw [T.st,h1.1,h1.2]
    simp only [xs]
    rw [ih]
    grind
theorem Tri.step (f : Nat → Fin P) (k : Nat) : bi m N f (Q (k + 1)) = bi m N f (xs (Q k)) - al k * bi m N f (Q k) - be k * bi m N f (Qb k):=by
  have e : Q (k + 1) = fun i=>(fun i=>xs (Q k) i + (-al k) * Q k i) i + (-be k) * Qb k i:=by
    funext i
    rw [T.st]
    grind
  rw [e,De (fun i=>xs (Q k) i + (-al k) * Q k i),De (xs (Q k))]
  grind
theorem Tri.xq {k : Nat} (hk : k ≤ n) (f : Nat → Fin P) (hf : ∀ i,N ≤ i + 1 → f i = 0) : bi m N f (xs (Q k)) = bi m N (xs f) (Q k) :=
  (aCr hf (fun i hi=>(T.sup k i (by have:=T.nn;omega)).1)).symm
theorem Tri.far {k : Nat} (hk : k ≤ n) : ∀ i,N ≤ i + 1 → Q k i = 0:=fun i hi=>(T.sup k i (by have:=T.nn;omega)).1
theorem Tri.amF (j : Nat) : j ≤ n → ∀ b,b ≤ j → ∀ a,a < b → bi m N (Q a) (Q b) = 0:=by
  induction j with
  | zero=>intro _ b hb a ha;omega
  | succ j ih =>
    intro hj b hb a ha
    have I:=ih (by omega)
    by_cases c : b ≤ j
    · exact I b c a ha
    obtain rfl : b = j + 1:=by omega
    have zb : ∀ i,i ≤ j → bi m N (Q i) (Qb i) = 0:=by
      intro i hi
      cases i with
      | zero=>rw [show Qb 0 = fun _=>0 from funext T.b0];exact Ku _
      | succ i=>rw [T.bs,sI];exact I (i + 1) hi i (by omega)
    rw [T.step,T.xq (by omega) _ (T.far (by omega))]
    by_cases c1 : a = j
    · subst c1
      rw [zb a (Nat.le_refl _),← T.hk a (by omega),← T.ak a (by omega)]
      grind
    · obtain ⟨k,rfl⟩ : ∃ k,j = k + 1:=⟨j - 1,by omega⟩
      have hx : bi m N (xs (Q a)) (Q (k + 1)) = bi m N (Q (k + 1)) (Q (a + 1)) + al a * bi m N (Q (k + 1)) (Q a) + be a * bi m N (Q (k + 1)) (Qb a):=by
        have:=T.step (Q (k + 1)) a
        rw [sI (xs (Q a))]
        grind
      have z1 : bi m N (Q (k + 1)) (Q a) = 0:=by rw [sI];exact I (k + 1) (Nat.le_refl _) a (by omega)
      have z2 : bi m N (Q (k + 1)) (Qb a) = 0:=by
        cases a with
        | zero=>rw [show Qb 0 = fun _=>0 from funext T.b0];exact Ku _
        | succ a=>rw [T.bs,sI];exact I (k + 1) (Nat.le_refl _) a (by omega)
      rw [hx,z1,z2,T.bs,I (k + 1) (Nat.le_refl _) a (by omega)]
      by_cases c2 : a = k
      · subst c2
        rw [← T.hk (a + 1) (by omega),← T.hk a (by omega)]
        have:=T.bk a (by omega)
        grind
      · have z3 : bi m N (Q (k + 1)) (Q (a + 1)) = 0:=by rw [sI];exact I (k + 1) (Nat.le_refl _) (a + 1) (by omega)
        rw [z3,I k (by omega) a (by omega)]
        grind
/-- What is linear and nothing at Q 0 to Q (d - 1) is nothing at all of a degree less than d. -/
theorem Tri.span {E : (Nat → Fin P) → Fin P} (E0 : E (fun _=>0) = 0) (El : ∀ f g c,E (fun i=>f i + c * g i) = E f + c * E g) (d : Nat) (hz : ∀ k,k < d → E (Q k) = 0) :
    ∀ f : Nat → Fin P,(∀ i,d ≤ i → f i = 0) → E f = 0:=by
  induction d with
  | zero=>intro f hf;rw [show f = fun _=>0 from funext fun i=>hf i (by omega)];exact E0
  | succ d ih =>
    intro f hf
    have h1:=ih (fun k hk=>hz k (by omega)) (fun i=>f i + (-f d) * Q d i) (fun i hi=>by
      by_cases c : i = d
      · subst c;rw [T.top];grind
      · rw [hf i (by omega),(T.sup d i (by omega)).1];grind)
    rw [El,hz d (by omega)] at h1
    grind
/-- What is orthogonal to all of a lower degree. -/
theorem Tri.aCs {k : Nat} (hk : k ≤ n) (f : Nat → Fin P) (hf : ∀ i,k ≤ i → f i = 0) : bi m N (Q k) f = 0 :=
  T.span (E:=bi m N (Q k)) (Ku _) (fun f g c=>De f g _ c) k (fun i hi=>by rw [sI];exact T.amF k hk k (Nat.le_refl _) i hi) f hf
end
/-! ### values -/
def pw (x : Fin P) : Nat → Fin P
  | 0=>1
  | i + 1=>pw x i * x
def va (N : Nat) (x : Fin P) (f : Nat → Fin P) : Fin P:=sF (fun i=>f i * pw x i) N
theorem O1 (x : Fin P) (f g : Nat → Fin P) (c : Fin P) : va N x (fun i=>f i + c * g i) = va N x f + c * va N x g:=by
  unfold va
  rw [← Cb,← Gj]
  exact ji N fun t _=>by grind
theorem TT (x : Fin P) : va N x (fun _=>0) = 0:=Gi N fun _ _=>by grind
theorem aCt (x : Fin P) {f : Nat → Fin P} (hf : ∀ i,N ≤ i + 1 → f i = 0) : va N x (xs f) = x * va N x f:=by
  cases N with
  | zero=>simp only [va,sF];grind
  | succ M =>
    unfold va
    rw [wK,sF,hf M (Nat.le_refl _)]
    have : sF (fun t=>xs f (t + 1) * pw x (t + 1)) M = sF (fun t=>x * (f t * pw x t)) M:=ji M fun t _=>by simp only [xs,pw];grind
    rw [this,Cb]
    simp only [xs]
    grind
section
variable {n : Nat} {Q Qb : Nat → Nat → Fin P} {al be h iv : Nat → Fin P} (T : Tri m N n Q Qb al be h)
include T
theorem Tri.val (x : Fin P) {k : Nat} (hk : k ≤ n) : va N x (Q (k + 1)) = (x - al k) * va N x (Q k) - be k * va N x (Qb k):=by
  have e : Q (k + 1) = fun i=>(fun i=>xs (Q k) i + (-al k) * Q k i) i + (-be k) * Qb k i:=by
    funext i
    rw [T.st]
    grind
  rw [e,O1 x (fun i=>xs (Q k) i + (-al k) * Q k i),O1 x (xs (Q k)),aCt x (T.far hk)]
  grind
theorem Tri.X6 (x : Fin P) : va N x (Q 0) = 1∧va N x (Qb 0) = 0:=by
  constructor
  · unfold va
    rw [Wt (k:=0) (by have:=T.nn;omega) (fun i _ hi=>by rw [T.q0,if_neg hi];grind),T.q0,if_pos rfl]
    simp only [pw]
    grind
  · rw [show Qb 0 = fun _=>0 from funext T.b0]
    exact TT x
/-- The kernel gives back values. -/
theorem Tri.au3 (hi : ∀ k,k ≤ n → h k * iv k = 1) (x : Fin P) (f : Nat → Fin P) (hf : ∀ i,n + 1 ≤ i → f i = 0) : sF (fun k=>va N x (Q k) * iv k * bi m N (Q k) f) (n + 1) = va N x f:=by
  have E:=T.span (E:=fun f=>sF (fun k=>va N x (Q k) * iv k * bi m N (Q k) f) (n + 1) - va N x f)
    (by
      have : sF (fun k=>va N x (Q k) * iv k * bi m N (Q k) (fun _=>0)) (n + 1) = 0:=Gi _ fun k _=>by rw [Ku];grind
      rw [this,TT];grind)
    (fun f g c=>by
      have : sF (fun k=>va N x (Q k) * iv k * bi m N (Q k) (fun i=>f i + c * g i)) (n + 1) = sF (fun k=>va N x (Q k) * iv k * bi m N (Q k) f) (n + 1) + c * sF (fun k=>va N x (Q k) * iv k * bi m N (Q k) g) (n + 1):=by
        rw [← Cb,← Gj]
        exact ji _ fun k _=>by rw [De];grind
      rw [this,O1];grind)
    (n + 1) (fun j hj=>by
      rw [Wt (k:=j) hj (fun i hi hij=>?_)]
      · rw [← T.hk j (by omega)]
        have:=hi j (by omega)
        grind
      · have z : bi m N (Q i) (Q j) = 0:=by
          rcases Nat.lt_or_ge i j with g | g
          · exact T.amF j (by omega) j (Nat.le_refl _) i g
          · rw [sI];exact T.amF i (by omega) i (Nat.le_refl _) j (by omega)
        rw [z];grind) f hf
  grind
/-- Christoffel and Darboux. -/
theorem Tri.chd (hi : ∀ k,k ≤ n → h k * iv k = 1) (x y : Fin P) (k : Nat) : k ≤ n →
    (x - y) * sF (fun i=>va N x (Q i) * iv i * va N y (Q i)) (k + 1) * h k = va N x (Q (k + 1)) * va N y (Q k) - va N y (Q (k + 1)) * va N x (Q k):=by
  induction k with
  | zero =>
    intro _
    have h0:=hi 0 (Nat.zero_le _)
    rw [T.val x (Nat.zero_le _),T.val y (Nat.zero_le _),(T.X6 x).1,(T.X6 x).2,(T.X6 y).1,(T.X6 y).2]
    simp only [sF]
    rw [(T.X6 x).1,(T.X6 y).1]
    grind
  | succ k ih =>
    intro hk
    have I:=ih (by omega)
    have h1:=hi (k + 1) hk
    have h2:=T.bk k (by omega)
    rw [T.val x hk,T.val y hk,T.bs,sF]
    generalize va N x (Q (k + 1)) = a at *
    generalize va N y (Q (k + 1)) = b at *
    generalize va N x (Q k) = c at *
    generalize va N y (Q k) = d at *
    generalize sF (fun i=>va N x (Q i) * iv i * va N y (Q i)) (k + 1) = s at *
    grind
end
end
/- Fermat: the power p - 2 is the inverse; no condition but that p is a Bl. -/
/-- How many ways to choose k of n. -/
def chs : Nat → Nat → Int
  | _,0=>1
  | 0,_ + 1=>0
  | n + 1,k + 1=>chs n k + chs n (k + 1)
theorem FC (n k : Nat) : chs (n + 1) (k + 1) = chs n k + chs n (k + 1):=by rw [chs]
theorem IY (n : Nat) : ∀ k,n < k → chs n k = 0:=by
  induction n with
  | zero =>
    intro k h
    obtain ⟨j,rfl⟩ : ∃ j,k = j + 1:=⟨k - 1,by omega⟩
    rw [chs]
  | succ n ih =>
    intro k h
    obtain ⟨j,rfl⟩ : ∃ j,k = j + 1:=⟨k - 1,by omega⟩
    rw [chs,ih j (by omega),ih (j + 1) (by omega)];rfl
theorem acz (n : Nat) : chs n n = 1:=by
  induction n with
  | zero=>rw [chs]
  | succ n ih=>rw [chs,ih,IY n (n + 1) (by omega)];rfl
theorem Av (n : Nat) : chs n 0 = 1:=by cases n <;> rw [chs]
theorem agd (n : Nat) : ∀ k : Nat,((k : Int) + 1) * chs (n + 1) (k + 1) = ((n : Int) + 1) * chs n k:=by
  induction n with
  | zero =>
    intro k
    cases k with
    | zero=>simp [chs]
    | succ k=>rw [FC,IY 0 (k + 1) (by omega),IY 0 (k + 1 + 1) (by omega)];simp
  | succ n ih =>
    intro k
    cases k with
    | zero =>
      have h:=ih 0
      rw [FC (n + 1)]
      simp only [Av,Int.natCast_succ,Int.natCast_zero] at h ⊢
      clear ih
      generalize chs (n + 1) (0 + 1) = a at *
      omega
    | succ k =>
      have h1:=ih k
      have h2:=ih (k + 1)
      have e:=FC n k
      rw [FC (n + 1)]
      simp only [Int.natCast_succ] at *
      clear ih
      generalize chs (n + 1) (k + 1) = a at *
      generalize chs (n + 1) (k + 1 + 1) = b at *
      generalize chs n k = c at *
      generalize chs n (k + 1) = d at *
      grind
section
variable {P : Nat} [NeZero P]
theorem au4 (a : Int) (n : Nat) : fz P ((a + 1) ^ n) = sF (fun k=>fz P (chs n k) * fz P (a ^ k)) (n + 1):=by
  induction n with
  | zero =>
    simp only [sF,Int.pow_zero,yj]
    rw [show chs 0 0 = 1 from rfl,yj]
    grind
  | succ n ih =>
    have e : ∀ k,fz P (chs (n + 1) (k + 1)) * fz P (a ^ (k + 1)) = fz P (chs n k) * fz P (a ^ k) * fz P a + fz P (chs n (k + 1)) * fz P (a ^ (k + 1)):=by
      intro k
      rw [chs,yV,Int.pow_succ,qZ]
      grind
    rw [Int.pow_succ,qZ,ih,wK (fun k=>fz P (chs (n + 1) k) * fz P (a ^ k)),ji (n + 1) (fun k _=>e k),Gj,OJ,yV,yj]
    have l : sF (fun k=>fz P (chs n (k + 1)) * fz P (a ^ (k + 1))) (n + 1) + 1 = sF (fun k=>fz P (chs n k) * fz P (a ^ k)) (n + 1):=by
      rw [wK (fun k=>fz P (chs n k) * fz P (a ^ k))]
      show sF (fun k=>fz P (chs n (k + 1)) * fz P (a ^ (k + 1))) n + fz P (chs n (n + 1)) * fz P (a ^ (n + 1)) + 1 = _
      rw [IY n (n + 1) (by omega),Av,vk,Int.pow_zero,yj]
      grind
    rw [Av,Int.pow_zero,yj]
    generalize sF (fun k=>fz P (chs n k) * fz P (a ^ k)) (n + 1) = s at *
    generalize sF (fun k=>fz P (chs n (k + 1)) * fz P (a ^ (k + 1))) (n + 1) = t at *
    grind
end
theorem X7 {p : Int} (h : gQ p = true) {k n : Nat} (hn : p = (n : Int) + 1) (hk : k < n) : p ∣ chs (n + 1) (k + 1):=by
  refine gQ.cancel h (a:=(k : Int) + 1) ⟨by omega,by omega⟩ ?_
  rw [agd,← hn]
  exact ⟨_,rfl⟩
theorem aCu {p : Int} (h : gQ p = true) (a : Nat) : ((a : Int) ^ p.toNat) % p = (a : Int) % p:=by
  have hp:=(gQ.pm h).two
  obtain ⟨n,hn⟩ : ∃ n : Nat,p = (n : Int) + 1:=⟨(p - 1).toNat,by omega⟩
  have hP : p.toNat = n + 1:=by omega
  have e1 : p = ((n + 1 : Nat) : Int):=by omega
  have key : fz (n + 1) ((a : Int) ^ (n + 1)) = fz (n + 1) (a : Int):=by
    induction a with
    | zero=>rw [Int.pow_succ];simp
    | succ a ih =>
      rw [Int.natCast_succ,au4,sF,wK,Gi n (fun t ht=>?_),Av,acz,Int.pow_zero,yj,yV,ih,yj]
      · grind
      · have hd:=X7 h hn ht
        rw [e1] at hd
        rw [Gh.2 (Int.emod_eq_zero_of_dvd hd)]
        grind
  rw [hP,e1]
  exact Ko.1 key
/-- Fermat. -/
theorem amG {p : Int} (h : gQ p = true) {x : Int} (hx : 1 ≤ x∧x < p) : x ^ (p.toNat - 1) % p = 1:=by
  have hp:=(gQ.pm h).two
  obtain ⟨a,rfl⟩ : ∃ a : Nat,x = (a : Int):=⟨x.toNat,by omega⟩
  have h1:=aCu h a
  rw [show p.toNat = p.toNat - 1 + 1 from by omega,Int.pow_succ] at h1
  have h2 : p ∣ (a : Int) * ((a : Int) ^ (p.toNat - 1) - 1):=by
    have:=Int.emod_emod_of_dvd ((a : Int) ^ (p.toNat - 1) * a - a) (Int.dvd_refl p)
    refine Int.dvd_of_emod_eq_zero ?_
    rw [show (a : Int) * ((a : Int) ^ (p.toNat - 1) - 1) = (a : Int) ^ (p.toNat - 1) * a - a from by grind,Int.sub_emod,h1,Int.sub_self,Int.zero_emod]
  have h3:=gQ.cancel h hx h2
  have h4:=Int.emod_eq_zero_of_dvd h3
  have h5 : ((a : Int) ^ (p.toNat - 1) - 1 + 1) % p = 1 % p:=by rw [Int.add_emod,h4,Int.zero_add,Int.emod_emod]
  rw [Int.sub_add_cancel] at h5
  rw [h5]
  exact Int.emod_eq_of_lt (by omega) (by omega)
theorem acA {p : Int} (h : gQ p = true) {x : Int} (hx : 1 ≤ x∧x < p) : (x * qA p x) % p = 1:=by
  have hp:=gQ.pm h
  have h2:=hp.two
  have e : x * x ^ (p.toNat - 2) = x ^ (p.toNat - 1):=by
    rw [show p.toNat - 1 = p.toNat - 2 + 1 from by omega,Int.pow_succ,Int.mul_comm]
  rw [qA,afD hp,Int.mul_emod,Int.emod_emod,← Int.mul_emod,e]
  exact amG h hx
theorem O3 {p : Int} (h : gQ p = true) [NeZero p.toNat] {x : Int} (hx : 0 ≤ x∧x < p) (h0 : fz p.toNat x ≠ 0) : fz p.toNat x * fz p.toNat (qA p x) = 1:=by
  have hp:=gQ.pm h
  have h2:=hp.two
  have e : ((p.toNat : Nat) : Int) = p:=by omega
  have h1 : 1 ≤ x:=by
    apply Decidable.byContradiction
    intro g
    exact h0 (by rw [show x = 0 from by omega];exact vk)
  rw [← qZ,← yj,Ko,e,acA h ⟨h1,hx.2⟩,Int.emod_eq_of_lt (by omega) (by omega)]
/- The orthogonal polynomials of moments are a recurrence of three terms over the numbers modulo p; conditions: p a Bl, the norms of a lower number no multiples of p. -/
theorem nez {p : Int} (hp : Pm p) : NeZero p.toNat:=⟨by have:=hp.two;omega⟩
theorem Pm.cast {p : Int} (hp : Pm p) : ((p.toNat : Nat) : Int) = p:=by have:=hp.two;omega
section
variable {p : Int} [NeZero p.toNat] (hp : Pm p)
include hp
theorem pV (x : Int) : fz p.toNat (x % p) = fz p.toNat x:=by
  have h:=alk (P:=p.toNat) x
  rwa [hp.cast] at h
theorem Rf {x : Int} (h : 0 ≤ x∧x < p) (h0 : fz p.toNat x = 0) : x = 0:=by
  have h1:=Gh.1 h0
  rwa [hp.cast,Int.emod_eq_of_lt h.1 h.2] at h1
theorem TU {x y : Int} (hx : 0 ≤ x∧x < p) (hy : 0 ≤ y∧y < p) (h : fz p.toNat x = fz p.toNat y) : x = y:=by
  have h1:=Ko.1 h
  rwa [hp.cast,Int.emod_eq_of_lt hx.1 hx.2,Int.emod_eq_of_lt hy.1 hy.2] at h1
theorem O4 {f : List Int} (g : List Int) (k : Int) (hf : Nm p f) (i : Nat) : cf p.toNat (Dg p f g k) i = cf p.toNat f i + fz p.toNat k * cf p.toNat g i:=by
  unfold cf
  rw [abC hp.pos g k hf,pV hp,yV,qZ]
theorem WL (f g : List Int) (k : Nat) : cf p.toNat (lM p f g) k = sF (fun t=>cf p.toNat f t * fz p.toNat (sh g t k)) f.length:=by
  unfold cf
  rw [Ff hp.pos,pV hp,abX]
  exact ji _ fun t _=>qZ _ _
omit hp in
theorem amH (f : List Int) (i : Nat) : fz p.toNat (sh f 0 i) = cf p.toNat f i:=by rw [sh,if_pos (Nat.zero_le _)];rfl
omit hp in
theorem amI (f : List Int) (i : Nat) : fz p.toNat (sh f 1 i) = xs (cf p.toNat f) i:=by
  cases i with
  | zero=>rw [sh,if_neg (by omega)];exact vk
  | succ i=>rw [sh,if_pos (by omega)];rfl
theorem acB (c : Int) (f : List Int) (i : Nat) : cf p.toNat (lM p [c,1] f) i = fz p.toNat c * cf p.toNat f i + xs (cf p.toNat f) i:=by
  rw [WL hp]
  show (0 : Fin p.toNat) + cf p.toNat [c,1] 0 * fz p.toNat (sh f 0 i) + cf p.toNat [c,1] 1 * fz p.toNat (sh f 1 i) = _
  rw [amH,amI,show cf p.toNat [c,1] 0 = fz p.toNat c from rfl,show cf p.toNat [c,1] 1 = fz p.toNat 1 from rfl,yj]
  grind
theorem acC (a b : Int) (f g : List Int) (i : Nat) : cf p.toNat (zw p a b f g) i = xs (cf p.toNat f) i - fz p.toNat a * cf p.toNat f i - fz p.toNat b * cf p.toNat g i:=by
  unfold zw
  rw [O4 hp _ _ (uP hp.pos _ _),acB hp,pV hp,pV hp,Ty,Ty]
  grind
omit hp in
theorem amJ (g : List Int) (M t : Nat) : ∀ u : Nat → Fin p.toNat,sF (fun j=>fz p.toNat (sh g t j) * u j) (t + M) = sF (fun j=>cf p.toNat g j * u (t + j)) M:=by
  induction t with
  | zero =>
    intro u
    rw [Nat.zero_add]
    refine ji _ fun j _=>?_
    rw [sh,if_pos (Nat.zero_le _),Nat.zero_add];rfl
  | succ t ih =>
    intro u
    rw [show t + 1 + M = t + M + 1 from by omega,wK]
    have e : sF (fun j=>fz p.toNat (sh g (t + 1) (j + 1)) * u (j + 1)) (t + M) = sF (fun j=>fz p.toNat (sh g t j) * u (j + 1)) (t + M):=by
      refine ji _ fun j _=>?_
      have : sh g (t + 1) (j + 1) = sh g t j:=by
        unfold sh
        by_cases h : t ≤ j
        · rw [if_pos (by omega),if_pos h,show j + 1 - (t + 1) = j - t from by omega]
        · rw [if_neg (by omega),if_neg h]
      rw [this]
    rw [e,ih (fun j=>u (j + 1)),show sh g (t + 1) 0 = 0 from if_neg (by omega),vk]
    have e2 : sF (fun j=>cf p.toNat g j * u (t + j + 1)) M = sF (fun j=>cf p.toNat g j * u (t + 1 + j)) M:=ji _ fun j _=>by rw [show t + j + 1 = t + 1 + j from by omega]
    rw [e2]
    grind
/-- The functional at a product. -/
theorem WM {l f g : List Int} {N : Nat} (hf : f.length ≤ N) (hg : g.length ≤ N) (s : Nat) :
    fz p.toNat (rP p l (lM p f g) s) = sF (fun i=>cf p.toNat f i * sF (fun j=>cf p.toNat g j * cf p.toNat l (i + j + s)) N) N:=by
  unfold rP
  have hl:=sS p f g
  rw [pV hp,abX]
  have e1 : sF (fun i=>fz p.toNat ((lM p f g).getD i 0 * l.getD (i + s) 0)) (lM p f g).length = sF (fun i=>cf p.toNat (lM p f g) i * cf p.toNat l (i + s)) (N + N):=by
    rw [Ws (n:=(lM p f g).length) (m:=N + N) (by omega) (fun i hi=>by rw [yX hi];grind)]
    exact ji _ fun i _=>qZ _ _
  rw [e1]
  have e2 : sF (fun i=>cf p.toNat (lM p f g) i * cf p.toNat l (i + s)) (N + N) = sF (fun i=>sF (fun t=>cf p.toNat f t * (fz p.toNat (sh g t i) * cf p.toNat l (i + s))) N) (N + N):=by
    refine ji _ fun i _=>?_
    rw [WL hp,← OJ,Ws hf (fun t ht=>by rw [yX ht];grind)]
    exact ji _ fun t _=>by grind
  rw [e2,Wq]
  refine ji _ fun t ht=>?_
  rw [Cb,show N + N = t + (N + N - t) from by omega,amJ g _ t (fun i=>cf p.toNat l (i + s)),Ws (n:=N) (m:=N + N - t) (by omega) (fun j hj=>by rw [yX (show g.length ≤ j by omega)];grind)]
theorem acD {l f g : List Int} {N : Nat} (hf : f.length ≤ N) (hg : g.length ≤ N) : fz p.toNat (rP p l (lM p f g) 0) = bi (cf p.toNat l) N (cf p.toNat f) (cf p.toNat g):=by
  rw [WM hp hf hg,sI]
  refine ji _ fun i _=>?_
  congr 1
  exact ji _ fun j _=>by rw [Nat.add_zero,Nat.add_comm]
theorem age {l f : List Int} {N : Nat} (hf : f.length ≤ N) : fz p.toNat (kN p l f 0) = bi (cf p.toNat l) N (cf p.toNat f) (cf p.toNat f):=acD hp hf hf
theorem amK {l f : List Int} {N : Nat} (hf : f.length + 1 ≤ N) : fz p.toNat (kN p l f 1) = bi (cf p.toNat l) N (xs (cf p.toNat f)) (cf p.toNat f):=by
  unfold kN
  rw [WM hp (N:=N) (by omega) (by omega)]
  refine ji _ fun i _=>?_
  rw [aio (fun i hi=>yX (by omega))]
  congr 1
  exact ji _ fun j _=>by rw [show i + j + 1 = j + (i + 1) from by omega]
end
/-- The moments' polynomials up to n. -/
theorem amL {p : Int} [NeZero p.toNat] (hq : gQ p = true) (l : List Int) {n N : Nat} (hn : n + 2 ≤ N) (hu : ∀ k,k < n → fz p.toNat (kN p l (mP p l k) 0) ≠ 0) :
    Tri (cf p.toNat l) N n (fun k=>cf p.toNat (mP p l k)) (fun k=>cf p.toNat (oZ p l k).1) (fun k=>fz p.toNat (qY p l (mP p l k))) (fun k=>fz p.toNat (yA p l (oZ p l k).1 (oZ p l k).2 k)) (fun k=>fz p.toNat (kN p l (mP p l k) 0)):=by
  have hp:=gQ.pm hq
  have len:=fun k=>sP hp l k
  refine ⟨fun i=>?_,fun i=>yX (Nat.zero_le _),fun k=>rfl,fun k i=>acC hp _ _ _ _ i,hn,fun k hk=>age hp (by have:=len k;omega),fun k hk=>?_,fun k hk=>?_⟩
  · cases i with
    | zero=>exact yj
    | succ i=>exact yX (by simp [mP,oZ])
  · have h:=O3 hq (qI hp l (mP p l k) 0) (hu k hk)
    rw [← amK hp (by have:=len k;omega)]
    unfold qY
    rw [pV hp,qZ]
    grind
  · have h:=O3 hq (qI hp l (mP p l k) 0) (hu k hk)
    have e : yA p l (oZ p l (k + 1)).1 (oZ p l (k + 1)).2 (k + 1) = kN p l (mP p l (k + 1)) 0 * qA p (kN p l (mP p l k) 0) % p:=by
      unfold yA
      rw [if_neg (by omega)];rfl
    rw [e,pV hp,qZ]
    grind
/- Hankel determinants by elimination are products of the norms of orthogonal polynomials; where the order is told, norms are no multiples of p. Condition: p a Bl. -/
section
variable {P : Nat} [NeZero P]
def prF (h : Nat → Fin P) : Nat → Nat → Fin P
  | _,0=>1
  | c,d + 1=>h c * prF h (c + 1) d
theorem acE (h : Nat → Fin P) (d : Nat) : ∀ c,prF h c (d + 1) = prF h c d * h (c + d):=by
  induction d with
  | zero=>intro c;simp only [prF,Nat.add_zero];grind
  | succ d ih =>
    intro c
    rw [prF,ih (c + 1),show c + 1 + d = c + (d + 1) from by omega]
    simp only [prF]
    grind
end
/-- Rows c to n - 1 behind c steps of the elimination: the functional at x^k times polynomials that are x^i up to what is lower than x^c. -/
def agf (p : Int) [NeZero p.toNat] (l : List Int) (N n c : Nat) (M : Nat → List Int) : Prop:=∀ i,c ≤ i → i < n → Nm p (M i)∧∃ q : Nat → Fin p.toNat,
  q i = 1∧(∀ j,c ≤ j → j ≠ i → q j = 0)∧(∀ k,k < n → cf p.toNat (M i) k = lam (cf p.toNat l) N q k)∧∀ k,k < c → cf p.toNat (M i) k = 0
section
variable {p : Int} [NeZero p.toNat] (hq : gQ p = true) {l : List Int} {N n n' : Nat} {Q Qb : Nat → Nat → Fin p.toNat} {al be h : Nat → Fin p.toNat} (T : Tri (cf p.toNat l) N n' Q Qb al be h)
theorem TV (M : Nat → List Int) (c : Nat) : rq M c c = M:=by
  funext i
  unfold rq
  by_cases e : i = c
  · rw [if_pos e,e]
  · rw [if_neg e,if_neg e]
include T in
theorem acF (hn : n ≤ N) {c : Nat} {M : Nat → List Int} (E : agf p l N n c M) (hc : c < n) (hc' : c ≤ n') : cf p.toNat (M c) c = h c:=by
  obtain ⟨_,q,q1,q2,q3,q4⟩:=E c (Nat.le_refl c) hc
  have e1 : bi (cf p.toNat l) N q (Q c) = cf p.toNat (M c) c:=by
    unfold bi
    rw [Wt (k:=c) (by omega) (fun i hi hic=>?_)]
    · rw [T.top,← q3 c hc];grind
    · rcases Nat.lt_or_ge i c with g | g
      · rw [← q3 i (by omega),q4 i g];grind
      · rw [(T.sup c i (by omega)).1];grind
  have e2 : bi (cf p.toNat l) N (Q c) q = h c:=by
    rw [show q = fun i=>(fun i=>q i - Q c i) i + 1 * Q c i from by funext i;grind,De,T.aCs hc' _ (fun i hi=>?_),← T.hk c hc']
    · grind
    · by_cases g : i = c
      · rw [g,q1,T.top];grind
      · rw [q2 i hi g,(T.sup c i (by omega)).1];grind
  rw [← e1,sI,e2]
include hq in
theorem X8 {c : Nat} {M : Nat → List Int} (E : agf p l N n c M) (hc : c < n) {x : Fin p.toNat} (hx : cf p.toNat (M c) c = x) (h0 : x ≠ 0) : agf p l N n (c + 1) (Br p (qA p ((M c).getD c 0)) n c M):=by
  have hp:=gQ.pm hq
  intro i hi hin
  obtain ⟨m0,qc,c1,c2,c3,c4⟩:=E c (Nat.le_refl c) hc
  obtain ⟨m1,q,q1,q2,q3,q4⟩:=E i (by omega) hin
  have hv : cf p.toNat (M c) c * fz p.toNat (qA p ((M c).getD c 0)) = 1:=O3 hq (m0.DL hp.pos c) (by intro g;exact h0 (hx ▸ g))
  have es : Br p (qA p ((M c).getD c 0)) n c M i = ou p ((M i).getD c 0 * qA p ((M c).getD c 0) % p) (M i) (M c) n:=if_pos (by omega)
  rw [es]
  generalize qA p ((M c).getD c 0) = v at hv
  have ef : fz p.toNat ((M i).getD c 0 * v % p) = cf p.toNat (M i) c * fz p.toNat v:=by rw [pV hp,qZ];rfl
  have er : ∀ k,k < n → cf p.toNat (ou p ((M i).getD c 0 * v % p) (M i) (M c) n) k = cf p.toNat (M i) k - cf p.toNat (M i) c * fz p.toNat v * cf p.toNat (M c) k:=by
    intro k hk
    unfold cf at ef ⊢
    rw [Q6 _ _ _ _ hk,pV hp,Tz,qZ,ef]
  refine ⟨DN hp.pos _ _ _ _,fun t=>q t + (-(cf p.toNat (M i) c * fz p.toNat v)) * qc t,?_,fun j hj hji=>?_,fun k hk=>?_,fun k hk=>?_⟩
  · dsimp only
    rw [q1,c2 i (by omega) (by omega)];grind
  · dsimp only
    rw [q2 j (by omega) hji,c2 j (by omega) (by omega)];grind
  · rw [er k hk,agc,← q3 k hk,← c3 k hk];grind
  · rw [er k (by omega)]
    rcases Nat.lt_or_ge k c with g | g
    · rw [q4 k g,c4 k g];grind
    · obtain rfl : k = c:=by omega
      grind
include hq T in
theorem amM (hn : n ≤ N) (hn' : n ≤ n' + 1) (d : Nat) : ∀ (c : Nat) (M : Nat → List Int) (o : Int),c + d = n → agf p l N n c M → (∀ k,c ≤ k → k + 1 < n → h k ≠ 0) → fz p.toNat (uJ p n d c M o) = fz p.toNat o * prF h c d:=by
  have hp:=gQ.pm hq
  induction d with
  | zero=>intro c M o _ _ _;rw [uJ,prF];grind
  | succ d ih =>
    intro c M o hcd E hu
    have hx:=acF T hn E (show c < n by omega) (by omega)
    have e1 : pivot M c (n - c) c = if (M c).getD c 0 = 0 then pivot M c (n - c - 1) (c + 1) else c:=by
      rw [show n - c = n - c - 1 + 1 from by omega,pivot,Nat.add_sub_cancel]
    rw [uJ,e1]
    by_cases g : h c = 0
    · have hl : c + 1 = n:=Decidable.byContradiction fun k=>hu c (Nat.le_refl c) (by omega) g
      have hz : (M c).getD c 0 = 0:=Rf hp ((E c (Nat.le_refl c) (by omega)).1.DL hp.pos c) (by rw [← g];exact hx)
      rw [if_pos hz,show n - c - 1 = 0 from by omega,pivot,if_pos hl,vk,prF,g]
      grind
    · have hz : (M c).getD c 0 ≠ 0:=fun k=>g (by rw [← hx];unfold cf;rw [k];exact vk)
      rw [if_neg hz,if_neg (by omega),if_pos rfl,TV,ih (c + 1) _ _ (by omega) (X8 hq E (by omega) hx g) (fun k hk=>hu k (by omega)),pV hp,qZ,prF]
      rw [show fz p.toNat ((M c).getD c 0) = h c from hx]
      grind
end
theorem acG {p : Int} (hp : 0 < p) (n d : Nat) : ∀ (c : Nat) (M : Nat → List Int) (o : Int),0 ≤ o∧o < p → 0 ≤ uJ p n d c M o∧uJ p n d c M o < p:=by
  induction d with
  | zero=>intro c M o ho;exact ho
  | succ d ih =>
    intro c M o ho
    rw [uJ]
    split
    · exact ⟨Int.le_refl _,hp⟩
    · exact ih _ _ _ (lv hp _)
theorem acH {p : Int} (hp : Pm p) (l : List Int) (n : Nat) : 0 ≤ wz p l n∧wz p l n < p:=acG hp.pos _ _ _ _ _ (by have:=hp.two;omega)
section
variable {p : Int} [NeZero p.toNat] (hq : gQ p = true) {l : List Int} (nl : Nm p l)
/-- The norms. -/
def nrm (p : Int) [NeZero p.toNat] (l : List Int) (k : Nat) : Fin p.toNat:=fz p.toNat (kN p l (mP p l k) 0)
include hq nl
theorem L9 (n : Nat) (hu : ∀ k,k + 1 < n → nrm p l k ≠ 0) : fz p.toNat (wz p l n) = prF (nrm p l) 0 n:=by
  have hp:=gQ.pm hq
  have T:=amL hq l (n:=n - 1) (N:=n + 2) (by omega) (fun k hk=>hu k (by omega))
  have e : wz p l n = uJ p n n 0 (fun i=>(hrows l n n).getD i []) 1:=by rw [wz,Ps,hrows_len]
  have hr : ∀ i,i < n → (hrows l n n).getD i [] = (l.take (i + n)).drop i:=fun i hi=>by
    rw [hrows,List.getD_eq_getElem?_getD,List.getElem?_map,List.getElem?_range hi];rfl
  rw [e,amM hq T (by omega) (by omega) n 0 _ 1 (by omega) (fun i _ hi=>?_) (fun k _ hk=>hu k hk),yj]
  · show 1 * prF (nrm p l) 0 n = _
    grind
  · rw [hr i hi]
    refine ⟨(nl.take _).drop _,fun j=>if j = i then 1 else 0,if_pos rfl,fun j _ hj=>if_neg hj,fun k hk=>?_,fun k hk=>by omega⟩
    unfold lam
    rw [Wt (k:=i) (by omega) (fun j _ hj=>by dsimp only;rw [if_neg hj];grind)]
    dsimp only
    rw [if_pos rfl]
    have : cf p.toNat ((l.take (i + n)).drop i) k = cf p.toNat l (i + k):=by
      unfold cf
      simp only [List.getD_eq_getElem?_getD,List.getElem?_drop]
      rw [List.getElem?_take_of_lt (by omega)]
    rw [this]
    grind
theorem X9 (n : Nat) (hu : ∀ k,k < n → nrm p l k ≠ 0) : fz p.toNat (wz p l (n + 1)) = fz p.toNat (wz p l n) * nrm p l n:=by
  rw [L9 hq nl (n + 1) (fun k hk=>hu k (by omega)),L9 hq nl n (fun k hk=>hu k (by omega)),acE,Nat.zero_add]
omit [NeZero p.toNat] hq nl in
theorem acI (p : Int) (l : List Int) (d : Nat) : ∀ (i k : Nat),(k : Int) ≤ BP p l d i → ∀ j,i < j → j ≤ k → wz p l j ≠ 0:=by
  induction d with
  | zero=>intro i k h j hj hk;rw [BP] at h;omega
  | succ d ih =>
    intro i k h j hj hk
    rw [BP] at h
    split at h
    · omega
    · rename_i g
      by_cases c : j = i + 1
      · rw [c];exact g
      · exact ih (i + 1) k h j (by omega) hk
/-- Below the order no norm is 0. -/
theorem Gq {k : Nat} (hk : (k : Int) ≤ vD p l) (j : Nat) : j < k → nrm p l j ≠ 0:=by
  have hp:=gQ.pm hq
  induction j using Nat.strongRecOn with
  | ind j ih =>
    intro hj g
    have h1:=X9 hq nl j (fun i hi=>ih i hi (by omega))
    rw [g] at h1
    have h2 : fz p.toNat (wz p l (j + 1)) = 0:=by rw [h1];grind
    exact acI p l _ 0 k hk (j + 1) (by omega) (by omega) (Rf hp (acH hp l _) h2)
end
/- Kernels: symmetric, they give back values, Christoffel and Darboux. Conditions: p a Bl, the order is great enough. -/
section
variable {p : Int} [NeZero p.toNat] (hp : Pm p)
include hp
theorem amN (x : Int) (f : List Int) (k : Nat) : k ≤ f.length → fz p.toNat (Kn p x f k) = sF (fun i=>cf p.toNat f (f.length - k + i) * pw (fz p.toNat x) i) k:=by
  induction k with
  | zero=>intro _;rw [Kn,vk];rfl
  | succ k ih =>
    intro hk
    rw [Kn,pV hp,yV,qZ,ih (by omega),wK,← OJ]
    have e : sF (fun i=>cf p.toNat f (f.length - k + i) * pw (fz p.toNat x) i * fz p.toNat x) k = sF (fun t=>cf p.toNat f (f.length - (k + 1) + (t + 1)) * pw (fz p.toNat x) (t + 1)) k:=by
      refine ji _ fun t _=>?_
      rw [show f.length - (k + 1) + (t + 1) = f.length - k + t from by omega,pw]
      grind
    rw [e,show f.length - (k + 1) + 0 = f.length - 1 - k from by omega]
    unfold cf
    simp only [pw]
    grind
theorem Ce (x : Int) {f : List Int} {N : Nat} (hf : f.length ≤ N) : fz p.toNat (xJ p x f) = va N (fz p.toNat x) (cf p.toNat f):=by
  unfold xJ va
  rw [amN hp x f f.length (Nat.le_refl _),Ws hf (fun i hi=>by rw [yX hi];grind)]
  refine ji _ fun i _=>?_
  rw [show f.length - f.length + i = i from by omega]
theorem amO (N : Nat) (x : Fin p.toNat) (A : Nat → List Int) (c : Nat → Int) (k : Nat) : va N x (cf p.toNat (xc p A c k)) = sF (fun j=>fz p.toNat (c j) * va N x (cf p.toNat (A j))) k:=by
  induction k with
  | zero=>rw [xc,show cf p.toNat [] = fun _=>0 from funext fun i=>yX (Nat.zero_le _),TT];rfl
  | succ k ih =>
    rw [xc,show cf p.toNat (Dg p (xc p A c k) (A k) (c k)) = fun i=>cf p.toNat (xc p A c k) i + fz p.toNat (c k) * cf p.toNat (A k) i from funext fun i=>O4 hp _ _ (Ez hp A c k) i,O1,ih]
    rfl
theorem amP (m : Nat → Fin p.toNat) (N : Nat) (g : Nat → Fin p.toNat) (A : Nat → List Int) (c : Nat → Int) (k : Nat) : bi m N (cf p.toNat (xc p A c k)) g = sF (fun j=>fz p.toNat (c j) * bi m N (cf p.toNat (A j)) g) k:=by
  induction k with
  | zero=>rw [xc,show cf p.toNat [] = fun _=>0 from funext fun i=>yX (Nat.zero_le _),sI,Ku];rfl
  | succ k ih =>
    rw [xc,show cf p.toNat (Dg p (xc p A c k) (A k) (c k)) = fun i=>cf p.toNat (xc p A c k) i + fz p.toNat (c k) * cf p.toNat (A k) i from funext fun i=>O4 hp _ _ (Ez hp A c k) i,sI,De,sI,ih,sI g]
    rfl
end
section
variable {p : Int} (hq : gQ p = true) {l : List Int} (nl : Nm p l) {n : Nat} (ho : (n : Int) + 1 ≤ vD p l)
include hq nl ho
theorem Rh [NeZero p.toNat] (k : Nat) (hk : k ≤ n) : fz p.toNat (kN p l (mP p l k) 0) * fz p.toNat (qA p (kN p l (mP p l k) 0)) = 1 :=
  O3 hq (qI (gQ.pm hq) l _ 0) (Gq hq nl (k:=n + 1) (by omega) k (by omega))
omit nl ho in
theorem O5 [NeZero p.toNat] {N : Nat} (hN : n + 2 ≤ N) (a b : Int) : fz p.toNat (xJ p b (xK p l n a)) = sF (fun k=>va N (fz p.toNat a) (cf p.toNat (mP p l k)) * fz p.toNat (qA p (kN p l (mP p l k) 0)) * va N (fz p.toNat b) (cf p.toNat (mP p l k))) (n + 1):=by
  have hp:=gQ.pm hq
  have h1:=y9 hp l n a
  rw [Ce hp b (N:=N) (by omega),xK,amO hp]
  refine ji _ fun k hk=>?_
  have h2:=sP hp l k
  rw [Jw,pV hp,qZ,Ce hp a (N:=N) (by omega)]
omit nl ho in
/-- Symmetric. -/
theorem acV {a b : Int} : xJ p b (xK p l n a) = xJ p a (xK p l n b):=by
  have hp:=gQ.pm hq
  haveI:=nez hp
  refine TU hp (vR hp _ _) (vR hp _ _) ?_
  rw [O5 hq (N:=n + 2) (by omega),O5 hq (N:=n + 2) (by omega)]
  exact ji _ fun k _=>by grind
/-- Values are given back. -/
theorem acW {a : Int} {f : List Int} (hf : f.length ≤ n + 1) : rP p l (lM p (xK p l n a) f) 0 = xJ p a f:=by
  have hp:=gQ.pm hq
  haveI:=nez hp
  have T:=amL hq l (n:=n) (N:=n + 2) (by omega) (fun k hk=>Gq hq nl (k:=n + 1) (by omega) k (by omega))
  have h1:=y9 hp l n a
  refine TU hp (lv hp.pos _) (vR hp _ _) ?_
  rw [acD hp (N:=n + 2) (by omega) (by omega),Ce hp a (N:=n + 2) (by omega),xK,amP hp,← T.au3 (iv:=fun k=>fz p.toNat (qA p (kN p l (mP p l k) 0))) (Rh hq nl ho) (fz p.toNat a) (cf p.toNat f) (fun i hi=>yX (by omega))]
  refine ji _ fun k hk=>?_
  have h2:=sP hp l k
  rw [Jw,pV hp,qZ,Ce hp a (N:=n + 2) (by omega)]
/-- Christoffel and Darboux. -/
theorem acU {a b : Int} : ((a - b + p) % p * xJ p b (xK p l n a) % p * kN p l (mP p l n) 0) % p = (xJ p a (mP p l (n + 1)) * xJ p b (mP p l n) + (p - xJ p b (mP p l (n + 1))) * xJ p a (mP p l n)) % p:=by
  have hp:=gQ.pm hq
  haveI:=nez hp
  have T:=amL hq l (n:=n) (N:=n + 2) (by omega) (fun k hk=>Gq hq nl (k:=n + 1) (by omega) k (by omega))
  have C:=T.chd (iv:=fun k=>fz p.toNat (qA p (kN p l (mP p l k) 0))) (Rh hq nl ho) (fz p.toNat a) (fz p.toNat b) n (Nat.le_refl _)
  have h2:=sP hp l n
  have h3:=sP hp l (n + 1)
  have zp : fz p.toNat p = 0:=Gh.2 (by rw [hp.cast,Int.emod_self])
  refine TU hp (lv hp.pos _) (lv hp.pos _) ?_
  rw [pV hp,pV hp,qZ,pV hp,qZ,pV hp,yV,yV,qZ,qZ,Tz,Tz,zp,O5 hq (N:=n + 2) (by omega),
    Ce hp a (f:=mP p l (n + 1)) (N:=n + 2) (by omega),Ce hp b (f:=mP p l (n + 1)) (N:=n + 2) (by omega),Ce hp a (f:=mP p l n) (N:=n + 2) (by omega),Ce hp b (f:=mP p l n) (N:=n + 2) (by omega)]
  grind
end
end Go.Proofs.YtnpepkpogohcmaaGreat.Pr
