/- Hankel determinants by elimination are products of the norms of orthogonal polynomials; where the order is told, norms are no multiples of p. Condition: p a Ck. -/
import Derived.Test.YtilbjbahmilhkaaKgonals12
namespace Go.Proofs.Ytilbjbahmilhkaa.Pr
open Go.RowKit Go.Proofs.YtilbjbahmilhkaaW.PrintWords Go.Proofs.YtilbjbahmilhkaaW.PrintLast Go.Proofs.YtilbjbahmilhkaaW.PrintMore

section
variable {P : Nat} [NeZero P]
def prF (h : Nat → Fin P) : Nat → Nat → Fin P
  | _,0=>1
  | c,d + 1=>h c * prF h (c + 1) d
theorem aaX (h : Nat → Fin P) (d : Nat) : ∀ c,prF h c (d + 1) = prF h c d * h (c + d):=by
  induction d with
  | zero=>intro c;simp only [prF,Nat.add_zero];grind
  | succ d ih =>
    intro c
    rw [prF,ih (c + 1),show c + 1 + d = c + (d + 1) from by omega]
    simp only [prF]
    grind
end
/-- Rows c to n - 1 behind c steps of the elimination: the functional at x^k times polynomials that are x^i up to what is lower than x^c. -/
def aej (p : Int) [NeZero p.toNat] (l : List Int) (N n c : Nat) (M : Nat → List Int) : Prop:=∀ i,c ≤ i → i < n → Nm p (M i)∧∃ q : Nat → Fin p.toNat,
  q i = 1∧(∀ j,c ≤ j → j ≠ i → q j = 0)∧(∀ k,k < n → cf p.toNat (M i) k = lam (cf p.toNat l) N q k)∧∀ k,k < c → cf p.toNat (M i) k = 0
section
variable {p : Int} [NeZero p.toNat] (hq : iw p = true) {l : List Int} {N n n' : Nat} {Q Qb : Nat → Nat → Fin p.toNat} {al be h : Nat → Fin p.toNat} (T : Tri (cf p.toNat l) N n' Q Qb al be h)
theorem Si (M : Nat → List Int) (c : Nat) : rf M c c = M:=by
  funext i
  unfold rf
  by_cases e : i = c
  · rw [if_pos e,e]
  · rw [if_neg e,if_neg e]
include T in
theorem aaY (hn : n ≤ N) {c : Nat} {M : Nat → List Int} (E : aej p l N n c M) (hc : c < n) (hc' : c ≤ n') : cf p.toNat (M c) c = h c:=by
  obtain ⟨_,q,q1,q2,q3,q4⟩:=E c (Nat.le_refl c) hc
  have e1 : bi (cf p.toNat l) N q (Q c) = cf p.toNat (M c) c:=by
    unfold bi
    rw [Yd (k:=c) (by omega) (fun i hi hic=>?_)]
    · rw [T.top,← q3 c hc];grind
    · rcases Nat.lt_or_ge i c with g | g
      · rw [← q3 i (by omega),q4 i g];grind
      · rw [(T.sup c i (by omega)).1];grind
  have e2 : bi (cf p.toNat l) N (Q c) q = h c:=by
    rw [show q = fun i=>(fun i=>q i - Q c i) i + 1 * Q c i from by funext i;grind,Hz,T.amv hc' _ (fun i hi=>?_),← T.hk c hc']
    · grind
    · by_cases g : i = c
      · rw [g,q1,T.top];grind
      · rw [q2 i hi g,(T.sup c i (by omega)).1];grind
  rw [← e1,yL,e2]
include hq in
theorem WM {c : Nat} {M : Nat → List Int} (E : aej p l N n c M) (hc : c < n) {x : Fin p.toNat} (hx : cf p.toNat (M c) c = x) (h0 : x ≠ 0) : aej p l N n (c + 1) (AY p (si p ((M c).getD c 0)) n c M):=by
  have hp:=iw.pm hq
  intro i hi hin
  obtain ⟨m0,qc,c1,c2,c3,c4⟩:=E c (Nat.le_refl c) hc
  obtain ⟨m1,q,q1,q2,q3,q4⟩:=E i (by omega) hin
  have hv : cf p.toNat (M c) c * fz p.toNat (si p ((M c).getD c 0)) = 1:=Sj hq (m0.Cx hp.pos c) (by intro g;exact h0 (hx ▸ g))
  have es : AY p (si p ((M c).getD c 0)) n c M i = oh p ((M i).getD c 0 * si p ((M c).getD c 0) % p) (M i) (M c) n:=if_pos (by omega)
  rw [es]
  generalize si p ((M c).getD c 0) = v at hv
  have ef : fz p.toNat ((M i).getD c 0 * v % p) = cf p.toNat (M i) c * fz p.toNat v:=by rw [sS hp,vv];rfl
  have er : ∀ k,k < n → cf p.toNat (oh p ((M i).getD c 0 * v % p) (M i) (M c) n) k = cf p.toNat (M i) k - cf p.toNat (M i) c * fz p.toNat v * cf p.toNat (M c) k:=by
    intro k hk
    unfold cf at ef ⊢
    rw [OD _ _ _ _ hk,sS hp,akK,vv,ef]
  refine ⟨CK hp.pos _ _ _ _,fun t=>q t + (-(cf p.toNat (M i) c * fz p.toNat v)) * qc t,?_,fun j hj hji=>?_,fun k hk=>?_,fun k hk=>?_⟩
  · dsimp only
    rw [q1,c2 i (by omega) (by omega)];grind
  · dsimp only
    rw [q2 j (by omega) hji,c2 j (by omega) (by omega)];grind
  · rw [er k hk,aek,← q3 k hk,← c3 k hk];grind
  · rw [er k (by omega)]
    rcases Nat.lt_or_ge k c with g | g
    · rw [q4 k g,c4 k g];grind
    · obtain rfl : k = c:=by omega
      grind
include hq T in
theorem akL (hn : n ≤ N) (hn' : n ≤ n' + 1) (d : Nat) : ∀ (c : Nat) (M : Nat → List Int) (o : Int),c + d = n → aej p l N n c M → (∀ k,c ≤ k → k + 1 < n → h k ≠ 0) → fz p.toNat (uw p n d c M o) = fz p.toNat o * prF h c d:=by
  have hp:=iw.pm hq
  induction d with
  | zero=>intro c M o _ _ _;rw [uw,prF];grind
  | succ d ih =>
    intro c M o hcd E hu
    have hx:=aaY T hn E (show c < n by omega) (by omega)
    have e1 : pivot M c (n - c) c = if (M c).getD c 0 = 0 then pivot M c (n - c - 1) (c + 1) else c:=by
      rw [show n - c = n - c - 1 + 1 from by omega,pivot,Nat.add_sub_cancel]
    rw [uw,e1]
    by_cases g : h c = 0
    · have hl : c + 1 = n:=Decidable.byContradiction fun k=>hu c (Nat.le_refl c) (by omega) g
      have hz : (M c).getD c 0 = 0:=II hp ((E c (Nat.le_refl c) (by omega)).1.Cx hp.pos c) (by rw [← g];exact hx)
      rw [if_pos hz,show n - c - 1 = 0 from by omega,pivot,if_pos hl,sU,prF,g]
      grind
    · have hz : (M c).getD c 0 ≠ 0:=fun k=>g (by rw [← hx];unfold cf;rw [k];exact sU)
      rw [if_neg hz,if_neg (by omega),if_pos rfl,Si,ih (c + 1) _ _ (by omega) (WM hq E (by omega) hx g) (fun k hk=>hu k (by omega)),sS hp,vv,prF]
      rw [show fz p.toNat ((M c).getD c 0) = h c from hx]
      grind
end
theorem aaZ {p : Int} (hp : 0 < p) (n d : Nat) : ∀ (c : Nat) (M : Nat → List Int) (o : Int),0 ≤ o∧o < p → 0 ≤ uw p n d c M o∧uw p n d c M o < p:=by
  induction d with
  | zero=>intro c M o ho;exact ho
  | succ d ih =>
    intro c M o ho
    rw [uw]
    split
    · exact ⟨Int.le_refl _,hp⟩
    · exact ih _ _ _ (lQ hp _)
theorem IG {p : Int} (hp : Pm p) (l : List Int) (n : Nat) : 0 ≤ sH p l n∧sH p l n < p:=aaZ hp.pos _ _ _ _ _ (by have:=hp.two;omega)
section
variable {p : Int} [NeZero p.toNat] (hq : iw p = true) {l : List Int} (nl : Nm p l)
/-- The norms. -/
def nrm (p : Int) [NeZero p.toNat] (l : List Int) (k : Nat) : Fin p.toNat:=fz p.toNat (lq p l (mP p l k) 0)
include hq nl
theorem KJ (n : Nat) (hu : ∀ k,k + 1 < n → nrm p l k ≠ 0) : fz p.toNat (sH p l n) = prF (nrm p l) 0 n:=by
  have hp:=iw.pm hq
  have T:=amu hq l (n:=n - 1) (N:=n + 2) (by omega) (fun k hk=>hu k (by omega))
  have e : sH p l n = uw p n n 0 (fun i=>(hrows l n n).getD i []) 1:=by rw [sH,OC,hrows_len]
  have hr : ∀ i,i < n → (hrows l n n).getD i [] = (l.take (i + n)).drop i:=fun i hi=>by
    rw [hrows,List.getD_eq_getElem?_getD,List.getElem?_map,List.getElem?_range hi];rfl
  rw [e,akL hq T (by omega) (by omega) n 0 _ 1 (by omega) (fun i _ hi=>?_) (fun k _ hk=>hu k hk),xU]
  · show 1 * prF (nrm p l) 0 n = _
    grind
  · rw [hr i hi]
    refine ⟨(nl.take _).drop _,fun j=>if j = i then 1 else 0,if_pos rfl,fun j _ hj=>if_neg hj,fun k hk=>?_,fun k hk=>by omega⟩
    unfold lam
    rw [Yd (k:=i) (by omega) (fun j _ hj=>by dsimp only;rw [if_neg hj];grind)]
    dsimp only
    rw [if_pos rfl]
    have : cf p.toNat ((l.take (i + n)).drop i) k = cf p.toNat l (i + k):=by
      unfold cf
      simp only [List.getD_eq_getElem?_getD,List.getElem?_drop]
      rw [List.getElem?_take_of_lt (by omega)]
    rw [this]
    grind
theorem Ka (n : Nat) (hu : ∀ k,k < n → nrm p l k ≠ 0) : fz p.toNat (sH p l (n + 1)) = fz p.toNat (sH p l n) * nrm p l n:=by
  rw [KJ hq nl (n + 1) (fun k hk=>hu k (by omega)),KJ hq nl n (fun k hk=>hu k (by omega)),aaX,Nat.zero_add]
omit [NeZero p.toNat] hq nl in
theorem aa0 (p : Int) (l : List Int) (d : Nat) : ∀ (i k : Nat),(k : Int) ≤ Be p l d i → ∀ j,i < j → j ≤ k → sH p l j ≠ 0:=by
  induction d with
  | zero=>intro i k h j hj hk;rw [Be] at h;omega
  | succ d ih =>
    intro i k h j hj hk
    rw [Be] at h
    split at h
    · omega
    · rename_i g
      by_cases c : j = i + 1
      · rw [c];exact g
      · exact ih (i + 1) k h j (by omega) hk
/-- Below the order no norm is 0. -/
theorem EW {k : Nat} (hk : (k : Int) ≤ xm p l) (j : Nat) : j < k → nrm p l j ≠ 0:=by
  have hp:=iw.pm hq
  induction j using Nat.strongRecOn with
  | ind j ih =>
    intro hj g
    have h1:=Ka hq nl j (fun i hi=>ih i hi (by omega))
    rw [g] at h1
    have h2 : fz p.toNat (sH p l (j + 1)) = 0:=by rw [h1];grind
    exact aa0 p l _ 0 k hk (j + 1) (by omega) (by omega) (II hp (IG hp l _) h2)
end
end Go.Proofs.Ytilbjbahmilhkaa.Pr
