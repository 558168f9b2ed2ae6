/- Texts of this session in one: what functions of the program compute, and plain facts of it, under the conditions that each theorem names. -/
import Derived.Test.YtilbjbahmilhkaaKFspecAffineMoments
import Derived.Test.YtilbjbahmilhkaaKtChanges10
import Derived.Test.YtilbjbahmilhkaaKtChanges7
import Derived.Test.YtilbjbahmilhkaaKtChanges8
namespace Go.Proofs.Ytilbjbahmilhkaa.Pr
/- AffineMoments: for all arguments the program and the reference come to one value; no condition. -/
open Go.RowKit Go.Proofs.YtilbjbahmilhkaaW.PrintWords Go.Proofs.YtilbjbahmilhkaaW.PrintLast Go.Proofs.YtilbjbahmilhkaaW.PrintMore
/-- The powers of a polynomial of degree 1 at most. -/
def yP (p : Int) (st : List Int) : Nat → List Int
  | 0=>[1]
  | k + 1=>yO p (yP p st k) st
theorem Jy {p : Int} (hp : Pm p) (st : List Int) (hst : st.length ≤ 2) (k : Nat) : Nm p (yP p st k)∧(yP p st k).length ≤ k + 1:=by
  have:=hp.two
  induction k with
  | zero=>exact ⟨Nm.cons (by omega) (by omega) (Nm.nil p),by simp [yP]⟩
  | succ k ih =>
    refine ⟨XW hp.pos _ _,?_⟩
    have h:=SQ p (yP p st k) st
    have h2:=ih.2
    rw [yP]
    omega
def qJ (p : Int) (l st : List Int) (n : Nat) : List Int:=(List.range n).map fun k=>xu p l (yP p st k) 0
theorem rz (p : Int) (l st : List Int) (n : Nat) : (qJ p l st n).length = n:=by simp [qJ]
theorem IA (p : Int) (l st : List Int) (n : Nat) : qJ p l st (n + 1) = qJ p l st n ++ [xu p l (yP p st n) 0]:=by simp [qJ,List.range_succ]
theorem M7 {p : Int} (hp : Pm p) (l st : List Int) (nl : Nm p l) (ns : Nm p st) (h24 : l.length ≤ 24) (hst : st.length ≤ 2) (d : Nat) : ∀ i : Nat,i + d = l.length →
    Ev (fun k=>aT.l0 k (yP p st i) st (i : Int) p l p (qJ p l st i)) (p,qJ p l st l.length,0):=by
  induction d with
  | zero =>
    intro i hi
    refine Ev.step (fun k=>by rw [aT.l0]) ?_
    refine Ev.neg (by omega) (Ev.mM ?_)
    rw [show i = l.length from by omega]
  | succ d ih =>
    intro i hi
    have o:=Jy hp st hst i
    have o2:=o.2
    refine Ev.step (fun k=>by rw [aT.l0]) ?_
    refine Ev.pos (by omega) (Ev.bind (Jz hp l _ nl o.1 0 (.inl (by omega)) (by unfold Sm;omega) (by unfold Sm;omega)) (Ev.pos (by rw [rz];omega) ?_))
    refine Ev.bind (M8 hp _ _ o.1 ns (by unfold Sm;omega) (by unfold Sm;omega) (by unfold Sm;omega)) ?_
    rw [← IA,lW (i:=i) (n:=l.length) (by omega) (by omega)]
    exact ih (i + 1) (by omega)
theorem M9 {p : Int} (hp : Pm p) (l st : List Int) (nl : Nm p l) (ns : Nm p st) (h24 : l.length ≤ 24) (hst : st.length ≤ 2) (d : Nat) : ∀ i : Nat,i + d = l.length →
    Ev (fun k=>bK.l0 k (yP p st i) st (l.length : Int) (i : Int) p l p (qJ p l st i)) (p,qJ p l st l.length,0):=by
  induction d with
  | zero =>
    intro i hi
    refine Ev.step (fun k=>by rw [bK.l0]) ?_
    refine Ev.neg (by omega) (Ev.mM ?_)
    rw [show i = l.length from by omega]
  | succ d ih =>
    intro i hi
    have o:=Jy hp st hst i
    have o2:=o.2
    refine Ev.step (fun k=>by rw [bK.l0]) ?_
    refine Ev.pos (by omega) (Ev.bind (JA hp l _ nl o.1 (by omega) (by unfold Sm;omega)) (Ev.pos (by rw [rz];omega) (Ev.kQ (a:=p) rfl ?_)))
    refine Ev.bind (Na hp _ _ o.1 ns (by unfold Sm;omega) (by unfold Sm;omega) (by unfold Sm;omega)) ?_
    rw [← IA,lW (i:=i) (n:=l.length) (by omega) (by omega)]
    exact ih (i + 1) (by omega)
theorem wE (p : Int) (l : List Int) (a b : Int) (hl : Sm l.length) :
    ∃ v : Int × List Int × Int,Ev (fun k=>aT.f k p l a b) v∧Ev (fun k=>bK.f k p l a b) v∧Sm v.2.1.length ∧
      (lK p l = true∧(0 ≤ a∧a < p)∧(0 ≤ b∧b < p) → v = (p,qJ p l (ny [b,a]) l.length,0))∧(¬ (lK p l = true∧(0 ≤ a∧a < p)∧(0 ≤ b∧b < p)) → v.2.1 = []∧v.2.2 ≠ 0):=by
  have h1 : dn.f p l a b = some (decide ((0 ≤ a∧a < p)∧(0 ≤ b∧b < p))):=by
    unfold dn.f
    rw [show di.f p l = some p from rfl,Option.bind_some,has_eq,Option.bind_some]
    by_cases h : 0 ≤ a∧a < p
    · rw [if_pos (decide_eq_true h),Option.bind_some,has_eq]
      simp [h]
    · rw [if_neg (by simp only [decide_eq_true_eq];exact h)]
      simp only [h,false_and,decide_false]
  have hc:=yL p l hl (decide ((0 ≤ a∧a < p)∧(0 ≤ b∧b < p))) [] (by simp [Sm]) (fun g h=>by cases h)
  simp only [List.all_nil,Bool.and_true] at hc
  by_cases hm : lK p l = true
  · have hp:=lK.pm hm
    have hp2:=hp.two
    have hpt:=hp.top
    have hll:=lK.len hm
    have hw : wrap64 (p - 1) = p - 1:=dQ (by omega) (by omega)
    rw [if_pos hm] at hc
    by_cases h : (0 ≤ a∧a < p)∧(0 ≤ b∧b < p)
    · rw [if_pos (decide_eq_true h)] at hc
      have hst : (ny [b,a]).length ≤ 2:=Le [b,a]
      have hsn : Nm p (ny [b,a]):=(Nm.cons h.2.1 h.2.2 (Nm.cons h.1.1 h.1.2 (Nm.nil p))).ny
      refine ⟨(p,qJ p l (ny [b,a]) l.length,0),?_,?_,by dsimp only;rw [rz];exact hl,fun _=>rfl,fun g=>absurd ⟨hm,h⟩ g⟩
      · unfold aT.f
        rw [hw]
        exact Ev.bind (oo p l hl) (Ev.pos hm (Ev.kQ (Eu _ _ _) (Ev.pos (decide_eq_true (by omega)) (Ev.kQ (Eu _ _ _) (Ev.pos (decide_eq_true (by omega)) (Ev.bind (Ew [b,a] (by simp [Sm])) (M7 hp l _ (lK.nm hm) hsn hll.2 hst l.length 0 (by omega))))))))
      · unfold bK.f
        exact Ev.kQ h1 (Ev.bind hc (Ev.pos rfl (Ev.bind (Ey [b,a] (by simp [Sm])) (M9 hp l _ (lK.nm hm) hsn hll.2 hst l.length 0 (by omega)))))
    · rw [if_neg (by simp only [decide_eq_true_eq];exact h)] at hc
      refine ⟨(0,[],2),?_,?_,Sm0,fun g=>absurd g.2 h,fun _=>⟨rfl,by decide⟩⟩
      · unfold aT.f
        rw [hw]
        refine Ev.bind (oo p l hl) (Ev.pos hm (Ev.kQ (Eu _ _ _) ?_))
        by_cases g : 0 ≤ a∧a ≤ p - 1
        · refine Ev.pos (decide_eq_true g) (Ev.kQ (Eu _ _ _) (Ev.neg (by simp only [decide_eq_true_eq];omega) (Ev.now _)))
        · exact Ev.neg (by simp only [decide_eq_true_eq];exact g) (Ev.now _)
      · unfold bK.f
        exact Ev.kQ h1 (Ev.bind hc (Ev.neg (by decide) (Ev.now _)))
  · rw [if_neg hm] at hc
    refine ⟨(0,[],1),?_,?_,Sm0,fun g=>absurd g.1 hm,fun _=>⟨rfl,by decide⟩⟩
    · unfold aT.f
      exact Ev.bind (oo p l hl) (Ev.neg hm (Ev.now _))
    · unfold bK.f
      exact Ev.kQ h1 (Ev.bind hc (Ev.neg (by decide) (Ev.now _)))
/- Affine moments: they undo each other, and keep Hankel determinants up to a square. Conditions: p a Gd, a no multiple of p. -/
section
variable {P : Nat} [NeZero P]
/-- Times a x + b. -/
def opS (a b : Fin P) (f : Nat → Fin P) : Nat → Fin P:=fun i=>a * xs f i + b * f i
def itS (a b : Fin P) : Nat → (Nat → Fin P) → Nat → Fin P
  | 0,g=>g
  | r + 1,g=>opS a b (itS a b r g)
/-- The numbers of (a x + b)^r. -/
def aP (a b : Fin P) (r : Nat) : Nat → Fin P:=itS a b r (fun i=>if i = 0 then 1 else 0)
theorem aP_succ (a b : Fin P) (r : Nat) : aP a b (r + 1) = opS a b (aP a b r):=rfl
theorem XX (a b : Fin P) (r k : Nat) (g : Nat → Fin P) : itS a b (r + k) g = itS a b r (itS a b k g):=by
  induction r with
  | zero=>rw [Nat.zero_add];rfl
  | succ r ih=>rw [show r + 1 + k = r + k + 1 from by omega,itS,ih];rfl
theorem Po (a b : Fin P) (r : Nat) {g : Nat → Fin P} {n : Nat} (hg : ∀ i,n ≤ i → g i = 0) : ∀ i,n + r ≤ i → itS a b r g i = 0:=by
  induction r with
  | zero=>exact fun i hi=>hg i (by omega)
  | succ r ih =>
    intro i hi
    obtain ⟨j,rfl⟩ : ∃ j,i = j + 1:=⟨i - 1,by omega⟩
    have h1:=ih (j + 1) (by omega)
    have h2:=ih j (by omega)
    simp only [itS,opS,xs]
    rw [h1,h2]
    grind
theorem aP_sup (a b : Fin P) (r : Nat) : ∀ i,r < i → aP a b r i = 0:=fun i hi=>Po a b r (n:=1) (fun i hi=>if_neg (by omega)) i (by omega)
theorem aP_top (a b : Fin P) (r : Nat) : aP a b (r + 1) (r + 1) = a * aP a b r r:=by
  rw [aP_succ]
  simp only [opS,xs]
  rw [aP_sup a b r (r + 1) (by omega)]
  grind
theorem aP_unit {a a' : Fin P} (h : a * a' = 1) (b : Fin P) (r : Nat) : ∃ z,aP a b r r * z = 1:=by
  induction r with
  | zero=>exact ⟨1,by show (if 0 = 0 then (1 : Fin P) else 0) * 1 = 1;rw [if_pos rfl];grind⟩
  | succ r ih =>
    obtain ⟨z,hz⟩:=ih
    exact ⟨a' * z,by rw [aP_top];grind⟩
theorem aP_one (b : Fin P) (r : Nat) : aP 1 b r r = 1:=by
  induction r with
  | zero=>show (if 0 = 0 then (1 : Fin P) else 0) = 1;exact if_pos rfl
  | succ r ih=>rw [aP_top,ih];grind
theorem XY {g : Nat → Fin P} (h : ∀ i,∃ z,g i * z = 1) (n : Nat) : ∃ z,pF g n * z = 1:=by
  induction n with
  | zero=>exact ⟨1,by simp only [pF];grind⟩
  | succ n ih =>
    obtain ⟨z,hz⟩:=ih
    obtain ⟨y,hy⟩:=h n
    exact ⟨z * y,by simp only [pF];grind⟩
theorem adD {g : Nat → Fin P} (h : ∀ i,g i = 1) (n : Nat) : pF g n = 1:=by
  induction n with
  | zero=>rfl
  | succ n ih=>rw [pF,ih,h n];grind
theorem adE {m : Nat → Fin P} {N : Nat} (a b : Fin P) {f : Nat → Fin P} (hf : ∀ i,N ≤ i + 1 → f i = 0) (s : Nat) : lam m N (opS a b f) s = a * lam m N f (s + 1) + b * lam m N f s:=by
  rw [← ag4 hf s]
  unfold lam
  rw [← rq,← rq,← xq]
  exact kR _ fun t _=>by simp only [opS];grind
theorem adF {m : Nat → Fin P} {N : Nat} (a b : Fin P) {g : Nat → Fin P} {n : Nat} (hg : ∀ i,n ≤ i → g i = 0) (r : Nat) : n + r ≤ N → ∀ s,lam m N (itS a b r g) s = sF (fun i=>aP a b r i * lam m N g (s + i)) (r + 1):=by
  induction r with
  | zero =>
    intro _ s
    simp only [sF,itS,aP,Nat.add_zero]
    rw [if_pos trivial]
    grind
  | succ r ih =>
    intro h s
    rw [itS,adE a b (fun i hi=>Po a b r hg i (by omega)),ih (by omega),ih (by omega)]
    have e : sF (fun i=>aP a b (r + 1) i * lam m N g (s + i)) (r + 1 + 1) = sF (fun i=>a * (xs (aP a b r) i * lam m N g (s + i))) (r + 1 + 1) + sF (fun i=>b * (aP a b r i * lam m N g (s + i))) (r + 1 + 1):=by
      rw [← xq]
      exact kR _ fun i _=>by rw [aP_succ];simp only [opS];grind
    have e3 : sF (fun i=>aP a b r i * lam m N g (s + i)) (r + 1 + 1) = sF (fun i=>aP a b r i * lam m N g (s + i)) (r + 1):=by
      rw [sF,aP_sup a b r (r + 1) (by omega)];grind
    rw [e,rq,rq,ru (fun i=>xs (aP a b r) i * lam m N g (s + i)),e3]
    have e2 : sF (fun t=>xs (aP a b r) (t + 1) * lam m N g (s + (t + 1))) (r + 1) = sF (fun i=>aP a b r i * lam m N g (s + 1 + i)) (r + 1):=kR _ fun t _=>by rw [show s + (t + 1) = s + 1 + t from by omega];rfl
    rw [e2]
    simp only [xs]
    grind
/-- The numbers of affine moments. -/
theorem XZ {m : Nat → Fin P} {N : Nat} (a b : Fin P) (r k : Nat) (h : k + 1 + r ≤ N) : lam m N (aP a b (r + k)) 0 = sF (fun i=>aP a b r i * rU (fun s j=>aP a b j s) (fun s=>m (i + s)) k) (r + 1):=by
  have e : aP a b (r + k) = itS a b r (aP a b k):=XX a b r k _
  rw [e,adF a b (fun i hi=>aP_sup a b k i (by omega)) r h 0]
  refine kR _ fun i _=>?_
  congr 1
  unfold lam rU
  rw [Nat.zero_add,aaX (n:=k + 1) (by omega) (fun t ht=>by rw [aP_sup a b k t (by omega)];grind)]
  exact kR _ fun t _=>by rw [Nat.add_comm];grind
/-- One affine map behind the other that undoes it. -/
theorem SS {a b a' b' : Fin P} (h1 : a' * a = 1) (h2 : a' * b + b' = 0) (K k : Nat) : k < K → ∀ j,sF (fun i=>aP a' b' k i * aP a b i j) K = if j = k then 1 else 0:=by
  induction k with
  | zero =>
    intro hK j
    rw [Pj (k:=0) hK (fun i _ hi=>by show (if i = 0 then (1 : Fin P) else 0) * _ = 0;rw [if_neg hi];grind)]
    show (if 0 = 0 then (1 : Fin P) else 0) * (if j = 0 then 1 else 0) = _
    rw [if_pos rfl]
    grind
  | succ k ih =>
    intro hK j
    obtain ⟨M,rfl⟩ : ∃ M,K = M + 1:=⟨K - 1,by omega⟩
    have I:=ih (by omega)
    have hx : sF (fun i=>xs (aP a' b' k) i * aP a b i j) (M + 1) = a * xs (fun j=>if j = k then 1 else 0) j + b * (if j = k then 1 else 0):=by
      rw [ru]
      have e : sF (fun t=>xs (aP a' b' k) (t + 1) * aP a b (t + 1) j) M = sF (fun t=>a * (aP a' b' k t * xs (aP a b t) j) + b * (aP a' b' k t * aP a b t j)) M:=kR _ fun t _=>by
        rw [aP_succ];simp only [opS,xs];grind
      have last : aP a' b' k M = 0:=aP_sup a' b' k M (by omega)
      have s2 : sF (fun t=>aP a' b' k t * aP a b t j) M = if j = k then 1 else 0:=by
        rw [← I j,sF,last];grind
      have s1 : sF (fun t=>aP a' b' k t * xs (aP a b t) j) M = xs (fun j=>if j = k then 1 else 0) j:=by
        cases j with
        | zero=>exact Gg _ fun t _=>by simp only [xs];grind
        | succ j =>
          show sF (fun t=>aP a' b' k t * aP a b t j) M = if j = k then 1 else 0
          rw [← I j,sF,last];grind
      rw [e,xq,rq,rq,s1,s2]
      simp only [xs]
      grind
    have e : sF (fun i=>aP a' b' (k + 1) i * aP a b i j) (M + 1) = a' * sF (fun i=>xs (aP a' b' k) i * aP a b i j) (M + 1) + b' * sF (fun i=>aP a' b' k i * aP a b i j) (M + 1):=by
      rw [← rq,← rq,← xq]
      exact kR _ fun i _=>by rw [aP_succ];simp only [opS];grind
    rw [e,hx,I j]
    have hxs : xs (fun j=>if j = k then (1 : Fin P) else 0) j = if j = k + 1 then 1 else 0:=by
      cases j with
      | zero=>rw [if_neg (by omega)];rfl
      | succ j =>
        show (if j = k then (1 : Fin P) else 0) = _
        by_cases c : j = k
        · rw [if_pos c,if_pos (by omega)]
        · rw [if_neg c,if_neg (by omega)]
    rw [hxs]
    generalize (if j = k + 1 then (1 : Fin P) else 0) = u
    generalize (if j = k then (1 : Fin P) else 0) = v
    grind
end
section
variable {p : Int} [NeZero p.toNat] (hq : fV p = true)
include hq
theorem Pp {l : List Int} (nl : Nm p l) (n : Nat) : fz p.toNat (vL p l n) = dt n (fun r k=>cf p.toNat l (r + k)):=by
  have e : vL p l n = ry p n n 0 (fun i=>(hrows l n n).getD i []) 1:=by rw [vL,M5,hrows_len]
  have hr : ∀ i,i < n → (hrows l n n).getD i [] = (l.take (i + n)).drop i:=fun i hi=>by
    rw [hrows,List.getD_eq_getElem?_getD,List.getElem?_map,List.getElem?_range hi];rfl
  rw [e,SL hq n n 0 _ 1 (by omega) (fun i _ hi=>by rw [hr i hi];exact (nl.take _).drop _),rX]
  have e2 : dt n (fun r k=>cf p.toNat ((hrows l n n).getD (0 + r) []) (0 + k)) = dt n (fun r k=>cf p.toNat l (r + k)):=by
    refine qw n fun i k hi hk=>?_
    rw [Nat.zero_add,Nat.zero_add,hr i hi]
    unfold cf
    simp only [List.getD_eq_getElem?_getD,List.getElem?_drop]
    rw [List.getElem?_take_of_lt (by omega)]
  rw [e2]
  grind
theorem X0 (x : Fin p.toNat) (h : x ≠ 0) : ∃ y,x * y = 1:=by
  have hp:=fV.pm hq
  have e : fz p.toNat ((x.val : Nat) : Int) = x:=by
    apply Fin.ext
    apply Int.ofNat.inj
    show (((fz p.toNat ((x.val : Nat) : Int)).val : Nat) : Int) = ((x.val : Nat) : Int)
    rw [uh,Int.emod_eq_of_lt (by omega) (by have:=x.isLt;omega)]
  have:=M6 hq (x:=((x.val : Nat) : Int)) ⟨by omega,by have:=x.isLt;have:=hp.cast;omega⟩ (by rw [e];exact h)
  rw [e] at this
  exact ⟨_,this⟩
theorem X3 {a b : Int} (k : Nat) : cf p.toNat (yP p [b,a] k) = aP (fz p.toNat a) (fz p.toNat b) k:=by
  have hp:=fV.pm hq
  induction k with
  | zero =>
    funext i
    show cf p.toNat [1] i = if i = 0 then 1 else 0
    cases i with
    | zero=>exact rX
    | succ i=>rw [if_neg (by omega)];exact Sz (by simp)
  | succ k ih =>
    funext i
    rw [yP,Ra hp.pos,XR hp,aP_succ,← ih]
    show (0 : Fin p.toNat) + cf p.toNat [b,a] 0 * fz p.toNat (sh (yP p [b,a] k) 0 i) + cf p.toNat [b,a] 1 * fz p.toNat (sh (yP p [b,a] k) 1 i) = _
    rw [adB,adC,show cf p.toNat [b,a] 0 = fz p.toNat b from rfl,show cf p.toNat [b,a] 1 = fz p.toNat a from rfl]
    simp only [opS]
    grind
theorem Nb {l : List Int} {a b : Int} {n k : Nat} (hk : k < n) {N : Nat} (hN : k + 1 ≤ N) : cf p.toNat (qJ p l [b,a] n) k = lam (cf p.toNat l) N (aP (fz p.toNat a) (fz p.toNat b) k) 0:=by
  have hp:=fV.pm hq
  have o:=Jy hp [b,a] (by simp) k
  have e : (qJ p l [b,a] n).getD k 0 = xu p l (yP p [b,a] k) 0:=by
    rw [qJ,List.getD_eq_getElem?_getD,List.getElem?_map,List.getElem?_range hk];rfl
  unfold cf
  rw [e,xu,wD hp,Sy]
  unfold lam
  rw [← X3 hq,aaX (g:=fun t=>cf p.toNat (yP p [b,a] k) t * fz p.toNat (l.getD (t + 0) 0)) (n:=(yP p [b,a] k).length) (m:=N) (by have:=o.2;omega) (fun i hi=>by rw [Sz hi];grind)]
  exact kR _ fun i _=>xn _ _
end
theorem Nc {p : Int} (hp : Pm p) (l st : List Int) (n : Nat) : Nm p (qJ p l st n):=fun x hx=>by
  obtain ⟨i,_,rfl⟩:=List.mem_map.1 hx
  exact nI hp.pos _
section
variable {p : Int} (hq : fV p = true) {l : List Int} (nl : Nm p l) {a b : Int}
include hq nl
/-- Hankel determinants. -/
theorem SV [NeZero p.toNat] (ha : 1 ≤ a∧a < p) {n : Nat} (hn : 2 * n ≤ l.length + 1) : ∃ g : Fin p.toNat,(∃ z,g * z = 1)∧(a = 1 → g = 1)∧fz p.toNat (vL p (qJ p l [b,a] l.length) n) = g * fz p.toNat (vL p l n):=by
  have hp:=fV.pm hq
  have hu:=M6 hq (x:=a) ⟨by omega,ha.2⟩ (fun g=>by have:=yN hp ⟨by omega,ha.2⟩ g;omega)
  refine ⟨pF (fun i=>aP (fz p.toNat a) (fz p.toNat b) i i) n * pF (fun i=>aP (fz p.toNat a) (fz p.toNat b) i i) n,?_,?_,?_⟩
  · obtain ⟨z,hz⟩:=XY (fun i=>aP_unit hu (fz p.toNat b) i) n
    exact ⟨z * z,by grind⟩
  · intro h
    rw [adD (fun i=>by rw [h,rX];exact aP_one _ i)]
    grind
  · rw [Pp hq (Nc hp _ _ _),Pp hq nl]
    have e : dt n (fun r k=>cf p.toNat (qJ p l [b,a] l.length) (r + k)) = dt n (fun i k=>sF (fun r=>aP (fz p.toNat a) (fz p.toNat b) i r * rU (fun s j=>aP (fz p.toNat a) (fz p.toNat b) j s) (fun s=>cf p.toNat l (r + s)) k) (i + 1)):=by
      refine qw n fun r k hr hk=>?_
      rw [Nb hq (by omega) (N:=n + n) (by omega)]
      exact XZ _ _ r k (by omega)
    rw [e,XV n (aP (fz p.toNat a) (fz p.toNat b)) (fun r k=>rU (fun s j=>aP (fz p.toNat a) (fz p.toNat b) j s) (fun s=>cf p.toNat l (r + s)) k),
      SK (X0 hq) n (fun s j=>aP (fz p.toNat a) (fz p.toNat b) j s) (fun r s=>cf p.toNat l (r + s)) (fun i g=>by
        obtain ⟨z,hz⟩:=aP_unit hu (fz p.toNat b) i
        rw [g] at hz
        have h2:=hp.two
        have : fz p.toNat 1 = 0:=by rw [rX,← hz];grind
        have:=yN hp (x:=1) (by omega) this
        omega)]
    grind
/-- They undo each other. -/
theorem SX {a' b' : Int} (h1 : a' * a % p = 1) (h2 : (a' * b + b') % p = 0) : qJ p (qJ p l [b,a] l.length) [b',a'] l.length = l:=by
  have hp:=fV.pm hq
  haveI:=nez hp
  apply List.ext_getElem
  · rw [rz]
  · intro k hk1 hk2
    have g1 : (qJ p (qJ p l [b,a] l.length) [b',a'] l.length).getD k 0 = (qJ p (qJ p l [b,a] l.length) [b',a'] l.length)[k]:=by simp [List.getD,hk1]
    have g2 : l.getD k 0 = l[k]:=by simp [List.getD,hk2]
    rw [← g1,← g2]
    refine SH hp ((Nc hp _ _ _).BA hp.pos k) (nl.BA hp.pos k) ?_
    show cf p.toNat (qJ p (qJ p l [b,a] l.length) [b',a'] l.length) k = cf p.toNat l k
    have e1 : fz p.toNat a' * fz p.toNat a = 1:=by
      have h2:=hp.two
      rw [← xn,← wD hp,h1,rX]
    have e2 : fz p.toNat a' * fz p.toNat b + fz p.toNat b' = 0:=by rw [← xn,← Bd,← wD hp,h2,qI]
    rw [Nb hq hk2 (N:=l.length) (by omega)]
    unfold lam
    have e3 : sF (fun t=>aP (fz p.toNat a') (fz p.toNat b') k t * cf p.toNat (qJ p l [b,a] l.length) (t + 0)) l.length = sF (fun t=>sF (fun j=>aP (fz p.toNat a') (fz p.toNat b') k t * aP (fz p.toNat a) (fz p.toNat b) t j * cf p.toNat l j) l.length) l.length:=by
      refine kR _ fun t ht=>?_
      rw [Nat.add_zero,Nb hq ht (N:=l.length) (by omega)]
      unfold lam
      rw [← rq]
      exact kR _ fun j _=>by rw [Nat.add_zero];grind
    rw [e3,XN]
    have e4 : sF (fun j=>sF (fun t=>aP (fz p.toNat a') (fz p.toNat b') k t * aP (fz p.toNat a) (fz p.toNat b) t j * cf p.toNat l j) l.length) l.length = sF (fun j=>(if j = k then 1 else 0) * cf p.toNat l j) l.length:=by
      refine kR _ fun j hj=>?_
      rw [Pi,SS e1 e2 l.length k hk2 j]
    rw [e4,Pj (k:=k) hk2 (fun j _ hj=>by rw [if_neg hj];grind),if_pos rfl]
    grind
end
end Go.Proofs.Ytilbjbahmilhkaa.Pr
