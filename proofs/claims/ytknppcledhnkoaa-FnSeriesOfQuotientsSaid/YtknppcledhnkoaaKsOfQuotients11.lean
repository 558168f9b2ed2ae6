/- Texts of this session in one: what functions of the program compute, and plain facts of it, under the conditions that each theorem names. -/
import Derived.Test.YtknppcledhnkoaaKsOfQuotients10
import Derived.Test.YtknppcledhnkoaaKsOfQuotients3
import Derived.Test.YtknppcledhnkoaaKsOfQuotients4
import Derived.Test.YtknppcledhnkoaaKsOfQuotients5
import Derived.Test.YtknppcledhnkoaaKsOfQuotients6
import Derived.Test.YtknppcledhnkoaaKsOfQuotients7
namespace Go.Proofs.Ytknppcledhnkoaa.Pr
/- Approximants of a series by divisions: plain. Conditions: p a prime. -/
open Go.RowKit Go.Proofs.YtknppcledhnkoaaW.PrintWords Go.Proofs.YtknppcledhnkoaaW.PrintLast Go.Proofs.YtknppcledhnkoaaW.PrintMore
/-- The last rest and what the series is multiplied by for it. -/
def lU (p : Int) (a : Nat) : Nat → List Int → List Int → List Int → List Int → List Int × List Int
  | 0,_,g,_,t=>(g,t)
  | d + 1,f,g,s,t=>if g.length ≤ a + 1 then (g,t) else lU p a d g (iM p f g).2 t (kW p s (kI p (iM p f g).1 t) (p - 1))
section
variable {p : Int} (hq : bK p = true)
include hq
/-- A product's length. -/
theorem wW {f g : List Int} (hf : Pl p f) (hg : Pl p g) (f0 : 0 < f.length) (g0 : 0 < g.length) : Pl p (kI p f g)∧(kI p f g).length = f.length + g.length - 1:=by
  have hp:=bK.pm hq
  haveI:=nez hp
  have ht:=sZ p f g
  refine ⟨⟨rM hp.pos _ _,ht⟩,?_⟩
  have hle:=pW p f g
  apply Decidable.byContradiction
  intro hne
  have hz : cf p.toNat (kI p f g) (f.length - 1 + (g.length - 1)) = 0:=lG (by omega)
  rw [xV hp] at hz
  unfold cv at hz
  rw [Fz (k:=f.length - 1) (by omega) (fun t ht htk=>?_)] at hz
  · rw [show f.length - 1 + (g.length - 1) - (f.length - 1) = g.length - 1 from by omega] at hz
    have h1:=rO hq hf.1 (hf.last f0)
    have h2:=rO hq hg.1 (hg.last g0)
    have one : (1 : Fin p.toNat) = 0:=by
      rw [← h1]
      have e1 : fz p.toNat (f.getD (f.length - 1) 0) * fz p.toNat (g.getD (g.length - 1) 0) = 0:=hz
      have : fz p.toNat (f.getD (f.length - 1) 0) = fz p.toNat (f.getD (f.length - 1) 0) * (fz p.toNat (g.getD (g.length - 1) 0) * fz p.toNat (iR p (g.getD (g.length - 1) 0))):=by rw [h2];grind
      have e2 : fz p.toNat (f.getD (f.length - 1) 0) = 0:=by
        rw [this]
        generalize fz p.toNat (iR p (g.getD (g.length - 1) 0)) = z
        grind
      rw [e2];grind
    have h3:=hp.two
    have:=nI hp (x:=1) (by omega) (by rw [mo];exact one)
    omega
  · rcases Nat.lt_or_ge t (f.length - 1) with c | c
    · rw [lG (f:=g) (by omega)];grind
    · rw [lG (f:=f) (by omega)];grind
theorem uD {f g : List Int} (k : Int) (hf : Nm p f) (hg : Pl p g) (g0 : f.length < g.length) [NeZero p.toNat] (hk : ∃ z,fz p.toNat k * z = 1) : Pl p (kW p f g k)∧(kW p f g k).length = g.length:=by
  have hp:=bK.pm hq
  refine ⟨⟨wX hp.pos hf _,tq _⟩,?_⟩
  have hle:=uU p f g k
  apply Decidable.byContradiction
  intro hne
  obtain ⟨z,hz⟩:=hk
  have h0 : cf p.toNat (kW p f g k) (g.length - 1) = 0:=lG (by omega)
  rw [rP hp _ _ hf] at h0
  dsimp only at h0
  rw [lG (f:=f) (by omega)] at h0
  have : cf p.toNat g (g.length - 1) = 0:=by grind
  exact hg.last (by omega) (nI hp (hg.1.mq hp.pos _) this)
variable [NeZero p.toNat]
theorem zY : fz p.toNat (p - 1) = -1:=by
  have hp:=bK.pm hq
  rw [Cx,mo,show fz p.toNat p = 0 from tu.2 (by rw [hp.cast,Int.emod_self])]
  grind
/-- What the loop keeps. -/
theorem Bo (S : Nat → Fin p.toNat) (n a : Nat) (d : Nat) : ∀ f g s t : List Int,g.length ≤ d → Pl p f → Pl p g → Nm p s → Pl p t → g.length < f.length → s.length < t.length → t.length + f.length = n + 2 →
    (∀ k,k < n → cv (cf p.toNat s) S k = cf p.toNat f k) → (∀ k,k < n → cv (cf p.toNat t) S k = cf p.toNat g k) → a + 2 ≤ f.length →
    Pl p (lU p a d f g s t).1∧Pl p (lU p a d f g s t).2∧(lU p a d f g s t).1.length ≤ a + 1∧0 < (lU p a d f g s t).2.length∧(lU p a d f g s t).2.length + a ≤ n∧∀ k,k < n → cv (cf p.toNat (lU p a d f g s t).2) S k = cf p.toNat (lU p a d f g s t).1 k:=by
  have hp:=bK.pm hq
  induction d with
  | zero =>
    intro f g s t hd hf hg _ ht _ hst htf _ h2 ha
    exact ⟨hg,ht,by show g.length ≤ a + 1;omega,by show 0 < t.length;omega,by show t.length + a ≤ n;omega,h2⟩
  | succ d ih =>
    intro f g s t hd hf hg ns ht hgf hst htf h1 h2 ha
    rw [lU]
    by_cases c : g.length ≤ a + 1
    · rw [if_pos c]
      exact ⟨hg,ht,c,by show 0 < t.length;omega,by show t.length + a ≤ n;omega,h2⟩
    · rw [if_neg c]
      have P:=o7 hq hf hg (by omega)
      have hql:=(nZ hq hf.1 hg.1 (by omega) (hg.last (by omega))).2.2.1
      rw [if_neg (by omega)] at hql
      have hqp : Pl p (iM p f g).1:=P.2.2.1.resolve_left (by omega)
      have M:=wW hq hqp ht (by omega) (by omega)
      have A:=uD hq (p - 1) (f:=s) (g:=kI p (iM p f g).1 t) ns M.1 (by rw [M.2];omega) ⟨-1,by rw [zY hq];grind⟩
      refine ih g (iM p f g).2 t _ (by have:=P.2.1;omega) hg P.1 ht.1 A.1 P.2.1 (by rw [A.2,M.2];omega) (by rw [A.2,M.2];omega) h2 (fun k hk=>?_) (by omega)
      have e : cf p.toNat (kW p s (kI p (iM p f g).1 t) (p - 1)) = fun i=>cf p.toNat s i + (-1) * cv (cf p.toNat (iM p f g).1) (cf p.toNat t) i:=by
        rw [rP hp _ _ ns,zY hq,xV hp]
      rw [e,wY,xW]
      dsimp only
      have e2 : cv (cf p.toNat (iM p f g).1) (cv (cf p.toNat t) S) k = cv (cf p.toNat (iM p f g).1) (cf p.toNat g) k:=EA (fun _ _=>rfl) (fun j hj=>h2 j (by omega))
      have e3:=zZ hq hf hg (by omega) k
      have e4:=h1 k hk
      rw [e2]
      grind
end
/- SeriesOf, InverseSeries, QuotientsOf, PadeOf: the program and the reference come to one plain value; no condition. -/
theorem uW {f g : List Int} (sf : Sm f.length) (sg : Sm g.length) : ∀ l ∈ [f,g],Sm l.length:=fun l hl=>by
  simp only [List.mem_cons,List.not_mem_nil,or_false] at hl
  rcases hl with rfl | rfl
  · exact sf
  · exact sg
/-! ### SeriesOf -/
def uX (p : Int) (f g : List Int) (n : Int) : List Int × Int :=
  if fM p f && fM p g then (if bK p && decide (0 ≤ n∧n ≤ 24) then (if g.getD 0 0 = 0 then ([],5) else (jv p f g (iR p (g.getD 0 0)) n.toNat,0)) else ([],2)) else ([],1)
theorem pR (p : Int) (f g : List Int) (n : Int) (sf : Sm f.length) (sg : Sm g.length) : Ev (fun k=>iy.f k p f g n) (uX p f g n):=by
  have hc:=ol p (decide (0 ≤ n∧n ≤ 24)) [f,g] (by simp [Sm]) (uW sf sg)
  simp only [List.all_cons,List.all_nil,Bool.and_true] at hc
  unfold iy.f uX
  refine Ev.gY (a:=decide (0 ≤ n∧n ≤ 24)) (by unfold iK.f;rw [oP];rfl) (Ev.bind hc ?_)
  by_cases c1 : (fM p f && fM p g) = true
  case neg=>rw [if_neg c1,if_neg c1];exact Ev.neg (by decide) (Ev.now _)
  rw [if_pos c1,if_pos c1]
  by_cases c2 : (bK p && decide (0 ≤ n∧n ≤ 24)) = true
  case neg=>rw [if_neg c2,if_neg c2];exact Ev.neg (by decide) (Ev.now _)
  rw [if_pos c2,if_pos c2]
  refine Ev.pos rfl ?_
  simp only [Bool.and_eq_true,decide_eq_true_eq] at c1 c2
  have hp:=bK.pm c2.1
  have pf:=fM.pl c1.1
  have pg:=fM.pl c1.2
  by_cases c3 : g.length = 0
  · rw [oQ (f:=g) (by omega),if_pos rfl]
    exact Ev.pos (by omega) (Ev.now _)
  refine Ev.neg (by omega) (Ev.pos (by omega) ?_)
  rw [show rd g 0 = g.getD 0 0 from fI g 0]
  by_cases c4 : g.getD 0 0 = 0
  · rw [if_pos c4];exact Ev.pos c4 (Ev.now _)
  · rw [if_neg c4]
    obtain ⟨m,rfl⟩:=Int.eq_ofNat_of_zero_le c2.2.1
    exact Ev.neg c4 (Ev.bind (uY hp f g pf.1 pg.1 m (by omega) (by omega) (by omega)) (Ev.now _))
theorem uy (p : Int) (f g : List Int) (n : Int) (sf : Sm f.length) (sg : Sm g.length) : Ev (fun k=>bJ.f k p f g n) (uX p f g n):=by
  have hc:=oJ p [f,g] (by simp [Sm]) (uW sf sg)
  simp only [List.all_cons,List.all_nil,Bool.and_true] at hc
  have code : ∀ x c,x = false → c ≠ 0 → Ev (fun k=>bJ.j1 k p f g n c) ([],c):=fun x c _ hc=>by
    refine Ev.step (fun k=>by rw [bJ.j1]) (Ev.neg hc ?_)
    refine Ev.step (fun k=>by rw [bJ.j2]) (Ev.neg (by decide) (Ev.neg hc (Ev.now _)))
  unfold bJ.f uX
  refine Ev.bind hc ?_
  by_cases c1 : (fM p f && fM p g) = true
  case neg =>
    rw [if_neg c1,if_neg c1]
    refine Ev.neg (by decide) ?_
    refine Ev.step (fun k=>by rw [bJ.j0]) (Ev.neg (by decide) (code false 1 rfl (by decide)))
  rw [if_pos c1,if_pos c1]
  by_cases c2 : bK p = true
  case neg =>
    rw [if_neg c2,Bool.eq_false_iff.2 c2,Bool.false_and]
    refine Ev.neg (by decide) ?_
    refine Ev.step (fun k=>by rw [bJ.j0]) ?_
    exact Ev.neg (by decide) (code false 2 rfl (by decide))
  rw [c2,Bool.true_and,if_pos rfl]
  refine Ev.pos rfl (Ev.gY (wI _ _ _) ?_)
  by_cases c3 : 0 ≤ n∧n ≤ 24
  case neg =>
    rw [decide_eq_false c3]
    refine Ev.step (fun k=>by rw [bJ.j0]) ?_
    exact Ev.pos rfl (code false 2 rfl (by decide))
  rw [decide_eq_true c3]
  refine Ev.step (fun k=>by rw [bJ.j0]) (Ev.neg (by decide) ?_)
  refine Ev.step (fun k=>by rw [bJ.j1]) (Ev.pos rfl ?_)
  simp only [Bool.and_eq_true] at c1
  have hp:=bK.pm c2
  have pf:=fM.pl c1.1
  have pg:=fM.pl c1.2
  rw [if_pos rfl]
  have five : Ev (fun k=>bJ.j2 k p f g n 0 true) ([],5):=by
    refine Ev.step (fun k=>by rw [bJ.j2]) (Ev.pos rfl (Ev.neg (by decide) (Ev.now _)))
  by_cases c4 : g.length = 0
  · rw [oQ (f:=g) (by omega),if_pos rfl]
    exact Ev.pos (by omega) five
  refine Ev.neg (by omega) (Ev.pos (by omega) ?_)
  rw [show rd g 0 = g.getD 0 0 from fI g 0]
  by_cases c5 : g.getD 0 0 = 0
  · rw [if_pos c5,c5];exact five
  · rw [if_neg c5,beq_eq_false_iff_ne.2 c5]
    obtain ⟨m,rfl⟩:=Int.eq_ofNat_of_zero_le c3.1
    refine Ev.step (fun k=>by rw [bJ.j2]) (Ev.neg (by decide) (Ev.pos rfl (Ev.bind (qV hp f g pf.1 pg.1 m (by omega) (by omega) (by omega)) (Ev.now _))))
/-! ### numbers that are given -/
theorem mR (p : Int) (l : List Int) (a b : Int) (sl : Sm l.length) : Ev (fun k=>eU.f k p l a b) (bK p && (decide (a ≤ (l.length : Int)∧(l.length : Int) ≤ b) && decide (Nm p l))):=by
  unfold eU.f
  refine Ev.bind (rQ p) ?_
  by_cases c1 : bK p = true
  case neg=>rw [Bool.eq_false_iff.2 c1];exact Ev.neg (by decide) (Ev.now _)
  rw [c1,Bool.true_and]
  refine Ev.pos rfl (Ev.gY (a:=(l.length : Int)) (by unfold dD.f;rfl) (Ev.gY (oP _ _ _) ?_))
  by_cases c2 : a ≤ (l.length : Int)∧(l.length : Int) ≤ b
  · rw [decide_eq_true c2,Bool.true_and]
    exact Ev.pos rfl (Ev.gY (uZ p l (by unfold Sm at sl;omega)) (Ev.now _))
  · rw [decide_eq_false c2]
    exact Ev.neg (by decide) (Ev.now _)
theorem wJ {p : Int} (hp : Pm p) (l : List Int) (sl : Sm l.length) (d : Nat) : ∀ i,i + d = l.length → Ev (fun k=>bP.l0 k p l false (i : Int)) (decide (Nm p (l.drop i))):=by
  have h2:=hp.two
  have ht:=hp.top
  unfold Sm at sl
  induction d with
  | zero =>
    intro i hi
    refine Ev.step (fun k=>by rw [bP.l0]) ?_
    rw [List.drop_eq_nil_of_le (by omega),decide_eq_true (Nm.nil p)]
    exact Ev.neg (by omega) (Ev.now _)
  | succ d ih =>
    intro i hi
    refine Ev.step (fun k=>by rw [bP.l0]) ?_
    refine Ev.pos (by omega) (Ev.pos (by omega) (Ev.gY (wI _ _ _) ?_))
    rw [fI,bT (x:=p - 1) (by omega) (by omega)]
    by_cases c : 0 ≤ l.getD i 0∧l.getD i 0 ≤ p - 1
    · have inner : ∀ e j : Nat,j + e = i → Ev (fun k=>bP.l1 k p l false (i : Int) (j : Int)) (decide (Nm p (l.drop i))):=by
        intro e j hj
        refine Ev.step (fun k=>by rw [bP.l1]) ?_
        have nx : Ev (fun k=>bP.j2 k p l false (i : Int) (j : Int) false) (decide (Nm p (l.drop i))):=by
          refine Ev.step (fun k=>by rw [bP.j2]) (Ev.neg (by decide) ?_)
          rw [jN (i:=i) (n:=l.length) (by omega) (by omega)]
          refine Ev.cast (ih (i + 1) (by omega)) ?_
          apply decide_eq_decide.2
          rw [rR (by omega : i < l.length)]
          exact ⟨fun g=>⟨by omega,g⟩,fun g=>g.2⟩
        by_cases g : (j : Int) < (i : Int)
        · exact Ev.pos g nx
        · exact Ev.neg g nx
      exact Ev.pos (decide_eq_true c) (inner i 0 (by omega))
    · refine Ev.neg (by simpa using c) (Ev.kJ ?_)
      rw [decide_eq_false (fun g=>by have:=((rR (by omega : i < l.length)).1 g).1;omega)]
theorem vk (p : Int) (l : List Int) (a : Int) (sl : Sm l.length) : Ev (fun k=>fU.f k p l a) (bK p && (decide (a ≤ (l.length : Int)∧(l.length : Int) ≤ 24) && decide (Nm p l))):=by
  unfold fU.f
  refine Ev.bind (nC p) ?_
  by_cases c1 : bK p = true
  case neg=>rw [Bool.eq_false_iff.2 c1];exact Ev.neg (by decide) (Ev.now _)
  rw [c1,Bool.true_and]
  refine Ev.pos rfl (Ev.gY (wI _ _ _) ?_)
  by_cases c2 : a ≤ (l.length : Int)∧(l.length : Int) ≤ 24
  · rw [decide_eq_true c2,Bool.true_and]
    exact Ev.pos rfl (Ev.bind (wJ (bK.pm c1) l sl l.length 0 (by omega)) (Ev.now _))
  · rw [decide_eq_false c2]
    exact Ev.neg (by decide) (Ev.now _)
def jH (p : Int) (l : List Int) (a : Int) : Bool:=bK p && (decide (a ≤ (l.length : Int)∧(l.length : Int) ≤ 24) && decide (Nm p l))
theorem jH.all {p : Int} {l : List Int} {a : Int} (h : jH p l a = true) : bK p = true∧(a ≤ (l.length : Int)∧(l.length : Int) ≤ 24)∧Nm p l:=by
  simp only [jH,Bool.and_eq_true,decide_eq_true_eq] at h
  exact h
/-! ### InverseSeries -/
def invV (p : Int) (l : List Int) : List Int × Int :=
  if jH p l 1 then (if l.getD 0 0 = 0 then ([],5) else (jv p [1] l (iR p (l.getD 0 0)) l.length,0)) else ([],2)
theorem pX (p : Int) (l : List Int) (sl : Sm l.length) : Ev (fun k=>gQ.f k p l) (invV p l):=by
  unfold gQ.f invV
  refine Ev.bind (mR p l 1 24 sl) ?_
  by_cases c : jH p l 1 = true
  case neg=>rw [if_neg c];exact Ev.neg c (Ev.now _)
  obtain ⟨hq,h1,h2⟩:=jH.all c
  have hp:=bK.pm hq
  have p2:=hp.two
  rw [if_pos c]
  refine Ev.pos c (Ev.pos (by omega) ?_)
  rw [show rd l 0 = l.getD 0 0 from fI l 0]
  by_cases c4 : l.getD 0 0 = 0
  · rw [if_pos c4];exact Ev.pos c4 (Ev.now _)
  · rw [if_neg c4]
    exact Ev.neg c4 (Ev.gY (a:=(l.length : Int)) (by unfold dD.f;rfl) (Ev.bind (uY hp [1] l ((Nm.nil p).cons (by omega) (by omega)) h2 l.length (by omega) (by omega) (by omega)) (Ev.now _)))
theorem pY (p : Int) (l : List Int) (sl : Sm l.length) : Ev (fun k=>gT.f k p l) (invV p l):=by
  unfold gT.f invV
  refine Ev.bind (vk p l 1 sl) ?_
  by_cases c : jH p l 1 = true
  case neg=>rw [if_neg c];exact Ev.neg c (Ev.now _)
  obtain ⟨hq,h1,h2⟩:=jH.all c
  have hp:=bK.pm hq
  have p2:=hp.two
  rw [if_pos c]
  refine Ev.pos c (Ev.pos (by omega) ?_)
  rw [show rd l 0 = l.getD 0 0 from fI l 0]
  by_cases c4 : l.getD 0 0 = 0
  · rw [if_pos c4];exact Ev.pos c4 (Ev.now _)
  · rw [if_neg c4]
    exact Ev.neg c4 (Ev.bind (qV hp [1] l ((Nm.nil p).cons (by omega) (by omega)) h2 l.length (by omega) (by omega) (by omega)) (Ev.now _))
/-! ### QuotientsOf -/
def lJ (p : Int) (f g : List Int) : List (List Int) × Int :=
  if fM p f && fM p g then (if bK p then (if g.length = 0 then ([],5) else (lF p g.length f g,0)) else ([],2)) else ([],1)
theorem yX {p : Int} (hq : bK p = true) (d : Nat) : ∀ (f g : List Int) (o : List (List Int)),Pl p f → Pl p g → g.length ≤ d → Sm f.length → d ≤ 100 → o.length + d ≤ 1000 →
    Ev (fun k=>dU.l0 k p f g o) (o ++ lF p d f g,0):=by
  have hp:=bK.pm hq
  induction d with
  | zero =>
    intro f g o _ _ hg _ _ _
    refine Ev.step (fun k=>by rw [dU.l0]) ?_
    rw [lF,List.append_nil]
    exact Ev.neg (by omega) (Ev.now _)
  | succ d ih =>
    intro f g o pf pg hg sf hd ho
    refine Ev.step (fun k=>by rw [dU.l0]) ?_
    rw [lF]
    by_cases c : g.length = 0
    · rw [if_pos c,List.append_nil]
      exact Ev.neg (by omega) (Ev.now _)
    · rw [if_neg c]
      have P:=o7 hq pf pg (by omega)
      refine Ev.pos (by omega) (Ev.bind (qP hp pg.1 pf.1 (by omega) sf (by unfold Sm;omega)) (Ev.pos (by omega) ?_))
      rw [show o ++ (iM p f g).1 :: lF p d g (iM p f g).2 = (o ++ [(iM p f g).1]) ++ lF p d g (iM p f g).2 from by simp]
      exact ih g (iM p f g).2 _ pg P.1 (by have:=P.2.1;omega) (by unfold Sm;omega) (by omega) (by simp;omega)
theorem yY {p : Int} (hq : bK p = true) (d : Nat) : ∀ (f g : List Int) (o : List (List Int)),Pl p f → Pl p g → g.length ≤ d → Sm f.length → d ≤ 100 → o.length + d ≤ 1000 →
    Ev (fun k=>bC.l0 k p f g o) (o ++ lF p d f g,0):=by
  induction d with
  | zero =>
    intro f g o _ _ hg _ _ _
    refine Ev.step (fun k=>by rw [bC.l0]) ?_
    rw [lF,List.append_nil]
    exact Ev.neg (by omega) (Ev.now _)
  | succ d ih =>
    intro f g o pf pg hg sf hd ho
    refine Ev.step (fun k=>by rw [bC.l0]) ?_
    rw [lF]
    by_cases c : g.length = 0
    · rw [if_pos c,List.append_nil]
      exact Ev.neg (by omega) (Ev.now _)
    · rw [if_neg c]
      have P:=o7 hq pf pg (by omega)
      refine Ev.pos (by omega) (Ev.bind (qQ hq pf pg (by omega) sf (by unfold Sm;omega)) (Ev.pos (by omega) ?_))
      rw [show o ++ (iM p f g).1 :: lF p d g (iM p f g).2 = (o ++ [(iM p f g).1]) ++ lF p d g (iM p f g).2 from by simp]
      exact ih g (iM p f g).2 _ pg P.1 (by have:=P.2.1;omega) (by unfold Sm;omega) (by omega) (by simp;omega)
theorem fM.pl' {p : Int} {l : List Int} (h : fM p l = true) : Pl p l∧l.length ≤ 25:=⟨⟨(fM.pl h).1,(fM.pl h).2.1⟩,(fM.pl h).2.2⟩
theorem qW (p : Int) (f g : List Int) (sf : Sm f.length) (sg : Sm g.length) : Ev (fun k=>dU.f k p f g) (lJ p f g):=by
  have hc:=ol p true [f,g] (by simp [Sm]) (uW sf sg)
  simp only [List.all_cons,List.all_nil,Bool.and_true] at hc
  unfold dU.f lJ
  refine Ev.bind (a:=if (fM p f && fM p g) = true then (if bK p = true then 0 else 2) else 1) hc ?_
  by_cases c1 : (fM p f && fM p g) = true
  case neg=>rw [if_neg c1,if_neg c1];exact Ev.neg (by decide) (Ev.now _)
  rw [if_pos c1,if_pos c1]
  by_cases c2 : bK p = true
  case neg=>rw [if_neg c2,if_neg c2];exact Ev.neg (by decide) (Ev.now _)
  rw [if_pos c2,if_pos c2]
  simp only [Bool.and_eq_true] at c1
  have pf:=fM.pl' c1.1
  have pg:=fM.pl' c1.2
  refine Ev.pos rfl ?_
  by_cases c3 : g.length = 0
  · rw [if_pos c3];exact Ev.pos (by omega) (Ev.now _)
  · rw [if_neg c3]
    exact Ev.neg (by omega) (yX c2 g.length f g [] pf.1 pg.1 (Nat.le_refl _) sf (by omega) (by simp;omega))
theorem qX (p : Int) (f g : List Int) (sf : Sm f.length) (sg : Sm g.length) : Ev (fun k=>bC.f k p f g) (lJ p f g):=by
  have hc:=oJ p [f,g] (by simp [Sm]) (uW sf sg)
  simp only [List.all_cons,List.all_nil,Bool.and_true] at hc
  have code : ∀ c,c ≠ 0 → Ev (fun k=>bC.j1 k p f g c) ([],c):=fun c hc=>by
    refine Ev.step (fun k=>by rw [bC.j1]) (Ev.neg hc (Ev.now _))
  unfold bC.f lJ
  refine Ev.bind hc ?_
  by_cases c1 : (fM p f && fM p g) = true
  case neg =>
    rw [if_neg c1,if_neg c1]
    refine Ev.neg (by decide) ?_
    refine Ev.step (fun k=>by rw [bC.j0]) (Ev.neg (by decide) (code 1 (by decide)))
  rw [if_pos c1,if_pos c1]
  by_cases c2 : bK p = true
  case neg =>
    rw [if_neg c2,if_neg c2]
    refine Ev.neg (by decide) ?_
    refine Ev.step (fun k=>by rw [bC.j0]) (Ev.neg (by decide) (code 2 (by decide)))
  rw [if_pos c2,if_pos c2]
  simp only [Bool.and_eq_true] at c1
  have pf:=fM.pl' c1.1
  have pg:=fM.pl' c1.2
  refine Ev.pos rfl ?_
  by_cases c3 : g.length = 0
  · rw [if_pos c3,show ((g.length : Int) == 0) = true from by simp [c3]]
    refine Ev.step (fun k=>by rw [bC.j0]) (Ev.pos rfl (code 5 (by decide)))
  · rw [if_neg c3,show ((g.length : Int) == 0) = false from beq_eq_false_iff_ne.2 (by omega)]
    refine Ev.step (fun k=>by rw [bC.j0]) (Ev.neg (by decide) ?_)
    refine Ev.step (fun k=>by rw [bC.j1]) (Ev.pos rfl ?_)
    exact yY c2 g.length f g [] pf.1 pg.1 (Nat.le_refl _) sf (by omega) (by simp;omega)
/- MultiplySeries: the program and the reference come to one plain value; no condition. -/
def rng (n : Nat) (g : Nat → Int) : List Int:=(List.range n).map g
theorem mU (n : Nat) (g : Nat → Int) : (rng n g).length = n:=by simp [rng]
theorem wZ {n j : Nat} (g : Nat → Int) (h : j < n) : (rng n g).getD j 0 = g j:=by
  rw [rng,List.getD_eq_getElem?_getD,List.getElem?_map,List.getElem?_range h];rfl
theorem z8 {n : Nat} (g : Nat → Int) (i : Nat) (x : Int) : (rng n g).set i x = rng n fun j=>if j = i then x else g j:=by
  apply List.ext_getElem (by rw [List.length_set,mU,mU])
  intro j h1 h2
  rw [List.getElem_set]
  simp only [rng,List.getElem_map,List.getElem_range]
  by_cases c : i = j
  · rw [if_pos c,if_pos c.symm]
  · rw [if_neg c,if_neg (fun k=>c k.symm)]
theorem kQ {n : Nat} {g h : Nat → Int} (e : ∀ j,j < n → g j = h j) : rng n g = rng n h:=by
  apply List.ext_getElem (by rw [mU,mU])
  intro j h1 h2
  rw [mU] at h1
  simp only [rng,List.getElem_map,List.getElem_range]
  exact e j h1
theorem Ak (n : Nat) : List.replicate n (0 : Int) = rng n fun _=>0:=by
  apply List.ext_getElem (by rw [List.length_replicate,mU])
  intro j h1 h2
  simp [rng]
/-- Of the product's number j the first m products. -/
def mcc (p : Int) (a b : List Int) (j m : Nat) : Int:=sumTo (fun t=>if t ≤ j then a.getD t 0 * b.getD (j - t) 0 else 0) m % p
theorem Cy {p : Int} (hp : 0 < p) (a b : List Int) (j m : Nat) : 0 ≤ mcc p a b j m∧mcc p a b j m < p:=jQ hp _
theorem xX (p : Int) (a b : List Int) (j m : Nat) (h : m ≤ j) : mcc p a b j (m + 1) = (mcc p a b j m + a.getD m 0 * b.getD (j - m) 0) % p:=by
  unfold mcc
  rw [sumTo,if_pos h,o8]
theorem xY (p : Int) (a b : List Int) (j m : Nat) (h : j < m) : mcc p a b j (m + 1) = mcc p a b j m:=by
  unfold mcc
  rw [sumTo,if_neg (by omega),Int.add_zero]
theorem EB (p : Int) (a b : List Int) (j d : Nat) : mcc p a b j (j + 1 + d) = mcc p a b j (j + 1):=by
  induction d with
  | zero=>rfl
  | succ d ih=>rw [← Nat.add_assoc,xY p a b j _ (by omega),ih]
def rT (p : Int) (a b : List Int) : List Int:=rng a.length fun j=>mcc p a b j (j + 1)
/-- The reference's rows: i rows done, k numbers of the next one. -/
def wC (p : Int) (a b : List Int) (n i k : Nat) : List Int:=rng n fun j=>if i ≤ j∧j < i + k then mcc p a b j (i + 1) else mcc p a b j i
theorem Bp (p : Int) (a b : List Int) (n i k : Nat) : (wC p a b n i k).set (i + k) (mcc p a b (i + k) (i + 1)) = wC p a b n i (k + 1):=by
  rw [wC,z8,wC]
  refine kQ fun j _=>?_
  by_cases c : j = i + k
  · subst c;rw [if_pos rfl,if_pos (by omega)]
  · rw [if_neg c]
    by_cases g : i ≤ j∧j < i + k
    · rw [if_pos g,if_pos (by omega)]
    · rw [if_neg g,if_neg (by omega)]
theorem EC (p : Int) (a b : List Int) {n i k : Nat} (h : i + k < n) : (wC p a b n i k).getD (i + k) 0 = mcc p a b (i + k) i:=by
  rw [wC,wZ _ h,if_neg (fun h=>Nat.lt_irrefl _ h.2)]
theorem Cz (p : Int) (a b : List Int) {n i k : Nat} (h : i + k = n) : wC p a b n i k = rng n fun j=>mcc p a b j (i + 1):=by
  refine kQ fun j hj=>?_
  by_cases c : i ≤ j
  · rw [if_pos ⟨c,by omega⟩]
  · rw [if_neg (by omega),xY p a b j i (by omega)]
theorem Bq (p : Int) (a b : List Int) (n i : Nat) : (rng n fun j=>mcc p a b j i) = wC p a b n i 0:=kQ fun j _=>by rw [if_neg (by omega)]
/-- The program's rows: k numbers done, m products of the next one. -/
def vo (p : Int) (a b : List Int) (n k m : Nat) : List Int:=rng n fun j=>if j = k then mcc p a b k m else if j < k then mcc p a b j (j + 1) else 0
theorem Br (p : Int) (a b : List Int) (n k m : Nat) : (vo p a b n k m).set k (mcc p a b k (m + 1)) = vo p a b n k (m + 1):=by
  rw [vo,z8,vo]
  refine kQ fun j _=>?_
  by_cases c : j = k
  · rw [if_pos c,if_pos c]
  · rw [if_neg c,if_neg c,if_neg c]
theorem ED (p : Int) (a b : List Int) {n k : Nat} (m : Nat) (h : k < n) : (vo p a b n k m).getD k 0 = mcc p a b k m:=by
  rw [vo,wZ _ h,if_pos rfl]
theorem CB (p : Int) (a b : List Int) (n k : Nat) : vo p a b n k (k + 1) = rng n fun j=>if j < k + 1 then mcc p a b j (j + 1) else 0:=by
  refine kQ fun j _=>?_
  by_cases c : j = k
  · subst c;rw [if_pos rfl,if_pos (by omega)]
  · rw [if_neg c]
    by_cases g : j < k
    · rw [if_pos g,if_pos (by omega)]
    · rw [if_neg g,if_neg (by omega)]
theorem Bt (p : Int) (a b : List Int) (n k : Nat) : (rng n fun j=>if j < k then mcc p a b j (j + 1) else 0) = vo p a b n k 0:=by
  refine kQ fun j _=>?_
  by_cases c : j = k
  · subst c;rw [if_neg (by omega),if_pos rfl];unfold mcc;rw [sumTo,Int.zero_emod]
  · rw [if_neg c]
/-- A number of the field and a product: in range. -/
theorem yZ {p x y z : Int} (hp : Pm p) (hx : 0 ≤ x∧x < p) (hy : 0 ≤ y∧y < p) (hz : 0 ≤ z∧z < p) : wrap64 (y * z) = y * z∧wrap64 (x + y * z) = x + y * z∧0 ≤ x + y * z:=by
  have h3:=rU hp hy.1 hy.2 hz.1 hz.2
  have ht:=hp.top
  exact ⟨bT (by omega) (by omega),bT (by omega) (by omega),by omega⟩
section
variable {p : Int} (hp : Pm p) {a b : List Int} (na : Nm p a) (nb : Nm p b) (hl : b.length = a.length) (h24 : a.length ≤ 24)
include hp na nb hl h24
theorem Bu (k : Nat) (hk : k < a.length) (R : List Int × Int) (d : Nat) : ∀ m,m + d = k + 1 →
    Ev (fun n=>aJ.l0 n p a b (vo p a b a.length k (k + 1)) (a.length : Int) ((k + 1 : Nat) : Int)) R →
    Ev (fun n=>aJ.l1 n p a b (vo p a b a.length k m) (k : Int) (a.length : Int) (k : Int) ((k + 1 : Nat) : Int) (m : Int)) R:=by
  induction d with
  | zero =>
    intro m hm e
    obtain rfl : m = k + 1:=by omega
    refine Ev.step (fun n=>by rw [aJ.l1]) ?_
    rw [jN (i:=k) (n:=100) (by omega) (by omega)]
    exact Ev.neg (by omega) e
  | succ d ih =>
    intro m hm e
    obtain ⟨q1,q2,q3⟩:=yZ hp (Cy hp.pos a b k m) (na.mq hp.pos m) (nb.mq hp.pos (k - m))
    have hw : wrap64 ((k : Int) - (m : Int)) = ((k - m : Nat) : Int):=by rw [bT (by omega) (by omega)];omega
    have rl : (vo p a b a.length k m).length = a.length:=mU _ _
    refine Ev.step (fun n=>by rw [aJ.l1]) ?_
    rw [rl,hw,fI,fI,fI,ED p a b m hk,q1,q2]
    clear q1 q2 q3 hw
    refine Ev.pos (by omega) (Ev.pos (by omega) (Ev.pos (by omega) (Ev.pos (by omega) (Ev.pos (by omega) (Ev.pos (by omega) (Ev.pos (by omega) ?_))))))
    refine Ev.gY (p8 hp _) ?_
    rw [← xX p a b k m (by omega),fT,Br,jN (i:=m) (n:=100) (by omega) (by omega)]
    exact ih (m + 1) (by omega) e
theorem Bv (d : Nat) : ∀ k,k + d = a.length →
    Ev (fun n=>aJ.l0 n p a b (rng a.length fun j=>if j < k then mcc p a b j (j + 1) else 0) (a.length : Int) (k : Int)) (rT p a b,0):=by
  induction d with
  | zero =>
    intro k hk
    refine Ev.step (fun n=>by rw [aJ.l0]) ?_
    refine Ev.neg (by omega) (Ev.kJ ?_)
    rw [rT,kQ (fun j hj=>if_pos (by omega))]
  | succ d ih =>
    intro k hk
    refine Ev.step (fun n=>by rw [aJ.l0]) ?_
    refine Ev.pos (by omega) ?_
    rw [jN (i:=k) (n:=100) (by omega) (by omega),Bt]
    have e:=ih (k + 1) (by omega)
    rw [← CB] at e
    exact Bu hp na nb hl h24 k (by omega) _ (k + 1) 0 (by omega) e
theorem Bw (i : Nat) (hi : i < a.length) (R : List Int × Int) (d : Nat) : ∀ k,i + k + d = a.length →
    Ev (fun n=>aU.l0 n p a b (rng a.length fun j=>mcc p a b j (i + 1)) ((i + 1 : Nat) : Int)) R →
    Ev (fun n=>aU.l1 n p a b (wC p a b a.length i k) (i : Int) (k : Int)) R:=by
  induction d with
  | zero =>
    intro k hk e
    have hw : wrap64 ((i : Int) + (k : Int)) = ((i + k : Nat) : Int):=Bz (n:=100) (by omega) (by omega)
    refine Ev.step (fun n=>by rw [aU.l1]) ?_
    rw [hw,jN (i:=i) (n:=100) (by omega) (by omega),Cz p a b (by omega)]
    exact Ev.neg (by omega) e
  | succ d ih =>
    intro k hk e
    obtain ⟨q1,q2,q3⟩:=yZ hp (Cy hp.pos a b (i + k) i) (na.mq hp.pos i) (nb.mq hp.pos k)
    have hw : wrap64 ((i : Int) + (k : Int)) = ((i + k : Nat) : Int):=Bz (n:=100) (by omega) (by omega)
    have rl : (wC p a b a.length i k).length = a.length:=mU _ _
    refine Ev.step (fun n=>by rw [aU.l1]) ?_
    rw [hw,rl,fI,fI,fI,EC p a b (by omega),q1,q2,jk q3]
    clear q1 q2 q3 hw
    refine Ev.pos (by omega) (Ev.pos (by omega) (Ev.pos (by omega) (Ev.pos (by omega) (Ev.pos (by omega) (Ev.pos (by omega) (Ev.pos (by omega) (Ev.neg hp.ne ?_)))))))
    have st:=xX p a b (i + k) i (Nat.le_add_right i k)
    rw [Nat.add_sub_cancel_left] at st
    rw [← st,fT,Bp,jN (i:=k) (n:=100) (by omega) (by omega)]
    exact ih (k + 1) (by omega) e
theorem BA (d : Nat) : ∀ i,i + d = a.length →
    Ev (fun n=>aU.l0 n p a b (rng a.length fun j=>mcc p a b j i) (i : Int)) (rT p a b,0):=by
  induction d with
  | zero =>
    intro i hi
    refine Ev.step (fun n=>by rw [aU.l0]) ?_
    refine Ev.neg (by omega) (Ev.kJ ?_)
    rw [rT,kQ (fun j hj=>?_)]
    have:=EB p a b j (i - (j + 1))
    rw [show j + 1 + (i - (j + 1)) = i from by omega] at this
    exact this
  | succ d ih =>
    intro i hi
    refine Ev.step (fun n=>by rw [aU.l0]) ?_
    refine Ev.pos (by omega) ?_
    rw [Bq]
    exact Bw hp na nb hl h24 i (by omega) _ (d + 1) 0 (by omega) (ih (i + 1) (by omega))
end
def msV (p : Int) (a b : List Int) : List Int × Int:=if jH p a 0 && (jH p b 0 && decide (a.length = b.length)) then (rT p a b,0) else ([],2)
theorem Al {p : Int} {a b : List Int} (h : (jH p a 0 && (jH p b 0 && decide (a.length = b.length))) = true) : Pm p∧Nm p a∧Nm p b∧b.length = a.length∧a.length ≤ 24:=by
  simp only [Bool.and_eq_true,decide_eq_true_eq] at h
  obtain ⟨h1,h2,h3⟩:=h
  obtain ⟨a1,a2,a3⟩:=jH.all h1
  obtain ⟨b1,b2,b3⟩:=jH.all h2
  exact ⟨bK.pm a1,a3,b3,h3.symm,by omega⟩
theorem mG (p : Int) (a b : List Int) (sa : Sm a.length) (sb : Sm b.length) : Ev (fun k=>aJ.f k p a b) (msV p a b):=by
  have bad : Ev (fun k=>aJ.j0 k p a b true) ([],2):=Ev.step (fun k=>by rw [aJ.j0]) (Ev.pos rfl (Ev.now _))
  unfold aJ.f msV
  refine Ev.bind (mR p a 0 24 sa) ?_
  by_cases c1 : jH p a 0 = true
  case neg=>rw [Bool.eq_false_iff.2 c1,Bool.false_and];exact Ev.neg c1 bad
  refine Ev.pos c1 (Ev.gY (a:=(a.length : Int)) (by unfold dD.f;rfl) (Ev.gY (a:=(a.length : Int)) (by unfold dD.f;rfl) (Ev.bind (mR p b a.length a.length sb) ?_)))
  rw [c1,Bool.true_and]
  obtain ⟨a1,a2,a3⟩:=jH.all c1
  by_cases c2 : (jH p b 0 && decide (a.length = b.length)) = true
  · have H:=Al (a:=a) (b:=b) (p:=p) (by rw [c1,Bool.true_and];exact c2)
    obtain ⟨hp,na,nb,hl,h24⟩:=H
    rw [if_pos c2,a1,decide_eq_true (show (a.length : Int) ≤ (b.length : Int)∧(b.length : Int) ≤ (a.length : Int) by omega),decide_eq_true nb]
    refine Ev.step (fun k=>by rw [aJ.j0]) (Ev.neg (by decide) (Ev.pos (by omega) (Ev.pos (by omega) (Ev.gY rfl ?_))))
    rw [fT,List.length_replicate,Ak]
    have r:=Bv hp na nb hl h24 a.length 0 (by omega)
    rw [kQ (h:=fun _=>0) (fun j _=>if_neg (by omega))] at r
    exact r
  · rw [if_neg c2]
    have e : (bK p && (decide ((a.length : Int) ≤ (b.length : Int)∧(b.length : Int) ≤ (a.length : Int)) && decide (Nm p b))) = false:=by
      apply Bool.eq_false_iff.2
      intro k
      apply c2
      simp only [Bool.and_eq_true,decide_eq_true_eq] at k ⊢
      refine ⟨?_,by omega⟩
      simp only [jH,Bool.and_eq_true,decide_eq_true_eq]
      exact ⟨k.1,⟨by omega,by omega⟩,k.2.2⟩
    rw [e]
    exact bad
theorem pV (p : Int) (a b : List Int) (sa : Sm a.length) (sb : Sm b.length) : Ev (fun k=>aU.f k p a b) (msV p a b):=by
  have bad : Ev (fun k=>aU.j0 k p a b true) ([],2):=Ev.step (fun k=>by rw [aU.j0]) (Ev.pos rfl (Ev.now _))
  unfold aU.f msV
  refine Ev.bind (vk p a 0 sa) ?_
  by_cases c1 : jH p a 0 = true
  case neg=>rw [Bool.eq_false_iff.2 c1,Bool.false_and];exact Ev.neg c1 bad
  refine Ev.pos c1 (Ev.bind (vk p b 0 sb) ?_)
  rw [c1,Bool.true_and]
  by_cases c2 : jH p b 0 = true
  case neg=>rw [Bool.eq_false_iff.2 c2,Bool.false_and];exact Ev.neg c2 bad
  refine Ev.pos c2 ?_
  rw [c2,Bool.true_and]
  by_cases c3 : a.length = b.length
  · have H:=Al (a:=a) (b:=b) (p:=p) (by rw [c1,c2,decide_eq_true c3];rfl)
    obtain ⟨hp,na,nb,hl,h24⟩:=H
    rw [decide_eq_true c3,if_pos rfl,show ((a.length : Int) != (b.length : Int)) = false from bne_eq_false_iff_eq.2 (by omega)]
    refine Ev.step (fun k=>by rw [aU.j0]) (Ev.neg (by decide) (Ev.pos (by omega) (Ev.pos (by omega) ?_)))
    rw [fT,Ak]
    have r:=BA hp na nb hl h24 a.length 0 (by omega)
    rw [kQ (h:=fun _=>0) (fun j _=>by unfold mcc;rw [sumTo,Int.zero_emod])] at r
    exact r
  · rw [decide_eq_false c3,if_neg (by decide),show ((a.length : Int) != (b.length : Int)) = true from bne_iff_ne.2 (by omega)]
    exact bad
/- PadeOf: the program and the reference come to one plain value; no condition. -/
theorem G7 {p : Int} (hp : Pm p) : (-1) % p = p - 1:=by
  have:=hp.two
  rw [← Int.add_emod_right (-1) p,show -1 + p = p - 1 from by omega]
  exact Int.emod_eq_of_lt (by omega) (by omega)
def tC (p : Int) (r : List Int × List Int) : List Int × List Int × Int :=
  if r.2.getD 0 0 = 0 then ([],[],4) else (kW p [] r.1 (iR p (r.2.getD 0 0)),kW p [] r.2 (iR p (r.2.getD 0 0)),0)
def rV (p : Int) (r : List Int × List Int) : List Int × List Int × Bool :=
  if r.2.getD 0 0 = 0 then ([],[],false) else (kW p [] r.1 (iR p (r.2.getD 0 0)),kW p [] r.2 (iR p (r.2.getD 0 0)),true)
section
variable {p : Int} (hq : bK p = true) (n a : Nat) (hn : n ≤ 24) (ha : a ≤ 24)
include hq hn ha
theorem xZ (d : Nat) : ∀ f g s t : List Int,g.length ≤ d → Pl p f → Pl p g → Nm p s → Pl p t → g.length < f.length → s.length < t.length → t.length + f.length = n + 2 → a + 2 ≤ f.length →
    Ev (fun k=>cu.l0 k p (a : Int) f g s t) (rV p (lU p a d f g s t)):=by
  have hp:=bK.pm hq
  haveI:=nez hp
  have fin : ∀ g t : List Int,Pl p g → Pl p t → g.length ≤ a + 1 → 0 < t.length → t.length ≤ 100 → ∀ f s,Ev (fun k=>cu.l0 k p (a : Int) f g s t) (rV p (g,t)):=by
    intro g t hg ht hga ht0 htl f s
    have hv:=ht.1.mq hp.pos 0
    refine Ev.step (fun k=>by rw [cu.l0]) ?_
    refine Ev.gY (oU g (by unfold Sm;omega)) (Ev.neg (by omega) (Ev.neg (by omega) (Ev.pos (by omega) ?_)))
    rw [show rd t 0 = t.getD 0 0 from fI t 0]
    refine Ev.step (fun k=>by rw [cu.j1]) ?_
    unfold rV
    by_cases c : t.getD 0 0 = 0
    · rw [if_pos c,c];exact Ev.pos rfl (Ev.now _)
    · rw [if_neg c,beq_eq_false_iff_ne.2 c,show rd t 0 = t.getD 0 0 from fI t 0]
      refine Ev.neg (by decide) (Ev.pos (by omega) (Ev.bind (qY hp hv) ?_))
      have tm : ∀ l : List Int,Nm p l → Sm l.length → Ev (fun k=>iE.f k p l (iR p (t.getD 0 0))) (kW p [] l (iR p (t.getD 0 0))):=fun l nl sl=>by
        unfold iE.f
        exact Ev.bind (o9 hp (pq hp _) [] l (Nm.nil p) nl Sm0 sl) (Ev.now _)
      exact Ev.bind (tm g hg.1 (by unfold Sm;omega)) (Ev.bind (tm t ht.1 (by unfold Sm;omega)) (Ev.now _))
  induction d with
  | zero =>
    intro f g s t hd hf hg ns ht hgf hst htf haf
    exact fin g t hg ht (by omega) (by omega) (by omega) f s
  | succ d ih =>
    intro f g s t hd hf hg ns ht hgf hst htf haf
    rw [lU]
    by_cases c : g.length ≤ a + 1
    · rw [if_pos c]
      exact fin g t hg ht c (by omega) (by omega) f s
    · rw [if_neg c]
      have P:=o7 hq hf hg (by omega)
      have hql:=(nZ hq hf.1 hg.1 (by omega) (hg.last (by omega))).2.2.1
      rw [if_neg (by omega)] at hql
      have hqp : Pl p (iM p f g).1:=P.2.2.1.resolve_left (by omega)
      have M:=wW hq hqp ht (by omega) (by omega)
      have A:=uD hq (p - 1) (f:=s) (g:=kI p (iM p f g).1 t) ns M.1 (by rw [M.2];omega) ⟨-1,by rw [zY hq];grind⟩
      have hml:=M.2
      have pb : 0 ≤ p - 1∧p - 1 < p:=by have:=hp.two;omega
      refine Ev.step (fun k=>by rw [cu.l0]) ?_
      refine Ev.gY (oU g (by unfold Sm;omega)) (Ev.pos (by omega) (Ev.bind (qP hp hg.1 hf.1 (by omega) (by unfold Sm;omega) (by unfold Sm;omega)) (Ev.bind (pu hp _ t hqp.1 ht.1 (by unfold Sm;omega) (by unfold Sm;omega) (by unfold Sm;omega)) (Ev.gY (p8 hp _) ?_))))
      rw [G7 hp]
      refine Ev.bind (o9 hp pb s _ ns M.1.1 (by unfold Sm;omega) (by unfold Sm;omega)) ?_
      exact ih g (iM p f g).2 t _ (by have:=P.2.1;omega) hg P.1 ht.1 A.1 P.2.1 (by rw [A.2,M.2];omega) (by rw [A.2,M.2];omega) (by omega)
theorem yl (d : Nat) : ∀ f g s t : List Int,g.length ≤ d → Pl p f → Pl p g → Nm p s → Pl p t → g.length < f.length → s.length < t.length → t.length + f.length = n + 2 → a + 2 ≤ f.length →
    Ev (fun k=>dE.l0 k p (a : Int) f g s t) (tC p (lU p a d f g s t)):=by
  have hp:=bK.pm hq
  haveI:=nez hp
  have p2:=hp.two
  have pt:=hp.top
  have fin : ∀ g t : List Int,Pl p g → Pl p t → g.length ≤ a + 1 → 0 < t.length → t.length ≤ 100 → ∀ f s,Ev (fun k=>dE.l0 k p (a : Int) f g s t) (tC p (g,t)):=by
    intro g t hg ht hga ht0 htl f s
    have hv:=ht.1.mq hp.pos 0
    refine Ev.step (fun k=>by rw [dE.l0]) ?_
    rw [bT (x:=(g.length : Int) - 1) (by omega) (by omega),show rd t 0 = t.getD 0 0 from fI t 0]
    refine Ev.neg (by omega) (Ev.pos (by omega) ?_)
    unfold tC
    by_cases c : t.getD 0 0 = 0
    · rw [if_pos c];exact Ev.pos c (Ev.now _)
    · rw [if_neg c]
      exact Ev.neg c (Ev.bind (qZ hp hv) (Ev.bind (nJ hp (pq hp _) [] g (Nm.nil p) hg.1 Sm0 (by unfold Sm;omega)) (Ev.bind (nJ hp (pq hp _) [] t (Nm.nil p) ht.1 Sm0 (by unfold Sm;omega)) (Ev.now _))))
  induction d with
  | zero =>
    intro f g s t hd hf hg ns ht hgf hst htf haf
    exact fin g t hg ht (by omega) (by omega) (by omega) f s
  | succ d ih =>
    intro f g s t hd hf hg ns ht hgf hst htf haf
    rw [lU]
    by_cases c : g.length ≤ a + 1
    · rw [if_pos c]
      exact fin g t hg ht c (by omega) (by omega) f s
    · rw [if_neg c]
      have P:=o7 hq hf hg (by omega)
      have hql:=(nZ hq hf.1 hg.1 (by omega) (hg.last (by omega))).2.2.1
      rw [if_neg (by omega)] at hql
      have hqp : Pl p (iM p f g).1:=P.2.2.1.resolve_left (by omega)
      have M:=wW hq hqp ht (by omega) (by omega)
      have A:=uD hq (p - 1) (f:=s) (g:=kI p (iM p f g).1 t) ns M.1 (by rw [M.2];omega) ⟨-1,by rw [zY hq];grind⟩
      have hml:=M.2
      refine Ev.step (fun k=>by rw [dE.l0]) ?_
      rw [bT (x:=(g.length : Int) - 1) (by omega) (by omega),bT (x:=p - 1) (by omega) (by omega)]
      refine Ev.pos (by omega) (Ev.bind (qQ hq hf hg (by omega) (by unfold Sm;omega) (by unfold Sm;omega)) (Ev.bind (nK hp _ t hqp.1 ht.1 (by unfold Sm;omega) (by unfold Sm;omega) (by unfold Sm;omega)) ?_))
      refine Ev.bind (nJ hp ⟨by omega,by omega⟩ s _ ns M.1.1 (by unfold Sm;omega) (by unfold Sm;omega)) ?_
      exact ih g (iM p f g).2 t _ (by have:=P.2.1;omega) hg P.1 ht.1 A.1 P.2.1 (by rw [A.2,M.2];omega) (by rw [A.2,M.2];omega) (by omega)
end
/-- What an approximant asks for. -/
def EE (p : Int) (l : List Int) (a b : Int) : Prop:=bK p = true∧(0 ≤ a∧0 ≤ b∧a + b < 24)∧(l.length : Int) = a + b + 1∧Nm p l
instance (p : Int) (l : List Int) (a b : Int) : Decidable (EE p l a b):=by unfold EE;infer_instance
/-- The last rest and what the series is multiplied by for it. -/
def iH (p : Int) (l : List Int) (a : Nat) : List Int × List Int:=lU p a l.length (List.replicate l.length 0 ++ [1]) (iQ l) [] [1]
def tF (p : Int) (l : List Int) (a b : Int) : List Int × List Int × Int:=if EE p l a b then tC p (iH p l a.toNat) else ([],[],2)
theorem tH {p : Int} {l : List Int} (hp : Pm p) (nl : Nm p l) : Pl p (List.replicate l.length 0 ++ [1])∧Pl p (iQ l)∧Pl p [1]∧(List.replicate l.length (0 : Int) ++ [1]).length = l.length + 1:=by
  have h2:=hp.two
  have one : Nm p [1]:=(Nm.nil p).cons (by omega) (by omega)
  exact ⟨⟨(Nm.zeros hp.pos _).append one,lY _ (by decide)⟩,⟨nl.iQ,tq _⟩,⟨one,lY [] (by decide)⟩,by simp⟩
theorem wD (p : Int) (l : List Int) (a b : Int) (sl : Sm l.length) : Ev (fun k=>fV.f k p l a b) (tF p l a b):=by
  have bad : Ev (fun k=>fV.j0 k p l a true) ([],[],2):=Ev.step (fun k=>by rw [fV.j0]) (Ev.pos rfl (Ev.now _))
  unfold fV.f tF
  refine Ev.gY (oP _ _ _) ?_
  by_cases c1 : 0 ≤ a∧a ≤ 24
  case neg =>
    rw [if_neg (fun h=>c1 (by have:=h.2.1;omega))]
    exact Ev.neg (by simpa using c1) bad
  refine Ev.pos (decide_eq_true c1) (Ev.gY (oP _ _ _) ?_)
  by_cases c2 : 0 ≤ b∧b ≤ 24
  case neg =>
    rw [if_neg (fun h=>c2 (by have:=h.2.1;omega))]
    exact Ev.neg (by simpa using c2) bad
  refine Ev.pos (decide_eq_true c2) ?_
  rw [bT (x:=a + b) (by omega) (by omega),bT (x:=a + b + 1) (by omega) (by omega)]
  by_cases c3 : a + b ≥ 24
  · rw [if_neg (fun h=>by have:=h.2.1;omega)]
    exact Ev.pos c3 bad
  refine Ev.neg c3 (Ev.bind (mR p l _ _ sl) ?_)
  by_cases c4 : EE p l a b
  case neg =>
    rw [if_neg c4,show (bK p && (decide (a + b + 1 ≤ (l.length : Int)∧(l.length : Int) ≤ a + b + 1) && decide (Nm p l))) = false from Bool.eq_false_iff.2 (fun k=>c4 (by
      simp only [Bool.and_eq_true,decide_eq_true_eq] at k
      exact ⟨k.1,⟨by omega,by omega,by omega⟩,by omega,k.2.2⟩))]
    exact bad
  rw [if_pos c4]
  obtain ⟨hq,h1,h2,nl⟩:=c4
  have hp:=bK.pm hq
  rw [hq,decide_eq_true (show a + b + 1 ≤ (l.length : Int)∧(l.length : Int) ≤ a + b + 1 by omega),decide_eq_true nl]
  refine Ev.step (fun k=>by rw [fV.j0]) (Ev.neg (by decide) ?_)
  obtain ⟨m,rfl⟩:=Int.eq_ofNat_of_zero_le h1.1
  obtain ⟨s1,s2,s3,s4⟩:=tH hp nl
  have tl:=oV l
  have core : Ev (fun k=>cu.f k p l (m : Int)) (rV p (iH p l m)):=by
    unfold cu.f
    rw [fT]
    refine Ev.pos (by omega) (Ev.pos (by omega) (Ev.gY rfl (Ev.pos (by rw [List.length_replicate];omega) (Ev.gY (vv l sl) (Ev.bind (om l sl) ?_)))))
    exact xZ hq l.length m (by omega) (by omega) l.length _ _ [] [1] tl s1 s2 (Nm.nil p) s3 (by rw [s4];omega) (by simp) (by rw [s4];simp;omega) (by rw [s4];omega)
  refine Ev.bind core ?_
  unfold rV tC
  rw [fT]
  by_cases c5 : (iH p l m).2.getD 0 0 = 0
  · rw [if_pos c5,if_pos c5];exact Ev.neg (by decide) (Ev.now _)
  · rw [if_neg c5,if_neg c5];exact Ev.pos rfl (Ev.now _)
theorem wE (p : Int) (l : List Int) (a b : Int) (sl : Sm l.length) : Ev (fun k=>dE.f k p l a b) (tF p l a b):=by
  have bad : Ev (fun k=>dE.j0 k p l a b true) ([],[],2):=Ev.step (fun k=>by rw [dE.j0]) (Ev.pos rfl (Ev.now _))
  unfold dE.f tF
  refine Ev.bind (nC p) ?_
  by_cases c0 : bK p = true
  case neg=>rw [if_neg (fun h=>c0 h.1)];exact Ev.neg c0 bad
  refine Ev.pos c0 (Ev.gY (wI _ _ _) ?_)
  by_cases c1 : 0 ≤ a∧a ≤ 24
  case neg =>
    rw [if_neg (fun h=>c1 (by have:=h.2.1;omega))]
    exact Ev.neg (by simpa using c1) bad
  refine Ev.pos (decide_eq_true c1) (Ev.gY (wI _ _ _) ?_)
  by_cases c2 : 0 ≤ b∧b ≤ 24
  case neg =>
    rw [if_neg (fun h=>c2 (by have:=h.2.1;omega))]
    exact Ev.neg (by simpa using c2) bad
  refine Ev.pos (decide_eq_true c2) ?_
  rw [bT (x:=a + b) (by omega) (by omega),bT (x:=a + b + 1) (by omega) (by omega)]
  by_cases c3 : a + b ≥ 24
  · rw [if_neg (fun h=>by have:=h.2.1;omega)]
    exact Ev.pos c3 bad
  refine Ev.neg c3 ?_
  by_cases c6 : (l.length : Int) = a + b + 1
  case neg=>rw [if_neg (fun h=>c6 h.2.2.1)];exact Ev.neg c6 bad
  refine Ev.pos c6 (Ev.bind (wJ (bK.pm c0) l sl l.length 0 (by omega)) ?_)
  rw [List.drop_zero]
  by_cases c4 : Nm p l
  case neg =>
    rw [if_neg (fun h=>c4 h.2.2.2),decide_eq_false c4]
    exact bad
  rw [if_pos ⟨c0,⟨by omega,by omega,by omega⟩,c6,c4⟩,decide_eq_true c4]
  have hp:=bK.pm c0
  refine Ev.step (fun k=>by rw [dE.j0]) (Ev.neg (by decide) ?_)
  obtain ⟨m,rfl⟩:=Int.eq_ofNat_of_zero_le c1.1
  obtain ⟨s1,s2,s3,s4⟩:=tH hp c4
  have tl:=oV l
  rw [bT (x:=(m : Int) + b) (by omega) (by omega),bT (x:=(m : Int) + b + 1) (by omega) (by omega),← c6,fT,fT]
  refine Ev.pos (by omega) (Ev.pos (by omega) (Ev.gY rfl (Ev.pos (by rw [List.length_replicate];omega) (Ev.bind (l7 l sl) ?_))))
  exact yl c0 l.length m (by omega) (by omega) l.length _ _ [] [1] tl s1 s2 (Nm.nil p) s3 (by rw [s4];omega) (by simp) (by rw [s4];simp;omega) (by rw [s4];omega)
/- Series: times their denominator they are the numerator; there is but one. Conditions: p in range, the denominator's first number has an inverse. -/
section
variable {p : Int} [NeZero p.toNat] (hp : Pm p)
include hp
theorem EF (g o : List Int) (k d : Nat) : ∀ (i : Nat) (s : Int),fz p.toNat (nM p g o k d i s) = fz p.toNat s - sF (fun t=>cf p.toNat g (i + t) * cf p.toNat o (k - (i + t))) d:=by
  induction d with
  | zero=>intro i s;rw [nM,sF];grind
  | succ d ih =>
    intro i s
    rw [nM,ih,pz hp,Cx,oK,nN]
    have e : sF (fun t=>cf p.toNat g (i + (t + 1)) * cf p.toNat o (k - (i + (t + 1)))) d = sF (fun t=>cf p.toNat g (i + 1 + t) * cf p.toNat o (k - (i + 1 + t))) d:=jl _ fun t _=>by rw [show i + (t + 1) = i + 1 + t from by omega]
    rw [e]
    unfold cf
    rw [Nat.add_zero]
    grind
omit hp [NeZero p.toNat] in
theorem vw (f g : List Int) (v : Int) (n : Nat) : ∀ k,k < n → (jv p f g v n).getD k 0 = (nM p g (jv p f g v k) k (min k (g.length - 1)) 1 (f.getD k 0) * v) % p:=by
  induction n with
  | zero=>intro k hk;omega
  | succ n ih =>
    intro k hk
    rw [jv,List.getD_eq_getElem?_getD]
    by_cases c : k < n
    · rw [List.getElem?_append_left (by rw [jY];exact c),← List.getD_eq_getElem?_getD,ih k c]
    · obtain rfl : k = n:=by omega
      rw [List.getElem?_append_right (by rw [jY];exact Nat.le_refl _),jY,Nat.sub_self]
      rfl
omit hp in
theorem CE (f g : List Int) (v : Int) {n k j : Nat} (hk : k ≤ n) (hj : j < k) : cf p.toNat (jv p f g v k) j = cf p.toNat (jv p f g v n) j:=by
  unfold cf
  rw [vw f g v k j hj,vw f g v n j (by omega)]
theorem Am (f g : List Int) {v : Int} (hv : cf p.toNat g 0 * fz p.toNat v = 1) {n k : Nat} (hk : k < n) : cv (cf p.toNat g) (cf p.toNat (jv p f g v n)) k = cf p.toNat f k:=by
  have h1 : cf p.toNat (jv p f g v n) k = (cf p.toNat f k - sF (fun t=>cf p.toNat g (1 + t) * cf p.toNat (jv p f g v n) (k - (1 + t))) k) * fz p.toNat v:=by
    unfold cf
    rw [vw f g v n k hk,pz hp,oK,EF hp]
    have e : sF (fun t=>cf p.toNat g (1 + t) * cf p.toNat (jv p f g v k) (k - (1 + t))) (min k (g.length - 1)) = sF (fun t=>cf p.toNat g (1 + t) * cf p.toNat (jv p f g v n) (k - (1 + t))) k:=by
      have e1 : sF (fun t=>cf p.toNat g (1 + t) * cf p.toNat (jv p f g v k) (k - (1 + t))) (min k (g.length - 1)) = sF (fun t=>cf p.toNat g (1 + t) * cf p.toNat (jv p f g v n) (k - (1 + t))) (min k (g.length - 1)) :=
        jl _ fun t ht=>by rw [CE f g v (show k ≤ n by omega) (show k - (1 + t) < k by omega)]
      rw [e1]
      by_cases c : k ≤ g.length - 1
      · rw [Nat.min_eq_left c]
      · rw [Nat.min_eq_right (by omega)]
        exact (G8 (by omega) (fun t ht=>by rw [lG (show g.length ≤ 1 + t by omega)];grind)).symm
    rw [e]
    rfl
  unfold cv
  rw [nN,Nat.sub_zero,h1]
  have e : sF (fun t=>cf p.toNat g (t + 1) * cf p.toNat (jv p f g v n) (k - (t + 1))) k = sF (fun t=>cf p.toNat g (1 + t) * cf p.toNat (jv p f g v n) (k - (1 + t))) k:=jl _ fun t _=>by rw [Nat.add_comm]
  rw [e]
  grind
/-- There is but one. -/
theorem EG (f g : List Int) {v : Int} (hv : cf p.toNat g 0 * fz p.toNat v = 1) {n : Nat} (S : Nat → Fin p.toNat) (hS : ∀ k,k < n → cv (cf p.toNat g) S k = cf p.toNat f k) (k : Nat) : k < n → cf p.toNat (jv p f g v n) k = S k:=by
  induction k using Nat.strongRecOn with
  | ind k ih =>
    intro hk
    have h1:=Am hp f g hv hk
    have h2:=hS k hk
    unfold cv at h1 h2
    rw [nN,Nat.sub_zero] at h1 h2
    have e : sF (fun t=>cf p.toNat g (t + 1) * cf p.toNat (jv p f g v n) (k - (t + 1))) k = sF (fun t=>cf p.toNat g (t + 1) * S (k - (t + 1))) k:=jl _ fun t ht=>by rw [ih (k - (t + 1)) (by omega) (by omega)]
    rw [e] at h1
    grind
end
/- Plain facts of FnSeriesOfQuotients: series times denominators, inverses of series, approximants agree with their series. Conditions as told. -/
theorem getD_lt {l : List Int} {k : Nat} (h : k < l.length) : l.getD k 0 = l[k]:=by
  rw [List.getD_eq_getElem?_getD,List.getElem?_eq_getElem h];rfl
section
variable {p : Int} (hq : bK p = true)
include hq
theorem vz [NeZero p.toNat] {g : List Int} (ng : Nm p g) (h0 : g.getD 0 0 ≠ 0) : cf p.toNat g 0 * fz p.toNat (iR p (g.getD 0 0)) = 1:=by
  have hp:=bK.pm hq
  exact CF hq (ng.mq hp.pos 0) (fun k=>h0 (nI hp (ng.mq hp.pos 0) k))
/-- Series times their denominators. -/
theorem Ao {f g : List Int} (nf : Nm p f) (ng : Nm p g) (h0 : g.getD 0 0 ≠ 0) {n k : Nat} (hk : k < n) : sumTo (fun i=>g.getD i 0 * (jv p f g (iR p (g.getD 0 0)) n).getD (k - i) 0) (k + 1) % p = f.getD k 0:=by
  have hp:=bK.pm hq
  haveI:=nez hp
  refine y5 hp (jQ hp.pos _) (nf.mq hp.pos k) ?_
  rw [pz hp,CG]
  have h:=Am hp f g (vz hq ng h0) hk
  unfold cv at h
  rw [show sF (fun i=>fz p.toNat (g.getD i 0 * (jv p f g (iR p (g.getD 0 0)) n).getD (k - i) 0)) (k + 1) = sF (fun t=>cf p.toNat g t * cf p.toNat (jv p f g (iR p (g.getD 0 0)) n) (k - t)) (k + 1) from jl _ fun i _=>oK _ _]
  exact h
/-- Inverses of series have the product 1. -/
theorem EH {l : List Int} (nl : Nm p l) (h0 : l.getD 0 0 ≠ 0) {j : Nat} (hj : j < l.length) : (rT p l (jv p [1] l (iR p (l.getD 0 0)) l.length)).getD j 0 = if j = 0 then 1 else 0:=by
  have hp:=bK.pm hq
  have h2:=hp.two
  have one : Nm p [1]:=(Nm.nil p).cons (by omega) (by omega)
  rw [rT,wZ _ hj]
  have h:=Ao hq one nl h0 hj
  have e : mcc p l (jv p [1] l (iR p (l.getD 0 0)) l.length) j (j + 1) = sumTo (fun i=>l.getD i 0 * (jv p [1] l (iR p (l.getD 0 0)) l.length).getD (j - i) 0) (j + 1) % p:=by
    unfold mcc
    rw [sumTo_congr (j + 1) fun t ht=>by rw [if_pos (show t ≤ j by omega)]]
  rw [e,h]
  cases j with
  | zero=>rfl
  | succ j=>rw [if_neg (by omega)];exact oQ (by simp)
theorem vB [NeZero p.toNat] {g : List Int} (hg : Pl p g) {k z : Int} (hz : fz p.toNat k * fz p.toNat z = 1) : Pl p (kW p [] g k)∧(kW p [] g k).length = g.length∧∀ i,cf p.toNat (kW p [] g k) i = fz p.toNat k * cf p.toNat g i:=by
  have hp:=bK.pm hq
  have e : ∀ i,cf p.toNat (kW p [] g k) i = fz p.toNat k * cf p.toNat g i:=fun i=>by
    rw [rP hp _ _ (Nm.nil p)]
    dsimp only
    rw [lG (f:=[]) (Nat.zero_le _)]
    grind
  by_cases h : g.length = 0
  · have h1:=uU p [] g k
    simp only [List.length_nil] at h1
    refine ⟨⟨wX hp.pos (Nm.nil p) _,tq _⟩,by omega,e⟩
  · have A:=uD hq k (f:=[]) (g:=g) (Nm.nil p) hg (by simp only [List.length_nil];omega) ⟨_,hz⟩
    exact ⟨A.1,A.2,e⟩
/-- Approximants agree with their series. -/
theorem BB {l : List Int} (nl : Nm p l) {a : Nat} (ha : a < l.length) (h24 : l.length ≤ 24) (h0 : (iH p l a).2.getD 0 0 ≠ 0) :
    fM p (kW p [] (iH p l a).1 (iR p ((iH p l a).2.getD 0 0))) = true∧fM p (kW p [] (iH p l a).2 (iR p ((iH p l a).2.getD 0 0))) = true ∧
    uX p (kW p [] (iH p l a).1 (iR p ((iH p l a).2.getD 0 0))) (kW p [] (iH p l a).2 (iR p ((iH p l a).2.getD 0 0))) (l.length : Int) = (l,0):=by
  have hp:=bK.pm hq
  haveI:=nez hp
  obtain ⟨s1,s2,s3,s4⟩:=tH hp nl
  have tl:=oV l
  have G:=Bo hq (cf p.toNat l) l.length a l.length (List.replicate l.length 0 ++ [1]) (iQ l) [] [1] tl s1 s2 (Nm.nil p) s3 (by rw [s4];omega) (by simp) (by rw [s4];simp;omega) (fun k hk=>by
      rw [show cf p.toNat [] = fun _=>0 from funext fun i=>lG (Nat.zero_le _),pE,xk]
      unfold cf
      rw [List.getD_eq_getElem?_getD,List.getElem?_append_left (by rw [List.length_replicate];exact hk),List.getElem?_replicate,if_pos hk]
      exact lw.symm) (fun k hk=>by
      have e : cf p.toNat [1] = fun i=>if i = 0 then 1 else 0:=funext fun i=>by
        cases i with
        | zero=>exact mo
        | succ i=>rw [if_neg (by omega)];exact lG (by simp)
      rw [e,y7]
      unfold cf
      rw [lK]) (by rw [s4];omega)
  have RR : lU p a l.length (List.replicate l.length 0 ++ [1]) (iQ l) [] [1] = iH p l a:=rfl
  rw [RR] at G
  obtain ⟨g1,g2,g3,g4,g5,g6⟩:=G
  have u:=vz hq g2.1 h0
  have u' : fz p.toNat (iR p ((iH p l a).2.getD 0 0)) * fz p.toNat ((iH p l a).2.getD 0 0) = 1:=by
    have : fz p.toNat ((iH p l a).2.getD 0 0) * fz p.toNat (iR p ((iH p l a).2.getD 0 0)) = 1:=u
    grind
  obtain ⟨N1,N2,N3⟩:=vB hq g1 u'
  obtain ⟨D1,D2,D3⟩:=vB hq g2 u'
  have poly : ∀ {x : List Int},Pl p x → x.length ≤ 25 → fM p x = true:=fun {x} hx hl=>by
    simp only [fM,tJ,Bool.and_eq_true,decide_eq_true_eq,Bool.or_eq_true,bne_iff_ne,ne_eq]
    refine ⟨hx.1,hl,?_⟩
    by_cases h : x.length = 0
    · exact .inl h
    · exact .inr (hx.last (by omega))
  have P1:=poly N1 (by omega)
  have P2:=poly D1 (by omega)
  have d0 : cf p.toNat (kW p [] (iH p l a).2 (iR p ((iH p l a).2.getD 0 0))) 0 = 1:=by
    rw [D3];exact u'
  have dv : (kW p [] (iH p l a).2 (iR p ((iH p l a).2.getD 0 0))).getD 0 0 ≠ 0:=fun h=>by
    unfold cf at d0
    rw [h,lw] at d0
    have h2:=hp.two
    have:=nI hp (x:=1) (by omega) (by rw [mo];exact d0.symm)
    omega
  refine ⟨P1,P2,?_⟩
  unfold uX
  rw [P1,P2,hq,decide_eq_true (show (0 : Int) ≤ (l.length : Int)∧(l.length : Int) ≤ 24 by omega),if_neg dv,fT]
  simp only [Bool.and_self,if_true]
  congr 1
  have v:=vz hq D1.1 dv
  apply List.ext_getElem (jY _ _ _ _ _)
  intro k h1 h2
  have hs:=EG hp (kW p [] (iH p l a).1 (iR p ((iH p l a).2.getD 0 0))) (kW p [] (iH p l a).2 (iR p ((iH p l a).2.getD 0 0))) v (n:=l.length) (cf p.toNat l) (fun k hk=>by
    have e : cf p.toNat (kW p [] (iH p l a).2 (iR p ((iH p l a).2.getD 0 0))) = fun i=>(fun _=>(0 : Fin p.toNat)) i + fz p.toNat (iR p ((iH p l a).2.getD 0 0)) * cf p.toNat (iH p l a).2 i:=by
      funext i;rw [D3];grind
    rw [e,wY,N3]
    dsimp only
    rw [g6 k hk,pE (fun _=>0),xk]
    grind) k h2
  have n1:=rW hp.pos (kW p [] (iH p l a).1 (iR p ((iH p l a).2.getD 0 0))) (kW p [] (iH p l a).2 (iR p ((iH p l a).2.getD 0 0))) (iR p ((kW p [] (iH p l a).2 (iR p ((iH p l a).2.getD 0 0))).getD 0 0)) l.length
  have:=y5 hp (n1.mq hp.pos k) (nl.mq hp.pos k) hs
  rw [getD_lt h1,getD_lt h2] at this
  exact this
end
end Go.Proofs.Ytknppcledhnkoaa.Pr
