/- Texts of this session in one: what functions of the program compute, and plain facts of it, under the conditions that each theorem names. -/
import Derived.Test.YtknppcledhnkoaaKFimplConvergentsOf
import Derived.Test.YtknppcledhnkoaaKsOfQuotients1
import Derived.Test.YtknppcledhnkoaaKsOfQuotients11
import Derived.Test.YtknppcledhnkoaaKsOfQuotients3
import Derived.Test.YtknppcledhnkoaaKsOfQuotients5
import Derived.Test.YtknppcledhnkoaaKsOfQuotients6
import Derived.Test.YtknppcledhnkoaaKsOfQuotients7
namespace Go.Proofs.Ytknppcledhnkoaa.Pr
/- ConvergentsOf, MultiplyPolys: the program and the reference come to one plain value; no condition. -/
open Go.RowKit Go.Proofs.YtknppcledhnkoaaW.PrintWords Go.Proofs.YtknppcledhnkoaaW.PrintLast Go.Proofs.YtknppcledhnkoaaW.PrintMore
/-- Polynomials that are short enough. -/
def Sh (p : Int) (l : List Int) : Prop:=Nm p l∧l.length ≤ 25
def jF (p : Int) : List (List Int) → List Int × List Int → List Int × List Int → List (List Int) → List (List Int) → List (List Int) × List (List Int) × Int
  | [],_,_,A,B=>(A,B,0)
  | q :: qs,s,t,A,B=>if 25 < (iD p q s).2.length ∨ 25 < (iD p q t).2.length then ([],[],3) else jF p qs (iD p q s) (iD p q t) (A ++ [(iD p q s).2]) (B ++ [(iD p q t).2])
def jR (p : Int) (ls : List (List Int)) : List (List Int) × List (List Int) × Int :=
  if ls.all (fM p) then (if bK p && decide ((ls.length : Int) ≤ 24) then jF p ls ([],[1]) ([1],[]) [] [] else ([],[],2)) else ([],[],1)
theorem Ck (ls : List (List Int)) (h1 : ls.length ≤ 1000) (h2 : ∀ l ∈ ls,l.length ≤ 25) (d : Nat) : ∀ i,i + d = ls.length → Ev (fun k=>ik.l0 k (ls.take i) ls (ls.length : Int) (i : Int)) ls:=by
  induction d with
  | zero =>
    intro i hi
    refine Ev.step (fun k=>by rw [ik.l0]) ?_
    refine Ev.neg (by omega) ?_
    rw [List.take_of_length_le (by omega)]
    exact Ev.now _
  | succ d ih =>
    intro i hi
    have hi' : i < ls.length:=by omega
    have e : ls.getD i [] = ls[i]:=by rw [List.getD_eq_getElem?_getD,List.getElem?_eq_getElem hi'];rfl
    have hm:=h2 _ (List.getElem_mem hi')
    refine Ev.step (fun k=>by rw [ik.l0]) ?_
    refine Ev.pos (by omega) (Ev.pos (by omega) (Ev.pos (by omega) ?_))
    rw [ou,e]
    refine Ev.gY (vv _ (by unfold Sm;omega)) ?_
    refine Ev.pos (by rw [List.length_take];omega) ?_
    rw [jN (i:=i) (n:=ls.length) (by omega) (by omega),show ls.take i ++ [ls[i]] = ls.take (i + 1) from by rw [List.take_add_one,List.getElem?_eq_getElem hi'];rfl]
    exact ih (i + 1) (by omega)
theorem wO (ls : List (List Int)) (h1 : ls.length ≤ 1000) (h2 : ∀ l ∈ ls,l.length ≤ 25) : Ev (fun k=>ik.f k ls) ls :=
  Ck ls h1 h2 ls.length 0 (by omega)
theorem sO {p : Int} (hp : Pm p) {q : List Int} {s : List Int × List Int} (hq : Sh p q) (h1 : Sh p s.1) (h2 : Sh p s.2) : Nm p (kI p q s.2)∧(kI p q s.2).length ≤ 49∧Nm p (iD p q s).2∧(iD p q s).2.length ≤ 49:=by
  have a:=rM hp.pos q s.2
  have b:=pW p q s.2
  have c:=uU p (kI p q s.2) s.1 1
  have d:=h1.2
  have e:=h2.2
  have f:=hq.2
  exact ⟨a,by omega,wX hp.pos a _,by show (kW p (kI p q s.2) s.1 1).length ≤ 49;omega⟩
section
variable {p : Int} (hp : Pm p) (ls : List (List Int)) (h24 : ls.length ≤ 24)
include hp h24
theorem yI (qs : List (List Int)) : ∀ (pre : List (List Int)) (s t : List Int × List Int) (A B : List (List Int)),ls = pre ++ qs → (∀ q ∈ qs,Sh p q) → Sh p s.1 → Sh p s.2 → Sh p t.1 → Sh p t.2 →
    A.length ≤ pre.length → B.length ≤ pre.length → (∀ l ∈ A,l.length ≤ 25) → (∀ l ∈ B,l.length ≤ 25) →
    Ev (fun k=>aG.l0 k p A B ls (ls.length : Int) (pre.length : Int) s.1 s.2 t.1 t.2) (jF p qs s t A B):=by
  have h2:=hp.two
  induction qs with
  | nil =>
    intro pre s t A B e _ _ _ _ _ la lb na nb
    have hl : ls.length = pre.length:=by rw [e,List.append_nil]
    refine Ev.step (fun k=>by rw [aG.l0]) ?_
    rw [jF]
    refine Ev.neg (by omega) ?_
    refine Ev.bind (wO A (by omega) na) (Ev.bind (wO B (by omega) nb) (Ev.now _))
  | cons q qs ih =>
    intro pre s t A B e hs s1 s2 t1 t2 la lb na nb
    have hl : ls.length = pre.length + (qs.length + 1):=by rw [e,List.length_append,List.length_cons]
    have hq:=hs q (List.mem_cons_self ..)
    obtain ⟨a1,a2,a3,a4⟩:=sO hp hq s1 s2
    obtain ⟨b1,b2,b3,b4⟩:=sO hp hq t1 t2
    have er : ls.getD pre.length [] = q:=by rw [e,List.getD_eq_getElem?_getD,List.getElem?_append_right (Nat.le_refl _),Nat.sub_self];rfl
    have d1:=s1.2
    have d2:=s2.2
    have d3:=t1.2
    have d4:=t2.2
    have d5:=hq.2
    refine Ev.step (fun k=>by rw [aG.l0]) ?_
    refine Ev.pos (by omega) (Ev.pos (by omega) (Ev.pos (by omega) ?_))
    rw [ou,er,jF]
    refine Ev.bind (pu hp q s.2 hq.1 s2.1 (by unfold Sm;omega) (by unfold Sm;omega) (by unfold Sm;omega)) ?_
    refine Ev.bind (o9 hp (k:=1) (by omega) _ s.1 a1 s1.1 (by unfold Sm;omega) (by unfold Sm;omega)) ?_
    refine Ev.bind (pu hp q t.2 hq.1 t2.1 (by unfold Sm;omega) (by unfold Sm;omega) (by unfold Sm;omega)) ?_
    refine Ev.bind (o9 hp (k:=1) (by omega) _ t.1 b1 t1.1 (by unfold Sm;omega) (by unfold Sm;omega)) ?_
    show Ev (fun k=>(fZ.f (iD p q s).2).bind fun JH=>_) _
    refine Ev.gY (oU _ (by unfold Sm;omega)) ?_
    by_cases c1 : 25 < (iD p q s).2.length
    · rw [if_pos (.inl c1)]
      exact Ev.pos (by omega) (Ev.now _)
    refine Ev.neg (by omega) ?_
    show Ev (fun k=>(fZ.f (iD p q t).2).bind fun JH=>_) _
    refine Ev.gY (oU _ (by unfold Sm;omega)) ?_
    by_cases c2 : 25 < (iD p q t).2.length
    · rw [if_pos (.inr c2)]
      exact Ev.pos (by omega) (Ev.now _)
    refine Ev.neg (by omega) ?_
    rw [if_neg (by omega)]
    refine Ev.gY rfl (Ev.pos (by rw [List.length_singleton];omega) ?_)
    refine Ev.gY rfl (Ev.pos (by rw [List.length_singleton];omega) ?_)
    rw [jN (i:=pre.length) (n:=ls.length) (by omega) (by omega),show pre.length + 1 = (pre ++ [q]).length from by rw [List.length_append];rfl]
    refine ih (pre ++ [q]) (iD p q s) (iD p q t) (A ++ [(iD p q s).2]) (B ++ [(iD p q t).2]) (by rw [e,List.append_assoc];rfl) (fun x hx=>hs x (List.mem_cons_of_mem _ hx)) s2 ⟨a3,by omega⟩ t2 ⟨b3,by omega⟩ (by rw [List.length_append,List.length_append];simp only [List.length_singleton];omega) (by rw [List.length_append,List.length_append];simp only [List.length_singleton];omega) (fun l hl=>?_) (fun l hl=>?_)
    · rcases List.mem_append.1 hl with h | h
      · exact na l h
      · rw [List.mem_singleton.1 h];omega
    · rcases List.mem_append.1 hl with h | h
      · exact nb l h
      · rw [List.mem_singleton.1 h];omega
theorem yJ (qs : List (List Int)) : ∀ (pre : List (List Int)) (s t : List Int × List Int) (A B : List (List Int)),ls = pre ++ qs → (∀ q ∈ qs,Sh p q) → Sh p s.1 → Sh p s.2 → Sh p t.1 → Sh p t.2 →
    A.length ≤ pre.length → B.length ≤ pre.length →
    Ev (fun k=>aK.l0 k p ls A B s.2 s.1 t.2 t.1 (pre.length : Int)) (jF p qs s t A B):=by
  have h2:=hp.two
  induction qs with
  | nil =>
    intro pre s t A B e _ _ _ _ _ la lb
    have hl : ls.length = pre.length:=by rw [e,List.append_nil]
    refine Ev.step (fun k=>by rw [aK.l0]) ?_
    rw [jF]
    exact Ev.neg (by omega) (Ev.now _)
  | cons q qs ih =>
    intro pre s t A B e hs s1 s2 t1 t2 la lb
    have hl : ls.length = pre.length + (qs.length + 1):=by rw [e,List.length_append,List.length_cons]
    have hq:=hs q (List.mem_cons_self ..)
    obtain ⟨a1,a2,a3,a4⟩:=sO hp hq s1 s2
    obtain ⟨b1,b2,b3,b4⟩:=sO hp hq t1 t2
    have er : ls.getD pre.length [] = q:=by rw [e,List.getD_eq_getElem?_getD,List.getElem?_append_right (Nat.le_refl _),Nat.sub_self];rfl
    have d1:=s1.2
    have d2:=s2.2
    have d3:=t1.2
    have d4:=t2.2
    have d5:=hq.2
    refine Ev.step (fun k=>by rw [aK.l0]) ?_
    refine Ev.pos (by omega) (Ev.pos (by omega) ?_)
    rw [ou,er,jF]
    refine Ev.bind (nK hp q s.2 hq.1 s2.1 (by unfold Sm;omega) (by unfold Sm;omega) (by unfold Sm;omega)) ?_
    refine Ev.bind (nJ hp (k:=1) (by omega) _ s.1 a1 s1.1 (by unfold Sm;omega) (by unfold Sm;omega)) ?_
    refine Ev.bind (nK hp q t.2 hq.1 t2.1 (by unfold Sm;omega) (by unfold Sm;omega) (by unfold Sm;omega)) ?_
    refine Ev.bind (nJ hp (k:=1) (by omega) _ t.1 b1 t1.1 (by unfold Sm;omega) (by unfold Sm;omega)) ?_
    have ew : wrap64 (mx (((iD p q s).2.length : Nat) : Int) (((iD p q t).2.length : Nat) : Int) - 1) = ((max (iD p q s).2.length (iD p q t).2.length : Nat) : Int) - 1:=by
      rw [zl,bT (by omega) (by omega)]
    show Ev (fun k=>if wrap64 (mx (((iD p q s).2.length : Nat) : Int) (((iD p q t).2.length : Nat) : Int) - 1) > 24 then _ else _) _
    rw [ew]
    by_cases c : 25 < (iD p q s).2.length ∨ 25 < (iD p q t).2.length
    · rw [if_pos c]
      exact Ev.pos (by omega) (Ev.now _)
    rw [if_neg c]
    refine Ev.neg (by omega) (Ev.pos (by omega) (Ev.pos (by omega) ?_))
    rw [jN (i:=pre.length) (n:=ls.length) (by omega) (by omega),show pre.length + 1 = (pre ++ [q]).length from by rw [List.length_append];rfl]
    exact ih (pre ++ [q]) (iD p q s) (iD p q t) (A ++ [(iD p q s).2]) (B ++ [(iD p q t).2]) (by rw [e,List.append_assoc];rfl) (fun x hx=>hs x (List.mem_cons_of_mem _ hx)) s2 ⟨a3,by omega⟩ t2 ⟨b3,by omega⟩ (by rw [List.length_append,List.length_append];simp only [List.length_singleton];omega) (by rw [List.length_append,List.length_append];simp only [List.length_singleton];omega)
end
theorem xN {p : Int} (hp : Pm p) : Sh p [1]:=⟨(Nm.nil p).cons (by omega) (by have:=hp.two;omega),by simp⟩
theorem xO (p : Int) : Sh p []:=⟨Nm.nil p,by simp⟩
theorem DV {p : Int} {ls : List (List Int)} (h : ls.all (fM p) = true) : ∀ q ∈ ls,Sh p q:=fun q hq=>⟨(fM.pl (List.all_eq_true.1 h q hq)).1,(fM.pl (List.all_eq_true.1 h q hq)).2.2⟩
theorem mX (p : Int) (ls : List (List Int)) (sl : Sm ls.length) (sm : ∀ l ∈ ls,Sm l.length) : Ev (fun k=>aG.f k p ls) (jR p ls):=by
  have hc:=ol p (decide ((ls.length : Int) ≤ 24)) ls sl sm
  unfold aG.f jR
  refine Ev.gY (a:=decide ((ls.length : Int) ≤ 24)) rfl (Ev.bind hc ?_)
  by_cases c1 : ls.all (fM p) = true
  case neg=>rw [if_neg c1,if_neg c1];exact Ev.neg (by decide) (Ev.now _)
  rw [if_pos c1,if_pos c1]
  by_cases c2 : (bK p && decide ((ls.length : Int) ≤ 24)) = true
  case neg=>rw [if_neg c2,if_neg c2];exact Ev.neg (by decide) (Ev.now _)
  rw [if_pos c2,if_pos c2]
  simp only [Bool.and_eq_true,decide_eq_true_eq] at c2
  have hp:=bK.pm c2.1
  exact Ev.pos rfl (yI hp ls (by omega) ls [] ([],[1]) ([1],[]) [] [] rfl (DV c1) (xO p) (xN hp) (xN hp) (xO p) (Nat.le_refl _) (Nat.le_refl _) (fun _ h=>by simp at h) (fun _ h=>by simp at h))
theorem qx (p : Int) (ls : List (List Int)) (sl : Sm ls.length) (sm : ∀ l ∈ ls,Sm l.length) : Ev (fun k=>aK.f k p ls) (jR p ls):=by
  have hc:=oJ p ls sl sm
  have code : ∀ c,c ≠ 0 → Ev (fun k=>aK.j1 k p ls c) ([],[],c):=fun c hc=>by
    refine Ev.step (fun k=>by rw [aK.j1]) (Ev.neg hc (Ev.now _))
  unfold aK.f jR
  refine Ev.bind hc ?_
  by_cases c1 : ls.all (fM p) = true
  case neg =>
    rw [if_neg c1,if_neg c1]
    refine Ev.neg (by decide) ?_
    refine Ev.step (fun k=>by rw [aK.j0]) (Ev.neg (by decide) (code 1 (by decide)))
  rw [if_pos c1,if_pos c1]
  by_cases c2 : bK p = true
  case neg =>
    rw [if_neg c2,Bool.eq_false_iff.2 c2,Bool.false_and]
    refine Ev.neg (by decide) ?_
    refine Ev.step (fun k=>by rw [aK.j0]) ?_
    exact Ev.neg (by decide) (code 2 (by decide))
  rw [c2,Bool.true_and,if_pos rfl]
  refine Ev.pos rfl ?_
  have hp:=bK.pm c2
  by_cases c3 : (ls.length : Int) ≤ 24
  case neg =>
    rw [decide_eq_false c3,decide_eq_true (show (ls.length : Int) > 24 by omega)]
    refine Ev.step (fun k=>by rw [aK.j0]) ?_
    exact Ev.pos rfl (code 2 (by decide))
  rw [decide_eq_true c3,decide_eq_false (show ¬ (ls.length : Int) > 24 by omega),if_pos rfl]
  refine Ev.step (fun k=>by rw [aK.j0]) (Ev.neg (by decide) ?_)
  refine Ev.step (fun k=>by rw [aK.j1]) (Ev.pos rfl ?_)
  exact yJ hp ls (by omega) ls [] ([],[1]) ([1],[]) [] [] rfl (DV c1) (xO p) (xN hp) (xN hp) (xO p) (Nat.le_refl _) (Nat.le_refl _)
/-! ### MultiplyPolys -/
def zJ (p : Int) (f g : List Int) : List Int × Int :=
  if fM p f && fM p g then (if bK p then (if 25 < (kI p f g).length then ([],3) else (kI p f g,0)) else ([],2)) else ([],1)
theorem mY (p : Int) (f g : List Int) (sf : Sm f.length) (sg : Sm g.length) : Ev (fun k=>bL.f k p f g) (zJ p f g):=by
  have hc:=ol p true [f,g] (by simp [Sm]) (uW sf sg)
  simp only [List.all_cons,List.all_nil,Bool.and_true] at hc
  unfold bL.f zJ
  refine Ev.bind (a:=if (fM p f && fM p g) = true then (if bK p = true then 0 else 2) else 1) hc ?_
  by_cases c1 : (fM p f && fM p g) = true
  case neg=>rw [if_neg c1,if_neg c1];exact Ev.neg (by decide) (Ev.now _)
  rw [if_pos c1,if_pos c1]
  by_cases c2 : bK p = true
  case neg=>rw [if_neg c2,if_neg c2];exact Ev.neg (by decide) (Ev.now _)
  rw [if_pos c2,if_pos c2]
  simp only [Bool.and_eq_true] at c1
  have pf:=fM.pl c1.1
  have pg:=fM.pl c1.2
  have hp:=bK.pm c2
  have hm:=pW p f g
  refine Ev.pos rfl (Ev.bind (pu hp f g pf.1 pg.1 sf sg (by unfold Sm;omega)) ?_)
  unfold kD.f
  rw [oU _ (by unfold Sm;omega)]
  by_cases c3 : 25 < (kI p f g).length
  · rw [if_pos c3]
    refine Ev.gY (a:=([],3)) (by rw [Option.bind_some,if_pos (by omega)]) (Ev.now _)
  · rw [if_neg c3]
    refine Ev.gY (a:=(kI p f g,0)) (by rw [Option.bind_some,if_neg (by omega)]) (Ev.now _)
/- FnSeriesOfQuotients: comparisons of rows, sums, and last convergents as quotients. No condition but those told. -/
open Go Go.RowKit Go.Proofs.YtknppcledhnkoaaW.PrintWords Go.Proofs.YtknppcledhnkoaaW.PrintLast Go.Proofs.YtknppcledhnkoaaW.PrintMore
theorem DW (l : List (List Int)) (hl : Sm l.length) (hr : ∀ r ∈ l,Sm r.length) (d : Nat) : ∀ i : Nat,i + d = l.length → Ev (fun k=>dH.l0 k l l (i : Int)) true:=by
  unfold Sm at hl
  induction d with
  | zero =>
    intro i hi
    refine Ev.step (fun k=>by rw [dH.l0]) ?_
    exact Ev.neg (by omega) (Ev.now _)
  | succ d ih =>
    intro i hi
    have hi' : i < l.length:=by omega
    have e : l.getD i [] = l[i]:=by rw [List.getD_eq_getElem?_getD,List.getElem?_eq_getElem hi'];rfl
    refine Ev.step (fun k=>by rw [dH.l0]) ?_
    refine Ev.pos (by omega) (Ev.pos (by omega) (Ev.pos (by omega) ?_))
    rw [ou,e]
    refine Ev.bind (ow _ (hr _ (List.getElem_mem hi'))) (Ev.pos rfl ?_)
    rw [jN (i:=i) (n:=l.length) (by omega) (by omega)]
    exact ih (i + 1) (by omega)
theorem vV (l : List (List Int)) (hl : Sm l.length) (hr : ∀ r ∈ l,Sm r.length) : Ev (fun k=>dH.f k l l) true:=by
  unfold dH.f
  exact Ev.pos rfl (DW l hl hr l.length 0 (by omega))
theorem Gy (l : List Int) (hl : l.length ≤ 1000) (h : ∀ j,j < l.length → l.getD j 0 = if j = 0 then 1 else 0) (h0 : 0 < l.length) (d : Nat) : ∀ i : Nat,i + d = l.length → Ev (fun k=>jo.l0 k l (if i = 0 then 0 else 1) (i : Int)) 1:=by
  induction d with
  | zero =>
    intro i hi
    refine Ev.step (fun k=>by rw [jo.l0]) ?_
    rw [if_neg (by omega)]
    exact Ev.neg (by omega) (Ev.now _)
  | succ d ih =>
    intro i hi
    have e : wrap64 ((if i = 0 then (0 : Int) else 1) + (if i = 0 then 1 else 0)) = if i + 1 = 0 then 0 else 1:=by
      rw [if_neg (show ¬ i + 1 = 0 by omega)]
      by_cases c : i = 0
      · rw [if_pos c,if_pos c];exact bT (by omega) (by omega)
      · rw [if_neg c,if_neg c];exact bT (by omega) (by omega)
    refine Ev.step (fun k=>by rw [jo.l0]) ?_
    refine Ev.pos (by omega) (Ev.pos (by omega) ?_)
    rw [fI,h i (by omega),e,jN (i:=i) (n:=l.length) (by omega) (by omega)]
    exact ih (i + 1) (by omega)
theorem Gz (l : List Int) (hl : l.length ≤ 1000) (h : ∀ j,j < l.length → l.getD j 0 = if j = 0 then 1 else 0) (h0 : 0 < l.length) : Ev (fun k=>jo.f k l) 1:=Gy l hl h h0 l.length 0 (by omega)
/-! ### convergents -/
theorem AP {p : Int} [NeZero p.toNat] (hp : Pm p) : cf p.toNat [1] = fun i=>if i = 0 then 1 else 0:=funext fun i=>by
  have h2:=hp.two
  cases i with
  | zero=>exact mo
  | succ i=>rw [if_neg (by omega)];exact lG (by simp)
theorem AQ {p : Int} [NeZero p.toNat] : cf p.toNat [] = fun _=>0:=funext fun _=>lG (Nat.zero_le _)
theorem uo (p : Int) (qs : List (List Int)) : ∀ (s t : List Int × List Int) (A B : List (List Int)),A.length + qs.length ≤ 100 → B.length + qs.length ≤ 100 → (∀ l ∈ A,l.length ≤ 25) → (∀ l ∈ B,l.length ≤ 25) →
    ((jF p qs s t A B).1.length ≤ 100∧∀ l ∈ (jF p qs s t A B).1,l.length ≤ 25)∧(jF p qs s t A B).2.1.length ≤ 100∧∀ l ∈ (jF p qs s t A B).2.1,l.length ≤ 25:=by
  induction qs with
  | nil =>
    intro s t A B ha hb na nb
    rw [jF]
    exact ⟨⟨by omega,na⟩,by omega,nb⟩
  | cons q qs ih =>
    intro s t A B ha hb na nb
    rw [List.length_cons] at ha hb
    rw [jF]
    split
    · exact ⟨⟨by simp,fun l h=>by simp at h⟩,by simp,fun l h=>by simp at h⟩
    · rename_i c
      refine ih _ _ _ _ (by rw [List.length_append,List.length_singleton];omega) (by rw [List.length_append,List.length_singleton];omega) (fun l h=>?_) (fun l h=>?_)
      · rcases List.mem_append.1 h with k | k
        · exact na l k
        · rw [List.mem_singleton.1 k];omega
      · rcases List.mem_append.1 h with k | k
        · exact nb l k
        · rw [List.mem_singleton.1 k];omega
theorem DX (p : Int) (ls : List (List Int)) : (Sm (jR p ls).1.length∧∀ l ∈ (jR p ls).1,Sm l.length)∧Sm (jR p ls).2.1.length∧∀ l ∈ (jR p ls).2.1,Sm l.length:=by
  have nil : ∀ c : Int,(Sm (([],[],c) : List (List Int) × List (List Int) × Int).1.length∧∀ l ∈ (([],[],c) : List (List Int) × List (List Int) × Int).1,Sm l.length)∧Sm (([],[],c) : List (List Int) × List (List Int) × Int).2.1.length∧∀ l ∈ (([],[],c) : List (List Int) × List (List Int) × Int).2.1,Sm l.length :=
    fun c=>⟨⟨Sm0,fun l h=>by simp at h⟩,Sm0,fun l h=>by simp at h⟩
  unfold jR
  split
  · split
    · rename_i c
      simp only [Bool.and_eq_true,decide_eq_true_eq] at c
      have h:=uo p ls ([],[1]) ([1],[]) [] [] (by simp;omega) (by simp;omega) (fun l h=>by simp at h) (fun l h=>by simp at h)
      exact ⟨⟨by unfold Sm;omega,fun l k=>by have:=h.1.2 l k;unfold Sm;omega⟩,by unfold Sm;omega,fun l k=>by have:=h.2.2 l k;unfold Sm;omega⟩
    · exact nil 2
  · exact nil 1
theorem wP (A : List (List Int)) (x : List Int) : (A ++ [x]).getD ((A ++ [x]).length - 1) [] = x:=by
  rw [List.length_append,List.length_singleton,Nat.add_sub_cancel,List.getD_eq_getElem?_getD,List.getElem?_append_right (Nat.le_refl _),Nat.sub_self];rfl
theorem yK (p : Int) (qs : List (List Int)) : ∀ (s t : List Int × List Int) (A B : List (List Int)),(jF p qs s t A B).2.2 = 0 → 0 < A.length → 0 < B.length → A.getD (A.length - 1) [] = s.2 → B.getD (B.length - 1) [] = t.2 → s.2.length ≤ 25 → t.2.length ≤ 25 →
    (jF p qs s t A B).1.length = A.length + qs.length∧(jF p qs s t A B).2.1.length = B.length + qs.length ∧
    (jF p qs s t A B).1.getD ((jF p qs s t A B).1.length - 1) [] = (o6 p qs s).2∧(jF p qs s t A B).2.1.getD ((jF p qs s t A B).2.1.length - 1) [] = (o6 p qs t).2∧(o6 p qs s).2.length ≤ 25∧(o6 p qs t).2.length ≤ 25:=by
  induction qs with
  | nil =>
    intro s t A B _ _ _ h1 h2 h3 h4
    rw [jF,o6,o6]
    exact ⟨rfl,rfl,h1,h2,h3,h4⟩
  | cons q qs ih =>
    intro s t A B e _ _ _ _ _ _
    rw [jF] at e ⊢
    split at e
    · exact absurd e (by decide)
    · rename_i c
      rw [if_neg c,o6,o6]
      have r:=ih (iD p q s) (iD p q t) (A ++ [(iD p q s).2]) (B ++ [(iD p q t).2]) e (by simp) (by simp) (wP A _) (wP B _) (by omega) (by omega)
      have l1 : (A ++ [(iD p q s).2]).length = A.length + 1:=by simp
      have l2 : (B ++ [(iD p q t).2]).length = B.length + 1:=by simp
      rw [l1,l2] at r
      exact ⟨by rw [r.1,List.length_cons];omega,by rw [r.2.1,List.length_cons];omega,r.2.2⟩
theorem Fs (p : Int) (f g : List Int) : Sm (lJ p f g).1.length∧∀ l ∈ (lJ p f g).1,Sm l.length:=by
  have q : bK p = true → ∀ d,d ≤ 100 → ∀ f g : List Int,Pl p f → Pl p g → f.length ≤ 100 → g.length ≤ 100 → (lF p d f g).length ≤ d∧∀ l ∈ lF p d f g,l.length ≤ 101:=by
    intro hq d
    induction d with
    | zero=>intro _ f g _ _ _ _;exact ⟨Nat.le_refl _,fun l h=>by simp [lF] at h⟩
    | succ d ih =>
      intro hd f g pf pg lf lg
      rw [lF]
      by_cases c : g.length = 0
      · rw [if_pos c];exact ⟨by simp,fun l h=>by simp at h⟩
      · rw [if_neg c]
        have P:=o7 hq pf pg (by omega)
        have O:=(nZ hq pf.1 pg.1 (by omega) (pg.last (by omega))).2.2.1
        have r:=ih (by omega) g (iM p f g).2 pg P.1 lg (by have:=P.2.1;omega)
        refine ⟨by rw [List.length_cons];have:=r.1;omega,fun l h=>?_⟩
        rcases List.mem_cons.1 h with k | k
        · rw [k,O];split <;> omega
        · exact r.2 l k
  unfold lJ
  have nil : ∀ c : Int,Sm (([],c) : List (List Int) × Int).1.length∧∀ l ∈ (([],c) : List (List Int) × Int).1,Sm l.length:=fun c=>⟨Sm0,fun l h=>by simp at h⟩
  split
  · rename_i c1
    split
    · rename_i c2
      split
      · exact nil 5
      · simp only [Bool.and_eq_true] at c1
        have pf:=fM.pl' c1.1
        have pg:=fM.pl' c1.2
        have r:=q c2 g.length (by omega) f g pf.1 pg.1 (by omega) (by omega)
        exact ⟨by have:=r.1;dsimp only;unfold Sm;omega,fun l h=>by have:=r.2 l h;unfold Sm;omega⟩
    · exact nil 2
  · exact nil 1
/-- The last convergent of quotients is the quotient. -/
theorem Cm {p : Int} {f g : List Int} (h0 : (lJ p f g).2 = 0) (h1 : (jR p (lJ p f g).1).2.2 = 0) :
    0 < (jR p (lJ p f g).1).1.length∧0 < (jR p (lJ p f g).1).2.1.length∧(jR p (lJ p f g).1).1.length ≤ 100∧(jR p (lJ p f g).1).2.1.length ≤ 100 ∧
    ((jR p (lJ p f g).1).1.getD ((jR p (lJ p f g).1).1.length - 1) []).length ≤ 25∧((jR p (lJ p f g).1).2.1.getD ((jR p (lJ p f g).1).2.1.length - 1) []).length ≤ 25 ∧
    kI p ((jR p (lJ p f g).1).1.getD ((jR p (lJ p f g).1).1.length - 1) []) g = kI p ((jR p (lJ p f g).1).2.1.getD ((jR p (lJ p f g).1).2.1.length - 1) []) f:=by
  have rows:=uo p
  unfold lJ at h0 h1 ⊢
  split at h0
  case isFalse=>exact absurd h0 (by decide)
  rename_i c1
  rw [if_pos c1] at h1 ⊢
  split at h0
  case isFalse=>exact absurd h0 (by decide)
  rename_i c2
  rw [if_pos c2] at h1 ⊢
  split at h0
  · exact absurd h0 (by decide)
  rename_i c3
  rw [if_neg c3] at h1 ⊢
  dsimp only at h1 ⊢
  simp only [Bool.and_eq_true] at c1
  have pf:=fM.pl' c1.1
  have pg:=fM.pl' c1.2
  have hp:=bK.pm c2
  haveI:=nez hp
  have h2:=hp.two
  unfold jR at h1 ⊢
  split at h1
  case isFalse=>exact absurd h1 (by decide)
  rename_i c4
  rw [if_pos c4]
  split at h1
  case isFalse=>exact absurd h1 (by decide)
  rename_i c5
  rw [if_pos c5]
  simp only [Bool.and_eq_true,decide_eq_true_eq] at c5
  have L:=BS c2 (cf p.toNat f) (cf p.toNat g) g.length f g ([],[1]) ([1],[]) 1 pf.1 pg.1 (Nat.le_refl _) (fun k=>by
      dsimp only
      rw [AP hp,AQ,y7,pE (fun _=>0),xk]
      grind) (fun k=>by
      dsimp only
      rw [AP hp,AQ,y7,pE (fun _=>0),xk]
      grind)
  have R:=rows (lF p g.length f g) ([],[1]) ([1],[]) [] [] (by simp;omega) (by simp;omega) (fun l h=>by simp at h) (fun l h=>by simp at h)
  generalize hqs : lF p g.length f g = qs at h1 c4 c5 L R ⊢
  cases qs with
  | nil =>
    exfalso
    obtain ⟨d,hd⟩ : ∃ d,g.length = d + 1:=⟨g.length - 1,by omega⟩
    rw [hd,lF,if_neg (by omega)] at hqs
    exact absurd hqs (by simp)
  | cons q qs =>
    have e : ∀ x,jF p (q :: qs) ([],[1]) ([1],[]) [] [] = x → x.2.2 = 0 → x = jF p qs (iD p q ([],[1])) (iD p q ([1],[])) [(iD p q ([],[1])).2] [(iD p q ([1],[])).2]∧(iD p q ([],[1])).2.length ≤ 25∧(iD p q ([1],[])).2.length ≤ 25:=by
      intro x hx h
      rw [jF] at hx
      split at hx
      · rw [← hx] at h;exact absurd h (by decide)
      · rename_i c
        exact ⟨hx.symm,by omega,by omega⟩
    obtain ⟨e1,e2,e3⟩:=e _ rfl h1
    have G:=yK p qs (iD p q ([],[1])) (iD p q ([1],[])) [(iD p q ([],[1])).2] [(iD p q ([1],[])).2] (by rw [← e1];exact h1) (by simp) (by simp) rfl rfl e2 e3
    rw [← e1] at G
    obtain ⟨g1,g2,g3,g4,g5,g6⟩:=G
    rw [g3,g4]
    refine ⟨by rw [g1];simp;omega,by rw [g2];simp;omega,R.1.1,R.2.1,g5,g6,?_⟩
    refine Gw hp (rM hp.pos _ _) (rM hp.pos _ _) (sZ _ _ _) (sZ _ _ _) (fun k=>?_)
    rw [xV hp,xV hp]
    rw [o6,o6] at L
    rw [L]
end Go.Proofs.Ytknppcledhnkoaa.Pr
