/- Texts of this session in one: what functions of the program compute, and plain facts of it, under the conditions that each theorem names. -/
import Derived.Test.YtilbjbahmilhkaaKFimplMomentsupTo
import Derived.Test.YtilbjbahmilhkaaKgonals11
import Derived.Test.YtilbjbahmilhkaaKgonals12
import Derived.Test.YtilbjbahmilhkaaKgonals13
import Derived.Test.YtilbjbahmilhkaaKgonals2
import Derived.Test.YtilbjbahmilhkaaKgonals6
import Derived.Test.YtilbjbahmilhkaaKgonals7
import Derived.Test.YtilbjbahmilhkaaKgonals8
import Derived.Test.YtilbjbahmilhkaaKgonals9
import Derived.Test.YtilbjbahmilhkaaKXPiv
namespace Go.Proofs.Ytilbjbahmilhkaa.Pr
/- The orthogonal polynomials of moments: the program's upTo and the reference's X4 come to them; no condition. -/
open Go.RowKit Go.Proofs.YtilbjbahmilhkaaW.PrintWords Go.Proofs.YtilbjbahmilhkaaW.PrintLast Go.Proofs.YtilbjbahmilhkaaW.PrintMore
def vk (p : Int) (l : List Int) (i : Nat) : List (List Int):=(List.range (i + 1)).map (mP p l)
def pX (p : Int) (l : List Int) (i : Nat) : List Int:=(List.range i).map fun j=>lq p l (mP p l j) 0
def mAl (p : Int) (l : List Int) (i : Nat) : List Int:=(List.range i).map fun j=>qW p l (mP p l j)
def mBe (p : Int) (l : List Int) (i : Nat) : List Int:=(List.range i).map fun j=>yx p l (oV p l j).1 (mP p l j) j
theorem rG (p : Int) (l : List Int) (i : Nat) : (vk p l i).length = i + 1:=by simp [vk]
theorem qx (p : Int) (l : List Int) {i j : Nat} (h : j ≤ i) : (vk p l i).getD j [] = mP p l j:=by
  rw [vk,List.getD_eq_getElem?_getD,List.getElem?_map,List.getElem?_range (by omega)];rfl
theorem QU (p : Int) (l : List Int) {i j : Nat} (h : j < i) : (pX p l i).getD j 0 = lq p l (mP p l j) 0:=by
  rw [pX,List.getD_eq_getElem?_getD,List.getElem?_map,List.getElem?_range h];rfl
theorem Bb (p : Int) (l : List Int) (i : Nat) : vk p l (i + 1) = vk p l i ++ [mP p l (i + 1)]:=by unfold vk;rw [List.range_succ,List.map_append,List.map_singleton]
theorem Bc (p : Int) (l : List Int) (i : Nat) : pX p l (i + 1) = pX p l i ++ [lq p l (mP p l i) 0]:=by unfold pX;rw [List.range_succ,List.map_append,List.map_singleton]
theorem X5 (p : Int) (l : List Int) (i : Nat) : mAl p l (i + 1) = mAl p l i ++ [qW p l (mP p l i)]:=by unfold mAl;rw [List.range_succ,List.map_append,List.map_singleton]
theorem X6 (p : Int) (l : List Int) (i : Nat) : mBe p l (i + 1) = mBe p l i ++ [yx p l (oV p l i).1 (mP p l i) i]:=by unfold mBe;rw [List.range_succ,List.map_append,List.map_singleton]
theorem acp {p : Int} (hp : Pm p) (l : List Int) : mP p l 1 = mg p (mP p l 0) [(-(qW p l (mP p l 0))) % p,1]:=by
  show y8 p (qW p l [1]) (yx p l [] [1] 0) [1] [] = _
  unfold y8
  rw [X7 _ _ (ES p _ _),J8 hp.pos]
  rfl
theorem acr {p : Int} (hp : Pm p) (l : List Int) (i : Nat) : mP p l (i + 2) = Dq p (mg p (mP p l (i + 1)) [(-(qW p l (mP p l (i + 1)))) % p,1]) (mP p l i) ((-(lq p l (mP p l (i + 1)) 0) * si p (lq p l (mP p l i) 0)) % p):=by
  show y8 p (qW p l (mP p l (i + 1))) (yx p l (mP p l i) (mP p l (i + 1)) (i + 1)) (mP p l (i + 1)) (mP p l i) = _
  unfold y8 yx
  rw [if_neg (by omega),JK,J8 hp.pos,Int.neg_mul]
theorem amt {p : Int} (hp : Pm p) : Nm p [0,1]:=by
  have:=hp.two
  exact Nm.cons (Int.le_refl _) hp.pos (Nm.cons (by omega) (by omega) (Nm.nil p))
section
variable {p : Int} (hp : Pm p) {l : List Int} (nl : Nm p l) (hl : l.length ≤ 24)
include hp nl hl
theorem yz {f : List Int} (hf : Nm p f) (s : Nat) (h : 2 * f.length + s ≤ l.length + 1) : Ev (fun n=>fJ.f n p l f (s : Int)) (lq p l f s):=by
  unfold fJ.f lq
  have h2:=uu p f f
  refine Ev.bind (IB hp f f hf hf (by unfold Sm;omega) (by unfold Sm;omega) (by unfold Sm;omega)) (Ev.bind (Dn hp l _ nl (xk hp.pos _ _) s ?_ (by unfold Sm;omega) (by unfold Sm;omega)) (Ev.now _))
  by_cases h0 : f = []
  · right;rw [h0];rfl
  · left
    have : f.length ≠ 0:=fun e=>h0 (List.length_eq_zero_iff.1 e)
    omega
theorem Lj {k : Nat} (hk : 2 * k ≤ l.length) (d : Nat) : ∀ (i : Nat) (last : Int),i + d = k → (0 < i → last = lq p l (mP p l (i - 1)) 0) →
    Ev (fun n=>dH.l0 n (k : Int) (vk p l i) p last (i : Int) p l) (vk p l k):=by
  induction d with
  | zero =>
    intro i last hi _
    obtain rfl : i = k:=by omega
    refine Ev.step (fun n=>by rw [dH.l0]) ?_
    exact Ev.neg (by omega) (Ev.now _)
  | succ d ih =>
    intro i last hi hlast
    have ho:=FO hp l i
    have hol:=zx hp l i
    have hn0:=uz hp l (mP p l i) 0
    have hn1:=uz hp l (mP p l i) 1
    have hiv:=Gt hp (lq p l (mP p l i) 0)
    have hm:=Cc hp hn1.1 hn1.2 hiv.1 hiv.2
    have ha:=J9 hp l (mP p l i)
    have ht:=hp.top
    have e1 : wrap64 (-(Int.tmod (wrap64 (lq p l (mP p l i) 1 * si p (lq p l (mP p l i) 0))) p)) = -(qW p l (mP p l i)):=by
      rw [bM (x:=lq p l (mP p l i) 1 * si p (lq p l (mP p l i) 0)) (by omega) (by omega),lC hm.1]
      show wrap64 (-(qW p l (mP p l i))) = _
      rw [bM (by omega) (by omega)]
    refine Ev.step (fun n=>by rw [dH.l0]) ?_
    rw [sQ,qx p l (Nat.le_refl i),rG,kz (i:=i) (n:=1000) (by omega) (by omega)]
    refine Ev.pos (by omega) (Ev.pos (by omega) (Ev.pos (by omega) (Ev.bind (yz hp nl hl ho 0 (by omega)) (Ev.bind (CG hp hn0) (Ev.bind (yz hp nl hl ho 1 (by omega)) (Ev.neg hp.ne ?_))))))
    rw [e1]
    have tr : oP [(-(qW p l (mP p l i))) % p,1] = [(-(qW p l (mP p l i))) % p,1]:=xx [(-(qW p l (mP p l i))) % p] (by omega)
    refine Ev.iL (Gr hp _) (Ev.bind (yn _ (by simp [Sm])) ?_)
    rw [tr]
    refine Ev.bind (IB hp _ _ ho (XV hp _) (by unfold Sm;omega) (by simp [Sm]) (by simp only [List.length_cons,List.length_nil];unfold Sm;omega)) ?_
    rcases i with _ | i
    · refine Ev.neg (by omega) (Ev.pos (by omega) ?_)
      rw [← acp hp,← Bb]
      exact ih 1 _ (by omega) (fun _=>rfl)
    · have hb:=FO hp l i
      have hbl:=zx hp l i
      have hlast:=hlast (by omega)
      rw [Nat.add_sub_cancel] at hlast
      have hnb:=uz hp l (mP p l i) 0
      have hivb:=Gt hp (lq p l (mP p l i) 0)
      have hm2:=Cc hp hn0.1 hn0.2 hivb.1 hivb.2
      have e2 : wrap64 (wrap64 (-(lq p l (mP p l (i + 1)) 0)) * si p (lq p l (mP p l i) 0)) = -(lq p l (mP p l (i + 1)) 0) * si p (lq p l (mP p l i) 0):=by
        rw [bM (x:=-(lq p l (mP p l (i + 1)) 0)) (by omega) (by omega),Int.neg_mul,bM (by omega) (by omega)]
      have hpl:=uu p (mP p l (i + 1)) [(-(qW p l (mP p l (i + 1)))) % p,1]
      simp only [List.length_cons,List.length_nil] at hpl
      rw [Te (i:=i + 1) (by omega) (by omega),Nat.add_sub_cancel,sQ,qx p l (by omega),hlast]
      refine Ev.pos (by omega) (Ev.pos (by omega) (Ev.pos (by omega) (Ev.bind (CG hp hnb) ?_)))
      rw [e2]
      refine Ev.iL (Gr hp _) (Ev.bind (QD hp (lQ hp.pos _) _ _ (xk hp.pos _ _) hb (by unfold Sm;omega) (by unfold Sm;omega)) (Ev.pos (by omega) ?_))
      rw [← acr hp,← Bb]
      exact ih (i + 2) _ (by omega) (fun _=>rfl)
theorem zy {k : Nat} (hk : 2 * k ≤ l.length) : Ev (fun n=>dH.f n p l (k : Int)) (vk p l k):=Lj hp nl hl hk k 0 1 (by omega) (fun h=>absurd h (by omega))
theorem zz {f : List Int} (h : 2 * f.length ≤ l.length + 1) : Ev (fun n=>bv.f n p l (mg p f f)) (lq p l f 0):=by
  have h2:=uu p f f
  refine zu hp l _ nl (xk hp.pos _ _) ?_ (by unfold Sm;omega)
  omega
theorem OJ {f : List Int} (h : 2 * f.length + 1 ≤ l.length + 1) : Ev (fun n=>bv.f n p l (mg p [0,1] (mg p f f))) (lq p l f 1):=by
  have h2:=uu p f f
  have h3:=uu p [0,1] (mg p f f)
  simp only [List.length_cons,List.length_nil] at h3
  have e : lq p l f 1 = oH p l (mg p [0,1] (mg p f f)) 0:=by rw [X8 hp l _ (xk hp.pos _ _)];rfl
  rw [e]
  refine zu hp l _ nl (xk hp.pos _ _) ?_ (by unfold Sm;omega)
  by_cases h0 : (mg p f f).length = 0
  · have h4 : mg p [0,1] (mg p f f) = []:=by
      have : mg p f f = []:=List.length_eq_zero_iff.1 h0
      rw [this]
      simp [mg]
    rw [h4];exact Nat.zero_le _
  · omega
theorem OL (h1 : 1 ≤ l.length) {k : Nat} (hk : 2 * k ≤ l.length) (d : Nat) : ∀ i : Nat,i + d = k →
    Ev (fun n=>aD.l0 n p (oV p l i).1 (k : Int) (i : Int) p l (vk p l i) (pX p l i) p (mAl p l i) (mBe p l i)) (vk p l k,pX p l k,p,mAl p l k,mBe p l k,true):=by
  induction d with
  | zero =>
    intro i hi
    obtain rfl : i = k:=by omega
    refine Ev.step (fun n=>by rw [aD.l0]) ?_
    exact Ev.neg (by omega) (Ev.now _)
  | succ d ih =>
    intro i hi
    have ho:=FO hp l i
    have hol:=zx hp l i
    have hok:=DF hp l i
    have hn0:=uz hp l (mP p l i) 0
    have hn1:=uz hp l (mP p l i) 1
    have h2:=uu p (mP p l i) (mP p l i)
    have lN : (pX p l i).length = i:=by simp [pX]
    have lA : (mAl p l i).length = i:=by simp [mAl]
    have lB : (mBe p l i).length = i:=by simp [mBe]
    refine Ev.step (fun n=>by rw [aD.l0]) ?_
    rw [sQ,qx p l (Nat.le_refl i),rG,kz (i:=i) (n:=1000) (by omega) (by omega),lN,lA,lB]
    have hb : Ev (fun n=>if (i : Int) > 0 then (if 0 ≤ wrap64 ((i : Int) - 1) then (if wrap64 ((i : Int) - 1) < (i : Int) then (jR.f n p (lq p l (mP p l i) 0) (rd (pX p l i) (wrap64 ((i : Int) - 1)))) else none) else none) else (some (rd l 0))) (yx p l (oV p l i).1 (mP p l i) i):=by
      rcases i with _ | i
      · exact Ev.neg (by omega) (Ev.now _)
      · have hnb:=uz hp l (mP p l i) 0
        rw [Te (i:=i + 1) (by omega) (by omega),Nat.add_sub_cancel,mM,QU p l (by omega)]
        exact Ev.pos (by omega) (Ev.pos (by omega) (Ev.pos (by omega) (CL hp hn0 hnb)))
    refine Ev.pos (by omega) (Ev.pos (by omega) (Ev.pos (by omega) (Ev.bind (xK hp _ _ ho ho (by unfold Sm;omega) (by unfold Sm;omega) (by unfold Sm;omega)) (Ev.bind (zz hp nl hl (by omega)) (Ev.bind (xK hp [0,1] _ (amt hp) (xk hp.pos _ _) (by simp [Sm]) (by unfold Sm;omega) (by simp only [List.length_cons,List.length_nil];unfold Sm;omega)) (Ev.bind (OJ hp nl hl (by omega)) (Ev.bind (CL hp hn1 hn0) (Ev.pos (by omega) (Ev.bind hb ?_)))))))))
    refine Ev.bind (Oy hp (J9 hp l _) (X9 hp nl _ _ _) _ _ ho hok.1.1 (by omega) (by omega)) ?_
    refine Ev.iL rfl (Ev.pos (by simp only [List.length_cons,List.length_nil];omega) (Ev.iL rfl (Ev.pos (by simp only [List.length_cons,List.length_nil];omega) (Ev.iL rfl (Ev.pos (by simp only [List.length_cons,List.length_nil];omega) (Ev.iL rfl (Ev.pos (by simp only [List.length_cons,List.length_nil];omega) ?_)))))))
    have:=ih (i + 1) (by omega)
    rw [Bb,Bc,X5,X6] at this
    exact this
end
/- Orders, ranges and errors of moments: the program's upTo and the reference's atD; no condition. -/
theorem Ll (a b : Int) : j5.f a b = some (decide (b ≤ a∧a ≤ 12)):=by
  unfold j5.f
  rw [BJ];rfl
section
variable {p : Int} (hp : Pm p) {l : List Int} (nl : Nm p l) (hl : l.length ≤ 24)
include hp nl hl
theorem Bd (h1 : 1 ≤ l.length) (k : Nat) (hk : k ≤ 12) :
    Ev (fun n=>aD.f n p l (k : Int)) (if (k : Int) ≤ xm p l∧2 * k ≤ l.length then (vk p l k,pX p l k,p,mAl p l k,mBe p l k,true) else ([[1]],[],p,[],[],false)):=by
  unfold aD.f
  refine Ev.iL (a:=[[1]]) rfl (Ev.bind (IE hp nl hl) ?_)
  by_cases c1 : xm p l < (k : Int)
  · rw [if_neg (by omega)]
    refine Ev.pos c1 (Ev.step (fun n=>by rw [aD.j0]) ?_)
    exact Ev.pos rfl (Ev.now _)
  · refine Ev.neg c1 (Ev.iL (a:=(l.length : Int)) rfl (Ev.step (fun n=>by rw [aD.j0]) ?_))
    have e : wrap64 (2 * (k : Int)) = 2 * (k : Int):=bM (by omega) (by omega)
    rw [e]
    by_cases c2 : 2 * k ≤ l.length
    · rw [if_pos ⟨by omega,c2⟩,decide_eq_false (by omega)]
      exact Ev.neg (by decide) (Ev.iL (a:=p) rfl (OL hp nl hl h1 c2 k 0 (by omega)))
    · rw [if_neg (fun g=>c2 g.2),decide_eq_true (by omega)]
      exact Ev.pos rfl (Ev.now _)
theorem QV (k : Nat) (hk : k ≤ 12) : Ev (fun n=>lh.f n p l (k : Int)) (decide ((k : Int) ≤ xm p l∧2 * k ≤ l.length)):=by
  unfold lh.f
  have e : wrap64 (2 * (k : Int)) = 2 * (k : Int):=bM (by omega) (by omega)
  rw [e]
  by_cases c2 : 2 * k ≤ l.length
  · refine Ev.pos (by omega) (Ev.bind (CO hp nl hl) (Ev.mW ?_))
    by_cases c1 : (k : Int) ≤ xm p l
    · rw [decide_eq_true (show xm p l ≥ (k : Int) from c1),decide_eq_true ⟨c1,c2⟩]
    · rw [decide_eq_false (show ¬ xm p l ≥ (k : Int) from c1),decide_eq_false (fun g=>c1 g.1)]
  · refine Ev.neg (by omega) (Ev.mW ?_)
    rw [decide_eq_false (fun g=>c2 g.2)]
end
theorem Co (p : Int) (l : List Int) (hl : Sm l.length) (a : Int) (low : Nat) :
    Ev (fun n=>kL.f n p l a (low : Int)) (if jP p l = true then (if (low : Int) ≤ a∧a ≤ 12 then (if a ≤ xm p l∧2 * a ≤ (l.length : Int) then 0 else 5) else 2) else 1):=by
  unfold kL.f
  refine Ev.bind (xG p l hl) ?_
  by_cases h : jP p l = true
  · rw [if_pos h]
    refine Ev.pos h (Ev.iL (FC _ _ _) ?_)
    by_cases ha : (low : Int) ≤ a∧a ≤ 12
    · rw [if_pos ha]
      refine Ev.pos (decide_eq_true ha) ?_
      obtain ⟨k,rfl⟩:=Int.eq_ofNat_of_zero_le (show 0 ≤ a by omega)
      refine Ev.bind (QV (jP.pm h) (jP.nm h) (jP.len h).2 k (by omega)) ?_
      by_cases c : (k : Int) ≤ xm p l∧2 * (k : Int) ≤ (l.length : Int)
      · rw [if_pos c]
        exact Ev.pos (decide_eq_true ⟨c.1,by omega⟩) (Ev.now _)
      · rw [if_neg c]
        exact Ev.neg (by rw [decide_eq_true_eq];exact fun g=>c ⟨g.1,by omega⟩) (Ev.now _)
    · rw [if_neg ha]
      exact Ev.neg (by simpa using ha) (Ev.now _)
  · rw [if_neg h]
    exact Ev.neg h (Ev.now _)
/-- The order is a number, at most half of how many moments there are. -/
theorem V9 (p : Int) (l : List Int) (d : Nat) : ∀ i : Nat,∃ m : Nat,Be p l d i = (m : Int)∧m ≤ i + d:=by
  induction d with
  | zero=>intro i;exact ⟨i,rfl,Nat.le_refl _⟩
  | succ d ih =>
    intro i
    rw [Be]
    by_cases h : sH p l (i + 1) = 0
    · exact ⟨i,if_pos h,by omega⟩
    · obtain ⟨m,h1,h2⟩:=ih (i + 1)
      exact ⟨m,by rw [if_neg h,h1],by omega⟩
theorem OM (p : Int) (l : List Int) : ∃ m : Nat,xm p l = (m : Int)∧2 * m ≤ l.length + 1:=by
  obtain ⟨m,h1,h2⟩:=V9 p l ((l.length + 1) / 2) 0
  exact ⟨m,h1,by omega⟩
/- NormOf: for all arguments the program and the reference come to one value; no condition. -/
theorem QW (p : Int) (l : List Int) (a : Int) (hl : Sm l.length) : ∃ v : Int × Int,Ev (fun k=>dB.f k p l a) v∧Ev (fun k=>bQ.f k p l a) v ∧
    (v.2 = 0 → jP p l = true∧(0 ≤ a∧a ≤ 12)∧a ≤ xm p l∧2 * a + 1 ≤ (l.length : Int)∧v.1 = lq p l (mP p l a.toNat) 0):=by
  have hc:=oG p l hl (decide (0 ≤ a∧a ≤ 12)) [] (by simp [Sm]) (fun l h=>by cases h)
  have hs:=Co p l hl a 0
  have h1 : kY.f a = some (decide (0 ≤ a∧a ≤ 12)):=by
    unfold kY.f
    rw [Ll];rfl
  have bad : ∀ c : Int,c ≠ 0 → Ev (fun k=>kL.f k p l a ((0 : Nat) : Int)) c → Ev (fun k=>dB.f k p l a) (0,c):=fun c hc0 hcode=>by
    unfold dB.f
    refine Ev.bind hcode (Ev.neg hc0 (Ev.step (fun k=>by rw [dB.j0]) ?_))
    refine Ev.neg (by decide) (Ev.step (fun k=>by rw [dB.j1]) ?_)
    exact Ev.neg hc0 (Ev.now _)
  by_cases h : jP p l = true
  · rw [h] at hc
    rw [if_pos h] at hs
    by_cases ha : 0 ≤ a∧a ≤ 12
    · rw [decide_eq_true ha] at hc h1
      rw [if_pos (by exact ha)] at hs
      have hp:=jP.pm h
      have nl:=jP.nm h
      have hlen:=jP.len h
      obtain ⟨k,rfl⟩:=Int.eq_ofNat_of_zero_le ha.1
      have hu:=Bd hp nl hlen.2 hlen.1 k (by omega)
      have e1 : wrap64 (2 * (k : Int)) = 2 * (k : Int):=bM (by omega) (by omega)
      have e2 : wrap64 (2 * (k : Int) + 1) = 2 * (k : Int) + 1:=bM (by omega) (by omega)
      by_cases c : (k : Int) ≤ xm p l∧2 * k ≤ l.length
      · rw [if_pos c] at hu
        rw [if_pos ⟨c.1,by omega⟩] at hs
        by_cases c3 : 2 * k + 1 ≤ l.length
        · have hol:=zx hp l k
          refine ⟨(lq p l (mP p l k) 0,0),?_,?_,fun _=>⟨h,ha,c.1,by omega,rfl⟩⟩
          · unfold dB.f
            refine Ev.bind hs (Ev.pos rfl (Ev.step (fun k=>by rw [dB.j0]) ?_))
            rw [e1,e2,decide_eq_false (by omega)]
            refine Ev.neg (by decide) (Ev.step (fun k=>by rw [dB.j1]) (Ev.pos rfl (Ev.bind (zy hp nl hlen.2 c.2) ?_)))
            rw [rG,sQ,qx p l (Nat.le_refl k)]
            exact Ev.pos (by omega) (Ev.pos (by omega) (Ev.bind (yz hp nl hlen.2 (FO hp l k) 0 (by omega)) (Ev.now _)))
          · unfold bQ.f
            refine Ev.iL h1 (Ev.bind hc (Ev.pos rfl (Ev.bind hu (Ev.pos rfl (Ev.iL (a:=(l.length : Int)) rfl (Ev.step (fun k=>by rw [bQ.j0]) ?_))))))
            rw [e1,e2,decide_eq_false (by omega)]
            refine Ev.neg (by decide) (Ev.iL (a:=p) rfl ?_)
            simp only [rG]
            rw [sQ,qx p l (Nat.le_refl k)]
            have h2:=FO hp l k
            exact Ev.pos (by omega) (Ev.pos (by omega) (Ev.bind (xK hp _ _ h2 h2 (by unfold Sm;omega) (by unfold Sm;omega) (by unfold Sm;omega)) (Ev.bind (zz hp nl hlen.2 (by omega)) (Ev.now _))))
        · refine ⟨(0,5),?_,?_,fun g=>absurd g (by decide)⟩
          · unfold dB.f
            refine Ev.bind hs (Ev.pos rfl (Ev.step (fun k=>by rw [dB.j0]) ?_))
            rw [e1,e2,decide_eq_true (by omega)]
            refine Ev.pos rfl (Ev.step (fun k=>by rw [dB.j1]) ?_)
            exact Ev.neg (by decide) (Ev.now _)
          · unfold bQ.f
            refine Ev.iL h1 (Ev.bind hc (Ev.pos rfl (Ev.bind hu (Ev.pos rfl (Ev.iL (a:=(l.length : Int)) rfl (Ev.step (fun k=>by rw [bQ.j0]) ?_))))))
            rw [e1,e2,decide_eq_true (by omega)]
            exact Ev.pos rfl (Ev.now _)
      · rw [if_neg c] at hu
        rw [if_neg (fun g=>c ⟨g.1,by omega⟩)] at hs
        refine ⟨(0,5),bad 5 (by decide) hs,?_,fun g=>absurd g (by decide)⟩
        unfold bQ.f
        refine Ev.iL h1 (Ev.bind hc (Ev.pos rfl (Ev.bind hu (Ev.neg (by simp) (Ev.step (fun k=>by rw [bQ.j0]) ?_)))))
        exact Ev.pos rfl (Ev.now _)
    · rw [decide_eq_false ha] at hc h1
      rw [if_neg (by exact ha)] at hs
      refine ⟨(0,2),bad 2 (by decide) hs,?_,fun g=>absurd g (by decide)⟩
      unfold bQ.f
      exact Ev.iL h1 (Ev.bind hc (Ev.neg (by simp) (Ev.now _)))
  · rw [Bool.eq_false_iff.2 h] at hc
    rw [if_neg h] at hs
    refine ⟨(0,1),bad 1 (by decide) hs,?_,fun g=>absurd g (by decide)⟩
    unfold bQ.f
    exact Ev.iL h1 (Ev.bind hc (Ev.neg (by simp) (Ev.now _)))
/- OrthogonalPolynomial: for all arguments the program and the reference come to one value; no condition. -/
theorem sI (p : Int) (l : List Int) (a : Int) (hl : Sm l.length) : ∃ v : List Int × Int,Ev (fun k=>eD.f k p l a) v∧Ev (fun k=>fQ.f k p l a) v∧Sm v.1.length ∧
    (v.2 = 0 → jP p l = true∧(0 ≤ a∧a ≤ 12)∧a ≤ xm p l∧2 * a ≤ (l.length : Int)∧v.1 = mP p l a.toNat)∧(v.2 ≠ 0 → v.1 = []):=by
  have hc:=oG p l hl (decide (0 ≤ a∧a ≤ 12)) [] (by simp [Sm]) (fun l h=>by cases h)
  have hs:=Co p l hl a 0
  have h1 : eu.f a = some (decide (0 ≤ a∧a ≤ 12)):=by
    unfold eu.f
    rw [Ll];rfl
  have bad : ∀ c : Int,c ≠ 0 → Ev (fun k=>kL.f k p l a ((0 : Nat) : Int)) c → Ev (fun k=>eD.f k p l a) ([],c):=fun c hc0 hcode=>by
    unfold eD.f
    exact Ev.bind hcode (Ev.neg hc0 (Ev.now _))
  by_cases h : jP p l = true
  · rw [h] at hc
    rw [if_pos h] at hs
    by_cases ha : 0 ≤ a∧a ≤ 12
    · rw [decide_eq_true ha] at hc h1
      rw [if_pos (by exact ha)] at hs
      have hp:=jP.pm h
      have nl:=jP.nm h
      have hlen:=jP.len h
      obtain ⟨k,rfl⟩:=Int.eq_ofNat_of_zero_le ha.1
      have hu:=Bd hp nl hlen.2 hlen.1 k (by omega)
      by_cases c : (k : Int) ≤ xm p l∧2 * k ≤ l.length
      · rw [if_pos c] at hu
        rw [if_pos ⟨c.1,by omega⟩] at hs
        refine ⟨(mP p l k,0),?_,?_,by have:=zx hp l k;unfold Sm;dsimp only;omega,fun _=>⟨h,ha,c.1,by omega,rfl⟩,fun g=>absurd rfl g⟩
        · unfold eD.f
          refine Ev.bind hs (Ev.pos rfl (Ev.bind (zy hp nl hlen.2 c.2) ?_))
          rw [rG,sQ,qx p l (Nat.le_refl k)]
          exact Ev.pos (by omega) (Ev.pos (by omega) (Ev.now _))
        · unfold fQ.f
          refine Ev.iL h1 (Ev.bind hc (Ev.pos rfl (Ev.bind hu (Ev.pos rfl ?_))))
          simp only [rG]
          rw [sQ,qx p l (Nat.le_refl k)]
          exact Ev.pos (by omega) (Ev.pos (by omega) (Ev.now _))
      · rw [if_neg c] at hu
        rw [if_neg (fun g=>c ⟨g.1,by omega⟩)] at hs
        refine ⟨([],5),bad 5 (by decide) hs,?_,by simp [Sm],fun g=>absurd g (by decide),fun _=>rfl⟩
        unfold fQ.f
        exact Ev.iL h1 (Ev.bind hc (Ev.pos rfl (Ev.bind hu (Ev.neg (by simp) (Ev.now _)))))
    · rw [decide_eq_false ha] at hc h1
      rw [if_neg (by exact ha)] at hs
      refine ⟨([],2),bad 2 (by decide) hs,?_,by simp [Sm],fun g=>absurd g (by decide),fun _=>rfl⟩
      unfold fQ.f
      exact Ev.iL h1 (Ev.bind hc (Ev.neg (by simp) (Ev.now _)))
  · rw [Bool.eq_false_iff.2 h] at hc
    rw [if_neg h] at hs
    refine ⟨([],1),bad 1 (by decide) hs,?_,by simp [Sm],fun g=>absurd g (by decide),fun _=>rfl⟩
    unfold fQ.f
    exact Ev.iL h1 (Ev.bind hc (Ev.neg (by simp) (Ev.now _)))
/- The draws of FnOrthogonals. -/
open Go Go.RowKit Go.Proofs.YtilbjbahmilhkaaW.PrintWords Go.Proofs.YtilbjbahmilhkaaW.PrintLast Go.Proofs.YtilbjbahmilhkaaW.PrintMore
section
variable {c : List Int} {i : Int}
def Of4 (r : Int × List Int × Int) : Prop:=r.2.1.length ≤ 201∧0 ≤ r.2.2∧r.2.2 ≤ 90
theorem Ty (s : St c i) (h p : Int) (l : List Int) (hl : l.length ≤ 201) (n : Int) (hn : n ≤ 80) :
    Ex (fun _=>(aX.f c i h n).bind fun a=>(aX.f c a.2.1 a.2.2 24).bind fun b=>some (p,l,wrap64 (a.1 + wrap64 (Int.tdiv b.1 23)))) Of4:=by
  refine Ex.bind (nO s h n) (fun a ha=>Ex.bind (nO ha.1 _ 24) (fun b hb=>Ex.now ⟨hl,?_⟩))
  have a1:=ha.2.1
  have b1:=hb.2.1
  have b2:=hb.2.2.1 (by omega)
  have a2 : a.1 ≤ 80:=by
    by_cases g : 1 ≤ n
    · have:=ha.2.2.1 g;omega
    · have:=ha.2.2.2 (by omega);omega
  dsimp only
  rw [Int.tdiv_eq_ediv_of_nonneg b1,bM (x:=b.1 / 23) (by omega) (by omega),bM (by omega) (by omega)]
  omega
theorem Ya (s : St c i) (h p : Int) (l : List Int) (hl : l.length ≤ 201) (n : Int) (hn : 0 ≤ n∧n ≤ 12) (b : Bool) (hb : b = true → jP p l = true) :
    Ex (fun k=>fO.j0 k n b c i h p l) Of4:=by
  refine Ex.step (fun k=>by rw [fO.j0]) ?_
  refine Ex.ite (fun g=>?_) (fun _=>?_)
  · have hm:=hb g
    obtain ⟨m,ho,hm2⟩:=OM p l
    refine Ex.bind (P:=fun o=>o = xm p l) ⟨_,CO (jP.pm hm) (jP.nm hm) (jP.len hm).2,rfl⟩ (fun o e=>?_)
    subst e
    exact Ty s h p l hl _ (by rw [bM (by unfold mn;split <;> omega) (by unfold mn;split <;> omega)];unfold mn;split <;> omega)
  · exact Ty s h p l hl _ (by rw [bM (by omega) (by omega)];omega)
theorem Yb (s : St c i) (h p : Int) (l f : List Int) (hl : Sm l.length) (hf : Sm f.length) (n : Int) (b : Bool) : Ex (fun k=>dV.j0 k n f b c i h p l) (fun r=>Sm r.2.1.length∧Sm r.2.2.1.length):=by
  refine Ex.step (fun k=>by rw [dV.j0]) ?_
  refine Ex.ite (fun _=>?_) (fun _=>Ex.now ⟨hl,hf⟩)
  refine Ex.bind (acf _) (fun q _=>Ex.bind (Ou s h q 4 (by omega)) (fun d hd=>Ex.now ⟨hl,?_⟩))
  have:=hd.2
  dsimp only;unfold Sm;omega
end
section
variable {c : List Int} (hb : ∀ x ∈ c,0 ≤ x∧x < 256) (hl : c.length ≤ 4096)
include hb hl
theorem QX : Ex (fun k=>fO.f k c) Of4:=by
  unfold fO.f
  refine Ex.bind (K6 hb hl) (fun a ha=>?_)
  obtain ⟨e,st⟩:=ha
  rw [e]
  refine Ex.bind (Ow st _) (fun b hb=>?_)
  have hlen:=hb.2
  have hn : 0 ≤ mn (mx (wrap64 ((b.2.1.length : Int) / 2)) 0) 12∧mn (mx (wrap64 ((b.2.1.length : Int) / 2)) 0) 12 ≤ 12:=by
    rw [bM (by omega) (by omega)]
    unfold mn mx
    split <;> split <;> omega
  refine Ex.bind (P:=fun t=>t = jP b.1 b.2.1) ⟨_,xG b.1 b.2.1 (by unfold Sm;omega),rfl⟩ (fun t ht=>?_)
  refine Ex.ite (fun g=>?_) (fun _=>Ya hb.1 _ _ _ hlen _ hn _ (fun g=>by cases g))
  exact Ex.bind (nO hb.1 _ 6) (fun d hd=>Ya hd.1 _ _ _ hlen _ hn _ (fun _=>by rw [← ht];exact g))
theorem Wd : Ex (fun k=>gJ.f k c) (fun r=>Sm r.2.1.length):=by
  unfold gJ.f
  exact Ex.bind (QX hb hl) (fun b hb=>Ex.now (by have:=hb.1;dsimp only;unfold Sm;omega))
theorem We : Ex (fun k=>mi.f k c) (fun r=>Sm r.2.1.length):=by
  unfold mi.f
  exact Ex.bind (QX hb hl) (fun b hb=>Ex.now (by have:=hb.1;dsimp only;unfold Sm;omega))
theorem QY : Ex (fun k=>lG.f k c) (fun r=>Sm r.2.length):=by
  unfold lG.f
  refine Ex.bind (K6 hb hl) (fun a ha=>?_)
  obtain ⟨e,st⟩:=ha
  rw [e]
  exact Ex.bind (Ow st _) (fun b hb=>Ex.now (by have:=hb.2;dsimp only;unfold Sm;omega))
theorem QZ : Ex (fun k=>dV.f k c) (fun r=>Sm r.2.1.length∧Sm r.2.2.1.length):=by
  unfold dV.f
  refine Ex.bind (K6 hb hl) (fun a ha=>?_)
  obtain ⟨e,st⟩:=ha
  rw [e]
  refine Ex.bind (QX hb hl) (fun b hb'=>?_)
  have sb : Sm b.2.1.length:=by have:=hb'.1;unfold Sm;omega
  obtain ⟨v,ve,_,vl,_⟩:=sI b.1 b.2.1 b.2.2 sb
  refine Ex.bind (P:=fun x=>x = v) ⟨_,ve,rfl⟩ (fun x e=>?_)
  subst e
  exact Ex.ite (fun _=>Ex.bind (nO st _ _) (fun d hd=>Yb hd.1 _ _ _ _ sb vl _ _)) (fun _=>Yb st _ _ _ _ sb vl _ _)
end
/- The program's NormOf where the norm is told; no condition. -/
theorem JL {p : Int} {l : List Int} (h : jP p l = true) (hl : Sm l.length) {k : Nat} (hk : (k : Int) ≤ xm p l) (c3 : 2 * k + 1 ≤ l.length) : Ev (fun n=>bQ.f n p l (k : Int)) (lq p l (mP p l k) 0,0):=by
  have hp:=jP.pm h
  have nl:=jP.nm h
  have hlen:=jP.len h
  have hc:=oG p l hl true [] (by simp [Sm]) (fun l h=>by cases h)
  rw [h] at hc
  have h1 : kY.f (k : Int) = some true:=by
    unfold kY.f
    rw [Ll,decide_eq_true (by omega)];rfl
  have hu:=Bd hp nl hlen.2 hlen.1 k (by omega)
  rw [if_pos ⟨hk,by omega⟩] at hu
  have e1 : wrap64 (2 * (k : Int)) = 2 * (k : Int):=bM (by omega) (by omega)
  have e2 : wrap64 (2 * (k : Int) + 1) = 2 * (k : Int) + 1:=bM (by omega) (by omega)
  have hol:=zx hp l k
  have h2:=FO hp l k
  unfold bQ.f
  refine Ev.iL h1 (Ev.bind hc (Ev.pos rfl (Ev.bind hu (Ev.pos rfl (Ev.iL (a:=(l.length : Int)) rfl (Ev.step (fun k=>by rw [bQ.j0]) ?_))))))
  rw [e1,e2,decide_eq_false (by omega)]
  refine Ev.neg (by decide) (Ev.iL (a:=p) rfl ?_)
  simp only [rG]
  rw [sQ,qx p l (Nat.le_refl k)]
  exact Ev.pos (by omega) (Ev.pos (by omega) (Ev.bind (xK hp _ _ h2 h2 (by unfold Sm;omega) (by unfold Sm;omega) (by unfold Sm;omega)) (Ev.bind (zz hp nl hlen.2 (by omega)) (Ev.now _))))
/- NormsOf: for all arguments the program and the reference come to one value; no condition. -/
theorem Yc {a : Nat} (h : a ≤ 12) : mn (a : Int) 12 = (a : Int):=by
  unfold mn;split <;> omega
theorem zB (p : Int) (l : List Int) (i : Nat) : (pX p l i).length = i:=by simp [pX]
section
variable {p : Int} {l : List Int} (h : jP p l = true) (hl : Sm l.length) {m : Nat} (hm : xm p l = (m : Int)) (hm2 : 2 * m ≤ l.length + 1)
include h hl hm hm2
theorem Lm (d : Nat) : ∀ i : Nat,i + d = m → Ev (fun n=>fo.l0 n (pX p l i) (i : Int) p l) (pX p l m,0):=by
  have hp:=jP.pm h
  have nl:=jP.nm h
  have hlen:=jP.len h
  have ho:=CO hp nl hlen.2
  rw [hm] at ho
  induction d with
  | zero =>
    intro i hi
    obtain rfl : i = m:=by omega
    refine Ev.step (fun n=>by rw [fo.l0]) (Ev.bind ho ?_)
    rw [Yc (by omega)]
    exact Ev.neg (by omega) (Ev.now _)
  | succ d ih =>
    intro i hi
    have hol:=zx hp l i
    refine Ev.step (fun n=>by rw [fo.l0]) (Ev.bind ho ?_)
    rw [Yc (by omega)]
    refine Ev.pos (by omega) (Ev.bind (zy hp nl hlen.2 (k:=i) (by omega)) ?_)
    rw [rG,sQ,qx p l (Nat.le_refl i),zB,kz (i:=i) (n:=1000) (by omega) (by omega)]
    refine Ev.pos (by omega) (Ev.pos (by omega) (Ev.bind (yz hp nl hlen.2 (FO hp l i) 0 (by omega)) (Ev.pos (by omega) ?_)))
    rw [← Bc]
    exact ih (i + 1) (by omega)
theorem Lp (d : Nat) : ∀ i : Nat,i + d = m → Ev (fun n=>jf.l0 n (pX p l i) (m : Int) (i : Int) p l) (pX p l m,0):=by
  have hlen:=jP.len h
  induction d with
  | zero =>
    intro i hi
    obtain rfl : i = m:=by omega
    refine Ev.step (fun n=>by rw [jf.l0]) ?_
    exact Ev.neg (by omega) (Ev.now _)
  | succ d ih =>
    intro i hi
    refine Ev.step (fun n=>by rw [jf.l0]) ?_
    rw [zB,kz (i:=i) (n:=1000) (by omega) (by omega)]
    refine Ev.pos (by omega) (Ev.bind (JL h hl (k:=i) (by omega) (by omega)) (Ev.pos (by omega) ?_))
    rw [← Bc]
    exact ih (i + 1) (by omega)
end
theorem OO (p : Int) (l : List Int) (hl : Sm l.length) : ∃ v : List Int × Int,Ev (fun k=>fo.f k p l) v∧Ev (fun k=>jf.f k p l) v∧Sm v.1.length ∧
    (v.2 = 0 → jP p l = true∧∃ m : Nat,xm p l = (m : Int)∧v.1 = pX p l m):=by
  have hc:=oG p l hl true [] (by simp [Sm]) (fun l h=>by cases h)
  have hs:=xG p l hl
  by_cases h : jP p l = true
  · rw [h] at hc hs
    have hp:=jP.pm h
    have nl:=jP.nm h
    have hlen:=jP.len h
    obtain ⟨m,hm,hm2⟩:=OM p l
    have ho:=IE hp nl hlen.2
    rw [hm] at ho
    refine ⟨(pX p l m,0),?_,?_,by rw [zB];unfold Sm;omega,fun _=>⟨h,m,hm,rfl⟩⟩
    · unfold fo.f
      exact Ev.bind hs (Ev.pos rfl (Lm h hl hm hm2 m 0 (by omega)))
    · unfold jf.f
      refine Ev.bind hc (Ev.pos rfl (Ev.bind ho ?_))
      rw [Yc (by omega)]
      exact Lp h hl hm hm2 m 0 (by omega)
  · rw [Bool.eq_false_iff.2 h] at hc hs
    refine ⟨([],1),?_,?_,by simp [Sm],fun g=>absurd g (by decide)⟩
    · unfold fo.f
      exact Ev.bind hs (Ev.neg (by decide) (Ev.now _))
    · unfold jf.f
      exact Ev.bind hc (Ev.neg (by simp) (Ev.now _))
/- What FnOrthogonals says beyond 'both': the polynomials are orthogonal, norms lead from Hankel determinants to the next. Conditions: p a Ck, the order is great enough. -/
theorem OP {p : Int} {l f : List Int} (hm : jP p l = true) (hpf : oo p f = true) (hl : Sm l.length) (hf : Sm f.length) {n : Nat} (hn : n ≤ 12) (hf0 : 0 < f.length) (hg : n = 0 ∨ f.length + n ≤ l.length + 1) :
    Ev (fun k=>ay.f k p l f (n : Int)) (decide (qE p l f n 0),0):=by
  have h1 : iU.f (n : Int) = some true:=by unfold iU.f;rw [Iq,decide_eq_true (by omega)];rfl
  have hc:=oG p l hl true [f] (by simp [Sm]) (fun g h=>by rw [List.mem_singleton.1 h];exact hf)
  simp only [Tg] at hc
  have hp:=jP.pm hm
  have hll:=jP.len hm
  have hfl:=oo.len hpf
  have hdeg : nu.f f = some ((f.length : Int) - 1):=by
    unfold nu.f dO.f
    simp only [Option.bind_some]
    rw [bM (by omega) (by omega)]
  rw [hm,hpf,Bool.and_self,if_pos rfl,if_pos trivial] at hc
  have last:=AP hp l f (jP.nm hm) (oo.nm hpf) n hn hg hf0 hf n 0 (by omega)
  unfold ay.f
  refine Ev.iL h1 (Ev.bind hc (Ev.pos rfl (Ev.pos (by omega) ?_)))
  by_cases hn0 : 0 < n
  · refine Ev.pos (by omega) (Ev.iL hdeg (Ev.iL (a:=(l.length : Int)) rfl ?_))
    rw [bM (x:=(f.length : Int) - 1 + (n : Int)) (by omega) (by omega),bM (by omega) (by omega),decide_eq_false (by omega)]
    refine Ev.step (fun n=>by rw [ay.j0]) ?_
    exact Ev.neg (by decide) last
  · refine Ev.neg (by omega) ?_
    refine Ev.step (fun n=>by rw [ay.j0]) ?_
    exact Ev.neg (by decide) last
section
variable {p : Int} (hq : iw p = true) {l : List Int} (nl : Nm p l)
include hq nl
theorem Wh {n : Nat} (ho : (n : Int) ≤ xm p l) : (sH p l n * lq p l (mP p l n) 0) % p = sH p l (n + 1):=by
  have hp:=iw.pm hq
  haveI:=nez hp
  refine ahQ hp (lQ hp.pos _) (IG hp _ _) ?_
  rw [sS hp,vv,Ka hq nl n (fun k hk=>EW hq nl ho k hk)]
  rfl
theorem acs {n : Nat} (ho : (n : Int) ≤ xm p l) {k : Nat} (hk : k < n) : lq p l (mP p l k) 0 ≠ 0:=by
  have hp:=iw.pm hq
  haveI:=nez hp
  intro g
  refine EW hq nl ho k hk ?_
  unfold nrm
  rw [g,sU]
theorem Wi {n : Nat} (ho : (n : Int) ≤ xm p l) : qE p l (mP p l n) n 0:=by
  have hp:=iw.pm hq
  haveI:=nez hp
  have T:=amu hq l (n:=n) (N:=n + 2) (by omega) (fun k hk=>EW hq nl ho k hk)
  have h2:=zx hp l n
  intro j hj _
  refine II hp (lQ hp.pos _) ?_
  have e : fz p.toNat (oH p l (mP p l n) j) = lam (cf p.toNat l) (n + 2) (cf p.toNat (mP p l n)) j:=by
    unfold oH
    rw [sS hp,Q0,← Tz (n:=(mP p l n).length) (m:=n + 2) (by omega) (g:=fun i=>fz p.toNat ((mP p l n).getD i 0 * l.getD (i + j) 0)) (fun i hi=>by
      rw [show (mP p l n).getD i 0 = 0 from OB hi,Int.zero_mul,sU])]
    exact j6 _ fun i _=>vv _ _
  have z:=T.amv (Nat.le_refl n) (fun i=>if i = j then 1 else 0) (fun i hi=>if_neg (by omega))
  unfold bi at z
  rw [Yd (k:=j) (by omega) (fun i _ hi=>by dsimp only;rw [if_neg hi];grind)] at z
  dsimp only at z
  rw [if_pos rfl] at z
  rw [e]
  grind
end
end Go.Proofs.Ytilbjbahmilhkaa.Pr
