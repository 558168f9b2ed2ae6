/- Texts of this session in one: what functions of the program compute, and plain facts of it, under the conditions that each theorem names. -/
import Derived.Test.YtnpepkpogohcmaaKFimplMomentsupTo
import Derived.Test.YtnpepkpogohcmaaKtExpansions1
import Derived.Test.YtnpepkpogohcmaaKtExpansions2
import Derived.Test.YtnpepkpogohcmaaKtExpansions3
namespace Go.Proofs.Ytnpepkpogohcmaa.Pr
/- The orthogonal polynomials of moments: the program's upTo and the reference's UL come to them; no condition. -/
open Go.RowKit Go.Proofs.YtnpepkpogohcmaaW.PrintWords Go.Proofs.YtnpepkpogohcmaaW.PrintLast Go.Proofs.YtnpepkpogohcmaaW.PrintMore
def rD (p : Int) (l : List Int) (i : Nat) : List (List Int):=(List.range (i + 1)).map (mP p l)
def xq (p : Int) (l : List Int) (i : Nat) : List Int:=(List.range i).map fun j=>oq p l (mP p l j) 0
def mAl (p : Int) (l : List Int) (i : Nat) : List Int:=(List.range i).map fun j=>rE p l (mP p l j)
def mBe (p : Int) (l : List Int) (i : Nat) : List Int:=(List.range i).map fun j=>zS p l (ql p l j).1 (mP p l j) j
theorem uT (p : Int) (l : List Int) (i : Nat) : (rD p l i).length = i + 1:=by simp [rD]
theorem sH (p : Int) (l : List Int) {i j : Nat} (h : j ≤ i) : (rD p l i).getD j [] = mP p l j:=by
  rw [rD,List.getD_eq_getElem?_getD,List.getElem?_map,List.getElem?_range (by omega)];rfl
theorem Ow (p : Int) (l : List Int) {i j : Nat} (h : j < i) : (xq p l i).getD j 0 = oq p l (mP p l j) 0:=by
  rw [xq,List.getD_eq_getElem?_getD,List.getElem?_map,List.getElem?_range h];rfl
theorem zT (p : Int) (l : List Int) (i : Nat) : rD p l (i + 1) = rD p l i ++ [mP p l (i + 1)]:=by unfold rD;rw [List.range_succ,List.map_append,List.map_singleton]
theorem LZ (p : Int) (l : List Int) (i : Nat) : xq p l (i + 1) = xq p l i ++ [oq p l (mP p l i) 0]:=by unfold xq;rw [List.range_succ,List.map_append,List.map_singleton]
theorem UM (p : Int) (l : List Int) (i : Nat) : mAl p l (i + 1) = mAl p l i ++ [rE p l (mP p l i)]:=by unfold mAl;rw [List.range_succ,List.map_append,List.map_singleton]
theorem UN (p : Int) (l : List Int) (i : Nat) : mBe p l (i + 1) = mBe p l i ++ [zS p l (ql p l i).1 (mP p l i) i]:=by unfold mBe;rw [List.range_succ,List.map_append,List.map_singleton]
theorem ZK {p : Int} (hp : Pm p) (l : List Int) : mP p l 1 = nz p (mP p l 0) [(-(rE p l (mP p l 0))) % p,1]:=by
  show zU p (rE p l [1]) (zS p l [] [1] 0) [1] [] = _
  unfold zU
  rw [UO _ _ (Em p _ _),Jo hp.pos]
  rfl
theorem ZL {p : Int} (hp : Pm p) (l : List Int) (i : Nat) : mP p l (i + 2) = yA p (nz p (mP p l (i + 1)) [(-(rE p l (mP p l (i + 1)))) % p,1]) (mP p l i) ((-(oq p l (mP p l (i + 1)) 0) * wT p (oq p l (mP p l i) 0)) % p):=by
  show zU p (rE p l (mP p l (i + 1))) (zS p l (mP p l i) (mP p l (i + 1)) (i + 1)) (mP p l (i + 1)) (mP p l i) = _
  unfold zU zS
  rw [if_neg (by omega),IX,Jo hp.pos,Int.neg_mul]
theorem aiI {p : Int} (hp : Pm p) : Nm p [0,1]:=by
  have:=hp.two
  exact Nm.cons (Int.le_refl _) hp.pos (Nm.cons (by omega) (by omega) (Nm.nil p))
section
variable {p : Int} (hp : Pm p) {l : List Int} (nl : Nm p l) (hl : l.length ≤ 24)
include hp nl hl
theorem ET {f : List Int} (hf : Nm p f) (s : Nat) (h : 2 * f.length + s ≤ l.length + 1) : Ev (fun n=>iP.f n p l f (s : Int)) (oq p l f s):=by
  unfold iP.f oq
  have h2:=vP p f f
  refine Ev.bind (GH hp f f hf hf (by unfold Sm;omega) (by unfold Sm;omega) (by unfold Sm;omega)) (Ev.bind (J6 hp l _ nl (xX hp.pos _ _) s ?_ (by unfold Sm;omega) (by unfold Sm;omega)) (Ev.now _))
  by_cases h0 : f = []
  · right;rw [h0];rfl
  · left
    have : f.length ≠ 0:=fun e=>h0 (List.length_eq_zero_iff.1 e)
    omega
theorem J7 {k : Nat} (hk : 2 * k ≤ l.length) (d : Nat) : ∀ (i : Nat) (last : Int),i + d = k → (0 < i → last = oq p l (mP p l (i - 1)) 0) →
    Ev (fun n=>ek.l0 n (k : Int) (rD p l i) p last (i : Int) p l) (rD p l k):=by
  induction d with
  | zero =>
    intro i last hi _
    obtain rfl : i = k:=by omega
    refine Ev.step (fun n=>by rw [ek.l0]) ?_
    exact Ev.neg (by omega) (Ev.now _)
  | succ d ih =>
    intro i last hi hlast
    have ho:=GI hp l i
    have hol:=yU hp l i
    have hn0:=yH hp l (mP p l i) 0
    have hn1:=yH hp l (mP p l i) 1
    have hiv:=FO hp (oq p l (mP p l i) 0)
    have hm:=BI hp hn1.1 hn1.2 hiv.1 hiv.2
    have ha:=Jp hp l (mP p l i)
    have ht:=hp.top
    have e1 : wrap64 (-(Int.tmod (wrap64 (oq p l (mP p l i) 1 * wT p (oq p l (mP p l i) 0))) p)) = -(rE p l (mP p l i)):=by
      rw [df (x:=oq p l (mP p l i) 1 * wT p (oq p l (mP p l i) 0)) (by omega) (by omega),lU hm.1]
      show wrap64 (-(rE p l (mP p l i))) = _
      rw [df (by omega) (by omega)]
    refine Ev.step (fun n=>by rw [ek.l0]) ?_
    rw [vK,sH p l (Nat.le_refl i),uT,kS (i:=i) (n:=1000) (by omega) (by omega)]
    refine Ev.pos (by omega) (Ev.pos (by omega) (Ev.pos (by omega) (Ev.bind (ET hp nl hl ho 0 (by omega)) (Ev.bind (BJ hp hn0) (Ev.bind (ET hp nl hl ho 1 (by omega)) (Ev.neg hp.ne ?_))))))
    rw [e1]
    have tr : mr [(-(rE p l (mP p l i))) % p,1] = [(-(rE p l (mP p l i))) % p,1]:=wZ [(-(rE p l (mP p l i))) % p] (by omega)
    refine Ev.jl (Co hp _) (Ev.bind (xY _ (by simp [Sm])) ?_)
    rw [tr]
    refine Ev.bind (GH hp _ _ ho (UQ hp _) (by unfold Sm;omega) (by simp [Sm]) (by simp only [List.length_cons,List.length_nil];unfold Sm;omega)) ?_
    rcases i with _ | i
    · refine Ev.neg (by omega) (Ev.pos (by omega) ?_)
      rw [← ZK hp,← zT]
      exact ih 1 _ (by omega) (fun _=>rfl)
    · have hb:=GI hp l i
      have hbl:=yU hp l i
      have hlast:=hlast (by omega)
      rw [Nat.add_sub_cancel] at hlast
      have hnb:=yH hp l (mP p l i) 0
      have hivb:=FO hp (oq p l (mP p l i) 0)
      have hm2:=BI hp hn0.1 hn0.2 hivb.1 hivb.2
      have e2 : wrap64 (wrap64 (-(oq p l (mP p l (i + 1)) 0)) * wT p (oq p l (mP p l i) 0)) = -(oq p l (mP p l (i + 1)) 0) * wT p (oq p l (mP p l i) 0):=by
        rw [df (x:=-(oq p l (mP p l (i + 1)) 0)) (by omega) (by omega),Int.neg_mul,df (by omega) (by omega)]
      have hpl:=vP p (mP p l (i + 1)) [(-(rE p l (mP p l (i + 1)))) % p,1]
      simp only [List.length_cons,List.length_nil] at hpl
      rw [EU (i:=i + 1) (by omega) (by omega),Nat.add_sub_cancel,vK,sH p l (by omega),hlast]
      refine Ev.pos (by omega) (Ev.pos (by omega) (Ev.pos (by omega) (Ev.bind (BJ hp hnb) ?_)))
      rw [e2]
      refine Ev.jl (Co hp _) (Ev.bind (BL hp (mi hp.pos _) _ _ (xX hp.pos _ _) hb (by unfold Sm;omega) (by unfold Sm;omega)) (Ev.pos (by omega) ?_))
      rw [← ZL hp,← zT]
      exact ih (i + 2) _ (by omega) (fun _=>rfl)
theorem Cq {k : Nat} (hk : 2 * k ≤ l.length) : Ev (fun n=>ek.f n p l (k : Int)) (rD p l k):=J7 hp nl hl hk k 0 1 (by omega) (fun h=>absurd h (by omega))
theorem J8 {f : List Int} (h : 2 * f.length ≤ l.length + 1) : Ev (fun n=>bL.f n p l (nz p f f)) (oq p l f 0):=by
  have h2:=vP p f f
  refine Cr hp l _ nl (xX hp.pos _ _) ?_ (by unfold Sm;omega)
  omega
theorem L6 {f : List Int} (h : 2 * f.length + 1 ≤ l.length + 1) : Ev (fun n=>bL.f n p l (nz p [0,1] (nz p f f))) (oq p l f 1):=by
  have h2:=vP p f f
  have h3:=vP p [0,1] (nz p f f)
  simp only [List.length_cons,List.length_nil] at h3
  have e : oq p l f 1 = xu p l (nz p [0,1] (nz p f f)) 0:=by rw [UR hp l _ (xX hp.pos _ _)];rfl
  rw [e]
  refine Cr hp l _ nl (xX hp.pos _ _) ?_ (by unfold Sm;omega)
  by_cases h0 : (nz p f f).length = 0
  · have h4 : nz p [0,1] (nz p f f) = []:=by
      have : nz p f f = []:=List.length_eq_zero_iff.1 h0
      rw [this]
      simp [nz]
    rw [h4];exact Nat.zero_le _
  · omega
theorem L8 (h1 : 1 ≤ l.length) {k : Nat} (hk : 2 * k ≤ l.length) (d : Nat) : ∀ i : Nat,i + d = k →
    Ev (fun n=>av.l0 n p (ql p l i).1 (k : Int) (i : Int) p l (rD p l i) (xq p l i) p (mAl p l i) (mBe p l i)) (rD p l k,xq p l k,p,mAl p l k,mBe p l k,true):=by
  induction d with
  | zero =>
    intro i hi
    obtain rfl : i = k:=by omega
    refine Ev.step (fun n=>by rw [av.l0]) ?_
    exact Ev.neg (by omega) (Ev.now _)
  | succ d ih =>
    intro i hi
    have ho:=GI hp l i
    have hol:=yU hp l i
    have hok:=Cs hp l i
    have hn0:=yH hp l (mP p l i) 0
    have hn1:=yH hp l (mP p l i) 1
    have h2:=vP p (mP p l i) (mP p l i)
    have lN : (xq p l i).length = i:=by simp [xq]
    have lA : (mAl p l i).length = i:=by simp [mAl]
    have lB : (mBe p l i).length = i:=by simp [mBe]
    refine Ev.step (fun n=>by rw [av.l0]) ?_
    rw [vK,sH p l (Nat.le_refl i),uT,kS (i:=i) (n:=1000) (by omega) (by omega),lN,lA,lB]
    have hb : Ev (fun n=>if (i : Int) > 0 then (if 0 ≤ wrap64 ((i : Int) - 1) then (if wrap64 ((i : Int) - 1) < (i : Int) then (j5.f n p (oq p l (mP p l i) 0) (rd (xq p l i) (wrap64 ((i : Int) - 1)))) else none) else none) else (some (rd l 0))) (zS p l (ql p l i).1 (mP p l i) i):=by
      rcases i with _ | i
      · exact Ev.neg (by omega) (Ev.now _)
      · have hnb:=yH hp l (mP p l i) 0
        rw [EU (i:=i + 1) (by omega) (by omega),Nat.add_sub_cancel,kW,Ow p l (by omega)]
        exact Ev.pos (by omega) (Ev.pos (by omega) (Ev.pos (by omega) (BM hp hn0 hnb)))
    refine Ev.pos (by omega) (Ev.pos (by omega) (Ev.pos (by omega) (Ev.bind (BN hp _ _ ho ho (by unfold Sm;omega) (by unfold Sm;omega) (by unfold Sm;omega)) (Ev.bind (J8 hp nl hl (by omega)) (Ev.bind (BN hp [0,1] _ (aiI hp) (xX hp.pos _ _) (by simp [Sm]) (by unfold Sm;omega) (by simp only [List.length_cons,List.length_nil];unfold Sm;omega)) (Ev.bind (L6 hp nl hl (by omega)) (Ev.bind (BM hp hn1 hn0) (Ev.pos (by omega) (Ev.bind hb ?_)))))))))
    refine Ev.bind (L9 hp (Jp hp l _) (UT hp nl _ _ _) _ _ ho hok.1.1 (by omega) (by omega)) ?_
    refine Ev.jl rfl (Ev.pos (by simp only [List.length_cons,List.length_nil];omega) (Ev.jl rfl (Ev.pos (by simp only [List.length_cons,List.length_nil];omega) (Ev.jl rfl (Ev.pos (by simp only [List.length_cons,List.length_nil];omega) (Ev.jl rfl (Ev.pos (by simp only [List.length_cons,List.length_nil];omega) ?_)))))))
    have:=ih (i + 1) (by omega)
    rw [zT,LZ,UM,UN] at this
    exact this
end
/- Orders, ranges and errors of moments: the program's upTo and the reference's aql; no condition. -/
section
variable {p : Int} (hp : Pm p) {l : List Int} (nl : Nm p l) (hl : l.length ≤ 24)
include hp nl hl
theorem EW (h1 : 1 ≤ l.length) (k : Nat) (hk : k ≤ 12) :
    Ev (fun n=>av.f n p l (k : Int)) (if (k : Int) ≤ En p l∧2 * k ≤ l.length then (rD p l k,xq p l k,p,mAl p l k,mBe p l k,true) else ([[1]],[],p,[],[],false)):=by
  unfold av.f
  refine Ev.jl (a:=[[1]]) rfl (Ev.bind (Ox hp nl hl) ?_)
  by_cases c1 : En p l < (k : Int)
  · rw [if_neg (by omega)]
    refine Ev.pos c1 (Ev.step (fun n=>by rw [av.j0]) ?_)
    exact Ev.pos rfl (Ev.now _)
  · refine Ev.neg c1 (Ev.jl (a:=(l.length : Int)) rfl (Ev.step (fun n=>by rw [av.j0]) ?_))
    have e : wrap64 (2 * (k : Int)) = 2 * (k : Int):=df (by omega) (by omega)
    rw [e]
    by_cases c2 : 2 * k ≤ l.length
    · rw [if_pos ⟨by omega,c2⟩,decide_eq_false (by omega)]
      exact Ev.neg (by decide) (Ev.jl (a:=p) rfl (L8 hp nl hl h1 c2 k 0 (by omega)))
    · rw [if_neg (fun g=>c2 g.2),decide_eq_true (by omega)]
      exact Ev.pos rfl (Ev.now _)
theorem GJ (k : Nat) (hk : k ≤ 12) : Ev (fun n=>jR.f n p l (k : Int)) (decide ((k : Int) ≤ En p l∧2 * k ≤ l.length)):=by
  unfold jR.f
  have e : wrap64 (2 * (k : Int)) = 2 * (k : Int):=df (by omega) (by omega)
  rw [e]
  by_cases c2 : 2 * k ≤ l.length
  · refine Ev.pos (by omega) (Ev.bind (GK hp nl hl) (Ev.mI ?_))
    by_cases c1 : (k : Int) ≤ En p l
    · rw [decide_eq_true (show En p l ≥ (k : Int) from c1),decide_eq_true ⟨c1,c2⟩]
    · rw [decide_eq_false (show ¬ En p l ≥ (k : Int) from c1),decide_eq_false (fun g=>c1 g.1)]
  · refine Ev.neg (by omega) (Ev.mI ?_)
    rw [decide_eq_false (fun g=>c2 g.2)]
end
theorem Tk (p : Int) (l : List Int) (d : Nat) : ∀ i : Nat,∃ m : Nat,EX p l d i = (m : Int)∧m ≤ i + d:=by
  induction d with
  | zero=>intro i;exact ⟨i,rfl,Nat.le_refl _⟩
  | succ d ih =>
    intro i
    rw [EX]
    by_cases h : EY p l (i + 1) = 0
    · exact ⟨i,if_pos h,by omega⟩
    · obtain ⟨m,h1,h2⟩:=ih (i + 1)
      exact ⟨m,by rw [if_neg h,h1],by omega⟩
theorem UU (p : Int) (l : List Int) : ∃ m : Nat,En p l = (m : Int)∧2 * m ≤ l.length + 1:=by
  obtain ⟨m,h1,h2⟩:=Tk p l ((l.length + 1) / 2) 0
  exact ⟨m,h1,by omega⟩
/- The program's sum of numbers times polynomials; no condition. -/
theorem Oy {p : Int} (hp : Pm p) (c : List Int) (nc : Nm p c) (P : Nat → List Int) (hP : ∀ i,(P i).length ≤ i + 1) (hPn : ∀ i,Nm p (P i)) (L : List (List Int)) (hL : ∀ i,i < c.length → L.getD i [] = P i) (hLl : c.length ≤ L.length) (hs : c.length ≤ 1000) (d : Nat) : ∀ i,i + d = c.length →
    Ev (fun n=>iR.l0 n p L (xS p P (fun k=>c.getD k 0) i) c (c.length : Int) (i : Int)) (xS p P (fun k=>c.getD k 0) c.length):=by
  induction d with
  | zero =>
    intro i hi
    refine Ev.step (fun n=>by rw [iR.l0]) ?_
    refine Ev.neg (by omega) (Ev.mI ?_)
    rw [show i = c.length by omega]
  | succ d ih =>
    intro i hi
    have h1:=hP i
    have h2:=Ct (p:=p) P (fun k=>c.getD k 0) hP i
    have hc:=nc.get (i:=i) (by omega)
    refine Ev.step (fun n=>by rw [iR.l0]) ?_
    rw [vK,kW,hL i (by omega),kS (i:=i) (n:=1000) (by omega) (by omega)]
    refine Ev.pos (by omega) (Ev.pos (by omega) (Ev.pos (by omega) (Ev.pos (by omega) (Ev.bind (BO hp hc _ _ (Cu hp _ _ _) (hPn i) (by unfold Sm;omega) (by unfold Sm;omega)) ?_))))
    exact ih (i + 1) (by omega)
theorem Oz {p : Int} (hp : Pm p) (c : List Int) (nc : Nm p c) (P : Nat → List Int) (hP : ∀ i,(P i).length ≤ i + 1) (hPn : ∀ i,Nm p (P i)) (L : List (List Int)) (hL : ∀ i,i < c.length → L.getD i [] = P i) (hLl : c.length ≤ L.length) (hs : c.length ≤ 1000) :
    Ev (fun n=>iR.f n p c L) (xS p P (fun k=>c.getD k 0) c.length):=by
  unfold iR.f
  exact Oy hp c nc P hP hPn L hL hLl hs c.length 0 (by omega)
end Go.Proofs.Ytnpepkpogohcmaa.Pr
