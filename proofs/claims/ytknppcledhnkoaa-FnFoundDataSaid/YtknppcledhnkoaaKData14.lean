/- Texts of this session in one: what functions of the program compute, and plain facts of it, under the conditions that each theorem names. -/
import Derived.Test.YtknppcledhnkoaaKFimplFindJacobi
import Derived.Test.YtknppcledhnkoaaKFspecFindJacobi
import Derived.Test.YtknppcledhnkoaaKData11
import Derived.Test.YtknppcledhnkoaaKData12
import Derived.Test.YtknppcledhnkoaaKData13
import Derived.Test.YtknppcledhnkoaaKData3
import Derived.Test.YtknppcledhnkoaaKData8
import Derived.Test.YtknppcledhnkoaaKData9
namespace Go.Proofs.Ytknppcledhnkoaa.Pr
/- FindJacobi: the program and the reference come to the data that divisions find; no condition. -/
open Go.RowKit Go.Proofs.YtknppcledhnkoaaW.PrintWords Go.Proofs.YtknppcledhnkoaaW.PrintLast Go.Proofs.YtknppcledhnkoaaW.PrintMore
theorem rq (l : List Int) (hl : Sm l.length) : fP.f l = some ((l.length : Int) - 1):=by
  unfold Sm at hl
  unfold fP.f eO.f
  rw [Option.bind_some,bQ (by omega) (by omega)]
theorem wL (l : List Int) (hl : Sm l.length) : gG.f l = some (decide (0 < l.length∧l.getD (l.length - 1) 0 = 1)):=by
  unfold Sm at hl
  unfold gG.f
  by_cases h : 0 < l.length
  · rw [if_pos (by omega),nT h (by omega),if_pos (by omega),if_pos (by omega),fw]
    congr 1
    by_cases g : l.getD (l.length - 1) 0 = 1
    · rw [decide_eq_true ⟨h,g⟩,g];rfl
    · rw [decide_eq_false (fun k=>g k.2)]
      exact beq_eq_false_iff_ne.2 g
  · rw [if_neg (by omega),decide_eq_false (fun k=>h k.1)]
theorem nD (l : List Int) (n : Nat) (hn : n ≤ 1048576) : gT.f l (n : Int) = some (decide (l.length = n + 1∧l.getD n 0 = 1)):=by
  unfold gT.f
  rw [lT (i:=n) (n:=2000000) (by omega) (by omega)]
  by_cases h : l.length = n + 1
  · rw [if_pos (by omega),if_pos (by omega),if_pos (by omega),fw]
    congr 1
    by_cases g : l.getD n 0 = 1
    · rw [decide_eq_true ⟨h,g⟩,g];rfl
    · rw [decide_eq_false (fun k=>g k.2)]
      exact beq_eq_false_iff_ne.2 g
  · rw [if_neg (by omega),decide_eq_false (fun k=>h k.1)]
theorem Av (p x : Int) (k : Nat) : ∀ f g a b : List Int,jL p k f g a (b.set 0 x) = (jL p k f g a b).map fun r=>(r.1,r.2.set 0 x):=by
  induction k using Nat.strongRecOn with
  | ind k ih =>
    intro f g a b
    match k,ih with
    | 0,_=>rfl
    | 1,_=>rfl
    | k + 2,ih =>
      rw [jL,jL]
      split
      · rw [← ih (k + 1) (by omega),List.set_comm _ _ (by omega)]
      · rfl
/-- One step of the program's search is a division. -/
theorem xO {p : Int} (hq : dD p = true) {f g : List Int} {k : Nat} (nf : Nm p f) (ng : Nm p g) (hf : Mon f (k + 1)) (hg : Mon g k) :
    (-(nU p f (kV p [0,1] g) ((-1) % p)).getD k 0) % p = (-(fH p f g).1.getD 0 0) % p∧nU p (nU p f (kV p [0,1] g) ((-1) % p)) g ((-(fH p f g).1.getD 0 0) % p) = (fH p f g).2:=by
  have hp:=dD.pm hq
  haveI:=nez hp
  obtain ⟨d1,d2,d3,d4⟩:=div_one hq nf ng hf hg
  have n1:=qP hp.pos nf (g:=kV p [0,1] g) ((-1) % p)
  have e1 : ∀ i,cf p.toNat (nU p f (kV p [0,1] g) ((-1) % p)) i = fz p.toNat ((fH p f g).1.getD 0 0) * cf p.toNat g i + cf p.toNat (fH p f g).2 i:=fun i=>by
    rw [uP hp _ _ nf,zw hp,d4 i,iH hp,mY,kJ,kE]
    grind
  have a1 : (-(nU p f (kV p [0,1] g) ((-1) % p)).getD k 0) % p = (-(fH p f g).1.getD 0 0) % p:=by
    refine tL hp (iD hp.pos _) (iD hp.pos _) ?_
    rw [iH hp,iH hp,mY,mY]
    have:=e1 k
    unfold cf at this
    rw [this,hg.2,kJ,o8 (f:=(fH p f g).2) (by omega),kE]
    grind
  refine ⟨a1,vL hp (qP hp.pos n1 _) d3.1 (D8 _) d3.2 fun i=>?_⟩
  rw [uP hp _ _ n1,e1 i,iH hp,mY]
  grind
theorem xP {A : List Int} {k : Nat} (hk : k < A.length) (h : A.getD k 0 = 0) : A.set k 0 = A:=by
  apply List.ext_getElem (by rw [List.length_set])
  intro i h1 h2
  rw [List.getElem_set]
  split
  · rename_i e
    subst e
    rw [← h,List.getD_eq_getElem?_getD,List.getElem?_eq_getElem hk];rfl
  · rfl
def Aw (b p : Int) : Option (List Int × List Int) → Int × List Int × List Int × Bool
  | some r=>(p,r.1,r.2.set 0 b,true)
  | none=>(0,[],[],false)
def IL (p : Int) : Option (List Int × List Int) → Int × List Int × List Int × Int
  | some r=>(p,r.1,r.2,0)
  | none=>(0,[],[],5)
section
variable {p : Int} (hq : dD p = true)
include hq
theorem yT {l : List Int} (nl : Nm p l) (sl : Sm l.length) (h0 : 0 < l.length) : Ev (fun k=>iK.f k p l) (oK p l):=by
  have hp:=dD.pm hq
  have sl':=sl
  unfold Sm at sl'
  unfold iK.f
  rw [nT h0 (by omega),fw]
  refine Ev.pos (by omega) (Ev.pos (by omega) (Ev.bind (BX hp (nl.oJ hp.pos _)) ?_))
  refine Ev.bind (a:=oK p l) ?_ (Ev.now _)
  unfold jy.f
  exact Ev.bind (ny hp (yA hp _) [] l (Nm.nil p) nl Sm0 sl) (Ev.now _)
theorem sS {l : List Int} (nl : Nm p l) (sl : Sm l.length) (h0 : 0 < l.length) : Ev (fun k=>iO.f k p l) (oK p l):=by
  have hp:=dD.pm hq
  have sl':=sl
  unfold Sm at sl'
  unfold iO.f
  rw [nT h0 (by omega),fw]
  exact Ev.neg (by omega) (Ev.pos (by omega) (Ev.pos (by omega) (Ev.bind (vO hp (nl.oJ hp.pos _)) (Ev.bind (wz hp (yA hp _) [] l (Nm.nil p) nl Sm0 sl) (Ev.now _)))))
theorem Ay (b : Int) (k : Nat) : ∀ f g A B : List Int,Nm p f → Nm p g → Mon f (k + 1) → Mon g k → k ≤ 11 → k < A.length → k < B.length → A.length ≤ 12 → B.length ≤ 12 → (∀ j,j ≤ k → A.getD j 0 = 0) →
    Ev (fun n=>aM.l0 n p f g b (k : Int) p A B) (Aw b p (jL p (k + 1) f g A B)):=by
  have hp:=dD.pm hq
  haveI:=nez hp
  have h2:=hp.two
  have ht:=hp.top
  induction k with
  | zero =>
    intro f g A B nf ng hf hg hk ha hb la lb hz
    obtain ⟨s1,s2⟩:=xO hq nf ng hf hg
    obtain ⟨d1,d2,d3,d4⟩:=div_one hq nf ng hf hg
    have hfl:=hf.1
    have hgl:=hg.1
    have nX : Nm p [0,1]:=(Nm.nil p).cons (by omega) (by omega) |>.cons (by omega) (by omega)
    have n1:=qP hp.pos nf (g:=kV p [0,1] g) ((-1) % p)
    have lm:=qI p [0,1] g
    have l1:=qy p f (kV p [0,1] g) ((-1) % p)
    simp only [List.length_cons,List.length_nil] at lm
    have hv:=n1.oJ hp.pos 0
    refine Ev.step (fun n=>by rw [aM.l0]) ?_
    refine Ev.pos (by omega) (Ev.bind (rV hp [0,1] g nX ng (by simp [Sm]) (by unfold Sm;omega) (by simp only [List.length_cons,List.length_nil];unfold Sm;omega)) (Ev.dx (mQ hp _) (Ev.bind (ny hp (iD hp.pos _) f _ nf (qN hp.pos _ _) (by unfold Sm;omega) (by unfold Sm;omega)) (Ev.dx (a:=((nU p f (kV p [0,1] g) ((-1) % p)).length : Int)) (by unfold eO.f;rfl) ?_))))
    have rest : Ev (fun n=>aM.j1 n p g b ((0 : Nat) : Int) (nU p f (kV p [0,1] g) ((-1) % p)) p (A.set 0 ((-(fH p f g).1.getD 0 0) % p)) B) (Aw b p (jL p (0 + 1) f g A B)):=by
      refine Ev.step (fun n=>by rw [aM.j1]) ?_
      rw [List.length_set,fw,iL ha]
      refine Ev.pos (by omega) (Ev.pos (by omega) (Ev.bind (ny hp (iD hp.pos _) _ g n1 ng (by unfold Sm;omega) (by unfold Sm;omega)) (Ev.pos rfl (Ev.pos (by omega) (Ev.jO ?_)))))
      rw [s2,show ((fH p f g).2.length : Int) = 0 from by omega]
      rfl
    by_cases c : 0 < (nU p f (kV p [0,1] g) ((-1) % p)).length
    · refine Ev.pos (by omega) (Ev.pos (by omega) (Ev.pos (by omega) ?_))
      rw [fw,bQ (by omega) (by omega)]
      refine Ev.dx (mQ hp _) (Ev.pos (by omega) ?_)
      rw [s1,eT]
      exact rest
    · refine Ev.neg (by omega) ?_
      have e : A.set 0 ((-(fH p f g).1.getD 0 0) % p) = A:=by
        rw [← s1,o8 (f:=nU p f (kV p [0,1] g) ((-1) % p)) (by omega),show (-(0 : Int)) % p = 0 from by rw [Int.neg_zero,Int.zero_emod]]
        exact xP ha (hz 0 (Nat.le_refl _))
      rw [e] at rest
      exact rest
  | succ k ih =>
    intro f g A B nf ng hf hg hk ha hb la lb hz
    obtain ⟨s1,s2⟩:=xO hq nf ng hf hg
    obtain ⟨d1,d2,d3,d4⟩:=div_one hq nf ng hf hg
    have hfl:=hf.1
    have hgl:=hg.1
    have nX : Nm p [0,1]:=(Nm.nil p).cons (by omega) (by omega) |>.cons (by omega) (by omega)
    have n1:=qP hp.pos nf (g:=kV p [0,1] g) ((-1) % p)
    have lm:=qI p [0,1] g
    have l1:=qy p f (kV p [0,1] g) ((-1) % p)
    simp only [List.length_cons,List.length_nil] at lm
    have hv:=n1.oJ hp.pos (k + 1)
    refine Ev.step (fun n=>by rw [aM.l0]) ?_
    refine Ev.pos (by omega) (Ev.bind (rV hp [0,1] g nX ng (by simp [Sm]) (by unfold Sm;omega) (by simp only [List.length_cons,List.length_nil];unfold Sm;omega)) (Ev.dx (mQ hp _) (Ev.bind (ny hp (iD hp.pos _) f _ nf (qN hp.pos _ _) (by unfold Sm;omega) (by unfold Sm;omega)) (Ev.dx (a:=((nU p f (kV p [0,1] g) ((-1) % p)).length : Int)) (by unfold eO.f;rfl) ?_))))
    have rest : Ev (fun n=>aM.j1 n p g b ((k + 1 : Nat) : Int) (nU p f (kV p [0,1] g) ((-1) % p)) p (A.set (k + 1) ((-(fH p f g).1.getD 0 0) % p)) B) (Aw b p (jL p (k + 1 + 1) f g A B)):=by
      refine Ev.step (fun n=>by rw [aM.j1]) ?_
      rw [List.length_set,fw,iL ha,nT (i:=k + 1) (by omega) (by omega),Nat.add_sub_cancel]
      refine Ev.pos (by omega) (Ev.pos (by omega) (Ev.bind (ny hp (iD hp.pos _) _ g n1 ng (by unfold Sm;omega) (by unfold Sm;omega)) (Ev.neg (by omega) ?_)))
      rw [s2]
      refine Ev.dx (rq _ (by unfold Sm;omega)) ?_
      rw [jL]
      by_cases c : (fH p f g).2.length = k + 1
      · obtain ⟨m1,m2,m3⟩:=uT hq d3 c
        have hr:=d3.1.oJ hp.pos k
        rw [if_pos c]
        refine Ev.pos (by omega) (Ev.pos (by omega) (Ev.pos (by omega) ?_))
        rw [fw,bQ (by omega) (by omega)]
        refine Ev.dx (mQ hp _) (Ev.pos (by omega) (Ev.bind (yT hq d3.1 (by unfold Sm;omega) (by omega)) ?_))
        rw [eT]
        exact ih g (oK p (fH p f g).2) _ _ ng m1 hg m2 (by omega) (by rw [List.length_set];omega) (by rw [List.length_set];omega) (by rw [List.length_set];omega) (by rw [List.length_set];omega) (fun j hj=>by rw [getD_set_ne (by omega)];exact hz j (by omega))
      · rw [if_neg c]
        exact Ev.neg (by omega) (Ev.now _)
    by_cases c : k + 1 < (nU p f (kV p [0,1] g) ((-1) % p)).length
    · refine Ev.pos (by omega) (Ev.pos (by omega) (Ev.pos (by omega) ?_))
      rw [fw,bQ (by omega) (by omega)]
      refine Ev.dx (mQ hp _) (Ev.pos (by omega) ?_)
      rw [s1,eT]
      exact rest
    · refine Ev.neg (by omega) ?_
      have e : A.set (k + 1) ((-(fH p f g).1.getD 0 0) % p) = A:=by
        rw [← s1,o8 (f:=nU p f (kV p [0,1] g) ((-1) % p)) (by omega),show (-(0 : Int)) % p = 0 from by rw [Int.neg_zero,Int.zero_emod]]
        exact xP ha (hz (k + 1) (Nat.le_refl _))
      rw [e] at rest
      exact rest
theorem Az (k : Nat) : ∀ f g A B : List Int,Nm p f → Nm p g → Mon f (k + 1) → Mon g k → k ≤ 11 → k < A.length → k < B.length → A.length ≤ 12 → B.length ≤ 12 →
    Ev (fun n=>aH.l0 n p f g (k : Int) p A B) (IL p (jL p (k + 1) f g A B)):=by
  have hp:=dD.pm hq
  haveI:=nez hp
  have h2:=hp.two
  have ht:=hp.top
  induction k with
  | zero =>
    intro f g A B nf ng hf hg hk ha hb la lb
    obtain ⟨d1,d2,d3,d4⟩:=div_one hq nf ng hf hg
    have hfl:=hf.1
    have hgl:=hg.1
    have hv:=(yz hq (Mon.pl nf hf) (Mon.pl ng hg) (by omega)).2.2.2.oJ hp.pos 0
    refine Ev.step (fun n=>by rw [aH.l0]) ?_
    refine Ev.pos (by omega) (Ev.bind (rF hq (Mon.pl nf hf) (Mon.pl ng hg) (by omega) (by unfold Sm;omega) (by unfold Sm;omega)) (Ev.pos (by omega) (Ev.pos (by omega) ?_)))
    rw [show rd (fH p f g).1 0 = (fH p f g).1.getD 0 0 from fw _ 0,bQ (by omega) (by omega)]
    refine Ev.dx (pG hp _) (Ev.pos (by omega) (Ev.pos (by omega) ?_))
    refine Ev.step (fun n=>by rw [aH.j3]) ?_
    exact Ev.pos rfl (Ev.now _)
  | succ k ih =>
    intro f g A B nf ng hf hg hk ha hb la lb
    obtain ⟨d1,d2,d3,d4⟩:=div_one hq nf ng hf hg
    have hfl:=hf.1
    have hgl:=hg.1
    have hv:=(yz hq (Mon.pl nf hf) (Mon.pl ng hg) (by omega)).2.2.2.oJ hp.pos 0
    refine Ev.step (fun n=>by rw [aH.l0]) ?_
    refine Ev.pos (by omega) (Ev.bind (rF hq (Mon.pl nf hf) (Mon.pl ng hg) (by omega) (by unfold Sm;omega) (by unfold Sm;omega)) (Ev.pos (by omega) (Ev.pos (by omega) ?_)))
    rw [show rd (fH p f g).1 0 = (fH p f g).1.getD 0 0 from fw _ 0,bQ (by omega) (by omega)]
    refine Ev.dx (pG hp _) (Ev.pos (by omega) (Ev.pos (by omega) ?_))
    refine Ev.step (fun n=>by rw [aH.j3]) ?_
    rw [nT (i:=k + 1) (by omega) (by omega),Nat.add_sub_cancel,eT,jL]
    refine Ev.neg (by omega) ?_
    by_cases c : (fH p f g).2.length = k + 1
    · obtain ⟨m1,m2,m3⟩:=uT hq d3 c
      have hr:=d3.1.oJ hp.pos k
      rw [if_pos c]
      refine Ev.pos (by omega) (Ev.pos (by omega) (Ev.pos (by omega) ?_))
      rw [fw,bQ (by omega) (by omega)]
      refine Ev.dx (pG hp _) (Ev.pos (by omega) (Ev.pos (by omega) (Ev.bind (sS hq d3.1 (by unfold Sm;omega) (by omega)) ?_)))
      exact ih g (oK p (fH p f g).2) _ _ ng m1 hg m2 (by omega) (by rw [List.length_set];omega) (by rw [List.length_set];omega) (by rw [List.length_set];omega) (by rw [List.length_set];omega)
    · rw [if_neg c]
      exact Ev.neg (by omega) (Ev.now _)
end
/-- What a search asks for. -/
def rP (p b : Int) (f g : List Int) : Prop:=(1 ≤ b∧b < p)∧(2 ≤ f.length∧f.length ≤ 13∧f.getD (f.length - 1) 0 = 1)∧(g.length + 1 = f.length∧g.getD (g.length - 1) 0 = 1)
instance (p b : Int) (f g : List Int) : Decidable (rP p b f g):=by unfold rP;infer_instance
def pz (p : Int) (f g : List Int) (b : Int) : Int × List Int × List Int × Int :=
  if jH p f && jH p g then (if dD p && decide (rP p b f g) then IL p (jL p (f.length - 1) f g (List.replicate (f.length - 1) 0) ((List.replicate (f.length - 1) 0).set 0 b)) else (0,[],[],2)) else (0,[],[],1)
theorem D9 (p b : Int) (f g : List Int) (sf : Sm f.length) (sg : Sm g.length) : ∃ t,bL.f p b f g = some t∧(Pm p → t = decide (rP p b f g)):=by
  have sf':=sf
  have sg':=sg
  unfold Sm at sf' sg'
  have u : bW.f p b = some (decide (1 ≤ b∧b ≤ wrap64 (p - 1))):=by
    unfold bW.f
    rw [jU];rfl
  unfold bL.f
  rw [u,Option.bind_some]
  have unit : Pm p → (decide (1 ≤ b∧b ≤ wrap64 (p - 1)) = true ↔ 1 ≤ b∧b < p):=fun hp=>by
    have:=hp.two;have:=hp.top
    rw [bQ (by omega) (by omega),decide_eq_true_eq]
    omega
  by_cases c1 : decide (1 ≤ b∧b ≤ wrap64 (p - 1)) = true
  case neg=>exact ⟨false,by rw [if_neg c1],fun hp=>(decide_eq_false fun h=>c1 ((unit hp).2 h.1)).symm⟩
  rw [if_pos c1,wL f sf,Option.bind_some]
  by_cases c2 : 0 < f.length∧f.getD (f.length - 1) 0 = 1
  case neg=>exact ⟨false,by rw [if_neg (by simpa using c2)],fun hp=>(decide_eq_false fun h=>c2 ⟨by have:=h.2.1.1;omega,h.2.1.2.2⟩).symm⟩
  rw [if_pos (decide_eq_true c2),wL g sg,Option.bind_some]
  by_cases c3 : 0 < g.length∧g.getD (g.length - 1) 0 = 1
  case neg=>exact ⟨false,by rw [if_neg (by simpa using c3)],fun hp=>(decide_eq_false fun h=>c3 ⟨by have:=h.2.1.1;have:=h.2.2.1;omega,h.2.2.2⟩).symm⟩
  rw [if_pos (decide_eq_true c3),rq f sf,Option.bind_some,jU,Option.bind_some]
  by_cases c4 : 1 ≤ (f.length : Int) - 1∧(f.length : Int) - 1 ≤ 12
  case neg=>exact ⟨false,by rw [if_neg (by simpa using c4)],fun hp=>(decide_eq_false fun h=>c4 (by have:=h.2.1.1;have:=h.2.1.2.1;omega)).symm⟩
  rw [if_pos (decide_eq_true c4),rq g sg,Option.bind_some,Option.bind_some,bQ (x:=(f.length : Int) - 1 - 1) (by omega) (by omega)]
  by_cases c5 : g.length + 1 = f.length
  · exact ⟨true,by rw [show (g.length : Int) - 1 = (f.length : Int) - 1 - 1 from by omega];simp,fun hp=>(decide_eq_true ⟨(unit hp).1 c1,⟨by omega,by omega,c2.2⟩,c5,c3.2⟩).symm⟩
  · exact ⟨false,by congr 1;exact beq_eq_false_iff_ne.2 (by omega),fun hp=>(decide_eq_false fun h=>c5 h.2.2.1).symm⟩
theorem rP.mon {p b : Int} {f g : List Int} (h : rP p b f g) : ∃ k,f.length - 1 = k + 1∧k ≤ 11∧Mon f (k + 1)∧Mon g k:=by
  obtain ⟨_,⟨h1,h2,h3⟩,h4,h5⟩:=h
  refine ⟨f.length - 2,by omega,by omega,⟨by omega,?_⟩,by omega,?_⟩
  · rw [show f.length - 2 + 1 = f.length - 1 from by omega];exact h3
  · rw [show f.length - 2 = g.length - 1 from by omega];exact h5
theorem uD (p : Int) (f g : List Int) (b : Int) (sf : Sm f.length) (sg : Sm g.length) : Ev (fun k=>gJ.f k p f g b) (pz p f g b):=by
  obtain ⟨t,h1,h2⟩:=D9 p b f g sf sg
  have hc:=zQ p t [f,g] (by simp [Sm]) (fun l hl=>by
    simp only [List.mem_cons,List.not_mem_nil,or_false] at hl
    rcases hl with rfl | rfl
    · exact sf
    · exact sg)
  simp only [List.all_cons,List.all_nil,Bool.and_true] at hc
  unfold gJ.f pz
  refine Ev.dx h1 (Ev.bind hc ?_)
  by_cases c1 : (jH p f && jH p g) = true
  case neg =>
    rw [if_neg c1,if_neg c1]
    exact Ev.neg (by decide) (Ev.now _)
  rw [if_pos c1,if_pos c1]
  by_cases c2 : dD p = true
  case neg =>
    rw [Bool.eq_false_iff.2 c2,Bool.false_and,Bool.false_and]
    exact Ev.neg (by decide) (Ev.now _)
  have hp:=dD.pm c2
  rw [c2,Bool.true_and,Bool.true_and,h2 hp]
  by_cases c3 : rP p b f g
  case neg =>
    rw [decide_eq_false c3]
    exact Ev.neg (by decide) (Ev.now _)
  obtain ⟨k,k1,k2,mf,mg⟩:=c3.mon
  simp only [Bool.and_eq_true] at c1
  have pf:=jH.pl c1.1
  have pg:=jH.pl c1.2
  have hb:=c3.1
  rw [decide_eq_true c3,k1,Av]
  have lf:=mf.1
  refine Ev.pos rfl ?_
  have core : Ev (fun n=>aM.f n p f g b) (Aw b p (jL p (k + 1) f g (List.replicate (k + 1) 0) (List.replicate (k + 1) 0))):=by
    unfold aM.f
    refine Ev.dx (rq f sf) ?_
    rw [show (f.length : Int) - 1 = ((k + 1 : Nat) : Int) from by omega,eT,nT (i:=k + 1) (by omega) (by omega),Nat.add_sub_cancel]
    exact Ev.pos (by omega) (Ev.pos (by omega) (Ay c2 b k f g _ _ pf.1 pg.1 mf mg k2 (by rw [List.length_replicate];omega) (by rw [List.length_replicate];omega) (by rw [List.length_replicate];omega) (by rw [List.length_replicate];omega) (fun j hj=>by rw [List.getD_eq_getElem?_getD,List.getElem?_replicate,if_pos (by omega)];rfl)))
  refine Ev.bind core ?_
  generalize jL p (k + 1) f g (List.replicate (k + 1) 0) (List.replicate (k + 1) 0) = r
  cases r with
  | none=>exact Ev.neg (by simp [Aw]) (Ev.now _)
  | some r=>exact Ev.pos rfl (Ev.now _)
theorem AA (p : Int) (f g : List Int) (b : Int) (sf : Sm f.length) (sg : Sm g.length) : Ev (fun k=>aH.f k p f g b) (pz p f g b):=by
  have sf':=sf
  have sg':=sg
  unfold Sm at sf' sg'
  have hc:=xq p [f,g] (by simp [Sm]) (fun l hl=>by
    simp only [List.mem_cons,List.not_mem_nil,or_false] at hl
    rcases hl with rfl | rfl
    · exact sf
    · exact sg)
  simp only [List.all_cons,List.all_nil,Bool.and_true] at hc
  have two : ∀ x,Ev (fun k=>aH.j0 k p f g b 0 x true) (0,[],[],2):=fun x=>by
    refine Ev.step (fun n=>by rw [aH.j0]) (Ev.pos rfl ?_)
    refine Ev.step (fun n=>by rw [aH.j1]) ?_
    exact Ev.neg (by decide) (Ev.now _)
  have code : ∀ x c,c ≠ 0 → Ev (fun k=>aH.j0 k p f g b c x false) (0,[],[],c):=fun x c hc=>by
    refine Ev.step (fun n=>by rw [aH.j0]) (Ev.neg (by decide) ?_)
    refine Ev.step (fun n=>by rw [aH.j1]) ?_
    exact Ev.neg hc (Ev.now _)
  unfold aH.f pz
  refine Ev.bind hc ?_
  by_cases c1 : (jH p f && jH p g) = true
  case neg =>
    rw [if_neg c1,if_neg c1]
    exact Ev.neg (by decide) (code _ _ (by decide))
  rw [if_pos c1,if_pos c1]
  by_cases c2 : dD p = true
  case neg =>
    rw [Bool.eq_false_iff.2 c2,Bool.false_and]
    exact Ev.neg (by decide) (code _ _ (by decide))
  have hp:=dD.pm c2
  have h2:=hp.two
  have ht:=hp.top
  rw [c2,Bool.true_and,if_pos rfl]
  have w1 : wrap64 ((f.length : Int) - 1) = (f.length : Int) - 1:=bQ (by omega) (by omega)
  rw [w1]
  refine Ev.pos rfl ?_
  by_cases c3 : rP p b f g
  · obtain ⟨k,k1,k2,mf,mg⟩:=c3.mon
    simp only [Bool.and_eq_true] at c1
    have pf:=jH.pl c1.1
    have pg:=jH.pl c1.2
    have hb:=c3.1
    have lf:=mf.1
    rw [decide_eq_true c3,if_pos rfl,k1,show (f.length : Int) - 1 = ((k + 1 : Nat) : Int) from by omega,nT (i:=k + 1) (by omega) (by omega),Nat.add_sub_cancel]
    refine Ev.neg (by omega) (Ev.neg (by omega) (Ev.dx (nD f (k + 1) (by omega)) (Ev.pos (decide_eq_true mf) (Ev.dx (nD g k (by omega)) (Ev.pos (decide_eq_true mg) (Ev.dx (rJ _ _ _) ?_))))))
    rw [bQ (x:=p - 1) (by omega) (by omega),decide_eq_true (show 1 ≤ b∧b ≤ p - 1 from by omega)]
    refine Ev.step (fun n=>by rw [aH.j0]) (Ev.neg (by decide) ?_)
    refine Ev.step (fun n=>by rw [aH.j1]) ?_
    rw [eT,nT (i:=k + 1) (by omega) (by omega),Nat.add_sub_cancel]
    refine Ev.pos rfl (Ev.pos (by omega) (Ev.pos (by omega) (Ev.dx rfl (Ev.pos (by rw [List.length_replicate];omega) ?_))))
    exact Az c2 k f g _ _ pf.1 pg.1 mf mg k2 (by rw [List.length_replicate];omega) (by rw [List.length_set,List.length_replicate];omega) (by rw [List.length_replicate];omega) (by rw [List.length_set,List.length_replicate];omega)
  · rw [decide_eq_false c3,if_neg (by decide)]
    by_cases d1 : (f.length : Int) - 1 < 1
    · exact Ev.pos d1 (two _)
    refine Ev.neg d1 ?_
    by_cases d2 : (f.length : Int) - 1 > 12
    · exact Ev.pos d2 (two _)
    refine Ev.neg d2 ?_
    obtain ⟨n,hn⟩ : ∃ n : Nat,f.length = n + 2:=⟨f.length - 2,by omega⟩
    rw [show (f.length : Int) - 1 = ((n + 1 : Nat) : Int) from by omega,nT (i:=n + 1) (by omega) (by omega),Nat.add_sub_cancel]
    refine Ev.dx (nD f (n + 1) (by omega)) ?_
    by_cases d3 : f.length = n + 1 + 1∧f.getD (n + 1) 0 = 1
    case neg=>exact Ev.neg (by simpa using d3) (two _)
    refine Ev.pos (decide_eq_true d3) (Ev.dx (nD g n (by omega)) ?_)
    by_cases d4 : g.length = n + 1∧g.getD n 0 = 1
    case neg=>exact Ev.neg (by simpa using d4) (two _)
    refine Ev.pos (decide_eq_true d4) (Ev.dx (rJ _ _ _) ?_)
    rw [bQ (x:=p - 1) (by omega) (by omega),decide_eq_false (show ¬ (1 ≤ b∧b ≤ p - 1) from fun h=>c3 ⟨by omega,⟨by omega,by omega,by rw [show f.length - 1 = n + 1 from by omega];exact d3.2⟩,by omega,by rw [show g.length - 1 = n from by omega];exact d4.2⟩)]
    exact two _
/- The draws of FnFoundData. -/
open Go Go.RowKit Go.Proofs.YtknppcledhnkoaaW.PrintWords Go.Proofs.YtknppcledhnkoaaW.PrintLast Go.Proofs.YtknppcledhnkoaaW.PrintMore
section
variable {c : List Int} {i : Int}
theorem Dp (c : List Int) (j h : Int) (d : Nat) : ∀ o : List Int,o.length + d = 26 ∨ d = 0∧26 ≤ o.length → o.length ≤ 200 → Ex (fun k=>gy.l0 k o c j h) (fun r=>r.2.1 = j∧r.1.length ≤ 201):=by
  induction d with
  | zero =>
    intro o ho hl
    refine Ex.step (fun k=>by rw [gy.l0]) ?_
    exact Ex.neg (by omega) (Ex.now ⟨rfl,by dsimp only;omega⟩)
  | succ d ih =>
    intro o ho hl
    refine Ex.step (fun k=>by rw [gy.l0]) ?_
    exact Ex.pos (by omega) (Ex.pos (by omega) (ih _ (by simp;omega) (by simp;omega)))
theorem G5 (s : St c i) (h p : Int) (l : List Int) (hl : l.length ≤ 200) : Ex (fun k=>gy.f k c i h p l) (fun r=>St c r.2.1∧r.1.length ≤ 201):=by
  unfold gy.f
  refine Ex.bind (jI s h 40) (fun r hr=>?_)
  have own : Ex (fun _=>dA.f l) (fun y=>y = l):=Ex.eq (mZ l (by unfold Sm;omega)) rfl
  refine Ex.ite (fun _=>?_) (fun _=>?_)
  · refine Ex.bind own (fun y hy=>?_)
    subst hy
    exact Ex.pos (by omega) (Ex.now ⟨hr.1,by simp;omega⟩)
  refine Ex.ite (fun _=>?_) (fun _=>?_)
  · refine Ex.bind own (fun y hy=>?_)
    subst hy
    exact Ex.bind (oO hr.1 _ _ (by simp)) (fun u hu=>Ex.pos (by omega) (Ex.now ⟨hu.1,by simp;omega⟩))
  refine Ex.ite (fun _=>?_) (fun _=>Ex.now ⟨hr.1,by dsimp only;omega⟩)
  refine Ex.bind own (fun y hy=>?_)
  subst hy
  have st:=hr.1
  by_cases g : y.length ≤ 25
  · exact Ex.weak (Dp c _ _ (26 - y.length) y (by omega) hl) (fun a ha=>⟨by rw [ha.1];exact st,ha.2⟩)
  · exact Ex.weak (Dp c _ _ 0 y (by omega) hl) (fun a ha=>⟨by rw [ha.1];exact st,ha.2⟩)
theorem JN (s : St c i) (h : Int) : Ex (fun _=>kN.f c i h) (fun r=>St c r.2.1):=by
  unfold kN.f
  refine Ex.bind (jI s h 24) (fun r hr=>Ex.ite (fun _=>?_) (fun _=>?_))
  · exact Ex.bind (oO hr.1 _ _ (by simp)) (fun u hu=>Ex.now hu.1)
  · exact Ex.bind (AB hr.1 _) (fun u hu=>Ex.now hu.1)
end
section
variable {c : List Int} (hb : ∀ x ∈ c,0 ≤ x∧x < 256) (hl : c.length ≤ 4096)
include hb hl
theorem AC : Ex (fun k=>fG.f k c) (fun r=>Sm r.2.1.length∧Sm r.2.2.length):=by
  unfold fG.f
  refine Ex.bind (sU hb hl) (fun a ha=>?_)
  obtain ⟨e,st⟩:=ha
  rw [e]
  exact Ex.bind (uq st _) (fun b hb=>Ex.now hb.1.sm)
theorem AJ : Ex (fun k=>cK.f k c) (fun r=>Sm r.2.1.length∧Sm r.2.2.1.length):=by
  unfold cK.f
  refine Ex.bind (sU hb hl) (fun a ha=>?_)
  obtain ⟨e,st⟩:=ha
  rw [e]
  exact Ex.bind (uq st _) (fun b hb=>Ex.bind (pV hb.2 _ _) (fun d hd=>Ex.bind (pV hd _ _) (fun _ _=>Ex.now hb.1.sm)))
theorem AL : Ex (fun k=>iw.f k c) (fun r=>Sm r.2.1.length∧Sm r.2.2.1.length):=by
  unfold iw.f
  refine Ex.bind (sU hb hl) (fun a ha=>?_)
  obtain ⟨e,st⟩:=ha
  rw [e]
  exact Ex.bind (AO st _) (fun b hb=>Ex.now hb.sm)
theorem xx : Ex (fun k=>gu.f k c) (fun r=>Sm r.2.1.length∧Sm r.2.2.1.length):=by
  unfold gu.f
  refine Ex.bind (sU hb hl) (fun a ha=>?_)
  obtain ⟨e,st⟩:=ha
  rw [e]
  exact Ex.bind (AO st _) (fun b hb=>Ex.now hb.sm)
theorem AP : Ex (fun k=>bN.f k c) (fun r=>Sm r.2.1.length∧Sm r.2.2.1.length):=by
  unfold bN.f
  refine Ex.bind (sU hb hl) (fun a ha=>?_)
  obtain ⟨e,st⟩:=ha
  rw [e]
  refine Ex.bind (AQ st _) (fun b hb=>?_)
  obtain ⟨⟨hq,h1,h2,h3,h4⟩,hs⟩:=hb
  have hp:=dD.pm hq
  have p2:=hp.two
  have l1:=(jG hp b.2.1 b.2.2.1 b.2.1.length).2.2
  have l2:=(jG hp b.2.1 b.2.2.1 (b.2.1.length - 1)).2.2
  rw [nT (i:=b.2.1.length) (by omega) (by omega)]
  refine Ex.bind (P:=fun y=>y = (dH b.1 b.2.1 b.2.2.1 b.2.1.length).2) ⟨_,rM hp _ _ h3 h4 _ (Nat.le_refl _) h1.2 h2,rfl⟩ (fun y hy=>?_)
  subst hy
  refine Ex.bind (P:=fun y=>y = (dH b.1 b.2.1 b.2.2.1 (b.2.1.length - 1)).2) ⟨_,rM hp _ _ h3 h4 _ (by omega) h1.2 h2,rfl⟩ (fun y hy=>?_)
  subst hy
  refine Ex.bind (jI hs _ 10) (fun d hd=>?_)
  refine Ex.ite (fun _=>?_) (fun _=>?_)
  · refine Ex.bind (AR hp hd.1 _ (b.2.1.length - 1) (by omega)) (fun t ht=>Ex.pos (by have:=ht.2.1;omega) ?_)
    have tl:=ht.2.1
    refine Ex.bind (P:=fun y=>y = oK b.1 (t.1 ++ [1])) ⟨_,sS hq (ht.2.2.append ((Nm.nil _).cons (by omega) (by omega))) (by simp [Sm];omega) (by simp),rfl⟩ (fun y hy=>?_)
    refine Ex.bind (pV ht.1 _ _) (fun _ _=>Ex.now ⟨by dsimp only;unfold Sm;omega,?_⟩)
    have:=qy b.1 [] (t.1 ++ [1]) (oV b.1 ((t.1 ++ [1]).getD ((t.1 ++ [1]).length - 1) 0))
    simp only [List.length_append,List.length_singleton,List.length_nil] at this
    rw [hy]
    show Sm (nU _ _ _ _).length
    simp only [List.length_append,List.length_singleton]
    unfold Sm
    omega
  refine Ex.ite (fun _=>?_) (fun _=>?_)
  · exact Ex.bind (uE hd.1 _ _ 5 (by omega)) (fun t ht=>Ex.bind (uE ht.1 _ _ 4 (by omega)) (fun u hu=>Ex.bind (pV hu.1 _ _) (fun _ _=>Ex.now ⟨by have:=ht.2;dsimp only;unfold Sm;omega,by have:=hu.2;dsimp only;unfold Sm;omega⟩)))
  refine Ex.ite (fun _=>?_) (fun _=>?_)
  · exact Ex.bind (G5 hd.1 _ _ _ (by omega)) (fun t ht=>Ex.bind (JN ht.1 _) (fun u hu=>Ex.bind (pV hu _ _) (fun _ _=>Ex.now ⟨by have:=ht.2;dsimp only;unfold Sm;omega,by dsimp only;unfold Sm;omega⟩)))
  · exact Ex.bind (pV hd.1 _ _) (fun _ _=>Ex.now ⟨by dsimp only;unfold Sm;omega,by dsimp only;unfold Sm;omega⟩)
end
/- Plain facts of FnFoundData: reversed data, data that are found. Conditions: valid data. -/
theorem nM (p : Int) {a b : List Int} (ha : Sm a.length) (hb : Sm b.length) : Ev (fun k=>fT.f k p a b p a b) true:=by
  unfold fT.f
  exact Ev.pos rfl (Ev.bind (sI a ha) (Ev.pos rfl (Ev.bind (sI b hb) (Ev.now _))))
def rA (b : List Int) : List Int:=b.getD 0 0 :: (b.drop 1).reverse
theorem AU {b : List Int} (h : 0 < b.length) : (rA b).length = b.length:=by
  rw [rA,List.length_cons,List.length_reverse,List.length_drop];omega
theorem FQ {b : List Int} (h : 0 < b.length) {x : Int} (hx : x ∈ rA b) : x ∈ b:=by
  rcases List.mem_cons.1 hx with rfl | hx
  · exact pq h
  · exact List.mem_of_mem_drop (List.mem_reverse.1 hx)
theorem Ep {b : List Int} (h : 0 < b.length) : rA (rA b) = b:=by
  unfold rA
  rw [show (b.getD 0 0 :: (b.drop 1).reverse).getD 0 0 = b.getD 0 0 from rfl,show (b.getD 0 0 :: (b.drop 1).reverse).drop 1 = (b.drop 1).reverse from rfl,List.reverse_reverse,← rW h]
  rfl
theorem rQ {a : List Int} {i : Nat} (h : i < a.length) : a.reverse.getD i 0 = a.getD (a.length - 1 - i) 0:=by
  rw [kP (by rw [List.length_reverse];exact h),List.getElem_reverse,kP (by omega)]
theorem FR {b : List Int} {i : Nat} (h1 : 1 ≤ i) (h : i < b.length) : (rA b).getD i 0 = b.getD (b.length - i) 0:=by
  obtain ⟨j,rfl⟩ : ∃ j,i = j + 1:=⟨i - 1,by omega⟩
  show ((b.drop 1).reverse).getD j 0 = _
  have hl : (b.drop 1).length = b.length - 1:=List.length_drop ..
  rw [rQ (by omega),kP (by omega),List.getElem_drop,kP (by omega)]
  congr 1
  omega
theorem G6 {p : Int} {a b : List Int} (h : iI p a b = true) : iI p a.reverse (rA b) = true:=by
  obtain ⟨⟨⟨h4,h5⟩,h6⟩,h7,h8⟩:=iI.all h
  have hq:=iI.o7 h
  simp only [iI,hq,Bool.true_and,decide_eq_true_eq]
  refine ⟨⟨by rw [List.length_reverse];omega,by rw [List.length_reverse,AU (by omega)];exact h6⟩,fun x hx=>h7 x (List.mem_reverse.1 hx),fun x hx=>h8 x (FQ (by omega) hx)⟩
theorem FT {p : Int} {a b : List Int} (h : iI p a b = true) : (dH p a.reverse (rA b) a.length).2 = (dH p a b a.length).2:=by
  obtain ⟨⟨⟨h4,h5⟩,h6⟩,h7,h8⟩:=iI.all h
  have hp:=iI.pm h
  haveI:=nez hp
  have n1:=(jG hp a.reverse (rA b) a.length).1.2
  have n2:=(jG hp a b a.length).1.2
  refine vL hp n1 n2 (Mon.pl n1 (o9 hp _ _ _)).2 (Mon.pl n2 (o9 hp _ _ _)).2 fun k=>?_
  rw [(xI hp _ _ _).1,(xI hp _ _ _).1]
  have:=(G7 (cf p.toNat a) (cf p.toNat b) (cf p.toNat a.reverse) (cf p.toNat (rA b)) a.length (fun i hi=>by
    unfold cf;rw [rQ hi]) (fun i h1 hi=>by
    unfold cf;rw [FR h1 (by omega),h6]) a.length (Nat.le_refl _)).1
  rw [this,Nat.sub_self]
theorem AV {p : Int} {a b : List Int} (h : iI p a b = true) : pz p (dH p a b a.length).2 (dH p a b (a.length - 1)).2 (b.getD 0 0) = (p,a,b,0):=by
  obtain ⟨⟨⟨h4,h5⟩,h6⟩,h7,h8⟩:=iI.all h
  have hq:=iI.o7 h
  have hp:=iI.pm h
  obtain ⟨k,hk⟩ : ∃ k,a.length = k + 1:=⟨a.length - 1,by omega⟩
  have m1:=o9 hp a b (k + 1)
  have m2:=o9 hp a b k
  have hb : ∀ j,j < b.length → 1 ≤ b.getD j 0∧b.getD j 0 < p:=fun j hj=>h8 _ (pq hj)
  rw [hk,Nat.add_sub_cancel]
  have R : rP p (b.getD 0 0) (dH p a b (k + 1)).2 (dH p a b k).2:=by
    have e1:=m1.1
    have e2:=m2.1
    exact ⟨hb 0 (by omega),⟨by omega,by omega,by rw [e1,Nat.add_sub_cancel];exact m1.2⟩,by omega,by rw [e2,Nat.add_sub_cancel];exact m2.2⟩
  obtain ⟨a',b',f1,f2,f3,f4,f5,f6⟩:=BF hq h7 (fun j _ hj=>hb j hj) h6 k (by omega) (List.replicate (k + 1) 0) ((List.replicate (k + 1) 0).set 0 (b.getD 0 0)) (by rw [List.length_replicate];omega) (by rw [List.length_set,List.length_replicate];omega)
  have e1 : a' = a:=zD f2 fun i hi=>f4 i (by omega)
  have e2 : b' = b:=zD f3 fun i hi=>by
    by_cases c : i = 0
    · rw [c,f6,iL (by rw [List.length_replicate];omega)]
    · exact f5 i (by omega) (by omega)
  unfold pz
  rw [xQ (jG hp a b (k + 1)).1.2 m1 (by omega),xQ (jG hp a b k).1.2 m2 (by omega),hq,decide_eq_true R,m1.1,Nat.add_sub_cancel,f1,e1,e2]
  rfl
theorem Er {p : Int} {f g : List Int} {b : Int} (h : (pz p f g b).2.2.2 = 0) : ∃ a' b',pz p f g b = (p,a',b',0)∧iI p a' b' = true∧(dH p a' b' a'.length).2 = f∧(dH p a' b' (a'.length - 1)).2 = g:=by
  unfold pz at h ⊢
  by_cases c1 : (jH p f && jH p g) = true
  case neg=>rw [if_neg c1] at h;exact absurd h (show (1 : Int) ≠ 0 by decide)
  rw [if_pos c1] at h ⊢
  by_cases c2 : (dD p && decide (rP p b f g)) = true
  case neg=>rw [if_neg c2] at h;exact absurd h (show (2 : Int) ≠ 0 by decide)
  rw [if_pos c2] at h ⊢
  simp only [Bool.and_eq_true,decide_eq_true_eq] at c1 c2
  obtain ⟨k,k1,k2,mf,mg⟩:=c2.2.mon
  have pf:=jH.pl c1.1
  have pg:=jH.pl c1.2
  rw [k1] at h ⊢
  cases e : jL p (k + 1) f g (List.replicate (k + 1) 0) ((List.replicate (k + 1) 0).set 0 b) with
  | none=>rw [e] at h;exact absurd h (show (5 : Int) ≠ 0 by decide)
  | some r =>
    obtain ⟨a',b'⟩:=r
    obtain ⟨s1,s2,s3,s4⟩:=BD c2.1 k f g _ _ a' b' pf.1 pg.1 mf mg (by rw [List.length_replicate];omega) (by rw [List.length_set,List.length_replicate];omega) e
    obtain ⟨l1,l2,_⟩:=rU p (k + 1) _ _ _ _ _ _ e
    rw [List.length_replicate] at l1
    rw [List.length_set,List.length_replicate] at l2
    have mem : ∀ (l : List Int) (x : Int),x ∈ l → ∃ j,j < l.length∧l.getD j 0 = x:=fun l x hx=>by
      obtain ⟨j,hj,e⟩:=List.getElem_of_mem hx
      exact ⟨j,hj,by rw [kP hj];exact e⟩
    refine ⟨a',b',rfl,?_,by rw [l1,s1],by rw [l1,Nat.add_sub_cancel,show (dH p a' b' k).2 = (dH p a' b' (k + 1)).1 from rfl,s1]⟩
    simp only [iI,c2.1,Bool.true_and,decide_eq_true_eq]
    refine ⟨⟨by omega,by omega⟩,fun x hx=>?_,fun x hx=>?_⟩
    · obtain ⟨j,hj,rfl⟩:=mem _ _ hx
      exact s2 j (by omega)
    · obtain ⟨j,hj,rfl⟩:=mem _ _ hx
      by_cases c : j = 0
      · rw [c,s4,iL (by rw [List.length_replicate];omega)]
        exact c2.2.1
      · exact s3 j (by omega) (by omega)
end Go.Proofs.Ytknppcledhnkoaa.Pr
