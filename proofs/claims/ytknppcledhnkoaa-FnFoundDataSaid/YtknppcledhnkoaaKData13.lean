/- Texts of this session in one: what functions of the program compute, and plain facts of it, under the conditions that each theorem names. -/
import Derived.Test.YtknppcledhnkoaaKData1
import Derived.Test.YtknppcledhnkoaaKData12
import Derived.Test.YtknppcledhnkoaaKData3
import Derived.Test.YtknppcledhnkoaaKData4
import Derived.Test.YtknppcledhnkoaaKData7
import Derived.Test.YtknppcledhnkoaaKData8
import Derived.Test.YtknppcledhnkoaaKData9
namespace Go.Proofs.Ytknppcledhnkoaa.Pr
/- Polynomials and functionals over the numbers modulo p; conditions: p in the program's range. -/
open Go.RowKit Go.Proofs.YtknppcledhnkoaaW.PrintWords Go.Proofs.YtknppcledhnkoaaW.PrintLast Go.Proofs.YtknppcledhnkoaaW.PrintMore
theorem nez {p : Int} (hp : Pm p) : NeZero p.toNat:=⟨by have:=hp.two;omega⟩
theorem Pm.cast {p : Int} (hp : Pm p) : ((p.toNat : Nat) : Int) = p:=by have:=hp.two;omega
section
variable {p : Int} [NeZero p.toNat] (hp : Pm p)
include hp
theorem iH (x : Int) : fz p.toNat (x % p) = fz p.toNat x:=by
  have h:=Jp (P:=p.toNat) x
  rwa [hp.cast] at h
theorem mI {x : Int} (h : 0 ≤ x∧x < p) (h0 : fz p.toNat x = 0) : x = 0:=by
  have h1:=xG.1 h0
  rwa [hp.cast,Int.emod_eq_of_lt h.1 h.2] at h1
theorem tL {x y : Int} (hx : 0 ≤ x∧x < p) (hy : 0 ≤ y∧y < p) (h : fz p.toNat x = fz p.toNat y) : x = y:=by
  have h1:=vK.1 h
  rwa [hp.cast,Int.emod_eq_of_lt hx.1 hx.2,Int.emod_eq_of_lt hy.1 hy.2] at h1
theorem GH (f g : List Int) (k : Nat) : cf p.toNat (kV p f g) k = sF (fun t=>cf p.toNat f t * fz p.toNat (sh g t k)) f.length:=by
  unfold cf
  rw [EG hp.pos,iH hp,Jq]
  exact oz _ fun t _=>lX _ _
omit hp in
theorem EH (f : List Int) (i : Nat) : fz p.toNat (sh f 0 i) = cf p.toNat f i:=by rw [sh,if_pos (Nat.zero_le _)];rfl
omit hp in
theorem EI (f : List Int) (i : Nat) : fz p.toNat (sh f 1 i) = xs (cf p.toNat f) i:=by
  cases i with
  | zero=>rw [sh,if_neg (by omega)];exact kE
  | succ i=>rw [sh,if_pos (by omega)];rfl
theorem zw (c : Int) (f : List Int) (i : Nat) : cf p.toNat (kV p [c,1] f) i = fz p.toNat c * cf p.toNat f i + xs (cf p.toNat f) i:=by
  rw [GH hp]
  show (0 : Fin p.toNat) + cf p.toNat [c,1] 0 * fz p.toNat (sh f 0 i) + cf p.toNat [c,1] 1 * fz p.toNat (sh f 1 i) = _
  rw [EH,EI,show cf p.toNat [c,1] 0 = fz p.toNat c from rfl,show cf p.toNat [c,1] 1 = fz p.toNat 1 from rfl,kJ]
  grind
omit hp in
end
/- Coefficients of sums and of a recurrence's next polynomial, over the numbers modulo p: plain; condition: p in range. -/
section
variable {p : Int} [NeZero p.toNat] (hp : Pm p)
include hp
theorem uP {f : List Int} (g : List Int) (k : Int) (hf : Nm p f) (i : Nat) : cf p.toNat (nU p f g k) i = cf p.toNat f i + fz p.toNat k * cf p.toNat g i:=by
  unfold cf
  rw [EJ hp.pos g k hf,iH hp,oU,lX]
theorem qx (a b : Int) (f g : List Int) (i : Nat) : cf p.toNat (mG p a b f g) i = xs (cf p.toNat f) i - fz p.toNat a * cf p.toNat f i - fz p.toNat b * cf p.toNat g i:=by
  unfold mG
  rw [uP hp _ _ (qN hp.pos _ _),zw hp,iH hp,iH hp,mY,mY]
  grind
end
/- Products of sequences of numbers modulo p: plain; no condition. -/
section
variable {P : Nat} [NeZero P]
end
section
variable {p : Int} [NeZero p.toNat] (hp : Pm p)
include hp
/-- Lists of numbers modulo p without noughts at their ends are told by their numbers. -/
theorem vL {f g : List Int} (nf : Nm p f) (ng : Nm p g) (tf : jr f = f) (tg : jr g = g) (h : ∀ k,cf p.toNat f k = cf p.toNat g k) : f = g:=by
  rw [← tf,← tg]
  exact vM fun k=>tL hp (nf.oJ hp.pos k) (ng.oJ hp.pos k) (h k)
end
/- Division of polynomials modulo p: plain; conditions: p a o7, the divisor's last number is not 0. -/
/-- Quotients from place i - 1 on down: the quotient and the rest. -/
def mW (p v : Int) (g : List Int) : Nat → List Int → List Int → List Int × List Int
  | 0,r,o=>(o,r)
  | i + 1,r,o=>mW p v g i (jN p (-(r.getD (i + g.length - 1) 0 * v % p)) g i g.length 0 r) (o.set i (r.getD (i + g.length - 1) 0 * v % p))
def fH (p : Int) (f g : List Int) : List Int × List Int :=
  if f.length < g.length then ([],f) else ((mW p (oV p (g.getD (g.length - 1) 0)) g (f.length - g.length + 1) f (List.replicate (f.length - g.length + 1) 0)).1,jr (mW p (oV p (g.getD (g.length - 1) 0)) g (f.length - g.length + 1) f (List.replicate (f.length - g.length + 1) 0)).2)
section
variable {p : Int} (hp : Pm p)
include hp
theorem EK (v : Int) (g : List Int) (d : Nat) : ∀ (r o : List Int),Nm p r → Nm p o → (mW p v g d r o).2.length = r.length∧(mW p v g d r o).1.length = o.length∧Nm p (mW p v g d r o).2∧Nm p (mW p v g d r o).1:=by
  induction d with
  | zero=>intro r o hr ho;exact ⟨rfl,rfl,hr,ho⟩
  | succ d ih =>
    intro r o hr ho
    have hb:=iD hp.pos (r.getD (d + g.length - 1) 0 * v)
    have h:=ih (jN p (-(r.getD (d + g.length - 1) 0 * v % p)) g d g.length 0 r) (o.set d (r.getD (d + g.length - 1) 0 * v % p)) (oC hp.pos _ _ _ _ _ _ hr) (ho.set hb.1 hb.2 _)
    rw [ku,List.length_set] at h
    exact h
omit hp in
theorem BC (v : Int) (g : List Int) (d : Nat) : ∀ (r o : List Int) (j : Nat),d ≤ j → (mW p v g d r o).1.getD j 0 = o.getD j 0:=by
  induction d with
  | zero=>intro r o j _;rfl
  | succ d ih=>intro r o j hj;rw [mW,ih _ _ j (by omega),getD_set_ne (by omega)]
theorem zx [NeZero p.toNat] {v : Int} {g : List Int} (hg : 0 < g.length) (hv : fz p.toNat (g.getD (g.length - 1) 0) * fz p.toNat v = 1) (d : Nat) : ∀ (r o : List Int),Nm p r → d ≤ o.length → d + g.length ≤ r.length + 1 →
    (∀ k,cf p.toNat r k = sF (fun t=>cf p.toNat (mW p v g d r o).1 t * fz p.toNat (sh g t k)) d + cf p.toNat (mW p v g d r o).2 k) ∧
    ((∀ k,d + g.length ≤ k + 1 → cf p.toNat r k = 0) → ∀ k,g.length ≤ k + 1 → cf p.toNat (mW p v g d r o).2 k = 0):=by
  induction d with
  | zero =>
    intro r o _ _ _
    refine ⟨fun k=>by simp only [sF,mW];grind,fun h k hk=>h k (by omega)⟩
  | succ d ih =>
    intro r o nr ho hr
    obtain ⟨c,hc⟩ : ∃ c,r.getD (d + g.length - 1) 0 * v % p = c:=⟨_,rfl⟩
    rw [mW,hc]
    have e1 : ∀ k,cf p.toNat (jN p (-c) g d g.length 0 r) k = cf p.toNat r k - fz p.toNat c * fz p.toNat (sh g d k):=fun k=>by
      unfold cf
      rw [zy hp.pos _ _ _ _ (by omega) nr,iH hp,oU,lX,mY]
      grind
    have ec : fz p.toNat c = cf p.toNat r (d + g.length - 1) * fz p.toNat v:=by rw [← hc,iH hp,lX];rfl
    obtain ⟨I1,I2⟩:=ih (jN p (-c) g d g.length 0 r) (o.set d c) (oC hp.pos _ _ _ _ _ _ nr) (by rw [List.length_set];omega) (by rw [ku];omega)
    have ek : cf p.toNat (mW p v g d (jN p (-c) g d g.length 0 r) (o.set d c)).1 d = fz p.toNat c:=by
      unfold cf
      rw [BC v g d _ _ d (Nat.le_refl d),iL (by omega)]
    refine ⟨fun k=>?_,fun hz k hk=>I2 (fun k hk=>?_) k hk⟩
    · have:=I1 k
      rw [e1] at this
      rw [sF,ek]
      grind
    · rw [e1]
      by_cases c1 : k = d + g.length - 1
      · have : fz p.toNat (sh g d k) = fz p.toNat (g.getD (g.length - 1) 0):=by rw [sh,if_pos (by omega),show k - d = g.length - 1 from by omega]
        rw [this,ec,c1]
        grind
      · rw [hz k (by omega),EL (by omega),kE]
        grind
end
section
variable {p : Int} (hq : dD p = true) {f g : List Int} (nf : Nm p f) (ng : Nm p g) (hg : 0 < g.length) (hl : g.getD (g.length - 1) 0 ≠ 0)
include hq ng hg hl
omit hg in
theorem vN [NeZero p.toNat] : fz p.toNat (g.getD (g.length - 1) 0) * fz p.toNat (oV p (g.getD (g.length - 1) 0)) = 1:=by
  have hp:=dD.pm hq
  exact yw hq (ng.oJ hp.pos _) (fun k=>hl (mI hp (ng.oJ hp.pos _) k))
include nf
theorem su : Nm p (fH p f g).1∧Nm p (fH p f g).2∧(fH p f g).1.length = (if f.length < g.length then 0 else f.length - g.length + 1)∧(fH p f g).2.length < g.length∧jr (fH p f g).2 = (if f.length < g.length then jr f else (fH p f g).2):=by
  have hp:=dD.pm hq
  haveI:=nez hp
  unfold fH
  by_cases h : f.length < g.length
  · rw [if_pos h,if_pos h,if_pos h]
    exact ⟨Nm.nil p,nf,rfl,h,rfl⟩
  · rw [if_neg h,if_neg h,if_neg h]
    have ok:=EK hp (oV p (g.getD (g.length - 1) 0)) g (f.length - g.length + 1) f (List.replicate (f.length - g.length + 1) 0) nf (Nm.zeros hp.pos _)
    have eq:=zx hp hg (vN hq ng hl) (f.length - g.length + 1) f (List.replicate (f.length - g.length + 1) 0) nf (by simp) (by omega)
    refine ⟨ok.2.2.2,ok.2.2.1.jr,by rw [ok.2.1,List.length_replicate],?_,vM fun k=>by rw [nI]⟩
    have z:=eq.2 (fun k hk=>lY (by omega))
    generalize (mW p (oV p (g.getD (g.length - 1) 0)) g (f.length - g.length + 1) f (List.replicate (f.length - g.length + 1) 0)).2 = r at *
    show (jr r).length < g.length
    apply Decidable.byContradiction
    intro hn
    have h1:=qO _ r rfl (by omega)
    rw [nI] at h1
    exact h1 (mI hp (ok.2.2.1.oJ hp.pos _) (z _ (by omega)))
/-- f is the quotient times g, and the rest. -/
theorem CO [NeZero p.toNat] (k : Nat) : cf p.toNat f k = sF (fun t=>cf p.toNat (fH p f g).1 t * fz p.toNat (sh g t k)) (fH p f g).1.length + cf p.toNat (fH p f g).2 k:=by
  have hp:=dD.pm hq
  have hlen:=(su hq nf ng hg hl).2.2.1
  rw [hlen]
  unfold fH
  by_cases h : f.length < g.length
  · rw [if_pos h,if_pos h]
    simp only [sF]
    grind
  · rw [if_neg h,if_neg h]
    have eq:=zx hp hg (vN hq ng hl) (f.length - g.length + 1) f (List.replicate (f.length - g.length + 1) 0) nf (by simp) (by omega)
    rw [eq.1 k]
    congr 1
    unfold cf
    rw [nI]
/-- The quotient's highest number is not 0. -/
theorem zz (hf : f.getD (f.length - 1) 0 ≠ 0) : jr (fH p f g).1 = (fH p f g).1:=by
  have hp:=dD.pm hq
  haveI:=nez hp
  by_cases h : f.length < g.length
  · unfold fH;rw [if_pos h];rfl
  · have hlen:=(su hq nf ng hg hl).2.2.1
    rw [if_neg h] at hlen
    have hr:=(su hq nf ng hg hl).2.2.2.1
    refine uS hlen fun hz=>hf (mI hp (nf.oJ hp.pos _) ?_)
    show cf p.toNat f (f.length - 1) = 0
    rw [CO hq nf ng hg hl,hlen,lY (f:=(fH p f g).2) (by omega),sF,yx (f.length - g.length) (fun t ht=>by rw [EL (by omega),kE];grind)]
    have : cf p.toNat (fH p f g).1 (f.length - g.length) = 0:=by unfold cf;rw [hz,kE]
    rw [this]
    grind
end
/- Quotients of divisions one behind the other, their convergents: the last one is the quotient. Conditions: p a o7, polynomials without noughts at their ends. -/
section
variable {p : Int} [NeZero p.toNat] (hp : Pm p)
include hp
end
/-- Rests: no noughts at the end. -/
def Pl (p : Int) (f : List Int) : Prop:=Nm p f∧jr f = f
theorem Pl.last {p : Int} {f : List Int} (h : Pl p f) (hf : 0 < f.length) : f.getD (f.length - 1) 0 ≠ 0:=by
  have h1:=qO _ f rfl (by rw [h.2];exact hf)
  rwa [h.2] at h1
section
variable {p : Int} (hq : dD p = true)
include hq
theorem yz {f g : List Int} (hf : Pl p f) (hg : Pl p g) (h0 : 0 < g.length) : Pl p (fH p f g).2∧(fH p f g).2.length < g.length∧(f.length < g.length ∨ Pl p (fH p f g).1)∧Nm p (fH p f g).1:=by
  have h:=su hq hf.1 hg.1 h0 (hg.last h0)
  refine ⟨⟨h.2.1,?_⟩,h.2.2.2.1,?_,h.1⟩
  · rw [h.2.2.2.2]
    split
    · rename_i c
      rw [hf.2]
      unfold fH
      rw [if_pos c]
    · rfl
  · by_cases c : f.length < g.length
    · exact .inl c
    · exact .inr ⟨h.1,zz hq hf.1 hg.1 h0 (hg.last h0) (hf.last (by omega))⟩
variable [NeZero p.toNat]
end
/- Division of polynomials: the program's and the reference's come to the plain one. Conditions: p a o7, the divisor is not empty, no noughts at the ends. -/
section
variable {p : Int} (hp : Pm p) {g : List Int} (ng : Nm p g)
include hp ng
theorem EM {c : Int} (hc : 0 ≤ c∧c < p) {i : Nat} (v : Int) (o : List Int) (R : List Int × List Int) (d : Nat) : ∀ (j : Nat) (r : List Int),j + d = g.length → i + g.length ≤ r.length → Nm p r → Sm r.length →
    Ev (fun n=>aZ.l0 n p g (jN p (-c) g i d j r) (g.length : Int) o v (wrap64 ((i : Int) - 1))) R →
    Ev (fun n=>aZ.l1 n p g r (g.length : Int) o v (i : Int) c (j : Int)) R:=by
  induction d with
  | zero =>
    intro j r hj hl hr hs e
    refine Ev.step (fun n=>by rw [aZ.l1]) ?_
    exact Ev.neg (by omega) e
  | succ d ih =>
    intro j r hj hl hr hs e
    have h1:=hr.get (i:=i + j) (by omega)
    have h2:=ng.get (i:=j) (by omega)
    have h3:=rz hp hc.1 hc.2 h2.1 h2.2
    have ht:=hp.top
    have hm:=iD hp.pos (r.getD (i + j) 0 + -c * g.getD j 0)
    have hs':=hs
    unfold Sm at hs'
    have hw : wrap64 ((i : Int) + (j : Int)) = ((i + j : Nat) : Int):=Jr (n:=r.length) (by omega) (by omega)
    refine Ev.step (fun n=>by rw [aZ.l1]) ?_
    rw [hw]
    have c1 : (j : Int) < (g.length : Int):=by clear h1 h2 h3 hm hw e;omega
    have c2 : (0 : Int) ≤ (j : Int):=by clear h1 h2 h3 hm hw e;omega
    have c3 : (0 : Int) ≤ ((i + j : Nat) : Int):=by clear h1 h2 h3 hm hw e;omega
    have c4 : ((i + j : Nat) : Int) < (r.length : Int):=by clear h1 h2 h3 hm hw e;omega
    refine Ev.pos c1 (Ev.pos c3 (Ev.pos c4 (Ev.pos c2 (Ev.pos c1 ?_))))
    rw [fw,fw,bQ (x:=c * g.getD j 0) (by omega) (by omega),bQ (by omega) (by omega)]
    refine Ev.dx (pG hp _) ?_
    rw [lT (i:=j) (n:=g.length) (by clear h1 h2 h3 hm hw e;omega) (by clear h1 h2 h3 hm hw e;omega),eT,show r.getD (i + j) 0 - c * g.getD j 0 = r.getD (i + j) 0 + -c * g.getD j 0 from by rw [Int.neg_mul,Int.sub_eq_add_neg]]
    exact ih (j + 1) _ (by clear h1 h2 h3 hm hw e;omega) (by rw [List.length_set];clear h1 h2 h3 hm hw e;omega) (hr.set hm.1 hm.2 _) (by rw [List.length_set];exact hs) e
theorem DF (g0 : 0 < g.length) {v : Int} (hv : 0 ≤ v∧v < p) (d : Nat) : ∀ r o : List Int,d ≤ o.length → d + g.length ≤ r.length + 1 → Nm p r → Sm r.length → Sm o.length →
    Ev (fun n=>aZ.l0 n p g r (g.length : Int) o v ((d : Int) - 1)) (jr (mW p v g d r o).1,jr (mW p v g d r o).2):=by
  induction d with
  | zero =>
    intro r o _ _ _ hs so
    refine Ev.step (fun n=>by rw [aZ.l0]) ?_
    exact Ev.neg (by omega) (Ev.bind (nJ o so) (Ev.bind (nJ r hs) (Ev.now _)))
  | succ d ih =>
    intro r o ho hr nr sr so
    have sr':=sr
    have so':=so
    unfold Sm at sr' so'
    have e0 : ((d + 1 : Nat) : Int) - 1 = (d : Int):=by omega
    have e1 : wrap64 (wrap64 ((d : Int) + (g.length : Int)) - 1) = ((d + g.length - 1 : Nat) : Int):=by
      rw [bQ (x:=(d : Int) + (g.length : Int)) (by omega) (by omega),bQ (by omega) (by omega)];omega
    have hc:=iD hp.pos (r.getD (d + g.length - 1) 0 * v)
    have h1:=nr.oJ hp.pos (d + g.length - 1)
    have h3:=rz hp h1.1 h1.2 hv.1 hv.2
    refine Ev.step (fun n=>by rw [aZ.l0]) ?_
    rw [e0,e1,fw,eT,bQ (x:=r.getD (d + g.length - 1) 0 * v) (by omega) (by omega),iG h3.1]
    refine Ev.pos (by omega) (Ev.pos (by omega) (Ev.pos (by omega) (Ev.neg hp.ne (Ev.pos (by omega) (Ev.pos (by omega) ?_)))))
    refine EM hp ng hc v _ _ g.length 0 r (by omega) (by omega) nr sr ?_
    rw [bQ (by omega) (by omega)]
    exact ih _ _ (by rw [List.length_set];omega) (by rw [ku];omega) (oC hp.pos _ _ _ _ _ _ nr) (by rw [ku];exact sr) (by rw [List.length_set];exact so)
end
theorem rF {p : Int} (hq : dD p = true) {f g : List Int} (hf : Pl p f) (hg : Pl p g) (g0 : 0 < g.length) (sf : Sm f.length) (sg : Sm g.length) : Ev (fun k=>aZ.f k p f g) (fH p f g):=by
  have hp:=dD.pm hq
  haveI:=nez hp
  have sf':=sf
  have sg':=sg
  unfold Sm at sf' sg'
  have top : g.length ≤ f.length → jr (fH p f g).1 = (fH p f g).1:=fun h=>zz hq hf.1 hg.1 g0 (hg.last g0) (hf.last (by omega))
  unfold fH at top
  unfold aZ.f fH
  refine Ev.dx (mZ f sf) ?_
  by_cases h : f.length < g.length
  · rw [if_pos h]
    exact Ev.pos (by omega) (Ev.now _)
  · rw [if_neg h] at top ⊢
    have e : wrap64 (wrap64 ((f.length : Int) - (g.length : Int)) + 1) = ((f.length - g.length + 1 : Nat) : Int):=by
      rw [bQ (x:=(f.length : Int) - (g.length : Int)) (by omega) (by omega),bQ (by omega) (by omega)];omega
    have e1 : wrap64 ((f.length : Int) - (g.length : Int)) = ((f.length - g.length + 1 : Nat) : Int) - 1:=by rw [bQ (by omega) (by omega)];omega
    have e2 : wrap64 ((g.length : Int) - 1) = ((g.length - 1 : Nat) : Int):=nT g0 (by omega)
    rw [e,e1,e2,eT,fw]
    refine Ev.neg (by omega) (Ev.pos (by omega) (Ev.pos (by omega) (Ev.pos (by omega) (Ev.pos (by omega) (Ev.bind (vO hp (hg.1.oJ hp.pos _)) ?_)))))
    have r:=DF hp hg.1 g0 (yA hp (g.getD (g.length - 1) 0)) (f.length - g.length + 1) f (List.replicate (f.length - g.length + 1) 0) (by rw [List.length_replicate];omega) (by omega) hf.1 sf (by rw [List.length_replicate];unfold Sm;omega)
    have top:=top (by omega)
    dsimp only at top
    rw [top] at r
    exact r
/- Data found from two polynomials by divisions: plain. Conditions: p a o7, monic polynomials of degrees k + 1 and k. -/
def oK (p : Int) (r : List Int) : List Int:=nU p [] r (oV p (r.getD (r.length - 1) 0))
def jL (p : Int) : Nat → List Int → List Int → List Int → List Int → Option (List Int × List Int)
  | 0,_,_,a,b=>some (a,b)
  | 1,f,g,a,b=>some (a.set 0 ((-(fH p f g).1.getD 0 0) % p),b)
  | k + 2,f,g,a,b=>if (fH p f g).2.length = k + 1 then jL p (k + 1) g (oK p (fH p f g).2) (a.set (k + 1) ((-(fH p f g).1.getD 0 0) % p)) (b.set (k + 1) ((-(fH p f g).2.getD k 0) % p)) else none
theorem Mon.pl {p : Int} {f : List Int} {k : Nat} (n : Nm p f) (h : Mon f k) : Pl p f:=⟨n,uS h.1 (by rw [h.2];decide)⟩
theorem rU (p : Int) (k : Nat) : ∀ (f g a b a' b' : List Int),jL p k f g a b = some (a',b') → a'.length = a.length∧b'.length = b.length∧∀ j,k ≤ j → a'.getD j 0 = a.getD j 0∧b'.getD j 0 = b.getD j 0:=by
  induction k using Nat.strongRecOn with
  | ind k ih =>
    intro f g a b a' b' h
    match k,ih,h with
    | 0,_,h =>
      simp only [jL,Option.some.injEq,Prod.mk.injEq] at h
      obtain ⟨rfl,rfl⟩:=h
      exact ⟨rfl,rfl,fun _ _=>⟨rfl,rfl⟩⟩
    | 1,_,h =>
      simp only [jL,Option.some.injEq,Prod.mk.injEq] at h
      obtain ⟨rfl,rfl⟩:=h
      exact ⟨by rw [List.length_set],rfl,fun j hj=>⟨getD_set_ne (by omega),rfl⟩⟩
    | k + 2,ih,h =>
      rw [jL] at h
      split at h
      · obtain ⟨h1,h2,h3⟩:=ih (k + 1) (by omega) _ _ _ _ _ _ h
        rw [List.length_set] at h1 h2
        refine ⟨h1,h2,fun j hj=>?_⟩
        obtain ⟨h4,h5⟩:=h3 j (by omega)
        rw [h4,h5,getD_set_ne (by omega),getD_set_ne (by omega)]
        exact ⟨rfl,rfl⟩
      · cases h
section
variable {p : Int} (hq : dD p = true)
include hq
/-- A division of monic polynomials whose degrees lie one apart. -/
theorem div_one [NeZero p.toNat] {f g : List Int} {k : Nat} (nf : Nm p f) (ng : Nm p g) (hf : Mon f (k + 1)) (hg : Mon g k) :
    (fH p f g).1.length = 2∧(fH p f g).2.length ≤ k∧Pl p (fH p f g).2∧∀ i,cf p.toNat f i = xs (cf p.toNat g) i + fz p.toNat ((fH p f g).1.getD 0 0) * cf p.toNat g i + cf p.toNat (fH p f g).2 i:=by
  have hp:=dD.pm hq
  have fl:=hf.1
  have gl:=hg.1
  have hl : (fH p f g).1.length = 2:=by
    have:=(su hq nf ng (by omega) (by rw [gl,Nat.add_sub_cancel,hg.2];decide)).2.2.1
    rw [if_neg (by omega)] at this
    omega
  have P:=yz hq (Mon.pl nf hf) (Mon.pl ng hg) (by omega)
  have e : ∀ i,cf p.toNat f i = fz p.toNat ((fH p f g).1.getD 0 0) * cf p.toNat g i + fz p.toNat ((fH p f g).1.getD 1 0) * xs (cf p.toNat g) i + cf p.toNat (fH p f g).2 i:=fun i=>by
    rw [CO hq nf ng (by omega) (by rw [gl,Nat.add_sub_cancel,hg.2];decide) i,hl]
    simp only [sF]
    rw [EH,EI]
    unfold cf
    grind
  have one : fz p.toNat ((fH p f g).1.getD 1 0) = 1:=by
    have:=e (k + 1)
    rw [lY (f:=g) (by omega),lY (f:=(fH p f g).2) (by have:=P.2.1;omega)] at this
    simp only [xs] at this
    have e1 : cf p.toNat f (k + 1) = 1:=by unfold cf;rw [hf.2,kJ]
    have e2 : cf p.toNat g k = 1:=by unfold cf;rw [hg.2,kJ]
    rw [e1,e2] at this
    grind
  refine ⟨hl,by have:=P.2.1;omega,P.1,fun i=>?_⟩
  rw [e i,one]
  grind
theorem uT [NeZero p.toNat] {r : List Int} {k : Nat} (hr : Pl p r) (hl : r.length = k + 1) : Nm p (oK p r)∧Mon (oK p r) k∧∀ i,fz p.toNat (r.getD k 0) * cf p.toNat (oK p r) i = cf p.toNat r i:=by
  have hp:=dD.pm hq
  have h2:=hp.two
  have hi:=vN hq hr.1 (hr.last (by omega))
  have e : ∀ i,cf p.toNat (oK p r) i = fz p.toNat (oV p (r.getD (r.length - 1) 0)) * cf p.toNat r i:=fun i=>by
    unfold oK
    rw [uP hp _ _ (Nm.nil p),lY (f:=[]) (Nat.zero_le _)]
    grind
  rw [hl,Nat.add_sub_cancel] at e hi
  have nm : Nm p (oK p r):=qP hp.pos (Nm.nil p) _
  have top : (oK p r).getD k 0 = 1:=by
    refine tL hp (nm.oJ hp.pos k) (by omega) ?_
    have:=e k
    unfold cf at this
    rw [this,kJ]
    grind
  have len : (oK p r).length = k + 1:=by
    have h1 : (oK p r).length ≤ k + 1:=by
      have:=qy p [] r (oV p (r.getD (r.length - 1) 0))
      simp only [List.length_nil] at this
      unfold oK
      omega
    apply Decidable.byContradiction
    intro hn
    rw [o8 (f:=oK p r) (by omega)] at top
    exact absurd top (by decide)
  refine ⟨nm,⟨len,top⟩,fun i=>?_⟩
  rw [e i]
  grind
/-- What is found has the polynomials. -/
theorem BD (k : Nat) : ∀ (f g a b a' b' : List Int),Nm p f → Nm p g → Mon f (k + 1) → Mon g k → k < a.length → k < b.length → jL p (k + 1) f g a b = some (a',b') →
    dH p a' b' (k + 1) = (g,f)∧(∀ j,j ≤ k → 0 ≤ a'.getD j 0∧a'.getD j 0 < p)∧(∀ j,1 ≤ j → j ≤ k → 1 ≤ b'.getD j 0∧b'.getD j 0 < p)∧b'.getD 0 0 = b.getD 0 0:=by
  have hp:=dD.pm hq
  haveI:=nez hp
  induction k with
  | zero =>
    intro f g a b a' b' nf ng hf hg ha hb h
    simp only [jL,Option.some.injEq,Prod.mk.injEq] at h
    obtain ⟨rfl,rfl⟩:=h
    obtain ⟨d1,d2,d3,d4⟩:=div_one hq nf ng hf hg
    have eg : g = [1]:=by
      have:=hg.1;have:=hg.2
      match g,hg with
      | [x],h=>simp [Mon] at h;rw [h]
    have hb':=iD hp.pos (-(fH p f g).1.getD 0 0)
    refine ⟨?_,fun j hj=>by obtain rfl : j = 0:=(by omega);rw [iL ha];exact hb',fun j h1 h2=>by omega,rfl⟩
    have ep : dH p (a.set 0 ((-(fH p f g).1.getD 0 0) % p)) b (0 + 1) = ([1],mG p ((-(fH p f g).1.getD 0 0) % p) (b.getD 0 0) [1] []):=by
      show ([1],mG p ((a.set 0 ((-(fH p f g).1.getD 0 0) % p)).getD 0 0) (b.getD 0 0) [1] []) = _
      rw [iL ha]
    rw [ep,eg]
    congr 1
    have mp:=tN hp ((-(fH p f g).1.getD 0 0) % p) (b.getD 0 0) [1] [] 0 ⟨rfl,rfl⟩ (by simp)
    rw [← eg] at mp ⊢
    refine vL hp (qz hp _ _ _ _) nf (Mon.pl (qz hp _ _ _ _) mp).2 (Mon.pl nf hf).2 fun i=>?_
    rw [qx hp,d4 i,lY (f:=[]) (Nat.zero_le _),lY (f:=(fH p f g).2) (by omega),iH hp,mY]
    grind
  | succ k ih =>
    intro f g a b a' b' nf ng hf hg ha hb h
    rw [jL] at h
    split at h
    case isFalse=>cases h
    rename_i hl
    obtain ⟨d1,d2,d3,d4⟩:=div_one hq nf ng hf hg
    obtain ⟨m1,m2,m3⟩:=uT hq d3 hl
    obtain ⟨i1,i2,i3,i4⟩:=ih g (oK p (fH p f g).2) _ _ a' b' ng m1 hg m2 (by rw [List.length_set];omega) (by rw [List.length_set];omega) h
    obtain ⟨_,_,hk⟩:=rU p (k + 1) _ _ _ _ _ _ h
    obtain ⟨ka,kb⟩:=hk (k + 1) (Nat.le_refl _)
    rw [iL (by omega)] at ka kb
    have hA:=iD hp.pos (-(fH p f g).1.getD 0 0)
    have hB:=iD hp.pos (-(fH p f g).2.getD k 0)
    have hB0 : (-(fH p f g).2.getD k 0) % p ≠ 0:=by
      intro hz
      have h1:=d3.last (by omega)
      rw [hl,Nat.add_sub_cancel] at h1
      refine h1 (mI hp (d3.1.oJ hp.pos k) ?_)
      have : fz p.toNat (-(fH p f g).2.getD k 0) = 0:=by rw [← iH hp,hz,kE]
      rw [mY] at this
      grind
    refine ⟨?_,fun j hj=>?_,fun j h1 h2=>?_,by rw [i4,getD_set_ne (by omega)]⟩
    · have ep : dH p a' b' (k + 1 + 1) = (g,mG p (a'.getD (k + 1) 0) (b'.getD (k + 1) 0) g (oK p (fH p f g).2)):=by
        show ((dH p a' b' (k + 1)).2,mG p (a'.getD (k + 1) 0) (b'.getD (k + 1) 0) (dH p a' b' (k + 1)).2 (dH p a' b' (k + 1)).1) = _
        rw [i1]
      rw [ep,ka,kb]
      congr 1
      have mp:=tN hp ((-(fH p f g).1.getD 0 0) % p) ((-(fH p f g).2.getD k 0) % p) g (oK p (fH p f g).2) (k + 1) hg (by rw [m2.1];omega)
      refine vL hp (qz hp _ _ _ _) nf (Mon.pl (qz hp _ _ _ _) mp).2 (Mon.pl nf hf).2 fun i=>?_
      have:=m3 i
      rw [qx hp,d4 i,iH hp,iH hp,mY,mY]
      grind
    · by_cases c : j = k + 1
      · rw [c,ka];exact hA
      · exact i2 j (by omega)
    · by_cases c : j = k + 1
      · rw [c,kb];omega
      · exact i3 j h1 (by omega)
/-- Data are found again. -/
theorem BF {al be : List Int} (na : Nm p al) (hbe : ∀ j,1 ≤ j → j < be.length → 1 ≤ be.getD j 0∧be.getD j 0 < p) (hab : be.length = al.length) (k : Nat) : k < al.length → ∀ (a b : List Int),a.length = al.length → b.length = be.length →
    ∃ a' b',jL p (k + 1) (dH p al be (k + 1)).2 (dH p al be k).2 a b = some (a',b')∧a'.length = al.length∧b'.length = be.length∧(∀ j,j ≤ k → a'.getD j 0 = al.getD j 0)∧(∀ j,1 ≤ j → j ≤ k → b'.getD j 0 = be.getD j 0)∧b'.getD 0 0 = b.getD 0 0:=by
  have hp:=dD.pm hq
  haveI:=nez hp
  have nP:=fun i=>(jG hp al be i).1.2
  have mP':=fun i=>o9 hp al be i
  have step : ∀ i,(dH p al be (i + 1)).2 = mG p (al.getD i 0) (be.getD i 0) (dH p al be i).2 (dH p al be i).1:=fun i=>rfl
  have low : ∀ i j,i ≤ j → cf p.toNat (dH p al be i).1 j = 0:=fun i j h=>by
    cases i with
    | zero=>exact lY (Nat.zero_le _)
    | succ i=>exact lY (by show (dH p al be i).2.length ≤ j;rw [(mP' i).1];omega)
  -- the first number of the quotient, and the rest
  have q0 : ∀ i,i < al.length → fz p.toNat ((fH p (dH p al be (i + 1)).2 (dH p al be i).2).1.getD 0 0) = -fz p.toNat (al.getD i 0)∧∀ j,cf p.toNat (fH p (dH p al be (i + 1)).2 (dH p al be i).2).2 j = -(fz p.toNat (be.getD i 0)) * cf p.toNat (dH p al be i).1 j:=by
    intro i hi
    obtain ⟨d1,d2,d3,d4⟩:=div_one hq (nP (i + 1)) (nP i) (mP' (i + 1)) (mP' i)
    have e:=fun j=>d4 j
    have e2 : ∀ j,cf p.toNat (dH p al be (i + 1)).2 j = xs (cf p.toNat (dH p al be i).2) j - fz p.toNat (al.getD i 0) * cf p.toNat (dH p al be i).2 j - fz p.toNat (be.getD i 0) * cf p.toNat (dH p al be i).1 j:=fun j=>by rw [step i,qx hp]
    have t : fz p.toNat ((fH p (dH p al be (i + 1)).2 (dH p al be i).2).1.getD 0 0) = -fz p.toNat (al.getD i 0):=by
      have h1:=e i
      have h2:=e2 i
      rw [lY (f:=(fH p (dH p al be (i + 1)).2 (dH p al be i).2).2) d2] at h1
      rw [low i i (Nat.le_refl _)] at h2
      have h3 : cf p.toNat (dH p al be i).2 i = 1:=by unfold cf;rw [(mP' i).2,kJ]
      rw [h3] at h1 h2
      grind
    refine ⟨t,fun j=>?_⟩
    have h1:=e j
    have h2:=e2 j
    rw [t] at h1
    grind
  have qv : ∀ i,i < al.length → (-(fH p (dH p al be (i + 1)).2 (dH p al be i).2).1.getD 0 0) % p = al.getD i 0:=fun i hi=>by
    refine tL hp (iD hp.pos _) (na.oJ hp.pos i) ?_
    rw [iH hp,mY,(q0 i hi).1]
    grind
  induction k with
  | zero =>
    intro h a b ha hb
    refine ⟨_,_,rfl,by rw [List.length_set,ha],hb,fun j hj=>?_,fun j h1 h2=>by omega,rfl⟩
    obtain rfl : j = 0:=by omega
    rw [iL (by omega)]
    exact qv 0 h
  | succ k ih =>
    intro h a b ha hb
    have hbk:=hbe (k + 1) (by omega) (by omega)
    obtain ⟨d1,d2,d3,d4⟩:=div_one hq (nP (k + 1 + 1)) (nP (k + 1)) (mP' (k + 1 + 1)) (mP' (k + 1))
    have hr:=(q0 (k + 1) h).2
    have hrk : ∀ j,cf p.toNat (fH p (dH p al be (k + 1 + 1)).2 (dH p al be (k + 1)).2).2 j = -(fz p.toNat (be.getD (k + 1) 0)) * cf p.toNat (dH p al be k).2 j:=hr
    have top : fz p.toNat ((fH p (dH p al be (k + 1 + 1)).2 (dH p al be (k + 1)).2).2.getD k 0) = -(fz p.toNat (be.getD (k + 1) 0)):=by
      have:=hrk k
      have h3 : cf p.toNat (dH p al be k).2 k = 1:=by unfold cf;rw [(mP' k).2,kJ]
      rw [h3] at this
      unfold cf at this
      rw [this]
      grind
    have hl : (fH p (dH p al be (k + 1 + 1)).2 (dH p al be (k + 1)).2).2.length = k + 1:=by
      apply Decidable.byContradiction
      intro hn
      rw [o8 (f:=(fH p (dH p al be (k + 1 + 1)).2 (dH p al be (k + 1)).2).2) (by omega),kE] at top
      have : fz p.toNat (be.getD (k + 1) 0) = 0:=by grind
      have:=mI hp (by omega) this
      omega
    obtain ⟨m1,m2,m3⟩:=uT hq d3 hl
    have em : oK p (fH p (dH p al be (k + 1 + 1)).2 (dH p al be (k + 1)).2).2 = (dH p al be k).2:=by
      refine vL hp m1 (nP k) (Mon.pl m1 m2).2 (Mon.pl (nP k) (mP' k)).2 fun i=>?_
      have h1:=m3 i
      have h2:=hrk i
      have h3:=yw hq (x:=be.getD (k + 1) 0) (by omega) (fun g=>by have:=mI hp (by omega) g;omega)
      rw [top,h2] at h1
      generalize fz p.toNat (oV p (be.getD (k + 1) 0)) = z at h3
      grind
    have hbv : (-(fH p (dH p al be (k + 1 + 1)).2 (dH p al be (k + 1)).2).2.getD k 0) % p = be.getD (k + 1) 0:=by
      refine tL hp (iD hp.pos _) (by omega) ?_
      rw [iH hp,mY,top]
      grind
    obtain ⟨a',b',i1,i2,i3,i4,i5,i6⟩:=ih (by omega) (a.set (k + 1) (al.getD (k + 1) 0)) (b.set (k + 1) (be.getD (k + 1) 0)) (by rw [List.length_set];exact ha) (by rw [List.length_set];exact hb)
    obtain ⟨_,_,hk⟩:=rU p (k + 1) _ _ _ _ _ _ i1
    obtain ⟨ka,kb⟩:=hk (k + 1) (Nat.le_refl _)
    rw [iL (by omega)] at ka kb
    refine ⟨a',b',?_,i2,i3,fun j hj=>?_,fun j h1 h2=>?_,by rw [i6,getD_set_ne (by omega)]⟩
    · rw [jL,if_pos hl,em,hbv,qv (k + 1) h]
      exact i1
    · by_cases c : j = k + 1
      · rw [c,ka]
      · exact i4 j (by omega)
    · by_cases c : j = k + 1
      · rw [c,kb]
      · exact i5 j h1 (by omega)
end
/- Polynomials of data: their values, affine data, reversed data, data without the first numbers: plain. Conditions: p in range. -/
section
variable {p : Int} [NeZero p.toNat] (hp : Pm p)
include hp
theorem xI (a b : List Int) (k : Nat) : cf p.toNat (dH p a b k).2 = (kon (cf p.toNat a) (cf p.toNat b) 0 k).2∧cf p.toNat (dH p a b k).1 = (kon (cf p.toNat a) (cf p.toNat b) 0 k).1:=by
  induction k with
  | zero =>
    constructor
    · funext i
      show cf p.toNat [1] i = if i = 0 then 1 else 0
      cases i with
      | zero=>exact kJ
      | succ i=>rw [if_neg (by omega)];exact lY (by simp)
    · funext i
      exact lY (Nat.zero_le _)
  | succ k ih =>
    refine ⟨?_,ih.1⟩
    funext i
    show cf p.toNat (mG p (a.getD k 0) (b.getD k 0) (dH p a b k).2 (dH p a b k).1) i = rop _ _ _ _ i
    rw [qx hp,ih.1,ih.2,Nat.zero_add]
    rfl
theorem zB (N : Nat) (x : Fin p.toNat) (a b : Int) (f g : List Int) (hf : f.length + 1 ≤ N) : va N x (cf p.toNat (mG p a b f g)) = (x - fz p.toNat a) * va N x (cf p.toNat f) - fz p.toNat b * va N x (cf p.toNat g):=by
  have e : cf p.toNat (mG p a b f g) = fun i=>(fun i=>xs (cf p.toNat f) i + (-fz p.toNat a) * cf p.toNat f i) i + (-fz p.toNat b) * cf p.toNat g i:=by
    funext i
    rw [qx hp]
    grind
  rw [e,EN x (fun i=>xs (cf p.toNat f) i + (-fz p.toNat a) * cf p.toNat f i),EN x (xs (cf p.toNat f)),LP x (fun i hi=>lY (by omega))]
  show x * va N x (cf p.toNat f) + -fz p.toNat a * va N x (cf p.toNat f) + -fz p.toNat b * va N x (cf p.toNat g) = _
  grind
/-- Values of affine data. -/
theorem Js (N : Nat) (a b a' b' : List Int) (m c : Fin p.toNat) (x : Fin p.toNat) (k : Nat) : k + 2 ≤ N → (∀ i,i < k → cf p.toNat a' i = m * cf p.toNat a i + c) → (∀ i,1 ≤ i → i < k → cf p.toNat b' i = m * m * cf p.toNat b i) →
    va N (m * x + c) (cf p.toNat (dH p a' b' k).2) = pw m k * va N x (cf p.toNat (dH p a b k).2)∧(1 ≤ k → va N (m * x + c) (cf p.toNat (dH p a' b' k).1) = pw m (k - 1) * va N x (cf p.toNat (dH p a b k).1)):=by
  have v1 : ∀ y : Fin p.toNat,2 ≤ N → va N y (cf p.toNat [1]) = 1:=fun y hN=>by
    unfold va
    rw [KI (k:=0) (by omega) (fun i _ hi=>by rw [lY (by simp;omega)];grind)]
    have : cf p.toNat [1] 0 = 1:=kJ
    rw [this]
    simp only [pw]
    grind
  have v0 : ∀ y : Fin p.toNat,va N y (cf p.toNat []) = 0:=fun y=>by
    rw [show cf p.toNat [] = fun _=>0 from funext fun i=>lY (Nat.zero_le _)]
    exact Jt y
  induction k with
  | zero =>
    intro hN _ _
    refine ⟨?_,fun h=>by omega⟩
    show va N _ (cf p.toNat [1]) = pw m 0 * va N x (cf p.toNat [1])
    rw [v1 _ (by omega),v1 _ (by omega)]
    simp only [pw]
    grind
  | succ k ih =>
    intro hN ha hb
    obtain ⟨I1,I2⟩:=ih (by omega) (fun i hi=>ha i (by omega)) (fun i h1 h2=>hb i h1 (by omega))
    refine ⟨?_,fun _=>I1⟩
    have l1:=(jG hp a' b' k).2.2
    have l2:=(jG hp a b k).2.2
    have s1 : (dH p a' b' (k + 1)).2 = mG p (a'.getD k 0) (b'.getD k 0) (dH p a' b' k).2 (dH p a' b' k).1:=rfl
    have s2 : (dH p a b (k + 1)).2 = mG p (a.getD k 0) (b.getD k 0) (dH p a b k).2 (dH p a b k).1:=rfl
    have hak:=ha k (by omega)
    unfold cf at hak
    rw [s1,s2,zB hp N _ _ _ _ _ (by omega),zB hp N _ _ _ _ _ (by omega),I1,hak]
    cases k with
    | zero =>
      show _ - _ * va N _ (cf p.toNat []) = _ * (_ - _ * va N _ (cf p.toNat []))
      rw [v0,v0]
      simp only [pw]
      grind
    | succ k =>
      have hbk:=hb (k + 1) (by omega) (by omega)
      unfold cf at hbk
      rw [I2 (by omega),hbk,Nat.add_sub_cancel]
      simp only [pw]
      grind
end
/- Values of polynomials and powers over the numbers modulo p: plain; condition: p in range. -/
section
variable {p : Int} [NeZero p.toNat] (hp : Pm p)
include hp
theorem Ju (x : Int) (f : List Int) (k : Nat) : k ≤ f.length → fz p.toNat (yB p x f k) = sF (fun i=>cf p.toNat f (f.length - k + i) * pw (fz p.toNat x) i) k:=by
  induction k with
  | zero=>intro _;rw [yB,kE];rfl
  | succ k ih =>
    intro hk
    rw [yB,iH hp,oU,lX,ih (by omega),qA,← CP]
    have e : sF (fun i=>cf p.toNat f (f.length - k + i) * pw (fz p.toNat x) i * fz p.toNat x) k = sF (fun t=>cf p.toNat f (f.length - (k + 1) + (t + 1)) * pw (fz p.toNat x) (t + 1)) k:=by
      refine oz _ fun t _=>?_
      rw [show f.length - (k + 1) + (t + 1) = f.length - k + t from by omega,pw]
      grind
    rw [e,show f.length - (k + 1) + 0 = f.length - 1 - k from by omega]
    unfold cf
    simp only [pw]
    grind
theorem EO (x : Int) {f : List Int} {N : Nat} (hf : f.length ≤ N) : fz p.toNat (zC p x f) = va N (fz p.toNat x) (cf p.toNat f):=by
  unfold zC va
  rw [Ju hp x f f.length (Nat.le_refl _),KJ hf (fun i hi=>by rw [lY hi];grind)]
  refine oz _ fun i _=>?_
  rw [show f.length - f.length + i = i from by omega]
theorem Jv (x : Int) (k : Nat) : fz p.toNat (uM p x k) = pw (fz p.toNat x) k:=by
  rw [CQ hp,iH hp]
  induction k with
  | zero=>rw [Int.pow_zero,kJ];rfl
  | succ k ih=>rw [Int.pow_succ,lX,ih];rfl
end
/- PolyOf, ValueOf, PowerOf of the program at data: what they come to; affine data's values. Conditions: valid data. -/
theorem zD {l m : List Int} (hl : l.length = m.length) (h : ∀ i,i < m.length → l.getD i 0 = m.getD i 0) : l = m:=by
  apply List.ext_getElem hl
  intro i h1 h2
  have:=h i h2
  rw [List.getD_eq_getElem?_getD,List.getD_eq_getElem?_getD,List.getElem?_eq_getElem h1,List.getElem?_eq_getElem h2] at this
  exact this
theorem l9 {p : Int} {a b : List Int} (h : iI p a b = true) {n : Nat} (hn : n ≤ a.length) : Ev (fun k=>gU.f k p a b (n : Int)) ((dH p a b n).2,0):=by
  obtain ⟨⟨⟨h4,h5⟩,h6⟩,h7,h8⟩:=iI.all h
  have hp:=iI.pm h
  have hc : oW p a b (decide (0 ≤ (n : Int)∧(n : Int) ≤ (a.length : Int))) = 0:=by
    unfold oW;rw [if_pos h,if_pos (decide_eq_true ⟨by omega,by omega⟩)]
  unfold gU.f
  refine Ev.dx (size_eq p a b) (Ev.dx (jU _ _ _) (Ev.bind (EP hc (by unfold Sm;omega) (by unfold Sm;omega)) (Ev.pos rfl (Ev.bind (sw hp a b h7 h8.nm h5 h6) ?_))))
  rw [zF,CR p a b (by omega)]
  exact Ev.pos (by omega) (Ev.pos (by omega) (Ev.now _))
theorem qB {p : Int} {a b : List Int} (h : iI p a b = true) {n : Nat} (hn : n ≤ a.length) {x : Int} (hx : 0 ≤ x∧x < p) : Ev (fun k=>bT.f k p a b (n : Int) x) (zC p x (dH p a b n).2,0):=by
  obtain ⟨⟨⟨h4,h5⟩,h6⟩,h7,h8⟩:=iI.all h
  have hp:=iI.pm h
  have o1:=jG hp a b n
  have hc : oW p a b true = 0:=by unfold oW;rw [if_pos h,if_pos rfl]
  unfold bT.f
  refine Ev.dx (size_eq p a b) (Ev.dx (jU _ _ _) (Ev.pos (decide_eq_true ⟨by omega,by omega⟩) (Ev.dx (a:=p) rfl (Ev.dx (has_eq p x) ?_))))
  rw [decide_eq_true hx]
  refine Ev.bind (EP hc (by unfold Sm;omega) (by unfold Sm;omega)) ?_
  refine Ev.step (fun k=>by rw [bT.j0]) ?_
  refine Ev.pos rfl (Ev.dx (a:=p) rfl (Ev.bind (sw hp a b h7 h8.nm h5 h6) ?_))
  rw [zF,CR p a b (by omega)]
  exact Ev.pos (by omega) (Ev.pos (by omega) (Ev.dx (yC hp hx _ o1.1.2 (by unfold Sm;omega)) (Ev.now _)))
theorem vP {p : Int} (hq : dD p = true) {x : Int} (hx : 0 ≤ x∧x < p) {n : Nat} (hn : n ≤ 1000) : Ev (fun k=>kw.f k p x (n : Int)) (uM p x n,0):=by
  have hp:=dD.pm hq
  unfold kw.f
  exact Ev.bind (pI p) (Ev.pos hq (Ev.dx (has_eq p x) (Ev.pos (decide_eq_true hx) (Ev.dx (jU _ _ _) (Ev.pos (decide_eq_true ⟨by omega,by omega⟩) (Ev.bind (vQ hp hx n (by omega)) (Ev.now _)))))))
theorem tO (p m c : Int) (d : Nat) : ∀ (i : Nat) (a b : List Int),i + d = a.length → b.length = a.length →
    (ky p m c d i a b).1.length = a.length∧(ky p m c d i a b).2.length = a.length ∧
    (∀ j,j < a.length → (ky p m c d i a b).1.getD j 0 = if i ≤ j then (m * a.getD j 0 + c) % p else a.getD j 0) ∧
    (∀ j,j < a.length → (ky p m c d i a b).2.getD j 0 = if i ≤ j∧0 < j then m * m % p * b.getD j 0 % p else b.getD j 0):=by
  induction d with
  | zero =>
    intro i a b hi hb
    exact ⟨rfl,hb,fun j hj=>by rw [if_neg (by omega)];rfl,fun j hj=>by rw [if_neg (by omega)];rfl⟩
  | succ d ih =>
    intro i a b hi hb
    have hb2 : (if 0 < i then b.set i (m * m % p * b.getD i 0 % p) else b).length = b.length:=by split <;> simp
    obtain ⟨h1,h2,h3,h4⟩:=ih (i + 1) (a.set i ((m * a.getD i 0 + c) % p)) (if 0 < i then b.set i (m * m % p * b.getD i 0 % p) else b) (by rw [List.length_set];omega) (by rw [hb2,List.length_set];exact hb)
    rw [List.length_set] at h1 h2 h3 h4
    refine ⟨h1,h2,fun j hj=>?_,fun j hj=>?_⟩
    · rw [ky,h3 j hj]
      by_cases e : j = i
      · subst e
        rw [if_neg (by omega),if_pos (Nat.le_refl _),iL hj]
      · rw [getD_set_ne (fun k=>e k.symm)]
        by_cases g : i + 1 ≤ j
        · rw [if_pos g,if_pos (by omega)]
        · rw [if_neg g,if_neg (by omega)]
    · rw [ky,h4 j hj]
      by_cases e : j = i
      · subst e
        rw [if_neg (by omega)]
        by_cases g : 0 < j
        · rw [if_pos g,if_pos ⟨Nat.le_refl _,g⟩,iL (by omega)]
        · rw [if_neg g,if_neg (by omega)]
      · have e2 : (if 0 < i then b.set i (m * m % p * b.getD i 0 % p) else b).getD j 0 = b.getD j 0:=by
          split
          · rw [getD_set_ne (fun k=>e k.symm)]
          · rfl
        rw [e2]
        by_cases g : i + 1 ≤ j
        · by_cases g0 : 0 < j
          · rw [if_pos ⟨g,g0⟩,if_pos ⟨by omega,g0⟩]
          · rw [if_neg (by omega),if_neg (by omega)]
        · rw [if_neg (by omega),if_neg (by omega)]
/-- Affine data are data. -/
theorem GI {p : Int} {a b : List Int} (h : iI p a b = true) {m : Int} (hm : 1 ≤ m∧m < p) (c : Int) : iI p (ky p m c a.length 0 a b).1 (ky p m c a.length 0 a b).2 = true:=by
  obtain ⟨⟨⟨h4,h5⟩,h6⟩,h7,h8⟩:=iI.all h
  have hq:=iI.o7 h
  have hp:=iI.pm h
  haveI:=nez hp
  obtain ⟨g1,g2,g3,g4⟩:=tO p m c a.length 0 a b (by omega) h6
  have mem : ∀ (l : List Int) (x : Int),x ∈ l → ∃ j,j < l.length∧l.getD j 0 = x:=fun l x hx=>by
    obtain ⟨j,hj,e⟩:=List.getElem_of_mem hx
    exact ⟨j,hj,by rw [List.getD_eq_getElem?_getD,List.getElem?_eq_getElem hj];exact e⟩
  simp only [iI,hq,Bool.true_and,decide_eq_true_eq]
  refine ⟨⟨by omega,by omega⟩,fun x hx=>?_,fun x hx=>?_⟩
  · obtain ⟨j,hj,rfl⟩:=mem _ _ hx
    rw [g3 j (by omega),if_pos (by omega)]
    exact iD hp.pos _
  · obtain ⟨j,hj,rfl⟩:=mem _ _ hx
    have hbj : 1 ≤ b.getD j 0∧b.getD j 0 < p:=h8 _ (pq (by omega))
    rw [g4 j (by omega)]
    split
    · have hb:=iD hp.pos (m * m % p * b.getD j 0)
      refine ⟨?_,hb.2⟩
      apply Decidable.byContradiction
      intro hn
      have z : fz p.toNat (m * m % p * b.getD j 0 % p) = 0:=by rw [show m * m % p * b.getD j 0 % p = 0 from by omega,kE]
      rw [iH hp,lX,iH hp,lX] at z
      have i1:=yw hq (x:=m) (by omega) (fun k=>by have:=mI hp (by omega) k;omega)
      have i2:=yw hq (x:=b.getD j 0) (by omega) (fun k=>by have:=mI hp (by omega) k;omega)
      have one : (1 : Fin p.toNat) = 0:=by
        generalize fz p.toNat (oV p m) = u at i1
        generalize fz p.toNat (oV p (b.getD j 0)) = v at i2
        grind
      have h2:=hp.two
      have:=mI hp (x:=1) (by omega) (by rw [kJ];exact one)
      omega
    · exact hbj
theorem DI {p : Int} {a b : List Int} (h : iI p a b = true) (m c : Int) (x : Int) :
    zC p ((m * x + c) % p) (dH p (ky p m c a.length 0 a b).1 (ky p m c a.length 0 a b).2 a.length).2 = (uM p m a.length * zC p x (dH p a b a.length).2) % p:=by
  obtain ⟨⟨⟨h4,h5⟩,h6⟩,h7,h8⟩:=iI.all h
  have hp:=iI.pm h
  haveI:=nez hp
  obtain ⟨g1,g2,g3,g4⟩:=tO p m c a.length 0 a b (by omega) h6
  have o1:=(jG hp (ky p m c a.length 0 a b).1 (ky p m c a.length 0 a b).2 a.length).2.2
  have o2:=(jG hp a b a.length).2.2
  refine tL hp (CS hp _ _) (iD hp.pos _) ?_
  rw [EO hp _ (N:=a.length + 2) (by omega),iH hp,iH hp,lX,EO hp x (N:=a.length + 2) (by omega),Jv hp,oU,lX]
  refine (Js hp (a.length + 2) a b _ _ (fz p.toNat m) (fz p.toNat c) (fz p.toNat x) a.length (Nat.le_refl _) (fun i hi=>?_) (fun i h1 hi=>?_)).1
  · unfold cf
    rw [g3 i hi,if_pos (Nat.zero_le _),iH hp,oU,lX]
  · unfold cf
    rw [g4 i hi,if_pos ⟨Nat.zero_le _,by omega⟩,iH hp,lX,iH hp,lX]
end Go.Proofs.Ytknppcledhnkoaa.Pr
