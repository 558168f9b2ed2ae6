/- Texts of this session in one: what functions of the program compute, and plain facts of it, under the conditions that each theorem names. -/
import Derived.Test.YtnpepkpogohcmaaGreatKls1
namespace Go.Proofs.YtnpepkpogohcmaaGreat.Pr
open Go.RowKit Go.Proofs.YtnpepkpogohcmaaGreatW.PrintWords Go.Proofs.YtnpepkpogohcmaaGreatW.PrintLast Go.Proofs.YtnpepkpogohcmaaGreatW.PrintMore
attribute [local go_sem] pE pF q8 rf nP nQ pG pI   -- for this text's walks alone
set_option linter.unusedVariables false
set_option maxHeartbeats 8000000
set_option maxRecDepth 100000
set_option linter.unusedSimpArgs false
/-! ### aN: function 35 -/
mutual
def aN.j0 : Nat → Int → List Int → List Int → Bool → Option (List Int)
 | 0,_,_,_,_=>none
 | k + 1,x0,x1,x2,x19=>if x19 = true then (some ([] : List Int)) else (if 0 ≤ (wrap64 ((wrap64 ((x1.length : Int) + (x2.length : Int))) - 1)) then (if (wrap64 ((wrap64 ((x1.length : Int) + (x2.length : Int))) - 1) : Int).toNat ≤ 35184372088832 then (aN.l0 k x0 x2 (List.replicate (wrap64 ((wrap64 ((x1.length : Int) + (x2.length : Int))) - 1) : Int).toNat 0) x1 (x1.length : Int) 0) else (none)) else (none))
def aN.l0 : Nat → Int → List Int → List Int → List Int → Int → Int → Option (List Int)
 | 0,_,_,_,_,_,_=>none
 | k + 1,x0,x2,x7,x27,x28,x29=>if x29 < x28 then (if 0 ≤ x29 then (if x29 < (x27.length : Int) then (aN.l1 k x0 x2 x7 x29 (rd x27 x29) x27 x28 x29 x2 (x2.length : Int) 0) else (none)) else (none)) else ((iT.f k x7).bind fun aln=>(some aln))
def aN.l1 : Nat → Int → List Int → List Int → Int → Int → List Int → Int → Int → List Int → Int → Int → Option (List Int)
 | 0,_,_,_,_,_,_,_,_,_,_,_=>none
 | k + 1,x0,x2,x7,x8,x9,x27,x28,x29,x34,x35,x36=>if x36 < x35 then (if 0 ≤ x36 then (if x36 < (x34.length : Int) then (if 0 ≤ (wrap64 (x8 + x36)) then (if (wrap64 (x8 + x36)) < (x7.length : Int) then ((dX.f x0 (wrap64 ((rd x7 (wrap64 (x8 + x36))) + (wrap64 (x9 * (rd x34 x36)))))).bind fun X3=>(aN.l1 k x0 x2 (x7.set ((wrap64 (x8 + x36)) : Int).toNat X3) x8 x9 x27 x28 x29 x34 x35 (wrap64 (x36 + 1)))) else (none)) else (none)) else (none)) else (none)) else (aN.l0 k x0 x2 x7 x27 x28 (wrap64 (x29 + 1)))
end
def aN.f (k : Nat) (a0 : Int) (l1 : List Int) (l2 : List Int) : Option (List Int):=if (l1.length : Int) = 0 then (aN.j0 k a0 l1 l2 true) else (aN.j0 k a0 l1 l2 ((l2.length : Int) == 0))
theorem aN.calls (k : Nat) (a0 : Int) (A1 : Option Addr) (c1 : Nat) (l1 : List Int) (A2 : Option Addr) (c2 : Nat) (l2 : List Int) (r : List Int) (w : World) (hr1 : Kd.C (Kd.int .i64) w A1 l1.length l1) (hc1 : l1.length ≤ c1) (hr2 : Kd.C (Kd.int .i64) w A2 l2.length l2) (hc2 : l2.length ≤ c2) (H : aN.f k a0 l1 l2 = some r) :
  Calls Tryz.prog 35 #[.int .i64 a0,.slice A1 l1.length c1,.slice A2 l2.length c2] w fun e w'=>∃ v0_ : Value,e = .returned (v0_)∧Kd.R (Kd.int .i64) 2 w' w.heap.size (fun _=>True) v0_ r∧Below w.heap.size w w':=by
 have HR1:=zA hr1;have HC1:=zA hc1;clear hr1 hc1;have HR2:=zA hr2;have HC2:=zA hc2;clear hr2 hc2;have HB:=zA (Below.refl w.heap.size w);unfold aN.f at H;have HC4:=zA H;clear H;go_enter Tryz.func35,Tryz.ntmps35;go_upto_region 1 with (fail);go_cut [19] (fun v19 wc=>∃ (kq : Nat) (abZ : Bool),v19 = .bool abZ∧aa (aN.j0 kq a0 l1 l2 abZ = some r)∧aa (kq ≤ k)∧aa (Below w.heap.size w wc))
 case first =>
  have H:=HC4.out;clear HC4;replace H:=gE H;obtain ⟨c5,ny,vY,H⟩|⟨c5,ny,vY,H⟩:=H
  ·have TB : ¬ (l1 = []):=fun h_=>c5 (by rw [h_];rfl);(first | rw [ny] | (simp only [iI,kz];rw [ny]) | skip);have H':=zA H;clear H;go_wp2;go_meet;(case rel=>exact ⟨_,(((l2.length : Int) == 0)),eS,H',⟨by first | omega | exact Nat.le_refl _⟩,⟨uH HB.out⟩⟩)
  clear c5;(first | rw [ny] | (simp only [iI,kz];rw [ny]) | skip);have H':=zA H;clear H;go_wp2;go_meet;(case rel=>exact ⟨_,(true),eS,H',⟨by first | omega | exact Nat.le_refl _⟩,⟨uH HB.out⟩⟩)
 case rest =>
  clear HC4;(try clear c1);(try clear c2);(try clear p2);(try clear c3);(try clear c5);(try clear ny);(try clear vY);(try clear TB);obtain ⟨kq,abZ,rfl,HA,HJ3,HB⟩:=hcut
  cases kq with
  | zero=>exact absurd HA.out (by simp [aN.j0])
  | succ kj3 =>
   have H:=HA.out;clear HA;simp only [aN.j0] at H;replace H:=gB H;obtain ⟨rfl,H⟩|⟨rfl,H⟩:=H
   ·obtain rfl:=Option.some.inj H;go_wp2;go_ret;exact ⟨_,eX,by first | exact Kd.pq _ _ _ _ _ | exact Kd.Bi _ _ _ _ _ | exact Kd.vz _ _ _ _ _ | exact Kd.vX _ _ _ _ _ | exact Kd.vU _ _ _ _ _,uH HB.out⟩
   ·obtain ⟨ji7,Gl⟩ : ∃ j_ : Int,(wrap64 ((wrap64 ((l1.length : Int) + (l2.length : Int))) - 1)) = j_:=⟨_,rfl⟩;(first | rw [Gl] at H | simp only [Gl] at H);have aid : (IntKind.i64.wrap ((wrap64 ((l1.length : Int) + (l2.length : Int))) - 1)) = ji7:=(iI _).trans Gl;replace H:=gN H;obtain ⟨c8,H⟩:=H;have ym:=eq_true c8;have KI : decide (0 ≤ (ji7)) = true:=decide_eq_true c8;clear c8;replace H:=gN H;obtain ⟨c9,H⟩:=H;have DD:=eq_true c9;have KO : decide ((ji7 : Int).toNat ≤ 35184372088832) = true:=decide_eq_true c9;clear c9;obtain ⟨aBr,ab0⟩:=eY (List.replicate (ji7 : Int).toNat 0 : List Int);(try rw [←ab0.out] at H);have H':=zA H;clear H;go_wp2_with (first | ((with_reducible refine bP (N:=26) rfl ?_);(try (refine oN (by rfl) ?_;dsimp only));refine Kd.Oh (Kd.int .i64) _ 2 rfl (N:=26) rfl 24 _ _ rfl ji7 rfl rfl Tryz.underlying24 (.int .i64 0) 8 l6 rfl (by decide) (by omega) 0 (ok:=fun _=>True) (okp:=fun _=>True) rfl (fun _ hk=>hk) trivial (of_decide_eq_true (by first | (with_reducible assumption) | assumption)) (Nat.le_trans (Nat.mul_le_mul_right _ (of_decide_eq_true (by first | (with_reducible assumption) | assumption) : ji7.toNat ≤ 35184372088832)) (by omega)) (Below.refl _ _) (Nat.le_refl _) ?_;intro atT w10 xg hb hg_ hnew_;clear hg_ hnew_;(first | rw [← ab0.out] at xg | (simp only [Int.reduceToNat] at xg;rw [← ab0.out] at xg));have atU:=zA (Kd.bu xg (af (uH HB.out)));replace HB:=xH HB hb;clear hb xg));go_loopg [29] kj3 (fun kq v29 w'=>∃ (D7 : List Int) (yJ : Int),v29 = .int .i64 yJ∧aa (aN.l0 kq a0 l2 D7 l1 (l1.length : Int) yJ = some r)∧aa (kq ≤ kj3)∧aa (Kd.R (Kd.int .i64) 2 w' w.heap.size (fun _=>True) atT D7)∧aa (Below w.heap.size w w'));(case atStart=>exact ⟨(aBr),(0),eS,H',⟨Nat.le_refl _⟩,⟨uR atU.out⟩,⟨uH HB.out⟩⟩)
    case round =>
     clear H';(try clear c1);(try clear c2);(try clear p2);(try clear c3);(try clear c5);(try clear ny);(try clear vY);(try clear TB);(try clear c6);(try clear p6);(try clear c8);(try clear ym);(try clear KI);(try clear c9);(try clear DD);(try clear KO);(try clear p2);obtain ⟨D7,yJ,rfl,HA,HK2,iB,HB⟩:=hrel
     cases gk with
     | zero=>exact absurd HA.out (by simp [aN.l0])
     | succ k2 =>
      have H:=HA.out;clear HA;simp only [aN.l0] at H;replace H:=gF H;obtain ⟨Ja,H⟩|⟨Ja,H⟩:=H
      ·replace H:=bO H;obtain ⟨aln,A26,H⟩:=H;obtain rfl:=Option.some.inj H;obtain ⟨JQ,JR,rfl⟩:=Kd.aV iB.out;go_wp2_with (first | ((with_reducible refine ae (f:=62) rfl ?_);refine gL (some 61) Tryz.func62 #[.slice JQ D7.length JR] ?_;(with_reducible refine (iT.calls k2 (fun k_=>some k_ = (.slice JQ D7.length JR : Value).ownBlock) (.slice JQ D7.length JR) D7 aln w _ ?side1 ?side2 A26.out).mono ?_);(case side1=>exact uH HB.out);(case side2=>exact Kd.uy rfl iB.out);rintro e w28 ⟨aGn,rfl,ho0,hb,hkp⟩;refine ⟨_,rfl,?_⟩;have atV:=zA (Kd.ag (ok':=fun k_=>True) ho0 (fun k_ hk_=>trivial));replace HB:=zA (hb);clear iB;(try clear hb);(try clear hkp);(try clear ho0)));go_ret;exact ⟨_,by first | rfl | (simp [eP,eQ] <;> rfl) | (simp only [← Gl];first | rfl | (simp [eP,eQ] <;> rfl)) | (simp [*,eP,eQ] <;> rfl),uR atV.out,uH HB.out⟩
      replace H:=gD H;obtain ⟨aaY,H⟩:=H;replace H:=gD H;obtain ⟨E9,H⟩:=H;have H':=zA H;clear H;have afW : 0 ≤ (yJ : Int):=oD;have afX : yJ < (l1.length : Int):=oD;obtain ⟨aD7,aBs,OL⟩:=Kd.ik HR1.out yJ afW afX;cases aBs;replace OL:=hc HB OL;replace afW:=eq_true afW;replace afX:=eq_true afX;go_wp2;go_loopg [36] k2 (fun kq v36 w'=>∃ (yl : List Int) (Cc : Int),v36 = .int .i64 Cc∧aa (aN.l1 kq a0 l2 yl yJ (rd l1 yJ) l1 (l1.length : Int) yJ l2 (l2.length : Int) Cc = some r)∧aa (kq ≤ k2)∧aa (Kd.R (Kd.int .i64) 2 w' w.heap.size (fun _=>True) atT yl)∧aa (Below w.heap.size w w'));(case atStart=>exact ⟨(D7),(0),eS,H',⟨Nat.le_refl _⟩,⟨uR iB.out⟩,⟨uH HB.out⟩⟩)
      case round =>
       clear H';(try clear c1);(try clear c2);(try clear p2);(try clear c3);(try clear p4);(try clear q4);(try clear hx4);(try clear c5);(try clear ny);(try clear vY);(try clear TB);(try clear c6);(try clear p6);(try clear c8);(try clear ym);(try clear KI);(try clear c9);(try clear DD);(try clear KO);(try clear c12);(try clear Ja);(try clear c13);(try clear aaY);(try clear c14);(try clear E9);(try clear OL);(try clear p2);(try clear afW);(try clear p6);(try clear afX);obtain ⟨yl,Cc,rfl,HA,HK3,iB,HB⟩:=hrel
       cases gk with
       | zero=>exact absurd HA.out (by simp [aN.l1])
       | succ k3 =>
        have H:=HA.out;clear HA;simp only [aN.l1] at H;replace H:=gF H;obtain ⟨sJ,H⟩|⟨sJ,H⟩:=H
        ·have H':=zA H;clear H;go_wp2;go_roundg k3;(case measure=>have:=HJ3.out;have:=HK2.out;have:=HK3.out;omega);(case rel=>exact ⟨(yl),(wrap64 (yJ + 1)),eS,H',⟨by have:=HJ3.out;have:=HK2.out;have:=HK3.out;omega⟩,⟨uR iB.out⟩,⟨uH HB.out⟩⟩)
        replace H:=gD H;obtain ⟨Ee,H⟩:=H;replace H:=gD H;obtain ⟨aa6,H⟩:=H;obtain ⟨Gm,Wu⟩ : ∃ j_ : Int,(wrap64 (yJ + Cc)) = j_:=⟨_,rfl⟩;(first | rw [Wu] at H | simp only [Wu] at H);have aBt : (IntKind.i64.wrap (yJ + Cc)) = Gm:=(iI _).trans Wu;replace H:=gD H;obtain ⟨wB,H⟩:=H;replace H:=gD H;obtain ⟨Az,H⟩:=H;replace H:=bO H;obtain ⟨X3,A21,H⟩:=H;obtain ⟨atW,aie⟩:=eY (yl.set ((Gm) : Int).toNat X3 : List Int);(try rw [←aie.out] at H);have H':=zA H;clear H;have alo : 0 ≤ (Cc : Int):=oD;have alp : Cc < (l2.length : Int):=oD;obtain ⟨aD8,aBu,Wv⟩:=Kd.ik HR2.out Cc alo alp;cases aBu;replace Wv:=hc HB Wv;replace alo:=eq_true alo;replace alp:=eq_true alp;obtain ⟨l7,lQ,rfl⟩:=Kd.aV iB.out;have alq : 0 ≤ ((Gm) : Int):=oD;have alr : (Gm) < (yl.length : Int):=oD;obtain ⟨atX,aBv,afY⟩:=Kd.ik (Kd.aC iB.out).2.2 (Gm) alq alr;cases aBv;replace alq:=eq_true alq;replace alr:=eq_true alr;go_wp2_with (first | ((with_reducible refine ae (f:=54) rfl ?_);refine uw (some 56) rfl rfl Tryz.func54 (by kernel_rfl) rfl #[.int .i64 a0,.int .i64 (wrap64 ((rd yl (Gm)) + (wrap64 ((rd l1 yJ) * (rd l2 Cc)))))] rfl (by (try simp only [la,lb,lc]);first | done | (simp only [Wu];rfl) | rfl | (simp only [ld,le];rfl)) ?_;(with_reducible refine (dX.calls a0 (wrap64 ((rd yl (Gm)) + (wrap64 ((rd l1 yJ) * (rd l2 Cc))))) X3 _ A21.out).mono ?_);rintro e w' ⟨rfl,⟨nd,rfl⟩⟩;refine ⟨_,rfl,?_⟩;(try (rw [vL wr];generalize hq_ : World.drewN wr _ = wr;have n0_ : aa (Kd.R (Kd.int .i64) 2 wr w.heap.size (fun _=>True) (.slice (some atX) yl.length lQ) yl):=⟨by rw [← hq_];exact (uR iB.out)⟩;have n1_ : aa (Below w.heap.size w wr):=⟨by rw [← hq_];exact (uH HB.out)⟩;clear iB HB hq_;have iB:=n0_;have HB:=n1_;clear n0_ n1_));have p22 : 0 ≤ ((Gm) : Int):=of_decide_eq_true (by first | (with_reducible assumption) | assumption);have q22 : ((Gm) : Int) < ((yl.length : Int) : Int):=of_decide_eq_true (by first | (with_reducible assumption) | assumption);obtain ⟨als,kV,ND,atY,aBw,aGo,atZ⟩:=Kd.Bt iB.out (by omega);(first | cases ND | (injection ND with ea_ en_ ec_;(first | subst ea_ | (injection ea_ with ea_;subst ea_));subst ec_;clear en_));have at0:=zA atY;have:=geI at0;have aGp:=zA atZ;clear atY aBw atZ;(first | simp only [add_plain] at afY | skip);obtain ⟨aBx,aBy⟩:=Kd.yF 0 iB.out ((Gm) : Int) p22 q22;replace p22:=eq_true p22;replace q22:=eq_true q22;obtain ⟨aD9,aEa⟩:=Kd.yF 0 iB.out ((Gm) : Int) (of_decide_eq_true (by first | (with_reducible assumption) | assumption)) (of_decide_eq_true (by first | (with_reducible assumption) | assumption));have alu:=Kd.SB iB.out ((Gm) : Int) X3) | ((with_reducible refine tN (t:=2) (p:=57) rfl ?_);refine rG (t:=2) (p:=57) (v:=?aBz) (w1:=(wr.setCell ⟨als,((Gm) : Int).toNat,none⟩ (.int .i64 X3))) ?hg ?ho ?hn ?hr ?_;(case ho=>rfl);(case hg=>rfl);(case hn=>rfl);(case hr=>first | (go_simp;done) | (go_simp;rfl));intro w25 hw;have hg : wr.grownBy w25 (some als):=(by rw [hw];exact alu.2);have hp_ : Kd.R (Kd.int .i64) 2 w25 w.heap.size (fun _=>True) (.slice (some ⟨als,0,none⟩) yl.length lQ) atW:=(by rw [hw,aie.out];exact alu.1);clear alu;replace iB:=zA (hp_);replace HB:=zA ((by rw [hw];exact mW (HB.out) at0.out : Below w.heap.size w w25));clear hg hw hp_));go_roundg k3;(case measure=>have:=HJ3.out;have:=HK2.out;have:=HK3.out;omega);(case rel=>exact ⟨(atW),(wrap64 (Cc + 1)),eS,H',⟨by have:=HJ3.out;have:=HK2.out;have:=HK3.out;omega⟩,⟨uR iB.out⟩,⟨uH HB.out⟩⟩)
/-! ### mo: function 71 -/
def mo.f (k : Nat) (a0 : Int) (a1 : Int) (a2 : Int) (l3 : List Int) (l4 : List Int) : Option (List Int):=(dX.f a0 (wrap64 (-a1))).bind fun Rb=>((aN.f k a0 (([Rb,1] : List Int)) l3).bind fun ab1=>((dX.f a0 (wrap64 (-a2))).bind fun ab2=>((gT.f k a0 ab1 l4 ab2).bind fun alv=>(some alv))))
theorem mo.calls (k : Nat) (a0 : Int) (a1 : Int) (a2 : Int) (A3 : Option Addr) (c3 : Nat) (l3 : List Int) (A4 : Option Addr) (c4 : Nat) (l4 : List Int) (r : List Int) (w : World) (hr3 : Kd.C (Kd.int .i64) w A3 l3.length l3) (hc3 : l3.length ≤ c3) (hr4 : Kd.C (Kd.int .i64) w A4 l4.length l4) (hc4 : l4.length ≤ c4) (H : mo.f k a0 a1 a2 l3 l4 = some r) :
  Calls Tryz.prog 71 #[.int .i64 a0,.int .i64 a1,.int .i64 a2,.slice A3 l3.length c3,.slice A4 l4.length c4] w fun e w'=>∃ v0_ : Value,e = .returned (v0_)∧Kd.R (Kd.int .i64) 2 w' w.heap.size (fun _=>True) v0_ r∧Below w.heap.size w w':=by
 have HR3:=zA hr3;have HC3:=zA hc3;clear hr3 hc3;have HR4:=zA hr4;have HC4:=zA hc4;clear hr4 hc4;have HB:=zA (Below.refl w.heap.size w);unfold mo.f at H;replace H:=bO H;obtain ⟨Rb,A6,H⟩:=H;obtain ⟨at1,ab3⟩:=eY ([Rb,1] : List Int);(try rw [←ab3.out] at H);replace H:=bO H;obtain ⟨ab1,A7,H⟩:=H;replace H:=bO H;obtain ⟨ab2,A8,H⟩:=H;replace H:=bO H;obtain ⟨alv,A9,H⟩:=H;obtain rfl:=Option.some.inj H;go_enter Tryz.func71,Tryz.ntmps71;go_wp2_with (first | ((with_reducible refine ae (f:=54) rfl ?_);refine gL (some 16) Tryz.func54 #[.int .i64 a0,.int .i64 (wrap64 (-a1))] ?_;(with_reducible refine (dX.calls a0 (wrap64 (-a1)) Rb _ A6.out).mono ?_);rintro e w' ⟨rfl,⟨nd,rfl⟩⟩;refine ⟨_,rfl,?_⟩) | ((with_reducible refine bP (N:=17) rfl ?_);refine Kd.rE (Kd.int .i64) _ 2 ?hg (N:=17) ?hd (xs:=([Rb,1] : List Int)) (inner:=[.int .i64 Rb,.int .i64 1]) (ok:=fun _=>True) (okp:=fun _=>True) ?hr ?hp (fun _ hk=>hk) trivial (Below.refl _ _) (Nat.le_refl _) (by simp) ?_;(case hd=>rfl);(case hg=>rfl);(case hr=>first | (go_simp;done) | (go_simp;rfl));(case hp=>exact (dh.one (show Kd.M (Kd.int .i64) _ _ _ Rb [.int .i64 Rb] from rfl) (dh.one (show Kd.M (Kd.int .i64) _ _ _ 1 [.int .i64 1] from rfl) (dh.none _ _))));intro aGq w10 xg hb hg_ hnew_;clear hg_ hnew_;(first | rw [← ab3.out] at xg | (simp only [Int.reduceToNat] at xg;rw [← ab3.out] at xg));have Fs:=zA (Kd.bu xg (af (uH HB.out)));replace HB:=xH HB hb;clear hb xg;obtain ⟨Sq,Sr,Su⟩:=Kd.aV Fs.out;subst Su) | ((with_reducible refine ae (f:=35) rfl ?_);refine gL (some 19) Tryz.func35 #[.int .i64 a0,.slice Sq at1.length Sr,.slice A3 l3.length c3] ?_;(with_reducible refine (aN.calls k a0 _ _ at1 _ _ l3 ab1 _ ?side1 ?side2 ?side3 ?side4 A7.out).mono ?_);(case side1=>exact uC ((Kd.aC Fs.out).2.2));(case side2=>exact (Kd.aC Fs.out).2.1);(case side3=>exact uC ((Kd.aM HR3.out HB.out)));(case side4=>exact HC3.out);rintro e w13 ⟨aGr,rfl,ho0,hb⟩;refine ⟨_,rfl,?_⟩;have LY:=zA (Kd.bu (nw ho0 (uR Fs.out)) (af (uH HB.out)));replace Fs:=zA (Kd.aD (uR Fs.out) (Kd.aH ho0) hb);replace HB:=xH HB hb;(try clear hb);(try clear hk);(try clear ho0)) | ((with_reducible refine ae (f:=54) rfl ?_);refine gL (some 24) Tryz.func54 #[.int .i64 a0,.int .i64 (wrap64 (-a2))] ?_;(with_reducible refine (dX.calls a0 (wrap64 (-a2)) ab2 _ A8.out).mono ?_);rintro e w' ⟨rfl,⟨nd,rfl⟩⟩;refine ⟨_,rfl,?_⟩;obtain ⟨rA,rC,RZ⟩:=Kd.aV LY.out;subst RZ) | ((with_reducible refine ae (f:=87) rfl ?_);refine gL (some 25) Tryz.func87 #[.int .i64 a0,.slice rA ab1.length rC,.slice A4 l4.length c4,.int .i64 ab2] ?_;(with_reducible refine (gT.calls k a0 _ _ ab1 _ _ l4 ab2 alv _ ?side1 ?side2 ?side3 ?side4 A9.out).mono ?_);(case side1=>exact uC ((Kd.aC LY.out).2.2));(case side2=>exact (Kd.aC LY.out).2.1);(case side3=>repeat (first | exact (Kd.aM HR4.out (uH HB.out)) | (with_reducible refine Kd.bW ?_ _) | (with_reducible refine Kd.bY ?_ _) | (with_reducible refine Kd.dH ?_)));(case side4=>exact HC4.out);rintro e w15 ⟨aGs,rfl,ho0,hb⟩;refine ⟨_,rfl,?_⟩;have at5:=zA (Kd.bu (nw (nw ho0 (uR Fs.out)) (uR LY.out)) (af (uH HB.out)));replace Fs:=zA (Kd.aD (uR Fs.out) (Kd.aH ho0) hb);replace LY:=zA (Kd.aD (uR LY.out) (Kd.aH ho0) hb);replace HB:=xH HB hb;(try clear hb);(try clear hk);(try clear ho0)));go_ret;exact ⟨_,eX,uR (Kd.ag at5.out (fun _ hk=>trivial)),uH HB.out⟩
/-! ### iC: function 75 -/
def iC.l0 : Nat → Int → List (List Int) → List Int → List Int → Int → Int → Option (List Int)
 | 0,_,_,_,_,_,_=>none
 | k + 1,x0,x2,x7,x10,x11,x12=>if x12 < x11 then (if 0 ≤ x12 then (if x12 < (x10.length : Int) then (if x12 < (x2.length : Int) then ((gT.f k x0 x7 (dQ x2 x12) (rd x10 x12)).bind fun afZ=>(iC.l0 k x0 x2 afZ x10 x11 (wrap64 (x12 + 1)))) else (none)) else (none)) else (none)) else (some x7)
def iC.f (k : Nat) (a0 : Int) (l1 : List Int) (l2 : List (List Int)) : Option (List Int):=iC.l0 k a0 l2 ([] : List Int) l1 (l1.length : Int) 0
theorem iC.calls (k : Nat) (a0 : Int) (A1 : Option Addr) (c1 : Nat) (l1 : List Int) (A2 : Option Addr) (c2 : Nat) (l2 : List (List Int)) (r : List Int) (w : World) (hr1 : Kd.C (Kd.int .i64) w A1 l1.length l1) (hc1 : l1.length ≤ c1) (hr2 : Kd.C (Kd.slice 2 (Kd.int .i64)) w A2 l2.length l2) (hc2 : l2.length ≤ c2) (H : iC.f k a0 l1 l2 = some r) :
  Calls Tryz.prog 75 #[.int .i64 a0,.slice A1 l1.length c1,.slice A2 l2.length c2] w fun e w'=>∃ v0_ : Value,e = .returned (v0_)∧Kd.R (Kd.int .i64) 2 w' w.heap.size (fun _=>True) v0_ r∧Below w.heap.size w w':=by
 have HR1:=zA hr1;have HC1:=zA hc1;clear hr1 hc1;have HR2:=zA hr2;have HC2:=zA hc2;clear hr2 hc2;have HB:=zA (Below.refl w.heap.size w);unfold iC.f at H;have H':=zA H;clear H;go_enter Tryz.func75,Tryz.ntmps75;go_wp2;go_loopg [7,12] k (fun kq v7 v12 w'=>∃ (lF : List Int) (yK : Int),v12 = .int .i64 yK∧aa (iC.l0 kq a0 l2 lF l1 (l1.length : Int) yK = some r)∧aa (kq ≤ k)∧aa (Kd.R (Kd.int .i64) 2 w' w.heap.size (fun _=>True) v7 lF)∧aa (Below w.heap.size w w'));(case atStart=>exact ⟨(([] : List Int)),(0),eS,H',⟨Nat.le_refl _⟩,⟨by first | exact Kd.pq _ _ _ _ _ | exact Kd.Bi _ _ _ _ _ | exact Kd.vz _ _ _ _ _ | exact Kd.vX _ _ _ _ _ | exact Kd.vU _ _ _ _ _⟩,⟨uH HB.out⟩⟩)
 case round =>
  clear H';(try clear c1);(try clear c2);(try clear p2);obtain ⟨lF,yK,rfl,HA,HK1,iB,HB⟩:=hrel
  cases gk with
  | zero=>exact absurd HA.out (by simp [iC.l0])
  | succ k1 =>
   have H:=HA.out;clear HA;simp only [iC.l0] at H;replace H:=gF H;obtain ⟨qO,H⟩|⟨qO,H⟩:=H
   ·obtain rfl:=Option.some.inj H;go_wp2;go_ret;exact ⟨_,eX,uR iB.out,uH HB.out⟩
   replace H:=gD H;obtain ⟨ny,H⟩:=H;replace H:=gD H;obtain ⟨qo,H⟩:=H;replace H:=gD H;obtain ⟨yQ,H⟩:=H;replace H:=bO H;obtain ⟨afZ,A8,H⟩:=H;have H':=zA H;clear H;have alx : 0 ≤ (yK : Int):=oD;have aly : yK < (l1.length : Int):=oD;obtain ⟨aEb,aBA,Ww⟩:=Kd.ik HR1.out yK alx aly;cases aBA;replace Ww:=hc HB Ww;replace alx:=eq_true alx;replace aly:=eq_true aly;have alz : 0 ≤ (yK : Int):=oD;have alA : yK < (l2.length : Int):=oD;obtain ⟨aEc,alB,alC,aBB,Wx,Wy,Wz⟩:=xL HR2.out yK alz alA;cases aBB;replace Wx:=hc HB Wx;have af0:=zA Wz;have af1:=zA Wy;clear Wz Wy;replace alz:=eq_true alz;replace alA:=eq_true alA;obtain ⟨Ao9,co9,rfl⟩:=Kd.aV iB.out;go_wp2_with (first | ((with_reducible refine ae (f:=87) rfl ?_);refine gL (some 24) Tryz.func87 #[.int .i64 a0,.slice Ao9 lF.length co9,.slice alB (dQ l2 yK).length alC,.int .i64 (rd l1 yK)] ?_;(with_reducible refine (gT.calls k1 a0 _ _ lF _ _ (dQ l2 yK) (rd l1 yK) afZ _ ?side1 ?side2 ?side3 ?side4 A8.out).mono ?_);(case side1=>exact uC ((Kd.aC iB.out).2.2));(case side2=>exact (Kd.aC iB.out).2.1);(case side3=>exact uC ((Kd.aM af0.out HB.out)));(case side4=>exact af1.out);rintro e w10 ⟨aGt,rfl,ho0,hb⟩;refine ⟨_,rfl,?_⟩;have at6:=zA (Kd.bu (nw ho0 (uR iB.out)) (af (uH HB.out)));replace iB:=zA (Kd.aD (uR iB.out) (Kd.aH ho0) hb);replace HB:=xH HB hb;(try clear hb);(try clear ho0)));go_roundg k1;(case measure=>have:=HK1.out;omega);(case rel=>exact ⟨(afZ),(wrap64 (yK + 1)),eS,H',⟨by have:=HK1.out;omega⟩,⟨uR (Kd.ag at6.out (fun _ hk=>trivial))⟩,⟨uH HB.out⟩⟩)
/-! ### jC: function 51 -/
def jC.f (a0 : Int) (a1 : Int) (a2 : Int) : Option (Bool):=if a1 ≤ a0 then (some (decide (a0 ≤ a2))) else (some false)
theorem jC.calls (a0 : Int) (a1 : Int) (a2 : Int) (r : Bool) (w : World) (H : jC.f a0 a1 a2 = some r) :
  Calls Tryz.prog 51 #[.int .i64 a0,.int .i64 a1,.int .i64 a2] w fun e w'=>e = .returned (.bool r)∧aQ w w':=by
 unfold jC.f at H;replace H:=gF H;obtain ⟨qO,H⟩|⟨qO,H⟩:=H
 ·obtain rfl:=Option.some.inj H;go_enter Tryz.func51,Tryz.ntmps51;go_wp2;go_ret;exact ⟨by first | rfl | (simp;done) | (simp [*];done),by repeat (first | exact aQ.refl _ | apply aQ.step)⟩
 obtain rfl:=Option.some.inj H;go_enter Tryz.func51,Tryz.ntmps51;go_wp2;go_ret;exact ⟨by first | rfl | (simp;done) | (simp [*];done),by repeat (first | exact aQ.refl _ | apply aQ.step)⟩
/-! ### gP: function 67 -/
def gP.l0 : Nat → Int → Int → Option (Bool)
 | 0,_,_=>none
 | k + 1,x0,x3=>if (wrap64 (x3 * x3)) ≤ x0 then (if x3 = 0 then (none) else (if (Int.tmod x0 x3) = 0 then (some false) else (gP.l0 k x0 (wrap64 (x3 + 1))))) else (some true)
def gP.f (k : Nat) (a0 : Int) : Option (Bool):=(jC.f a0 2 10007).bind fun at7=>(if at7 = true then (gP.l0 k a0 2) else (some false))
theorem gP.calls (k : Nat) (a0 : Int) (r : Bool) (w : World) (H : gP.f k a0 = some r) :
  Calls Tryz.prog 67 #[.int .i64 a0] w fun e w'=>e = .returned (.bool r)∧aQ w w':=by
 unfold gP.f at H;replace H:=bO H;obtain ⟨at7,A2,H⟩:=H;replace H:=gB H;obtain ⟨rfl,H⟩|⟨rfl,H⟩:=H
 ·have H':=zA H;clear H;go_enter Tryz.func67,Tryz.ntmps67;go_wp2_with (first | ((with_reducible refine ae (f:=51) rfl ?_);refine gL (some 5) Tryz.func51 #[.int .i64 a0,.int .i64 2,.int .i64 10007] ?_;(with_reducible refine (jC.calls a0 2 10007 true _ A2.out).mono ?_);rintro e w' ⟨rfl,⟨nd,rfl⟩⟩;refine ⟨_,rfl,?_⟩));go_loopg [3] k (fun kq v3 w'=>∃ (lK : Int),v3 = .int .i64 lK∧aa (gP.l0 kq a0 lK = some r)∧aa (kq ≤ k)∧aQ w w');(case atStart=>exact ⟨(2),eS,H',⟨Nat.le_refl _⟩,by repeat (first | exact aQ.refl _ | apply aQ.step)⟩)
  case round =>
   clear H';(try clear p2);(try clear c3);obtain ⟨lK,rfl,HA,HK1,⟨m1,rfl⟩⟩:=hrel
   cases gk with
   | zero=>exact absurd HA.out (by simp [gP.l0])
   | succ k1 =>
    have H:=HA.out;clear HA;simp only [gP.l0] at H;replace H:=gF H;obtain ⟨qO,H⟩|⟨qO,H⟩:=H
    ·obtain rfl:=Option.some.inj H;go_wp2;go_ret;exact ⟨by first | rfl | (simp;done) | (simp [*];done),by repeat (first | exact aQ.refl _ | apply aQ.step)⟩
    replace H:=gI H;obtain ⟨c5,H⟩|⟨c5,H⟩:=H
    ·have ny : (lK == 0) = false:=beq_eq_false_iff_ne.mpr c5;have vY : (lK != 0) = true:=bne_iff_ne.mpr c5;replace H:=gE H;obtain ⟨c6,qo,vW,H⟩|⟨c6,qo,vW,H⟩:=H
     ·have H':=zA H;clear H;go_wp2;go_roundg k1;(case measure=>have:=HK1.out;omega);(case rel=>exact ⟨(wrap64 (lK + 1)),eS,H',⟨by have:=HK1.out;omega⟩,by repeat (first | exact aQ.refl _ | apply aQ.step)⟩)
     clear c6;obtain rfl:=Option.some.inj H;go_wp2;go_ret;exact ⟨by first | rfl | (simp;done) | (simp [*];done),by repeat (first | exact aQ.refl _ | apply aQ.step)⟩
    exact absurd H (by simp)
 ·obtain rfl:=Option.some.inj H;go_enter Tryz.func67,Tryz.ntmps67;go_wp2_with (first | ((with_reducible refine ae (f:=51) rfl ?_);refine gL (some 5) Tryz.func51 #[.int .i64 a0,.int .i64 2,.int .i64 10007] ?_;(with_reducible refine (jC.calls a0 2 10007 false _ A2.out).mono ?_);rintro e w' ⟨rfl,⟨nd,rfl⟩⟩;refine ⟨_,rfl,?_⟩));go_ret;exact ⟨by first | rfl | (simp;done) | (simp [*];done),by repeat (first | exact aQ.refl _ | apply aQ.step)⟩
/-! ### nD: function 44 -/
def nD.f (a0 : Int) (a1 : Int) : Option (Bool):=(jC.f a0 a1 12).bind fun alD=>(some alD)
theorem nD.calls (a0 : Int) (a1 : Int) (r : Bool) (w : World) (H : nD.f a0 a1 = some r) :
  Calls Tryz.prog 44 #[.int .i64 a0,.int .i64 a1] w fun e w'=>e = .returned (.bool r)∧aQ w w':=by
 unfold nD.f at H;replace H:=bO H;obtain ⟨alD,A3,H⟩:=H;obtain rfl:=Option.some.inj H;go_enter Tryz.func44,Tryz.ntmps44;go_wp2_with (first | ((with_reducible refine ae (f:=51) rfl ?_);refine gL (some 7) Tryz.func51 #[.int .i64 a0,.int .i64 a1,.int .i64 12] ?_;(with_reducible refine (jC.calls a0 a1 12 alD _ A3.out).mono ?_);rintro e w' ⟨rfl,⟨nd,rfl⟩⟩;refine ⟨_,rfl,?_⟩));go_ret;exact ⟨by first | rfl | (simp;done) | (simp [*];done),by repeat (first | exact aQ.refl _ | apply aQ.step)⟩
/-! ### nC: function 46 -/
def nC.f (au : Int) : Option (Bool):=(nD.f au 0).bind fun alE=>(some alE)
theorem nC.calls (gc0 : Nat) (au : Int) (r : Bool) (w : World) (hb0 : w.heap[gc0]? = some (.cells #[.int .i64 au] 2 (0,0))) (H : nC.f au = some r) :
  Calls Tryz.prog 46 #[.pointer (some ⟨gc0,0,none⟩)] w fun e w'=>e = .returned (.bool r)∧aQ w w':=by
 have BK0:=zA hb0;clear hb0;unfold nC.f at H;replace H:=bO H;obtain ⟨alE,A2,H⟩:=H;obtain rfl:=Option.some.inj H;have ab4:=bc BK0 0;have ab5:=bf BK0 0;go_enter Tryz.func46,Tryz.ntmps46;go_wp2_with (first | ((with_reducible refine ae (f:=44) rfl ?_);refine gL (some 3) Tryz.func44 #[.int .i64 au,.int .i64 0] ?_;(with_reducible refine (nD.calls au 0 alE _ A2.out).mono ?_);rintro e w' ⟨rfl,⟨nd,rfl⟩⟩;refine ⟨_,rfl,?_⟩));go_ret;exact ⟨by first | rfl | (simp;done) | (simp [*];done),by repeat (first | exact aQ.refl _ | apply aQ.step)⟩
/-! ### ek: function 43 -/
def ek.f (au : Int) : Option (Bool):=(nD.f au 0).bind fun alF=>(some alF)
theorem ek.calls (gc0 : Nat) (au : Int) (r : Bool) (w : World) (hb0 : w.heap[gc0]? = some (.cells #[.int .i64 au] 2 (0,0))) (H : ek.f au = some r) :
  Calls Tryz.prog 43 #[.pointer (some ⟨gc0,0,none⟩)] w fun e w'=>e = .returned (.bool r)∧aQ w w':=by
 have BK0:=zA hb0;clear hb0;unfold ek.f at H;replace H:=bO H;obtain ⟨alF,A2,H⟩:=H;obtain rfl:=Option.some.inj H;have ab4:=bc BK0 0;have ab5:=bf BK0 0;go_enter Tryz.func43,Tryz.ntmps43;go_wp2_with (first | ((with_reducible refine ae (f:=44) rfl ?_);refine gL (some 3) Tryz.func44 #[.int .i64 au,.int .i64 0] ?_;(with_reducible refine (nD.calls au 0 alF _ A2.out).mono ?_);rintro e w' ⟨rfl,⟨nd,rfl⟩⟩;refine ⟨_,rfl,?_⟩));go_ret;exact ⟨by first | rfl | (simp;done) | (simp [*];done),by repeat (first | exact aQ.refl _ | apply aQ.step)⟩
/-! ### iU: function 11 -/
def iU.l0 : Nat → List Int → List Int → Int → Option (Bool)
 | 0,_,_,_=>none
 | k + 1,x0,x1,x5=>if x5 < (x0.length : Int) then (if 0 ≤ x5 then (if x5 < (x1.length : Int) then (if (rd x0 x5) = (rd x1 x5) then (iU.l0 k x0 x1 (wrap64 (x5 + 1))) else (some false)) else (none)) else (none)) else (some true)
def iU.f (k : Nat) (l0 : List Int) (l1 : List Int) : Option (Bool):=if (l0.length : Int) = (l1.length : Int) then (iU.l0 k l0 l1 0) else (some false)
theorem iU.calls (k : Nat) (A0 : Option Addr) (c0 : Nat) (l0 : List Int) (A1 : Option Addr) (c1 : Nat) (l1 : List Int) (r : Bool) (w : World) (hr0 : Kd.C (Kd.int .i64) w A0 l0.length l0) (hc0 : l0.length ≤ c0) (hr1 : Kd.C (Kd.int .i64) w A1 l1.length l1) (hc1 : l1.length ≤ c1) (H : iU.f k l0 l1 = some r) :
  Calls Tryz.prog 11 #[.slice A0 l0.length c0,.slice A1 l1.length c1] w fun e w'=>e = .returned (.bool r)∧aQ w w':=by
 have HR0:=zA hr0;have HC0:=zA hc0;clear hr0 hc0;have HR1:=zA hr1;have HC1:=zA hc1;clear hr1 hc1;unfold iU.f at H;replace H:=gE H;obtain ⟨c3,vE,Po,H⟩|⟨c3,vE,Po,H⟩:=H
 ·(have aua : (l0.length == l1.length) = false:=by first | simpa using c3 | (simp at c3 ⊢;omega));obtain rfl:=Option.some.inj H;go_enter Tryz.func11,Tryz.ntmps11;go_wp2;(repeat (go_quiet (fail);try go_wp2));go_ret;exact ⟨by first | rfl | (simp;done) | (simp [*];done),by repeat (first | exact aQ.refl _ | apply aQ.step)⟩
 (have aua : (l0.length == l1.length) = true:=by first | simpa using c3 | (simp at c3 ⊢;omega));clear c3;have H':=zA H;clear H;go_enter Tryz.func11,Tryz.ntmps11;go_wp2;(repeat (go_quiet (fail);try go_wp2));go_loopg [5] k (fun kq v5 w'=>∃ (gu : Int),v5 = .int .i64 gu∧aa (iU.l0 kq l0 l1 gu = some r)∧aa (kq ≤ k)∧aQ w w');(case atStart=>exact ⟨(0),eS,H',⟨Nat.le_refl _⟩,by repeat (first | exact aQ.refl _ | apply aQ.step)⟩)
 case round =>
  clear H';(try clear c1);(try clear p2);(try clear c3);(try clear vE);(try clear Po);(try clear aua);obtain ⟨gu,rfl,HA,HK1,⟨m1,rfl⟩⟩:=hrel
  cases gk with
  | zero=>exact absurd HA.out (by simp [iU.l0])
  | succ k1 =>
   have H:=HA.out;clear HA;simp only [iU.l0] at H;replace H:=gF H;obtain ⟨qO,H⟩|⟨qO,H⟩:=H
   ·obtain rfl:=Option.some.inj H;go_wp2;(repeat (go_quiet (fail);try go_wp2));go_ret;exact ⟨by first | rfl | (simp;done) | (simp [*];done),by repeat (first | exact aQ.refl _ | apply aQ.step)⟩
   replace H:=gD H;obtain ⟨ny,H⟩:=H;replace H:=gD H;obtain ⟨qo,H⟩:=H;replace H:=gE H;obtain ⟨c7,yQ,Bb,H⟩|⟨c7,yQ,Bb,H⟩:=H
   ·obtain rfl:=Option.some.inj H;have TC : 0 ≤ (gu : Int):=oD;have TD : gu < (l0.length : Int):=oD;obtain ⟨aub,alG,af2⟩:=Kd.ik HR0.out gu TC TD;cases alG;replace TC:=eq_true TC;replace TD:=eq_true TD;have TE : 0 ≤ (gu : Int):=oD;have TF : gu < (l1.length : Int):=oD;obtain ⟨auc,alH,af3⟩:=Kd.ik HR1.out gu TE TF;cases alH;replace TE:=eq_true TE;replace TF:=eq_true TF;go_wp2;(repeat (go_quiet (fail);try go_wp2));go_ret;exact ⟨by first | rfl | (simp;done) | (simp [*];done),by repeat (first | exact aQ.refl _ | apply aQ.step)⟩
   clear c7;have H':=zA H;clear H;have TC : 0 ≤ (gu : Int):=oD;have TD : gu < (l0.length : Int):=oD;obtain ⟨aub,alG,af2⟩:=Kd.ik HR0.out gu TC TD;cases alG;replace TC:=eq_true TC;replace TD:=eq_true TD;have TE : 0 ≤ (gu : Int):=oD;have TF : gu < (l1.length : Int):=oD;obtain ⟨auc,alH,af3⟩:=Kd.ik HR1.out gu TE TF;cases alH;replace TE:=eq_true TE;replace TF:=eq_true TF;go_wp2;(repeat (go_quiet (fail);try go_wp2));go_roundg k1;(case measure=>have:=HK1.out;omega);(case rel=>exact ⟨(wrap64 (gu + 1)),eS,H',⟨by have:=HK1.out;omega⟩,by repeat (first | exact aQ.refl _ | apply aQ.step)⟩)
/-! ### dI: function 102 -/
def dI.l0 : Nat → List Int → (Int → Option Bool) → Int → Int → Option (Int)
 | 0,_,_,_,_=>none
 | k + 1,x0,x1,x7,x8=>if x8 < x7 then (if 0 ≤ x8 then (if x8 < (x0.length : Int) then ((x1 (rd x0 x8)).bind fun aud=>(if aud = true then (some x8) else (dI.l0 k x0 x1 x7 (wrap64 (x8 + 1))))) else (none)) else (none)) else (some (-1))
def dI.f (k : Nat) (l0 : List Int) (a1 : (Int → Option Bool)) : Option (Int):=dI.l0 k l0 a1 (l0.length : Int) 0
theorem dI.calls (k : Nat) (A0 : Option Addr) (c0 : Nat) (l0 : List Int) (F1 : Value) (a1 : (Int → Option Bool)) (r : Int) (w : World) (hr0 : Kd.C (Kd.int .i64) w A0 l0.length l0) (hc0 : l0.length ≤ c0) (hF1 : FnI Tryz.prog w F1 a1) (H : dI.f k l0 a1 = some r) :
  Calls Tryz.prog 102 #[.slice A0 l0.length c0,F1] w fun e w'=>e = .returned (.int .i64 r)∧Below w.heap.size w w':=by
 have HR0:=zA hr0;have HC0:=zA hc0;clear hr0 hc0;obtain ⟨G1,fi1,ca1,rfl,vv,hF1⟩:=hF1;have vv : ∀ (args_ : Array Value) (w_ : World),(callFunc G1 args_).run Tryz.prog w_ = .ok (.enter G1 args_) w_:=vv;have HF1:=zA hF1;clear hF1;have HB:=zA (Below.refl w.heap.size w);unfold dI.f at H;have H':=zA H;clear H;go_enter Tryz.func102,Tryz.ntmps102;go_wp2;go_loopg [8] k (fun kq v8 w'=>∃ (dE : Int),v8 = .int .i64 dE∧aa (dI.l0 kq l0 a1 (l0.length : Int) dE = some r)∧aa (kq ≤ k)∧aa (Below w.heap.size w w'));(case atStart=>exact ⟨(0),eS,H',⟨Nat.le_refl _⟩,⟨uH HB.out⟩⟩)
 case round =>
  clear H';(try clear c1);(try clear p2);obtain ⟨dE,rfl,HA,HK1,HB⟩:=hrel
  cases gk with
  | zero=>exact absurd HA.out (by simp [dI.l0])
  | succ k1 =>
   have H:=HA.out;clear HA;simp only [dI.l0] at H;replace H:=gF H;obtain ⟨vE,H⟩|⟨vE,H⟩:=H
   ·obtain rfl:=Option.some.inj H;go_wp2;go_ret;exact ⟨eX,uH HB.out⟩
   replace H:=gD H;obtain ⟨qO,H⟩:=H;replace H:=gD H;obtain ⟨ny,H⟩:=H;replace H:=bO H;obtain ⟨aud,A6,H⟩:=H;replace H:=gB H;obtain ⟨rfl,H⟩|⟨rfl,H⟩:=H
   ·obtain rfl:=Option.some.inj H;have TG : 0 ≤ (dE : Int):=oD;have TH : dE < (l0.length : Int):=oD;obtain ⟨aue,alI,Fu⟩:=Kd.ik HR0.out dE TG TH;cases alI;replace Fu:=hc HB Fu;replace TG:=eq_true TG;replace TH:=eq_true TH;go_wp2_with (first | (go_at_fn G1;refine cz (args':=fi1 ++ #[.int .i64 (rd l0 dE)] ++ ca1) (by simp) ?_;refine (HF1.out (rd l0 dE) _ A6.out _ (uH HB.out)).mono ?_;rintro e w8 ⟨rfl,hb⟩;replace HB:=xH HB hb;(try clear hb)));go_ret;exact ⟨eX,uH HB.out⟩
   ·have H':=zA H;clear H;have TG : 0 ≤ (dE : Int):=oD;have TH : dE < (l0.length : Int):=oD;obtain ⟨aue,alI,Fu⟩:=Kd.ik HR0.out dE TG TH;cases alI;replace Fu:=hc HB Fu;replace TG:=eq_true TG;replace TH:=eq_true TH;go_wp2_with (first | (go_at_fn G1;refine cz (args':=fi1 ++ #[.int .i64 (rd l0 dE)] ++ ca1) (by simp) ?_;refine (HF1.out (rd l0 dE) _ A6.out _ (uH HB.out)).mono ?_;rintro e w9 ⟨rfl,hb⟩;replace HB:=xH HB hb;(try clear hb)));go_roundg k1;(case measure=>have:=HK1.out;omega);(case rel=>exact ⟨(wrap64 (dE + 1)),eS,H',⟨by have:=HK1.out;omega⟩,⟨uH HB.out⟩⟩)
/-! ### jl: function 94 -/
def jl.f (k : Nat) (l0 : List Int) (a1 : (Int → Option Bool)) : Option (Bool):=(dI.f k l0 a1).bind fun alJ=>(some (decide (alJ ≥ 0)))
theorem jl.calls (k : Nat) (A0 : Option Addr) (c0 : Nat) (l0 : List Int) (F1 : Value) (a1 : (Int → Option Bool)) (r : Bool) (w : World) (hr0 : Kd.C (Kd.int .i64) w A0 l0.length l0) (hc0 : l0.length ≤ c0) (hF1 : FnI Tryz.prog w F1 a1) (H : jl.f k l0 a1 = some r) :
  Calls Tryz.prog 94 #[.slice A0 l0.length c0,F1] w fun e w'=>e = .returned (.bool r)∧Below w.heap.size w w':=by
 have HR0:=zA hr0;have HC0:=zA hc0;clear hr0 hc0;obtain ⟨G1,fi1,ca1,rfl,vv,hF1⟩:=hF1;have vv : ∀ (args_ : Array Value) (w_ : World),(callFunc G1 args_).run Tryz.prog w_ = .ok (.enter G1 args_) w_:=vv;have HF1:=zA hF1;clear hF1;have HB:=zA (Below.refl w.heap.size w);unfold jl.f at H;replace H:=bO H;obtain ⟨alJ,A3,H⟩:=H;obtain rfl:=Option.some.inj H;go_enter Tryz.func94,Tryz.ntmps94;go_wp2_with (first | ((with_reducible refine ae (f:=102) rfl ?_);refine gL (some 7) Tryz.func102 #[.slice A0 l0.length c0,(.func (.func G1) fi1 ca1)] ?_;(with_reducible refine (dI.calls k _ _ l0 _ a1 alJ _ ?side1 ?side2 ?side3 A3.out).mono ?_);(case side1=>exact uC HR0.out);(case side2=>exact HC0.out);(case side3=>exact FnI.later (uH HB.out) (show FnI Tryz.prog w (.func (.func G1) fi1 ca1) a1 from ⟨_,_,_,rfl,vv,HF1.out⟩));rintro e w4 ⟨rfl,hb⟩;refine ⟨_,rfl,?_⟩;replace HB:=xH HB hb;(try clear hb)));go_ret;exact ⟨eX,uH HB.out⟩
/-! ### bQ: function 93 -/
def bQ.l0 : Nat → List (List Int) → (List Int → Option Bool) → Int → Int → Option (Int)
 | 0,_,_,_,_=>none
 | k + 1,x0,x1,x7,x8=>if x8 < x7 then (if 0 ≤ x8 then (if x8 < (x0.length : Int) then ((x1 (dQ x0 x8)).bind fun auf=>(if auf = true then (some x8) else (bQ.l0 k x0 x1 x7 (wrap64 (x8 + 1))))) else (none)) else (none)) else (some (-1))
def bQ.f (k : Nat) (l0 : List (List Int)) (a1 : (List Int → Option Bool)) : Option (Int):=bQ.l0 k l0 a1 (l0.length : Int) 0
theorem bQ.calls (k : Nat) (A0 : Option Addr) (c0 : Nat) (l0 : List (List Int)) (F1 : Value) (a1 : (List Int → Option Bool)) (r : Int) (w : World) (hr0 : Kd.C (Kd.slice 2 (Kd.int .i64)) w A0 l0.length l0) (hc0 : l0.length ≤ c0) (hF1 : FnL Tryz.prog w F1 a1) (H : bQ.f k l0 a1 = some r) :
  Calls Tryz.prog 93 #[.slice A0 l0.length c0,F1] w fun e w'=>e = .returned (.int .i64 r)∧Below w.heap.size w w':=by
 have HR0:=zA hr0;have HC0:=zA hc0;clear hr0 hc0;obtain ⟨G1,fi1,ca1,rfl,vv,hF1⟩:=hF1;have vv : ∀ (args_ : Array Value) (w_ : World),(callFunc G1 args_).run Tryz.prog w_ = .ok (.enter G1 args_) w_:=vv;have HF1:=zA hF1;clear hF1;have HB:=zA (Below.refl w.heap.size w);unfold bQ.f at H;have H':=zA H;clear H;go_enter Tryz.func93,Tryz.ntmps93;go_wp2;go_loopg [8] k (fun kq v8 w'=>∃ (dE : Int),v8 = .int .i64 dE∧aa (bQ.l0 kq l0 a1 (l0.length : Int) dE = some r)∧aa (kq ≤ k)∧aa (Below w.heap.size w w'));(case atStart=>exact ⟨(0),eS,H',⟨Nat.le_refl _⟩,⟨uH HB.out⟩⟩)
 case round =>
  clear H';(try clear p2);obtain ⟨dE,rfl,HA,HK1,HB⟩:=hrel
  cases gk with
  | zero=>exact absurd HA.out (by simp [bQ.l0])
  | succ k1 =>
   have H:=HA.out;clear HA;simp only [bQ.l0] at H;replace H:=gF H;obtain ⟨vE,H⟩|⟨vE,H⟩:=H
   ·obtain rfl:=Option.some.inj H;go_wp2;go_ret;exact ⟨eX,uH HB.out⟩
   replace H:=gD H;obtain ⟨qO,H⟩:=H;replace H:=gD H;obtain ⟨ny,H⟩:=H;replace H:=bO H;obtain ⟨auf,A6,H⟩:=H;replace H:=gB H;obtain ⟨rfl,H⟩|⟨rfl,H⟩:=H
   ·obtain rfl:=Option.some.inj H;have TI : 0 ≤ (dE : Int):=oD;have TJ : dE < (l0.length : Int):=oD;obtain ⟨aug,TK,TL,alK,Fv,Fw,Fx⟩:=xL HR0.out dE TI TJ;cases alK;replace Fv:=hc HB Fv;have OM:=zA Fx;have OO:=zA Fw;clear Fx Fw;replace TI:=eq_true TI;replace TJ:=eq_true TJ;go_wp2_with (first | (go_at_fn G1;refine cz (args':=fi1 ++ #[.slice TK (dQ l0 dE).length TL] ++ ca1) (by simp) ?_;refine (HF1.out (dQ l0 dE) _ _ _ A6.out _ (uH HB.out) (by exact uC ((Kd.aM OM.out HB.out))) (by exact OO.out)).mono ?_;rintro e w8 ⟨rfl,hb⟩;replace HB:=xH HB hb;(try clear hb)));go_ret;exact ⟨eX,uH HB.out⟩
   ·have H':=zA H;clear H;have TI : 0 ≤ (dE : Int):=oD;have TJ : dE < (l0.length : Int):=oD;obtain ⟨aug,TK,TL,alK,Fv,Fw,Fx⟩:=xL HR0.out dE TI TJ;cases alK;replace Fv:=hc HB Fv;have OM:=zA Fx;have OO:=zA Fw;clear Fx Fw;replace TI:=eq_true TI;replace TJ:=eq_true TJ;go_wp2_with (first | (go_at_fn G1;refine cz (args':=fi1 ++ #[.slice TK (dQ l0 dE).length TL] ++ ca1) (by simp) ?_;refine (HF1.out (dQ l0 dE) _ _ _ A6.out _ (uH HB.out) (by exact uC ((Kd.aM OM.out HB.out))) (by exact OO.out)).mono ?_;rintro e w9 ⟨rfl,hb⟩;replace HB:=xH HB hb;(try clear hb)));go_roundg k1;(case measure=>have:=HK1.out;omega);(case rel=>exact ⟨(wrap64 (dE + 1)),eS,H',⟨by have:=HK1.out;omega⟩,⟨uH HB.out⟩⟩)
/-! ### jo: function 80 -/
def jo.f (k : Nat) (l0 : List (List Int)) (a1 : (List Int → Option Bool)) : Option (Bool):=(bQ.f k l0 a1).bind fun alL=>(some (decide (alL ≥ 0)))
theorem jo.calls (k : Nat) (A0 : Option Addr) (c0 : Nat) (l0 : List (List Int)) (F1 : Value) (a1 : (List Int → Option Bool)) (r : Bool) (w : World) (hr0 : Kd.C (Kd.slice 2 (Kd.int .i64)) w A0 l0.length l0) (hc0 : l0.length ≤ c0) (hF1 : FnL Tryz.prog w F1 a1) (H : jo.f k l0 a1 = some r) :
  Calls Tryz.prog 80 #[.slice A0 l0.length c0,F1] w fun e w'=>e = .returned (.bool r)∧Below w.heap.size w w':=by
 have HR0:=zA hr0;have HC0:=zA hc0;clear hr0 hc0;obtain ⟨G1,fi1,ca1,rfl,vv,hF1⟩:=hF1;have vv : ∀ (args_ : Array Value) (w_ : World),(callFunc G1 args_).run Tryz.prog w_ = .ok (.enter G1 args_) w_:=vv;have HF1:=zA hF1;clear hF1;have HB:=zA (Below.refl w.heap.size w);unfold jo.f at H;replace H:=bO H;obtain ⟨alL,A3,H⟩:=H;obtain rfl:=Option.some.inj H;go_enter Tryz.func80,Tryz.ntmps80;go_wp2_with (first | ((with_reducible refine ae (f:=93) rfl ?_);refine gL (some 7) Tryz.func93 #[.slice A0 l0.length c0,(.func (.func G1) fi1 ca1)] ?_;(with_reducible refine (bQ.calls k _ _ l0 _ a1 alL _ ?side1 ?side2 ?side3 A3.out).mono ?_);(case side1=>exact uC HR0.out);(case side2=>exact HC0.out);(case side3=>exact FnL.later (uH HB.out) (show FnL Tryz.prog w (.func (.func G1) fi1 ca1) a1 from ⟨_,_,_,rfl,vv,HF1.out⟩));rintro e w4 ⟨rfl,hb⟩;refine ⟨_,rfl,?_⟩;replace HB:=xH HB hb;(try clear hb)));go_ret;exact ⟨eX,uH HB.out⟩
/-! ### jN: function 26 -/
def jN.l0 : Nat → Int → List Int → Int → Int → Int → Option (Int)
 | 0,_,_,_,_,_=>none
 | k + 1,x0,x1,x2,x7,x8=>if x8 ≥ 0 then (if 0 ≤ x8 then (if x8 < (x1.length : Int) then (if x0 = 0 then (none) else (jN.l0 k x0 x1 x2 (Int.tmod (wrap64 ((wrap64 (x7 * x2)) + (rd x1 x8))) x0) (wrap64 (x8 - 1)))) else (none)) else (none)) else (some x7)
def jN.f (k : Nat) (a0 : Int) (l1 : List Int) (a2 : Int) : Option (Int):=jN.l0 k a0 l1 a2 0 (wrap64 ((l1.length : Int) - 1))
theorem jN.calls (k : Nat) (a0 : Int) (A1 : Option Addr) (c1 : Nat) (l1 : List Int) (a2 : Int) (r : Int) (w : World) (hr1 : Kd.C (Kd.int .i64) w A1 l1.length l1) (hc1 : l1.length ≤ c1) (H : jN.f k a0 l1 a2 = some r) :
  Calls Tryz.prog 26 #[.int .i64 a0,.slice A1 l1.length c1,.int .i64 a2] w fun e w'=>e = .returned (.int .i64 r)∧aQ w w':=by
 have HR1:=zA hr1;have HC1:=zA hc1;clear hr1 hc1;unfold jN.f at H;have H':=zA H;clear H;go_enter Tryz.func26,Tryz.ntmps26;go_wp2;go_loopg [7,8] k (fun kq v7 v8 w'=>∃ (lF : Int) (dE : Int),v7 = .int .i64 lF∧v8 = .int .i64 dE∧aa (jN.l0 kq a0 l1 a2 lF dE = some r)∧aa (kq ≤ k)∧aQ w w');(case atStart=>exact ⟨(0),(wrap64 ((l1.length : Int) - 1)),eS,eS,H',⟨Nat.le_refl _⟩,by repeat (first | exact aQ.refl _ | apply aQ.step)⟩)
 case round =>
  clear H';(try clear c1);(try clear c2);(try clear p2);obtain ⟨lF,dE,rfl,rfl,HA,HK1,⟨m1,rfl⟩⟩:=hrel
  cases gk with
  | zero=>exact absurd HA.out (by simp [jN.l0])
  | succ k1 =>
   have H:=HA.out;clear HA;simp only [jN.l0] at H;replace H:=gI H;obtain ⟨c4,H⟩|⟨c4,H⟩:=H
   ·have qO : decide (0 ≤ dE) = false:=decide_eq_false c4;clear c4;obtain rfl:=Option.some.inj H;go_wp2;go_ret;exact ⟨by first | rfl | (simp;done) | (simp [*];done),by repeat (first | exact aQ.refl _ | apply aQ.step)⟩
   have qO : decide (0 ≤ dE) = true:=decide_eq_true c4;clear c4;replace H:=gD H;obtain ⟨ny,H⟩:=H;replace H:=gD H;obtain ⟨qo,H⟩:=H;replace H:=gI H;obtain ⟨c7,H⟩|⟨c7,H⟩:=H
   ·have yQ : (a0 == 0) = false:=beq_eq_false_iff_ne.mpr c7;have Bb : (a0 != 0) = true:=bne_iff_ne.mpr c7;have H':=zA H;clear H;have alM : 0 ≤ (dE : Int):=oD;have alN : dE < (l1.length : Int):=oD;obtain ⟨aEd,aBC,axv⟩:=Kd.ik HR1.out dE alM alN;cases aBC;replace alM:=eq_true alM;replace alN:=eq_true alN;go_wp2;go_roundg k1;(case measure=>have:=HK1.out;omega);(case rel=>exact ⟨(Int.tmod (wrap64 ((wrap64 (lF * a2)) + (rd l1 dE))) a0),(wrap64 (dE - 1)),eS,eS,H',⟨by have:=HK1.out;omega⟩,by repeat (first | exact aQ.refl _ | apply aQ.step)⟩)
   exact absurd H (by simp)
/-! ### jL: function 25 -/
def jL.f (a0 : Int) (a1 : Int) (a2 : Int) : Option (Bool):=if a0 ≥ a1 then (some (decide (a0 ≤ a2))) else (some false)
theorem jL.calls (a0 : Int) (a1 : Int) (a2 : Int) (r : Bool) (w : World) (H : jL.f a0 a1 a2 = some r) :
  Calls Tryz.prog 25 #[.int .i64 a0,.int .i64 a1,.int .i64 a2] w fun e w'=>e = .returned (.bool r)∧aQ w w':=by
 unfold jL.f at H;replace H:=gI H;obtain ⟨c4,H⟩|⟨c4,H⟩:=H
 ·have qO : decide (a1 ≤ a0) = false:=decide_eq_false c4;clear c4;obtain rfl:=Option.some.inj H;go_enter Tryz.func25,Tryz.ntmps25;go_wp2;go_ret;exact ⟨by first | rfl | (simp;done) | (simp [*];done),by repeat (first | exact aQ.refl _ | apply aQ.step)⟩
 have qO : decide (a1 ≤ a0) = true:=decide_eq_true c4;clear c4;obtain rfl:=Option.some.inj H;go_enter Tryz.func25,Tryz.ntmps25;go_wp2;go_ret;exact ⟨by first | rfl | (simp;done) | (simp [*];done),by repeat (first | exact aQ.refl _ | apply aQ.step)⟩
/-! ### jB: function 77 -/
def jB.f (a0 : Int) (a1 : Int) : Option (Int):=if a0 = 0 then (none) else (some (Int.tmod (wrap64 ((Int.tmod a1 a0) + a0)) a0))
theorem jB.calls (a0 : Int) (a1 : Int) (r : Int) (w : World) (H : jB.f a0 a1 = some r) :
  Calls Tryz.prog 77 #[.int .i64 a0,.int .i64 a1] w fun e w'=>e = .returned (.int .i64 r)∧aQ w w':=by
 unfold jB.f at H;replace H:=gI H;obtain ⟨c3,H⟩|⟨c3,H⟩:=H
 ·have vE : (a0 == 0) = false:=beq_eq_false_iff_ne.mpr c3;have Po : (a0 != 0) = true:=bne_iff_ne.mpr c3;obtain rfl:=Option.some.inj H;go_enter Tryz.func77,Tryz.ntmps77;go_wp2;go_ret;exact ⟨by first | rfl | (simp;done) | (simp [*];done),by repeat (first | exact aQ.refl _ | apply aQ.step)⟩
 exact absurd H (by simp)
/-! ### jh: function 37 -/
def jh.l0 : Nat → Int → List Int → Int → Option (Bool)
 | 0,_,_,_=>none
 | k + 1,x0,x1,x5=>if x5 < (x1.length : Int) then (if 0 ≤ x5 then (if (rd x1 x5) < 0 then (some false) else (if (rd x1 x5) ≥ x0 then (some false) else (jh.l0 k x0 x1 (wrap64 (x5 + 1))))) else (none)) else (if (x1.length : Int) ≤ 25 then (if (x1.length : Int) = 0 then (some true) else (if 0 ≤ (wrap64 ((x1.length : Int) - 1)) then (if (wrap64 ((x1.length : Int) - 1)) < (x1.length : Int) then (some ((rd x1 (wrap64 ((x1.length : Int) - 1))) != 0)) else (none)) else (none))) else (some false))
def jh.f (k : Nat) (a0 : Int) (l1 : List Int) : Option (Bool):=jh.l0 k a0 l1 0
theorem jh.calls (k : Nat) (a0 : Int) (A1 : Option Addr) (c1 : Nat) (l1 : List Int) (r : Bool) (w : World) (hr1 : Kd.C (Kd.int .i64) w A1 l1.length l1) (hc1 : l1.length ≤ c1) (H : jh.f k a0 l1 = some r) :
  Calls Tryz.prog 37 #[.int .i64 a0,.slice A1 l1.length c1] w fun e w'=>e = .returned (.bool r)∧aQ w w':=by
 have HR1:=zA hr1;have HC1:=zA hc1;clear hr1 hc1;unfold jh.f at H;have H':=zA H;clear H;go_enter Tryz.func37,Tryz.ntmps37;go_wp2;go_loopg [5] k (fun kq v5 w'=>∃ (gu : Int),v5 = .int .i64 gu∧aa (jh.l0 kq a0 l1 gu = some r)∧aa (kq ≤ k)∧aQ w w');(case atStart=>exact ⟨(0),eS,H',⟨Nat.le_refl _⟩,by repeat (first | exact aQ.refl _ | apply aQ.step)⟩)
 case round =>
  clear H';(try clear c1);(try clear p2);obtain ⟨gu,rfl,HA,HK1,⟨m1,rfl⟩⟩:=hrel
  cases gk with
  | zero=>exact absurd HA.out (by simp [jh.l0])
  | succ k1 =>
   have H:=HA.out;clear HA;simp only [jh.l0] at H;replace H:=gF H;obtain ⟨vE,H⟩|⟨vE,H⟩:=H
   ·replace H:=gI H;obtain ⟨c7,H⟩|⟨c7,H⟩:=H
    ·have yQ : decide ((l1.length : Int) ≤ 25) = false:=decide_eq_false c7;have Bb : decide (l1.length ≤ 25) = false:=decide_eq_false (by omega);clear c7;obtain rfl:=Option.some.inj H;go_wp2;go_ret;exact ⟨by first | rfl | (simp;done) | (simp [*];done),by repeat (first | exact aQ.refl _ | apply aQ.step)⟩
    have yQ : decide ((l1.length : Int) ≤ 25) = true:=decide_eq_true c7;have Bb : decide (l1.length ≤ 25) = true:=decide_eq_true (by omega);clear c7;replace H:=gE H;obtain ⟨c8,ym,KI,H⟩|⟨c8,ym,KI,H⟩:=H
    ·have aGu : ¬ (l1 = []):=fun h_=>c8 (by rw [h_];rfl);obtain ⟨ji9,OP⟩ : ∃ j_ : Int,(wrap64 ((l1.length : Int) - 1)) = j_:=⟨_,rfl⟩;(first | rw [OP] at H | simp only [OP] at H);have auh : (IntKind.i64.wrap ((l1.length : Int) - 1)) = ji9:=(iI _).trans OP;replace H:=gD H;obtain ⟨tZ,H⟩:=H;replace H:=gD H;obtain ⟨Ay,H⟩:=H;obtain rfl:=Option.some.inj H;have alO : 0 ≤ ((ji9) : Int):=oD;have alP : (ji9) < (l1.length : Int):=oD;obtain ⟨aEe,aBD,axw⟩:=Kd.ik HR1.out (ji9) alO alP;cases aBD;replace alO:=eq_true alO;replace alP:=eq_true alP;go_wp2;go_ret;exact ⟨by first | rfl | (simp;done) | (simp only [← OP] <;> (first | rfl | simp)) | (simp [*];done),by repeat (first | exact aQ.refl _ | apply aQ.step)⟩
    clear c8;obtain rfl:=Option.some.inj H;go_wp2;go_ret;exact ⟨by first | rfl | (simp;done) | (simp [*];done),by repeat (first | exact aQ.refl _ | apply aQ.step)⟩
   replace H:=gD H;obtain ⟨qO,H⟩:=H;replace H:=gF H;obtain ⟨ny,H⟩|⟨ny,H⟩:=H
   ·replace H:=gI H;obtain ⟨c6,H⟩|⟨c6,H⟩:=H
    ·have qo : decide (a0 ≤ (rd l1 gu)) = false:=decide_eq_false c6;clear c6;have H':=zA H;clear H;have Kq : 0 ≤ (gu : Int):=oD;have Kr : gu < (l1.length : Int):=oD;obtain ⟨WA,ab6,WB⟩:=Kd.ik HR1.out gu Kq Kr;cases ab6;replace Kq:=eq_true Kq;replace Kr:=eq_true Kr;have TM : 0 ≤ (gu : Int):=oD;have TN : gu < (l1.length : Int):=oD;obtain ⟨ab7,alQ,af4⟩:=Kd.ik HR1.out gu TM TN;obtain rfl : WA = ab7:=(by injection alQ);replace TM:=eq_true TM;replace TN:=eq_true TN;go_wp2;go_roundg k1;(case measure=>have:=HK1.out;omega);(case rel=>exact ⟨(wrap64 (gu + 1)),eS,H',⟨by have:=HK1.out;omega⟩,by repeat (first | exact aQ.refl _ | apply aQ.step)⟩)
    have qo : decide (a0 ≤ (rd l1 gu)) = true:=decide_eq_true c6;clear c6;obtain rfl:=Option.some.inj H;have Kq : 0 ≤ (gu : Int):=oD;have Kr : gu < (l1.length : Int):=oD;obtain ⟨WA,ab6,WB⟩:=Kd.ik HR1.out gu Kq Kr;cases ab6;replace Kq:=eq_true Kq;replace Kr:=eq_true Kr;have TM : 0 ≤ (gu : Int):=oD;have TN : gu < (l1.length : Int):=oD;obtain ⟨ab7,alQ,af4⟩:=Kd.ik HR1.out gu TM TN;obtain rfl : WA = ab7:=(by injection alQ);replace TM:=eq_true TM;replace TN:=eq_true TN;go_wp2;go_ret;exact ⟨by first | rfl | (simp;done) | (simp [*];done),by repeat (first | exact aQ.refl _ | apply aQ.step)⟩
   obtain rfl:=Option.some.inj H;have Kq : 0 ≤ (gu : Int):=oD;have Kr : gu < (l1.length : Int):=oD;obtain ⟨WA,ab6,WB⟩:=Kd.ik HR1.out gu Kq Kr;cases ab6;replace Kq:=eq_true Kq;replace Kr:=eq_true Kr;go_wp2;go_ret;exact ⟨by first | rfl | (simp;done) | (simp [*];done),by repeat (first | exact aQ.refl _ | apply aQ.step)⟩
/-! ### fJ: function 78 -/
def fJ.l0 : Nat → Int → Int → Int → Int → Option (Int)
 | 0,_,_,_,_=>none
 | k + 1,x0,x2,x7,x8=>if x2 > 0 then (if (Int.tmod x2 2) = 1 then (if x0 = 0 then (none) else (fJ.l0 k x0 (wrap64 (Int.tdiv x2 2)) (Int.tmod (wrap64 (x7 * x8)) x0) (Int.tmod (wrap64 (x8 * x8)) x0))) else (if x0 = 0 then (none) else (fJ.l0 k x0 (wrap64 (Int.tdiv x2 2)) x7 (Int.tmod (wrap64 (x8 * x8)) x0)))) else (if x0 = 0 then (none) else (some (Int.tmod x7 x0)))
def fJ.f (k : Nat) (a0 : Int) (a1 : Int) (a2 : Int) : Option (Int):=(jB.f a0 a1).bind fun af5=>(fJ.l0 k a0 a2 1 af5)
theorem fJ.calls (k : Nat) (a0 : Int) (a1 : Int) (a2 : Int) (r : Int) (w : World) (H : fJ.f k a0 a1 a2 = some r) :
  Calls Tryz.prog 78 #[.int .i64 a0,.int .i64 a1,.int .i64 a2] w fun e w'=>e = .returned (.int .i64 r)∧aQ w w':=by
 unfold fJ.f at H;replace H:=bO H;obtain ⟨af5,A4,H⟩:=H;have H':=zA H;clear H;go_enter Tryz.func78,Tryz.ntmps78;go_wp2_with (first | ((with_reducible refine ae (f:=77) rfl ?_);refine gL (some 11) Tryz.func77 #[.int .i64 a0,.int .i64 a1] ?_;(with_reducible refine (jB.calls a0 a1 af5 _ A4.out).mono ?_);rintro e w' ⟨rfl,⟨nd,rfl⟩⟩;refine ⟨_,rfl,?_⟩));go_loopg [2,7,8] k (fun kq v2 v7 v8 w'=>∃ (xm : Int) (lF : Int) (dE : Int),v2 = .int .i64 xm∧v7 = .int .i64 lF∧v8 = .int .i64 dE∧aa (fJ.l0 kq a0 xm lF dE = some r)∧aa (kq ≤ k)∧aQ w w');(case atStart=>exact ⟨(a2),(1),(af5),eS,eS,eS,H',⟨Nat.le_refl _⟩,by repeat (first | exact aQ.refl _ | apply aQ.step)⟩)
 case round =>
  clear H';(try clear p2);obtain ⟨xm,lF,dE,rfl,rfl,rfl,HA,HK1,⟨m1,rfl⟩⟩:=hrel
  cases gk with
  | zero=>exact absurd HA.out (by simp [fJ.l0])
  | succ k1 =>
   have H:=HA.out;clear HA;simp only [fJ.l0] at H;replace H:=gI H;obtain ⟨c5,H⟩|⟨c5,H⟩:=H
   ·have ny : decide (0 < xm) = false:=decide_eq_false c5;clear c5;replace H:=gI H;obtain ⟨c9,H⟩|⟨c9,H⟩:=H
    ·have DD : (a0 == 0) = false:=beq_eq_false_iff_ne.mpr c9;have KO : (a0 != 0) = true:=bne_iff_ne.mpr c9;obtain rfl:=Option.some.inj H;go_wp2;go_ret;exact ⟨by first | rfl | (simp;done) | (simp [*];done),by repeat (first | exact aQ.refl _ | apply aQ.step)⟩
    exact absurd H (by simp)
   have ny : decide (0 < xm) = true:=decide_eq_true c5;clear c5;replace H:=gE H;obtain ⟨c6,qo,vW,H⟩|⟨c6,qo,vW,H⟩:=H
   ·replace H:=gI H;obtain ⟨c8,H⟩|⟨c8,H⟩:=H
    ·have ym : (a0 == 0) = false:=beq_eq_false_iff_ne.mpr c8;have KI : (a0 != 0) = true:=bne_iff_ne.mpr c8;have H':=zA H;clear H;go_wp2;go_roundg k1;(case measure=>have:=HK1.out;omega);(case rel=>exact ⟨(wrap64 (Int.tdiv xm 2)),(lF),(Int.tmod (wrap64 (dE * dE)) a0),eS,eS,eS,H',⟨by have:=HK1.out;omega⟩,by repeat (first | exact aQ.refl _ | apply aQ.step)⟩)
    exact absurd H (by simp)
   clear c6;replace H:=gI H;obtain ⟨c7,H⟩|⟨c7,H⟩:=H
   ·have yQ : (a0 == 0) = false:=beq_eq_false_iff_ne.mpr c7;have Bb : (a0 != 0) = true:=bne_iff_ne.mpr c7;have H':=zA H;clear H;go_wp2;go_roundg k1;(case measure=>have:=HK1.out;omega);(case rel=>exact ⟨(wrap64 (Int.tdiv xm 2)),(Int.tmod (wrap64 (lF * dE)) a0),(Int.tmod (wrap64 (dE * dE)) a0),eS,eS,eS,H',⟨by have:=HK1.out;omega⟩,by repeat (first | exact aQ.refl _ | apply aQ.step)⟩)
   exact absurd H (by simp)
/-! ### gy: function 56 -/
def gy.f (k : Nat) (a0 : Int) (a1 : Int) : Option (Int):=(fJ.f k a0 a1 (wrap64 (a0 - 2))).bind fun t203=>(some t203)
theorem gy.calls (k : Nat) (a0 : Int) (a1 : Int) (r : Int) (w : World) (H : gy.f k a0 a1 = some r) :
  Calls Tryz.prog 56 #[.int .i64 a0,.int .i64 a1] w fun e w'=>e = .returned (.int .i64 r)∧aQ w w':=by
 unfold gy.f at H;replace H:=bO H;obtain ⟨t203,A3,H⟩:=H;obtain rfl:=Option.some.inj H;go_enter Tryz.func56,Tryz.ntmps56;go_wp2_with (first | ((with_reducible refine ae (f:=78) rfl ?_);refine gL (some 9) Tryz.func78 #[.int .i64 a0,.int .i64 a1,.int .i64 (wrap64 (a0 - 2))] ?_;(with_reducible refine (fJ.calls k a0 a1 (wrap64 (a0 - 2)) t203 _ A3.out).mono ?_);rintro e w' ⟨rfl,⟨nd,rfl⟩⟩;refine ⟨_,rfl,?_⟩));go_ret;exact ⟨by first | rfl | (simp;done) | (simp [*];done),by repeat (first | exact aQ.refl _ | apply aQ.step)⟩
/-! ### fH: function 61 -/
def fH.l0 : Nat → Int → Int → Option (Bool)
 | 0,_,_=>none
 | k + 1,x0,x3=>if (wrap64 (x3 * x3)) ≤ x0 then (if x3 = 0 then (none) else (if (Int.tmod x0 x3) = 0 then (some false) else (fH.l0 k x0 (wrap64 (x3 + 1))))) else (some true)
def fH.f (k : Nat) (a0 : Int) : Option (Bool):=(jL.f a0 2 10007).bind fun aui=>(if aui = true then (fH.l0 k a0 2) else (some false))
theorem fH.calls (k : Nat) (a0 : Int) (r : Bool) (w : World) (H : fH.f k a0 = some r) :
  Calls Tryz.prog 61 #[.int .i64 a0] w fun e w'=>e = .returned (.bool r)∧aQ w w':=by
 unfold fH.f at H;replace H:=bO H;obtain ⟨aui,A2,H⟩:=H;replace H:=gB H;obtain ⟨rfl,H⟩|⟨rfl,H⟩:=H
 ·have H':=zA H;clear H;go_enter Tryz.func61,Tryz.ntmps61;go_wp2_with (first | ((with_reducible refine ae (f:=25) rfl ?_);refine gL (some 5) Tryz.func25 #[.int .i64 a0,.int .i64 2,.int .i64 10007] ?_;(with_reducible refine (jL.calls a0 2 10007 true _ A2.out).mono ?_);rintro e w' ⟨rfl,⟨nd,rfl⟩⟩;refine ⟨_,rfl,?_⟩));go_loopg [3] k (fun kq v3 w'=>∃ (lK : Int),v3 = .int .i64 lK∧aa (fH.l0 kq a0 lK = some r)∧aa (kq ≤ k)∧aQ w w');(case atStart=>exact ⟨(2),eS,H',⟨Nat.le_refl _⟩,by repeat (first | exact aQ.refl _ | apply aQ.step)⟩)
  case round =>
   clear H';(try clear c2);(try clear p2);(try clear c3);obtain ⟨lK,rfl,HA,HK1,⟨m1,rfl⟩⟩:=hrel
   cases gk with
   | zero=>exact absurd HA.out (by simp [fH.l0])
   | succ k1 =>
    have H:=HA.out;clear HA;simp only [fH.l0] at H;replace H:=gF H;obtain ⟨qO,H⟩|⟨qO,H⟩:=H
    ·obtain rfl:=Option.some.inj H;go_wp2;go_ret;exact ⟨by first | rfl | (simp;done) | (simp [*];done),by repeat (first | exact aQ.refl _ | apply aQ.step)⟩
    replace H:=gI H;obtain ⟨c5,H⟩|⟨c5,H⟩:=H
    ·have ny : (lK == 0) = false:=beq_eq_false_iff_ne.mpr c5;have vY : (lK != 0) = true:=bne_iff_ne.mpr c5;replace H:=gE H;obtain ⟨c6,qo,vW,H⟩|⟨c6,qo,vW,H⟩:=H
     ·have H':=zA H;clear H;go_wp2;go_roundg k1;(case measure=>have:=HK1.out;omega);(case rel=>exact ⟨(wrap64 (lK + 1)),eS,H',⟨by have:=HK1.out;omega⟩,by repeat (first | exact aQ.refl _ | apply aQ.step)⟩)
     clear c6;obtain rfl:=Option.some.inj H;go_wp2;go_ret;exact ⟨by first | rfl | (simp;done) | (simp [*];done),by repeat (first | exact aQ.refl _ | apply aQ.step)⟩
    exact absurd H (by simp)
 ·obtain rfl:=Option.some.inj H;go_enter Tryz.func61,Tryz.ntmps61;go_wp2_with (first | ((with_reducible refine ae (f:=25) rfl ?_);refine gL (some 5) Tryz.func25 #[.int .i64 a0,.int .i64 2,.int .i64 10007] ?_;(with_reducible refine (jL.calls a0 2 10007 false _ A2.out).mono ?_);rintro e w' ⟨rfl,⟨nd,rfl⟩⟩;refine ⟨_,rfl,?_⟩));go_ret;exact ⟨by first | rfl | (simp;done) | (simp [*];done),by repeat (first | exact aQ.refl _ | apply aQ.step)⟩
/-! ### nH: function 30 -/
def nH.f (k : Nat) (a0 : Int) : Option (Int):=(fH.f k a0).bind fun auj=>(if auj = true then (some a0) else (some 7))
theorem nH.calls (k : Nat) (a0 : Int) (r : Int) (w : World) (H : nH.f k a0 = some r) :
  Calls Tryz.prog 30 #[.int .i64 a0] w fun e w'=>e = .returned (.int .i64 r)∧aQ w w':=by
 unfold nH.f at H;replace H:=bO H;obtain ⟨auj,A2,H⟩:=H;replace H:=gB H;obtain ⟨rfl,H⟩|⟨rfl,H⟩:=H
 ·obtain rfl:=Option.some.inj H;go_enter Tryz.func30,Tryz.ntmps30;go_wp2_with (first | ((with_reducible refine ae (f:=61) rfl ?_);refine gL (some 4) Tryz.func61 #[.int .i64 a0] ?_;(with_reducible refine (fH.calls k a0 true _ A2.out).mono ?_);rintro e w' ⟨rfl,⟨nd,rfl⟩⟩;refine ⟨_,rfl,?_⟩));go_ret;exact ⟨by first | rfl | (simp;done) | (simp [*];done),by repeat (first | exact aQ.refl _ | apply aQ.step)⟩
 ·obtain rfl:=Option.some.inj H;go_enter Tryz.func30,Tryz.ntmps30;go_wp2_with (first | ((with_reducible refine ae (f:=61) rfl ?_);refine gL (some 4) Tryz.func61 #[.int .i64 a0] ?_;(with_reducible refine (fH.calls k a0 false _ A2.out).mono ?_);rintro e w' ⟨rfl,⟨nd,rfl⟩⟩;refine ⟨_,rfl,?_⟩));go_ret;exact ⟨by first | rfl | (simp;done) | (simp [*];done),by repeat (first | exact aQ.refl _ | apply aQ.step)⟩
/-! ### gW: function 63 -/
def gW.l0 : Nat → Int → List Int → Int → Option (Bool)
 | 0,_,_,_=>none
 | k + 1,x0,x1,x5=>if x5 < (x1.length : Int) then (if 0 ≤ x5 then ((jL.f (rd x1 x5) 0 (wrap64 (x0 - 1))).bind fun t107=>(if t107 = true then (gW.l0 k x0 x1 (wrap64 (x5 + 1))) else (some false))) else (none)) else (some true)
def gW.f (k : Nat) (a0 : Int) (l1 : List Int) : Option (Bool):=gW.l0 k a0 l1 0
theorem gW.calls (k : Nat) (a0 : Int) (A1 : Option Addr) (c1 : Nat) (l1 : List Int) (r : Bool) (w : World) (hr1 : Kd.C (Kd.int .i64) w A1 l1.length l1) (hc1 : l1.length ≤ c1) (H : gW.f k a0 l1 = some r) :
  Calls Tryz.prog 63 #[.int .i64 a0,.slice A1 l1.length c1] w fun e w'=>e = .returned (.bool r)∧aQ w w':=by
 have HR1:=zA hr1;have HC1:=zA hc1;clear hr1 hc1;unfold gW.f at H;have H':=zA H;clear H;go_enter Tryz.func63,Tryz.ntmps63;go_wp2;go_loopg [5] k (fun kq v5 w'=>∃ (gu : Int),v5 = .int .i64 gu∧aa (gW.l0 kq a0 l1 gu = some r)∧aa (kq ≤ k)∧aQ w w');(case atStart=>exact ⟨(0),eS,H',⟨Nat.le_refl _⟩,by repeat (first | exact aQ.refl _ | apply aQ.step)⟩)
 case round =>
  clear H';(try clear c1);(try clear p2);obtain ⟨gu,rfl,HA,HK1,⟨m1,rfl⟩⟩:=hrel
  cases gk with
  | zero=>exact absurd HA.out (by simp [gW.l0])
  | succ k1 =>
   have H:=HA.out;clear HA;simp only [gW.l0] at H;replace H:=gF H;obtain ⟨vE,H⟩|⟨vE,H⟩:=H
   ·obtain rfl:=Option.some.inj H;go_wp2;go_ret;exact ⟨by first | rfl | (simp;done) | (simp [*];done),by repeat (first | exact aQ.refl _ | apply aQ.step)⟩
   replace H:=gD H;obtain ⟨qO,H⟩:=H;replace H:=bO H;obtain ⟨t107,A5,H⟩:=H;replace H:=gB H;obtain ⟨rfl,H⟩|⟨rfl,H⟩:=H
   ·have H':=zA H;clear H;have TP : 0 ≤ (gu : Int):=oD;have TQ : gu < (l1.length : Int):=oD;obtain ⟨auk,alR,af6⟩:=Kd.ik HR1.out gu TP TQ;cases alR;replace TP:=eq_true TP;replace TQ:=eq_true TQ;go_wp2_with (first | ((with_reducible refine ae (f:=25) rfl ?_);refine gL (some 18) Tryz.func25 #[.int .i64 (rd l1 gu),.int .i64 0,.int .i64 (wrap64 (a0 - 1))] ?_;(with_reducible refine (jL.calls (rd l1 gu) 0 (wrap64 (a0 - 1)) true _ A5.out).mono ?_);rintro e w' ⟨rfl,⟨nd,rfl⟩⟩;refine ⟨_,rfl,?_⟩));go_roundg k1;(case measure=>have:=HK1.out;omega);(case rel=>exact ⟨(wrap64 (gu + 1)),eS,H',⟨by have:=HK1.out;omega⟩,by repeat (first | exact aQ.refl _ | apply aQ.step)⟩)
   ·obtain rfl:=Option.some.inj H;have TP : 0 ≤ (gu : Int):=oD;have TQ : gu < (l1.length : Int):=oD;obtain ⟨auk,alR,af6⟩:=Kd.ik HR1.out gu TP TQ;cases alR;replace TP:=eq_true TP;replace TQ:=eq_true TQ;go_wp2_with (first | ((with_reducible refine ae (f:=25) rfl ?_);refine gL (some 18) Tryz.func25 #[.int .i64 (rd l1 gu),.int .i64 0,.int .i64 (wrap64 (a0 - 1))] ?_;(with_reducible refine (jL.calls (rd l1 gu) 0 (wrap64 (a0 - 1)) false _ A5.out).mono ?_);rintro e w' ⟨rfl,⟨nd,rfl⟩⟩;refine ⟨_,rfl,?_⟩));go_ret;exact ⟨by first | rfl | (simp;done) | (simp [*];done),by repeat (first | exact aQ.refl _ | apply aQ.step)⟩
/-! ### dS: function 107 -/
def dS.l0 : Nat → Int → List Int → List Int → Int → Option (List Int)
 | 0,_,_,_,_=>none
 | k + 1,x0,x1,x5,x6=>if x6 < (x1.length : Int) then (if 0 ≤ (wrap64 (x6 - 1)) then (if (wrap64 (x6 - 1)) < (x1.length : Int) then (if 0 ≤ x6 then (if x0 = 0 then (none) else (if x5.length < 17592186044416 then (dS.l0 k x0 x1 (x5 ++ [Int.tmod (wrap64 ((rd x1 (wrap64 (x6 - 1))) + (rd x1 x6))) x0]) (wrap64 (x6 + 1))) else (none))) else (none)) else (none)) else (none)) else (if x0 = 0 then (none) else (if x5.length < 17592186044416 then (some (x5 ++ [(1 : Int) % x0])) else (none)))
def dS.f (k : Nat) (a0 : Int) (l1 : List Int) : Option (List Int):=if a0 = 0 then (none) else (dS.l0 k a0 l1 (([(1 : Int) % a0] : List Int)) 1)
def dS.T5 : Bool × List (List Nat × List Nat):=(true,[([],[]),([],[]),([],[]),([2],[2]),([1,3],[1,3]),([4],[4]),([],[]),([],[]),([6,7],[6,7]),([8],[8]),([5,9],[5,9]),([],[]),([10,11],[10,11]),([12],[12]),([0,13],[0,13]),([14,14,0,1,2,3,4,5,6,7,8,9,10,11,12,13,14],[0,14])])
def dS.B5 : List Nat:=[0,0,0,4,14,30,0,0,192,448,1022,0,4094,8190,16383,32767]
theorem dS.KH : nu .any (opsOf Tryz.f107 5) = dS.T5:=by kernel_rfl
theorem dS.Dr : jO dS.T5.2 dS.B5 = true:=by kernel_rfl
theorem dS.calls (k : Nat) (a0 : Int) (A1 : Option Addr) (c1 : Nat) (l1 : List Int) (r : List Int) (w : World) (hr1 : Kd.C (Kd.int .i64) w A1 l1.length l1) (hc1 : l1.length ≤ c1) (H : dS.f k a0 l1 = some r) :
  Calls Tryz.prog 107 #[.int .i64 a0,.slice A1 l1.length c1] w fun e w'=>∃ v0_ : Value,e = .returned (v0_)∧Kd.R (Kd.int .i64) 2 w' w.heap.size (fun _=>True) v0_ r∧Below w.heap.size w w':=by
 have HR1:=zA hr1;have HC1:=zA hc1;clear hr1 hc1;have HB:=zA (Below.refl w.heap.size w);unfold dS.f at H;replace H:=gI H;obtain ⟨c3,H⟩|⟨c3,H⟩:=H
 ·have vE : (a0 == 0) = false:=beq_eq_false_iff_ne.mpr c3;have Po : (a0 != 0) = true:=bne_iff_ne.mpr c3;obtain ⟨aBE,ab8⟩:=eY ([(1 : Int) % a0] : List Int);(try rw [←ab8.out] at H);have H':=zA H;clear H;go_enter Tryz.func107,Tryz.ntmps107;go_wp2_with (first | ((with_reducible refine bP (N:=9) rfl ?_);refine Kd.rE (Kd.int .i64) _ 2 ?hg (N:=9) ?hd (xs:=([(1 : Int) % a0] : List Int)) (inner:=[.int .i64 ((1 : Int) % a0)]) (ok:=fun _=>True) (okp:=fun _=>True) ?hr ?hp (fun _ hk=>hk) trivial (Below.refl _ _) (Nat.le_refl _) (by simp) ?_;(case hd=>rfl);(case hg=>rfl);(case hr=>first | (go_simp;done) | (go_simp;rfl));(case hp=>exact (dh.one (show Kd.M (Kd.int .i64) _ _ _ ((1 : Int) % a0) [.int .i64 ((1 : Int) % a0)] from rfl) (dh.none _ _)));intro aGv w4 ho5 hb hg_ hnew_;clear hg_ hnew_;(first | rw [← ab8.out] at ho5 | (simp only [Int.reduceToNat] at ho5;rw [← ab8.out] at ho5));have aul:=zA (Kd.bu ho5 (af (uH HB.out)));replace HB:=xH HB hb;clear hb ho5));go_loopg [5,6] k (fun kq v5 v6 w'=>∃ (gu : List Int) (pR : Int),v6 = .int .i64 pR∧aa (dS.l0 kq a0 l1 gu pR = some r)∧aa (kq ≤ k)∧aa (Kd.R (Kd.int .i64) 2 w' w.heap.size (fun _=>True) v5 gu)∧aa (Below w.heap.size w w'));(case atStart=>exact ⟨(aBE),(1),eS,H',⟨Nat.le_refl _⟩,⟨uR aul.out⟩,⟨uH HB.out⟩⟩)
  case round =>
   clear H';(try clear c1);(try clear p2);(try clear c3);(try clear vE);(try clear Po);obtain ⟨gu,pR,rfl,HA,HK1,jJ,HB⟩:=hrel
   cases gk with
   | zero=>exact absurd HA.out (by simp [dS.l0])
   | succ k1 =>
    have H:=HA.out;clear HA;simp only [dS.l0] at H;replace H:=gF H;obtain ⟨qo,H⟩|⟨qo,H⟩:=H
    ·replace H:=gI H;obtain ⟨c15,H⟩|⟨c15,H⟩:=H
     ·have sJ : (a0 == 0) = false:=beq_eq_false_iff_ne.mpr c15;have Dq : (a0 != 0) = true:=bne_iff_ne.mpr c15;replace H:=gZ H;obtain ⟨aum,H⟩:=H;obtain ⟨aGw,aif⟩:=eY (gu ++ [(1 : Int) % a0] : List Int);(try rw [←aif.out] at H);obtain rfl:=Option.some.inj H;go_wp2_with (first | ((with_reducible refine fe (b:=.append) (xs:=#[.tmp 31,.tmp 34]) rfl ?_);at_builtin;refine Kd.lL (Kd.int .i64) (w0:=w) w.heap.size rfl (.tmp 31) (.tmp 34) 24 2 (.int .i64 0) 8 rfl Tryz.underlying24 l6 rfl (by decide) (by omega) u5 gu ((1 : Int) % a0) [.int .i64 ((1 : Int) % a0)] (fun _=>True) (fun _=>False) rfl rfl ?aP (fun _ hk=>hk.elim) ?aF ?aO ?aB ?aS ?aL ?_;(case aP=>exact rfl);(case aB=>exact (uH HB.out));(case aF=>exact (fun _ _=>trivial));(case aO=>exact (uR jJ.out));(case aS=>exact (af (uH HB.out)));(case aL=>have:=aum.out;omega);intro v222 w17 ho hb hg hat;rw [← aif.out] at ho;replace HB:=zA (hb);have aun:=zA (ho);clear jJ ho hb hg hat));go_ret;exact ⟨_,eX,uR aun.out,uH HB.out⟩
     exact absurd H (by simp)
    obtain ⟨ji7,Gl⟩ : ∃ j_ : Int,(wrap64 (pR - 1)) = j_:=⟨_,rfl⟩;(first | rw [Gl] at H | simp only [Gl] at H);have aid : (IntKind.i64.wrap (pR - 1)) = ji7:=(iI _).trans Gl;replace H:=gD H;obtain ⟨ym,H⟩:=H;replace H:=gD H;obtain ⟨DD,H⟩:=H;replace H:=gD H;obtain ⟨tZ,H⟩:=H;replace H:=gI H;obtain ⟨c11,H⟩|⟨c11,H⟩:=H
    ·have Ay : (a0 == 0) = false:=beq_eq_false_iff_ne.mpr c11;have LK : (a0 != 0) = true:=bne_iff_ne.mpr c11;replace H:=gZ H;obtain ⟨auo,H⟩:=H;obtain ⟨aBF,aig⟩:=eY (gu ++ [Int.tmod (wrap64 ((rd l1 (ji7)) + (rd l1 pR))) a0] : List Int);(try rw [←aig.out] at H);have H':=zA H;clear H;(try go_wp2);replace jJ:=zA (Kd.gz jJ.out);replace HB:=zA (aW HB.out);have alS : 0 ≤ ((ji7) : Int):=oD;have alT : (ji7) < (l1.length : Int):=oD;obtain ⟨ab9,e216,IJ⟩:=Kd.ik HR1.out (ji7) alS alT;have IK:=IJ;cases e216;replace IJ:=hc HB IJ;replace alS:=eq_true alS;replace alT:=eq_true alT;have alU : 0 ≤ (pR : Int):=oD;have alV : pR < (l1.length : Int):=oD;obtain ⟨aup,e217,IL⟩:=Kd.ik HR1.out pR alU alV;have IM:=IL;obtain rfl : ab9 = aup:=(by injection e217);replace IL:=hc HB IL;replace alU:=eq_true alU;replace alV:=eq_true alV;refine kE (n:=16) (S:=fun w'=>w'.cell? (ab9.add ((ji7)).toNat) = some (.int .i64 (rd l1 (ji7)))∧w'.cell? (ab9.add (pR).toNat) = some (.int .i64 (rd l1 pR))) (ds:=[]) #[false,false,false,false,false,false,false,false,false,false,false,false,false,false,false,false] (by kernel_rfl) rfl rfl ⟨(hcu HB IK),(hcu HB IM)⟩ (fun hHeld=>?_);refine gX dS.KH dS.Dr (fun HT_ HW_=>?_);generalize wr.drew = w13 at jJ HB IJ IL hHeld ⊢;refine pu_ 0 16 (bl 16 1) HT_ ?_;refine pu_ 1 17 (bl 16 3) HT_ ?_;refine pu_ 2 18 (bl 16 7) HT_ ?_;refine pu_ 3 19 (bl 16 15) HT_ ?_;refine pu_ 4 20 (bl 16 31) HT_ ?_;refine pu_ 6 22 (bl 16 95) HT_ ?_;refine pu_ 7 23 (bl 16 223) HT_ ?_;refine pu_ 8 24 (bl 16 479) HT_ ?_;refine pu_ 11 27 (bl 16 2527) HT_ ?_;refine ta_ 5 21 (bl 16 2559) HT_ HW_ hHeld ?_;refine ta_ 9 25 (bl 16 3071) HT_ HW_ hHeld ?_;refine pu_ 10 26 (bl 16 4095) HT_ ?_;refine pu_ 12 28 (bl 16 8191) HT_ ?_;refine on_ 13 (some 29) (bl 16 16383) HT_ (fun K hK=>?_);refine FH (w1:=?_) (v:=?_) (by rfl) rfl ?_ ?_;rotate_left 2
     ·go_simp;constructor
      ·rfl
      ·rfl
     refine hK.out _ _ ⟨(World.cell?_alloc_lt _ _ _ (World.block_lt_of_cell? _ _ ((hcu HB IK)))).trans ((hcu HB IK)),(World.cell?_alloc_lt _ _ _ (World.block_lt_of_cell? _ _ ((hcu HB IM)))).trans ((hcu HB IM))⟩ (fun hHeld=>?_);clear hK K;refine no_ 29 ?_;refine on_ 14 (some 30) (bl 16 32767) HT_ (fun K hK=>?_);refine Kd.yR (Kd.int .i64) (w0:=w) w.heap.size (by rfl) (.tmp 16) (.tmp 29) 24 2 (.int .i64 0) 8 rfl Tryz.underlying24 l6 rfl (by decide) (by omega) u5 gu (Int.tmod (wrap64 ((rd l1 (ji7)) + (rd l1 pR))) a0) [.int .i64 (Int.tmod (wrap64 ((rd l1 (ji7)) + (rd l1 pR))) a0)] (fun _=>True) (fun _=>False) rfl rfl ?aP (fun _ hk=>hk.elim) ?aF ?aO ?aB ?aS ?aL ?_;(case aP=>exact rfl);(case aB=>exact (uH HB.out));(case aF=>exact (fun _ _=>trivial));(case aO=>exact (uR jJ.out));(case aS=>exact (af (uH HB.out)));(case aL=>have:=auo.out;omega);intro aGx w14 ho hb hg hat;rw [← aig.out] at ho;replace HB:=zA (hb);have auq:=zA (ho);clear jJ;clear ho hb hg hat;refine hK.out _ _ ⟨(hcu HB IK),(hcu HB IM)⟩ (fun hHeld=>?_);clear hK K;refine no_ 30 ?_;refine pu_ 15 5 (bl 16 65535) HT_ ?_;refine done_ (done_of HT_.out (by kernel_rfl)) ?_;(try go_wp2);go_roundg k1;(case measure=>have:=HK1.out;omega);(case rel=>exact ⟨(aBF),(wrap64 (pR + 1)),eS,H',⟨by have:=HK1.out;omega⟩,⟨uR auq.out⟩,⟨uH HB.out⟩⟩)
    exact absurd H (by simp)
 exact absurd H (by simp)
end Go.Proofs.YtnpepkpogohcmaaGreat.Pr
