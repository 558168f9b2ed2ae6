/- Texts of this session in one: what functions of the program compute, and plain facts of it, under the conditions that each theorem names. -/
import Derived.Test.YtknppcledhnkoaaKsOfQuotients1
import Derived.Test.YtknppcledhnkoaaKsOfQuotients2
import Derived.Test.YtknppcledhnkoaaKsOfQuotients4
import Derived.Test.YtknppcledhnkoaaKsOfQuotients7
import Derived.Test.YtknppcledhnkoaaKsOfQuotients8
import Derived.Test.YtknppcledhnkoaaKsOfQuotients9
namespace Go.Proofs.Ytknppcledhnkoaa.Pr
open Go.RowKit Go.Proofs.YtknppcledhnkoaaW.PrintWords Go.Proofs.YtknppcledhnkoaaW.PrintLast Go.Proofs.YtknppcledhnkoaaW.PrintMore
attribute [local go_sem] kK kL lQ lS jV jW kM kN   -- for this text's walks alone
set_option linter.unusedVariables false
set_option maxHeartbeats 8000000
set_option maxRecDepth 100000
set_option linter.unusedSimpArgs false
/-! ### bN: function 25 -/
def bN.l0 : Nat → Int → List (List Int) → Int → Int → Int → List Int → Int → Int → Option (Int × (List (List Int)))
 | 0,_,_,_,_,_,_,_,_=>none
 | k + 1,x5,x6,x7,x8,x9,aa,ba,ca=>if x9 > 0 then ((dC.f k aa ba ca x7 x8).bind fun da=>(if x6.length < 5864062014805 then (bN.l0 k x5 (x6 ++ [da.1]) x7 x8 (wrap64 (x9 - 1)) aa da.2.1 da.2.2) else (none))) else (if (x6.length : Int) > 0 then (if 0 < (x6.length : Int) then ((dO.f k aa ba ca x5 (dA x6 0)).bind fun ea=>(some (x5,(x6.set (0 : Int).toNat ea.1)))) else (none)) else (some (x5,x6)))
def bN.f (k : Nat) (l0 : List Int) : Option (Int × (List (List Int))):=(bV.f k l0).bind fun aa=>((il.f aa.1 aa.2.1 aa.2.2).bind fun ba=>((fq.f k ba.1).bind fun ea=>((bU.f aa.1 ba.2.1 ba.2.2 (([0,1,2] : List Int))).bind fun ca=>((bU.f aa.1 ca.2.1 ca.2.2 (([0,1,2,4,6,13] : List Int))).bind fun da=>(bN.l0 k ba.1 (([] : List (List Int))) ea ca.1 da.1 aa.1 da.2.1 da.2.2)))))
theorem bN.calls (k : Nat) (A0 : Option Addr) (c0 : Nat) (l0 : List Int) (r1 : Int) (r2 : List (List Int)) (w : World) (Tb : Kd.C (Kd.int .u8) w A0 l0.length l0) (Ub : l0.length ≤ c0) (H : bN.f k l0 = some (r1,r2)) :
  Calls Try.prog 25 #[.slice A0 l0.length c0] w fun e w'=>∃ Vb : Value,e = .returned (.tuple #[.int .i64 r1,Vb])∧Kd.N (Kd.slice 2 (Kd.int .i64)) 24 w' w.heap.size (fun k_=>(w.heap.size ≤ k_)) Vb r2∧Below w.heap.size w w':=by
 have dc:=zA Tb;have ec:=zA Ub;clear Tb Ub;have HB:=zA (Below.refl w.heap.size w);unfold bN.f at H;replace H:=bO H;obtain ⟨⟨ma,fb,gb⟩,A2,H⟩:=H;(try dsimp only at H);replace H:=bO H;obtain ⟨⟨ra,Wa,Xa⟩,A3,H⟩:=H;(try dsimp only at H);obtain ⟨ib,Ca⟩ : ∃ y_ : List (List Int),y_ = (([] : List (List Int))):=⟨_,rfl⟩;(replace H : ((fq.f k ra).bind fun Aa=>((bU.f ma Wa Xa (([0,1,2] : List Int))).bind fun Da=>((bU.f ma Da.2.1 Da.2.2 (([0,1,2,4,6,13] : List Int))).bind fun Ea=>(bN.l0 k ra ib Aa Da.1 Ea.1 ma Ea.2.1 Ea.2.2)))) = some (r1,r2):=by first | (rw [Ca];exact H) | exact H);have Ra:=zA Ca;clear Ca;replace H:=bO H;obtain ⟨Aa,A4,H⟩:=H;obtain ⟨La,Sa⟩:=eY ([0,1,2] : List Int);(try rw [←Sa.out] at H);replace H:=bO H;obtain ⟨⟨Ma,jb,kb⟩,A5,H⟩:=H;(try dsimp only at H);obtain ⟨Ya,Ta⟩:=eY ([0,1,2,4,6,13] : List Int);(try rw [←Ta.out] at H);replace H:=bO H;obtain ⟨⟨mb,nb,ob⟩,A6,H⟩:=H;(try dsimp only at H);have H':=zA H;clear H;go_enter Try.func25,Try.ntmps25;go_wp2_with (first | ((with_reducible refine av (f:=66) rfl ?_);refine gL (some 11) Try.func66 #[.slice A0 l0.length c0] ?_;(with_reducible refine (bV.calls k _ _ l0 ma fb gb w _ ?fa ?ga ?na A2.out).mono ?_);(case fa=>exact uH HB.out);(case ga=>exact dc.out);(case na=>exact ec.out);rintro e w7 ⟨kU,rfl,hi,hb,hb2⟩;refine ⟨_,rfl,?_⟩;replace HB:=zA (hb);have aa:=zA (hi);(try clear hi)) | ((with_reducible refine av (f:=88) rfl ?_);refine gL (some 13) Try.func88 #[.pointer (some ⟨kU,0,none⟩)] ?_;(with_reducible refine (il.calls kU ma fb gb ra Wa Xa w _ ?fa ?ga A3.out).mono ?_);(case fa=>exact uI aa.out);(case ga=>exact uH HB.out);rintro e w8 ⟨rfl,hi,hb,hk⟩;refine ⟨_,rfl,?_⟩;replace HB:=zA (hb);replace aa:=zA (hi);(try clear hi)) | ((with_reducible refine bW (N:=14) rfl ?_);refine Kd.nS (Kd.slice 2 (Kd.int .i64)) _ 24 ?hg (N':=14) ?hd (xs:=([] : List (List Int))) (inner:=[]) (ok:=(fun k_=>(w.heap.size ≤ k_)∧k_ ≠ kU)) (okp:=(fun k_=>(w.heap.size ≤ k_)∧k_ ≠ kU)) ?hr ?hp (fun _ hk=>hk) ((show ∀ k_,w8.heap.size ≤ k_ → (fun k_=>(w.heap.size ≤ k_)∧k_ ≠ kU) k_ from fun k_ hk=>⟨(Nat.le_trans (aC (uH HB.out)) hk),aA.fresh (uI aa.out) k_ hk⟩) _ (Nat.le_refl _)) (Below.refl _ _) (Nat.le_refl _) (by simp) ?_;(case hd=>rfl);(case hg=>rfl);(case hr=>first | (go_simp;done) | (go_simp;rfl));(case hp=>exact (fG.none _ _));intro fc w9 Fa hb hg_ hnew_;clear hg_ hnew_;(first | rw [← Ra.out] at Fa | (simp only [Int.reduceToNat] at Fa;rw [← Ra.out] at Fa));have ia:=zA (Kd.cO Fa (aC (uH HB.out)));replace HB:=zA (dY (uH HB.out) hb);replace aa:=zA (aA.below (uI aa.out) hb);clear hb Fa) | ((with_reducible refine av (f:=90) rfl ?_);refine gL (some 16) Try.func90 #[.int .i64 ra] ?_;(with_reducible refine (fq.calls k ra Aa _ A4.out).mono ?_);rintro e w' ⟨rfl,⟨nd,rfl⟩⟩;refine ⟨_,rfl,?_⟩) | ((with_reducible refine bW (N:=18) rfl ?_);refine lI 2 18 rfl [0,1,2] Sa ?_;intro gc zc Za hb;replace ia:=zA (Kd.aT (uN ia.out) (Kd.aV Za) hb);have ha:=lZ (nm Za HB) HB;replace HB:=zA (dY (uH HB.out) hb);replace aa:=zA (aA.below (uI aa.out) hb);clear hb Za;obtain ⟨ab,bb,rfl⟩:=Kd.aN ha.out) | ((with_reducible refine av (f:=70) rfl ?_);refine gL (some 19) Try.func70 #[.pointer (some ⟨kU,0,none⟩),.slice ab La.length bb] ?_;(with_reducible refine (bU.calls kU ma Wa Xa _ _ La Ma jb kb w _ ?fa ?ga ?na ?Ga ?Ha A5.out).mono ?_);(case fa=>exact uI aa.out);(case ga=>exact uH HB.out);(case na=>exact rC ha);(case Ga=>exact rl ha);(case Ha=>exact jG (aA.own_ne aa.out ha.out (by decide)));rintro e Ac ⟨rfl,hi,hb,hk⟩;refine ⟨_,rfl,?_⟩;replace ia:=zA (Kd.bn (Kd.xE (Kd.bn (ok:=fun k_=>((((w.heap.size ≤ k_))∧k_ ≠ kU)∧ax k_ (.slice ab La.length bb))) (uN ia.out) (fun k_ hk_=>(⟨hk_,hk_.1.2⟩ : _∧k_ ≠ kU))) hk (fun _ h=>h.2)) (fun _ h=>h.1));replace ha:=kS aa hk ha;replace HB:=zA (hb);replace aa:=zA (hi);(try clear hi)) | ((with_reducible refine bW (N:=21) rfl ?_);refine lI 2 21 rfl [0,1,2,4,6,13] Ta ?_;intro ic Bc Na hb;replace ia:=zA (Kd.aT (uN ia.out) (Kd.aV Na) hb);have pa:=lZ (nv (nm Na HB) ha) HB;replace ha:=eR ha Na hb;replace HB:=zA (dY (uH HB.out) hb);replace aa:=zA (aA.below (uI aa.out) hb);clear hb Na;obtain ⟨pb,qb,rfl⟩:=Kd.aN pa.out) | ((with_reducible refine av (f:=70) rfl ?_);refine gL (some 22) Try.func70 #[.pointer (some ⟨kU,0,none⟩),.slice pb Ya.length qb] ?_;(with_reducible refine (bU.calls kU ma jb kb _ _ Ya mb nb ob w _ ?fa ?ga ?na ?Ga ?Ha A6.out).mono ?_);(case fa=>exact uI aa.out);(case ga=>exact uH HB.out);(case na=>exact rC pa);(case Ga=>exact rl pa);(case Ha=>exact jG (aA.own_ne aa.out pa.out (by decide)));rintro e Cc ⟨rfl,hi,hb,hk⟩;refine ⟨_,rfl,?_⟩;replace ia:=zA (Kd.bn (Kd.xE (Kd.bn (ok:=fun k_=>(((((w.heap.size ≤ k_))∧k_ ≠ kU)∧ax k_ (.slice ab La.length bb))∧ax k_ (.slice pb Ya.length qb))) (uN ia.out) (fun k_ hk_=>(⟨hk_,hk_.1.1.2⟩ : _∧k_ ≠ kU))) hk (fun _ h=>h.2)) (fun _ h=>h.1));replace ha:=kS aa hk ha;replace pa:=kS aa hk pa;replace HB:=zA (hb);replace aa:=zA (hi);(try clear hi)));go_loopg [6,9] k (fun kq v6 v9 w'=>∃ (ba : List (List Int)) (Ba : Int) (da : Int) (ea : Int),v9 = .int .i64 Ba∧ay (bN.l0 kq ra ba Aa Ma Ba ma da ea = some (r1,r2))∧ay (kq ≤ k)∧ay (Kd.N (Kd.slice 2 (Kd.int .i64)) 24 w' w.heap.size (fun k_=>(w.heap.size ≤ k_)∧k_ ≠ kU) v6 ba)∧ay (aA w w' kU ma da ea)∧ay (Below w.heap.size w w'));(case atStart=>exact ⟨(ib),(mb),(nb),(ob),eS,H',⟨Nat.le_refl _⟩,⟨by (with_reducible repeat (first | apply Kd.N_alloc | apply Kd.dN | apply Kd.dI));exact Kd.bn ia.out (fun _ hk=>⟨hk.1.1.1,hk.1.1.2⟩)⟩,⟨uI aa.out⟩,⟨uH HB.out⟩⟩)
 case round =>
  clear H';obtain ⟨ba,Ba,da,ea,rfl,HA,Wb,ca,aa,HB⟩:=hrel
  cases gk with
  | zero=>exact absurd HA.out (by simp [bN.l0])
  | succ k1 =>
   have H:=HA.out;clear HA;simp only [bN.l0] at H;replace H:=gI H;obtain ⟨rb,H⟩|⟨rb,H⟩:=H
   ·have sb : decide (0 < Ba) = false:=decide_eq_false rb;clear rb;replace H:=gI H;obtain ⟨tb,H⟩|⟨tb,H⟩:=H
    ·have ub : decide (0 < (ba.length : Int)) = false:=decide_eq_false tb;have vb : decide (0 < ba.length) = false:=decide_eq_false (by omega);clear tb;simp only [Option.some.injEq,Prod.mk.injEq] at H;obtain ⟨rfl,rfl⟩:=H;obtain ⟨jc,kc,rfl⟩:=Kd.dJ ca.out;go_wp2;go_ret2;exact ⟨_,eX,by (with_reducible repeat (first | apply Kd.N_alloc | apply Kd.dN | apply Kd.dI));exact Kd.bn ca.out (fun _ hk=>hk.1),uH HB.out⟩
    have ub : decide (0 < (ba.length : Int)) = true:=decide_eq_true tb;have vb : decide (0 < ba.length) = true:=decide_eq_true (by omega);clear tb;replace H:=gN H;obtain ⟨Xb,H⟩:=H;have Yb : decide (0 < (ba.length : Int)) = true:=decide_eq_true Xb;have Zb : decide (0 < ba.length) = true:=decide_eq_true (by omega);clear Xb;replace H:=bO H;obtain ⟨⟨Ia,Hb,Ib⟩,mc,H⟩:=H;(try dsimp only at H);obtain ⟨Jb,Ua⟩:=eY (ba.set (0 : Int).toNat Ia : List (List Int));(try rw [←Ua.out] at H);simp only [Option.some.injEq,Prod.mk.injEq] at H;obtain ⟨rfl,rfl⟩:=H;obtain ⟨nc,qa,rfl⟩:=Kd.dJ ca.out;have Oa : 0 ≤ (0 : Int):=(by omega);have Pa : 0 < (ba.length : Int):=oD;obtain ⟨Ja,cb,db,Kb,ka,ya,AA⟩:=jC (Kd.aQ ca.out).2.2 0 Oa Pa;cases Kb;obtain ⟨ac,eb,Gp,Dz⟩:=Kd.mF ca.out [] 0 Oa (by first | exact Pa | exact of_decide_eq_true (by first | (with_reducible assumption) | assumption) | (have e_:=(Kd.aQ ca.out).1;omega));obtain ⟨I6,I7,rfl,xG,xI⟩:=Kd.eO Gp;have uG:=Dz 0 _ rfl;rw [Nat.add_zero,show ((Kd.slice 2 (Kd.int .i64))).sz = 1 from rfl,Nat.mul_one] at uG;replace uG:=Option.some.inj (uG.symm.trans ka);injection uG with hva_ hvn_ hvc_;rw [hva_] at xI;rw [hvc_] at xG;have ja:=zA (show Kd.V (Kd.int .i64) 2 _ w.heap.size _ _ (dA ba 0) from Kd.pG xG xI);clear hva_ hvn_ hvc_ xI xG;clear Dz eb;have cc : (0 < ba.length) = True:=eq_true (by omega);(try rw [show ((0 : Int)).toNat = 0 from rfl] at ka);(try rw [Addr.add_zero'] at ka);have Eb:=zA AA;have Fb:=zA ya;clear AA ya;replace Oa:=eq_true Oa;replace Pa:=eq_true Pa;go_wp2_with (first | ((with_reducible refine av (f:=103) rfl ?_);refine gL (some 43) Try.func103 #[.pointer (some ⟨kU,0,none⟩),.int .i64 ra,.slice cb (dA ba 0).length db] ?_;(with_reducible refine (xJ.calls k1 kU ma da ea ra (fun k_=>(((w.heap.size ≤ k_)∧k_ ≠ kU)∧ax k_ (.slice (some Ja) ba.length qa))) _ _ (dA ba 0) Ia Hb Ib w _ ?fa ?ga ?na mc.out).mono ?_);(case fa=>exact uI aa.out);(case ga=>exact uH HB.out);(case na=>exact Kd.aH (ja.out) (fun k_ hk_=>⟨hk_,hk_.1.2⟩));rintro e Lb ⟨oc,rfl,Gb,hi,hb,hk⟩;refine ⟨_,rfl,?_⟩;replace ja:=zA (Kd.aH (Kd.tO (Kd.aH (ok:=fun k_=>((((w.heap.size ≤ k_))∧k_ ≠ kU)∧ax k_ (.slice (some Ja) ba.length qa))) (uV ja.out) (fun k_ hk_=>(⟨hk_,hk_.1.2⟩ : _∧k_ ≠ kU))) hk (fun _ h=>h.2)) (fun _ h=>h.1));have sa:=zA (Kd.mE (Kd.aH (ok':=fun k_=>(w.heap.size ≤ k_)∧ax k_ (.slice (some Ja) ba.length qa)∧k_ ≠ kU) Gb (fun k_ hk_=>⟨Or.elim hk_ (fun hs_=>hs_.1.1) (fun hn_=>(Nat.le_trans (aC (uH HB.out)) hn_)),Or.elim hk_ (fun hs_=>hs_.2) (fun hn_=>(Kd.fresh' (Kd.fQ (uN ca.out)) k_ hn_)),Or.elim hk_ (fun hs_=>hs_.1.2) (fun hn_=>(aA.fresh (uI aa.out) k_ hn_))⟩)) (aC (uH HB.out)));replace ca:=zA (Kd.bn (Kd.xE (Kd.bn (ok:=fun k_=>(((w.heap.size ≤ k_))∧k_ ≠ kU)) (uN ca.out) (fun k_ hk_=>(⟨hk_,hk_.2⟩ : _∧k_ ≠ kU))) hk (fun _ h=>h.2)) (fun _ h=>h.1));replace HB:=zA (hb);replace aa:=zA (hi);obtain ⟨Aq_,cq_,eq_⟩:=Kd.gz sa.out;subst eq_;have Mb : 0 ≤ (0 : Int):=(by omega);have Nb : (0 : Int) < ((ba.length : Int) : Int):=of_decide_eq_true (by first | (with_reducible assumption) | assumption);have pc : (0 < ba.length) = True:=eq_true (by omega);obtain ⟨oa,qc,wb,xb,Ob,sc,yb⟩:=Kd.Gq ca.out (by omega);(first | cases wb | (injection wb with ea_ en_ ec_;(first | subst ea_ | (injection ea_ with ea_;subst ea_));subst ec_;clear en_));have zb:=zA xb;have:=geI zb;have tc:=zA yb;clear xb Ob yb;(first | simp only [add_plain] at ka | skip);obtain ⟨uc,Hr,Ht,FE,FH⟩:=Kd.zB ca.out [] (0 : Int) Mb Nb;obtain ⟨Jk,Jl,rfl,Jm,Jn⟩:=Kd.eO Ht;have ta:=FE 0 _ rfl;have ua:=FH 0;(try simp only [show ((Kd.slice 2 (Kd.int .i64))).sz = 1 from rfl,Nat.mul_one,Nat.add_zero] at ta);(try simp only [show ((Kd.slice 2 (Kd.int .i64))).sz = 1 from rfl,Nat.mul_one,Nat.add_zero] at ua);clear Hr FE FH Ht;(try rw [show ((0 : Int)).toNat = 0 from rfl] at ta);(try simp only [Nat.reduceMul,Nat.zero_mul,Nat.zero_add,Nat.reduceAdd] at ta);(try rw [show ((0 : Int)).toNat = 0 from rfl] at ua);(try simp only [Nat.reduceMul,Nat.zero_mul,Nat.zero_add,Nat.reduceAdd] at ua);replace Mb:=eq_true Mb;replace Nb:=eq_true Nb;have Hu:=zA (show Kd.N (Kd.slice 2 (Kd.int .i64)) 24 Lb w.heap.size (fun k_=>(w.heap.size ≤ k_)∧k_ ≠ kU) (.slice (some ⟨oa,0,none⟩) ba.length qa) ba from (uN ca.out));obtain ⟨vc,FI,Hw,DC,FJ⟩:=Kd.zB Hu.out [] (0 : Int) (by omega) (by have h_ : (0 : Int) < ((ba.length : Int) : Int):=of_decide_eq_true (by first | (with_reducible assumption) | assumption);first | exact h_ | (have e_:=(Kd.aQ ca.out).1;omega) | simpa using h_);obtain ⟨Jo,Jp,rfl,Jq,Jr⟩:=Kd.eO Hw;have Ka:=Kd.Hy Hu.out (0 : Int) (by omega) (by have h_ : (0 : Int) < ((ba.length : Int) : Int):=of_decide_eq_true (by first | (with_reducible assumption) | assumption);first | exact h_ | (have e_:=(Kd.aQ ca.out).1;omega) | simpa using h_) (seg:=[(.slice Aq_ Ia.length cq_)]) (j:=0) FI DC (show 1 ≤ 1 from by decide) (x':=Ia) (Kd.dK (Kd.dS (Kd.aH (ok':=(fun k_=>((fun k_=>(w.heap.size ≤ k_)∧k_ ≠ kU)) k_∧k_ ≠ oa)) (sa.out) (fun k_ hk=>⟨⟨hk.1,hk.2.2⟩,fun e_=>(hk.2.1) (by rw [e_];rfl)⟩))).2.1 (Kd.V_F (Kd.aH (ok':=(fun k_=>((fun k_=>(w.heap.size ≤ k_)∧k_ ≠ kU)) k_∧k_ ≠ oa)) (sa.out) (fun k_ hk=>⟨⟨hk.1,hk.2.2⟩,fun e_=>(hk.2.1) (by rw [e_];rfl)⟩)))) (fun _ hk=>hk);have wa:=DC 0 _ rfl;(try simp only [show ((Kd.slice 2 (Kd.int .i64))).sz = 1 from rfl,Nat.mul_one,Nat.add_zero] at wa);(try rw [show ((0 : Int)).toNat = 0 from rfl] at wa);(try simp only [Nat.reduceMul,Nat.zero_mul,Nat.zero_add,Nat.reduceAdd] at wa);have xa:=FJ 0;(try simp only [show ((Kd.slice 2 (Kd.int .i64))).sz = 1 from rfl,Nat.mul_one,Nat.add_zero] at xa);(try rw [show ((0 : Int)).toNat = 0 from rfl] at xa);(try simp only [Nat.reduceMul,Nat.zero_mul,Nat.zero_add,Nat.reduceAdd] at xa);clear FI DC FJ Hw;(try simp only [show ((Kd.slice 2 (Kd.int .i64))).sz = 1 from rfl,Nat.mul_one,Nat.add_zero] at Ka);(try simp only [show ((Kd.slice 2 (Kd.int .i64))).sz = 1 from rfl,Nat.mul_one,Nat.add_zero] at Ka)) | ((with_reducible refine kY (t:=24) (p:=44) rfl ?_);refine ky (t:=24) (p:=44) (v:=?Js) (w1:=(Lb.setCell ⟨oa,0,none⟩ ((.slice Aq_ Ia.length cq_)))) ?hg ?ho ?hn ?hr ?_;(case ho=>rfl);(case hg=>rfl);(case hn=>rfl);(case hr=>first | (go_simp;done) | (go_simp;rfl));intro Pb hw;have hg : Lb.grownBy Pb (some oa):=(by rw [hw];exact Ka.2);have hp_ : Kd.N (Kd.slice 2 (Kd.int .i64)) 24 Pb w.heap.size (fun k_=>(w.heap.size ≤ k_)∧k_ ≠ kU) (.slice (some ⟨oa,0,none⟩) ba.length qa) Jb:=(by rw [hw,Ua.out];exact Ka.1);clear Ka;replace aa:=zA (aA.grown (uI aa.out) hg (aA.AB aa.out ca.out (by decide)));replace ca:=zA (hp_);replace ja:=zA (Kd.d9 (v:=(.slice (some ⟨oa,0,none⟩) ba.length qa)) (v1:=(.slice (some ⟨oa,0,none⟩) ba.length qa)) (ok:=(fun k_=>(w.heap.size ≤ k_)∧k_ ≠ kU)) (uV ja.out) hg (.inl rfl));replace sa:=zA (Kd.d9 (v:=(.slice (some ⟨oa,0,none⟩) ba.length qa)) (v1:=(.slice (some ⟨oa,0,none⟩) ba.length qa)) (ok:=(fun k_=>(w.heap.size ≤ k_)∧k_ ≠ kU)) (uV (Kd.aH sa.out (fun _ ⟨a,c,b⟩=>⟨⟨a,b⟩,c⟩))) hg (.inl rfl));replace HB:=zA ((by rw [hw];exact fH (HB.out) zb.out : Below w.heap.size w Pb));clear hg hw hp_));go_ret2;exact ⟨_,eX,by (with_reducible repeat (first | apply Kd.N_alloc | apply Kd.dN | apply Kd.dI));exact Kd.bn ca.out (fun _ hk=>hk.1),uH HB.out⟩
   have sb : decide (0 < Ba) = true:=decide_eq_true rb;clear rb;replace H:=bO H;obtain ⟨⟨Qa,Ab,Bb⟩,wc,H⟩:=H;(try dsimp only at H);replace H:=gZ H;obtain ⟨Cb,H⟩:=H;obtain ⟨Qb,Va⟩:=eY (ba ++ [Qa] : List (List Int));(try rw [←Va.out] at H);have H':=zA H;clear H;go_wp2_with (first | ((with_reducible refine av (f:=95) rfl ?_);refine gL (some 31) Try.func95 #[.pointer (some ⟨kU,0,none⟩),.int .i64 Aa,.int .i64 Ma] ?_;(with_reducible refine (dC.calls k1 kU ma da ea Aa Ma Qa Ab Bb w _ ?fa ?ga wc.out).mono ?_);(case fa=>exact uI aa.out);(case ga=>exact uH HB.out);rintro e Dc ⟨xc,rfl,Gb,hi,hb,hk⟩;refine ⟨_,rfl,?_⟩;replace ca:=zA (Kd.bn (Kd.dm (Kd.Gr (Kd.bn (ok:=fun k_=>(((w.heap.size ≤ k_))∧k_ ≠ kU)) (uN ca.out) (fun k_ hk_=>(⟨hk_,hk_.2⟩ : _∧k_ ≠ kU))) hk) (Kd.aV Gb)) (fun _ h_=>h_.1));have za:=lZ (nm Gb HB) HB;replace HB:=zA (hb);replace aa:=zA (hi);obtain ⟨Rb,Sb,rfl⟩:=Kd.aN za.out) | ((with_reducible refine dX (b:=.append) (xs:=#[.tmp 27,.tmp 32]) rfl ?_);at_builtin;refine Kd.qm (Kd.slice 2 (Kd.int .i64)) (w0:=w) w.heap.size rfl (.tmp 27) (.tmp 32) 32 24 (.slice none 0 0) 24 rfl Try.underlying32 oL rfl (by decide) (by omega) u6 ba Qa [.slice Rb Qa.length Sb] (fun k_=>(w.heap.size ≤ k_)∧k_ ≠ kU) (fun k_=>((fun k_=>(w.heap.size ≤ k_)∧k_ ≠ kU)) k_∧ax k_ u6) rfl rfl ?aP (fun _ hk=>hk) ?aF ?aO ?aB ?aS ?aL ?_;(case aP=>exact (Kd.dK (Kd.dz (Kd.aI (ok':=(fun k_=>((fun k_=>(w.heap.size ≤ k_)∧k_ ≠ kU)) k_∧ax k_ u6)) (aA.apart aa.out (Kd.bF (za.out) (Kd.bH ca.out) (by decide)) (by decide)) (fun k_ ⟨⟨⟨a,_⟩,c⟩,b⟩=>⟨⟨a,b⟩,c⟩))).2.1 (Kd.R_F (Kd.aI (ok':=(fun k_=>((fun k_=>(w.heap.size ≤ k_)∧k_ ≠ kU)) k_∧ax k_ u6)) (aA.apart aa.out (Kd.bF (za.out) (Kd.bH ca.out) (by decide)) (by decide)) (fun k_ ⟨⟨⟨a,_⟩,c⟩,b⟩=>⟨⟨a,b⟩,c⟩)))));(case aB=>exact (uH HB.out));(case aF=>exact (fun k_ hk=>⟨(Nat.le_trans (aC (uH HB.out)) hk),aA.fresh (uI aa.out) k_ hk⟩));(case aO=>exact (by (with_reducible repeat (first | apply Kd.N_alloc | apply Kd.dN | apply Kd.dI));exact Kd.bn ca.out (fun _ ⟨⟨a,b⟩,_⟩=>⟨a,b⟩)));(case aS=>exact (aC (uH HB.out)));(case aL=>have:=Cb.out;omega);intro yc Ec ho hb hg hat;rw [← Va.out] at ho;replace aa:=zA (aA.grown (uI aa.out) hg (aA.AB aa.out ca.out (by decide)));replace HB:=zA (hb);have Db:=zA (ho);clear ca za ho hb hg hat));go_roundg k1;(case measure=>have:=Wb.out;omega);(case rel=>exact ⟨(Qb),(wrap64 (Ba - 1)),(Ab),(Bb),eS,H',⟨by have:=Wb.out;omega⟩,⟨uN Db.out⟩,⟨uI aa.out⟩,⟨uH HB.out⟩⟩)
/- The draws of primes, lists and polynomials come to some value, of small length; no condition. -/
open Go Go.RowKit Go.Proofs.YtknppcledhnkoaaW.PrintWords Go.Proofs.YtknppcledhnkoaaW.PrintLast Go.Proofs.YtknppcledhnkoaaW.PrintMore
section
variable {c : List Int} {i : Int}
theorem DD (s : St c i) (h : Int) : Ex (fun _=>iP.f c i h) (fun r=>St c r.2.1∧bK r.1 = true):=by
  unfold iP.f
  refine Ex.bind (mD s h _ (by decide)) (fun r hr=>Ex.now ⟨hr.1,?_⟩)
  have e : ∀ x ∈ ([2,3,5,7,7,11,13,17,31,101,997,10007] : List Int),bK x = true:=by decide
  exact e _ hr.2
theorem xK (s : St c i) (h n : Int) : Ex (fun _=>iT.f c i h n) (fun r=>St c r.2.1):=by
  unfold iT.f
  refine Ex.bind (jJ s h 14) (fun r hr=>?_)
  refine Ex.ite (fun _=>?_) (fun _=>?_)
  · exact Ex.bind (mD hr.1 _ _ (by simp)) (fun r hr=>Ex.now hr.1)
  · exact Ex.bind (jJ hr.1 _ _) (fun r hr=>Ex.now hr.1)
theorem qK (p : Int) : Ex (fun k=>fq.f k p) (fun q=>bK q = true):=by
  unfold fq.f
  refine Ex.bind (P:=fun b=>b = bK p) ⟨_,nC p,rfl⟩ (fun b hb=>Ex.ite (fun g=>Ex.now ?_) (fun _=>Ex.now (by decide)))
  rw [← hb];exact g
end
/- The draws of FnSeriesOfQuotients. -/
section
variable {c : List Int} {i : Int}
theorem AC (c : List Int) (j h : Int) (d : Nat) : ∀ o : List Int,o.length + d = 26 ∨ d = 0∧26 ≤ o.length → o.length ≤ 200 → Ex (fun k=>dO.l0 k o c j h) (fun r=>r.2.1 = j∧r.1.length ≤ 201):=by
  induction d with
  | zero =>
    intro o ho hl
    refine Ex.step (fun k=>by rw [dO.l0]) ?_
    exact Ex.neg (by omega) (Ex.now ⟨rfl,by dsimp only;omega⟩)
  | succ d ih =>
    intro o ho hl
    refine Ex.step (fun k=>by rw [dO.l0]) ?_
    exact Ex.pos (by omega) (Ex.pos (by omega) (ih _ (by simp;omega) (by simp;omega)))
theorem sJ (s : St c i) (h p : Int) (l : List Int) (hl : l.length ≤ 200) : Ex (fun k=>dO.f k c i h p l) (fun r=>St c r.2.1∧r.1.length ≤ 201):=by
  unfold dO.f
  refine Ex.bind (jJ s h 40) (fun r hr=>?_)
  have own : Ex (fun _=>dR.f l) (fun y=>y = l):=Ex.eq (vM l (by unfold Sm;omega)) rfl
  refine Ex.ite (fun _=>?_) (fun _=>?_)
  · refine Ex.bind own (fun y hy=>?_)
    subst hy
    exact Ex.pos (by omega) (Ex.now ⟨hr.1,by simp;omega⟩)
  refine Ex.ite (fun _=>?_) (fun _=>?_)
  · refine Ex.bind own (fun y hy=>?_)
    subst hy
    exact Ex.bind (mD hr.1 _ _ (by simp)) (fun u hu=>Ex.pos (by omega) (Ex.now ⟨hu.1,by simp;omega⟩))
  refine Ex.ite (fun _=>?_) (fun _=>Ex.now ⟨hr.1,by dsimp only;omega⟩)
  refine Ex.bind own (fun y hy=>?_)
  subst hy
  have st:=hr.1
  by_cases g : y.length ≤ 25
  · exact Ex.weak (AC c _ _ (26 - y.length) y (by omega) hl) (fun a ha=>⟨by rw [ha.1];exact st,ha.2⟩)
  · exact Ex.weak (AC c _ _ 0 y (by omega) hl) (fun a ha=>⟨by rw [ha.1];exact st,ha.2⟩)
theorem sK (s : St c i) (h : Int) : Ex (fun _=>il.f c i h) (fun r=>St c r.2.1):=by
  unfold il.f
  refine Ex.bind (jJ s h 24) (fun r hr=>Ex.ite (fun _=>?_) (fun _=>?_))
  · exact Ex.bind (mD hr.1 _ _ (by simp)) (fun u hu=>Ex.now hu.1)
  · exact Ex.bind (DD hr.1 _) (fun u hu=>Ex.now hu.1)
theorem DF {p : Int} (hp : Pm p) (m : Int) (d : Nat) : ∀ (j h : Int) (o : List Int),St c j → Nm p o → o.length + d ≤ 1000 → Ex (fun k=>bI.l0 k p (d : Int) o m c j h) (fun r=>St c r.2.1∧r.1.length = o.length + d∧Nm p r.1):=by
  have h2:=hp.two
  induction d with
  | zero =>
    intro j h o s no ho
    refine Ex.step (fun k=>by rw [bI.l0]) ?_
    exact Ex.neg (by omega) (Ex.now ⟨s,rfl,no⟩)
  | succ d ih =>
    intro j h o s no ho
    refine Ex.step (fun k=>by rw [bI.l0]) ?_
    refine Ex.pos (by omega) ?_
    have next : ∀ (j' h' x : Int),St c j' → 0 ≤ x∧x < p → Ex (fun k=>bI.l0 k p (wrap64 (((d + 1 : Nat) : Int) - 1)) (o ++ [x]) m c j' h') (fun r=>St c r.2.1∧r.1.length = o.length + (d + 1)∧Nm p r.1):=by
      intro j' h' x s' hx
      rw [vI (i:=d + 1) (by omega) (by omega),Nat.add_sub_cancel]
      refine Ex.weak (ih j' h' (o ++ [x]) s' (no.append ((Nm.nil p).cons hx.1 hx.2)) (by simp;omega)) (fun r hr=>⟨hr.1,?_,hr.2.2⟩)
      have:=hr.2.1
      simp only [List.length_append,List.length_singleton] at this
      omega
    refine Ex.ite (fun _=>?_) (fun _=>?_)
    · exact Ex.bind (jJ s h p) (fun r hr=>Ex.pos (by omega) (next _ _ _ hr.1 ⟨hr.2.1,hr.2.2.1 (by omega)⟩))
    · refine Ex.bind (jJ s h 3) (fun r hr=>?_)
      refine Ex.ite (fun _=>?_) (fun _=>?_)
      · exact Ex.bind (jJ hr.1 _ p) (fun r hr=>Ex.pos (by omega) (next _ _ _ hr.1 ⟨hr.2.1,hr.2.2.1 (by omega)⟩))
      · exact Ex.pos (by omega) (next _ _ _ hr.1 ⟨by omega,by omega⟩)
theorem qo {p : Int} (hp : Pm p) (s : St c i) (h : Int) (n : Nat) (hn : n ≤ 1000) : Ex (fun k=>bI.f k c i h p (n : Int)) (fun r=>St c r.2.1∧r.1.length = n∧Nm p r.1):=by
  unfold bI.f
  refine Ex.bind (jJ s h 3) (fun r hr=>Ex.weak (DF hp _ n _ _ [] hr.1 (Nm.nil p) (by simpa using hn)) (fun a ha=>⟨ha.1,?_,ha.2.2⟩))
  simpa using ha.2.1
theorem o5 {p : Int} (hp : Pm p) (s : St c i) (h n : Int) (hn : 0 ≤ n∧n ≤ 24) : Ex (fun k=>dC.f k c i h p n) (fun r=>St c r.2.1∧Nm p r.1∧r.1.length ≤ 26):=by
  unfold dC.f
  refine Ex.bind (jJ s h _) (fun r hr=>?_)
  obtain ⟨s1,h1,h2,h3⟩:=hr
  rw [bT (x:=n + 2) (by omega) (by omega)] at h2
  have h4:=h2 (by omega)
  obtain ⟨m,hm⟩ : ∃ m : Nat,r.1 = (m : Int):=⟨r.1.toNat,by omega⟩
  rw [hm]
  refine Ex.bind (qo hp s1 _ m (by omega)) (fun a ha=>?_)
  have hl:=ha.2.1
  refine Ex.bind (P:=fun l=>l = iQ a.1) ⟨_,l7 a.1 (by unfold Sm;omega),rfl⟩ (fun l hl'=>Ex.now ⟨ha.1,?_,?_⟩)
  · show Nm p l
    rw [hl'];exact ha.2.2.iQ
  · have:=oV a.1
    dsimp only
    rw [hl']
    omega
theorem DI (s : St c i) (h : Int) : Ex (fun k=>jO.f k c i h) (fun r=>St c r.2.2.2.1∧r.2.1.length ≤ 201∧r.2.2.1.length ≤ 201):=by
  unfold jO.f
  refine Ex.bind (sK s h) (fun a ha=>Ex.bind (qK a.1) (fun q hq=>?_))
  have hp:=bK.pm hq
  refine Ex.bind (mD ha _ _ (by simp)) (fun m hm=>?_)
  have e : ∀ x ∈ ([2,4,8] : List Int),0 ≤ x∧x ≤ 24:=by decide
  have hm2:=e _ hm.2
  refine Ex.bind (o5 hp hm.1 _ _ hm2) (fun f hf=>Ex.bind (o5 hp hf.1 _ _ hm2) (fun g hg=>?_))
  have lf:=hf.2.2
  have lg:=hg.2.2
  refine Ex.bind (jJ hg.1 _ 3) (fun d hd=>Ex.ite (fun _=>?_) (fun _=>?_))
  · refine Ex.bind (o5 hp hd.1 _ 3 (by omega)) (fun t ht=>?_)
    have lt:=ht.2.2
    have l1:=pW q f.1 t.1
    have l2:=pW q g.1 t.1
    refine Ex.bind (P:=fun y=>y = kI q f.1 t.1) ⟨_,nK hp _ _ hf.2.1 ht.2.1 (by unfold Sm;omega) (by unfold Sm;omega) (by unfold Sm;omega),rfl⟩ (fun y hy=>?_)
    refine Ex.bind (P:=fun y=>y = kI q g.1 t.1) ⟨_,nK hp _ _ hg.2.1 ht.2.1 (by unfold Sm;omega) (by unfold Sm;omega) (by unfold Sm;omega),rfl⟩ (fun z hz=>?_)
    refine Ex.bind (sJ ht.1 _ _ _ (by rw [hy];omega)) (fun u hu=>Ex.bind (sJ hu.1 _ _ _ (by rw [hz];omega)) (fun v hv=>Ex.now ⟨hv.1,hu.2,hv.2⟩))
  · exact Ex.bind (sJ hd.1 _ _ _ (by omega)) (fun u hu=>Ex.bind (sJ hu.1 _ _ _ (by omega)) (fun v hv=>Ex.now ⟨hv.1,hu.2,hv.2⟩))
theorem rA (s : St c i) (h p : Int) (f g : List Int) (b : Bool) (hf : f.length ≤ 201) (hg : g.length ≤ 201) (hb : b = true → 0 < g.length) : Ex (fun k=>dM.j0 k p f g b c i h) (fun r=>Sm r.2.1.length∧Sm r.2.2.1.length):=by
  refine Ex.step (fun k=>by rw [dM.j0]) (Ex.ite (fun g1=>?_) (fun _=>?_))
  · have h0:=hb g1
    refine Ex.bind (P:=fun y=>y = g) (Ex.eq (vM g (by unfold Sm;omega)) rfl) (fun y hy=>?_)
    subst hy
    exact Ex.pos (by omega) (Ex.bind (xK s _ _) (fun a ha=>Ex.bind (mD ha _ _ (by simp)) (fun b hb=>Ex.now ⟨by dsimp only;unfold Sm;omega,by dsimp only;rw [List.length_set];unfold Sm;omega⟩)))
  · exact Ex.bind (xK s _ _) (fun a ha=>Ex.bind (mD ha _ _ (by simp)) (fun b hb=>Ex.now ⟨by dsimp only;unfold Sm;omega,by dsimp only;unfold Sm;omega⟩))
end
theorem Jt (z : Int) : ∃ n : Nat,mn (mx z 0) 30 = (n : Int)∧n ≤ 30:=by
  refine ⟨(mn (mx z 0) 30).toNat,?_,?_⟩
  · have : 0 ≤ mn (mx z 0) 30:=by unfold mn mx;split <;> split <;> omega
    omega
  · have : mn (mx z 0) 30 ≤ 30:=by unfold mn mx;split <;> split <;> omega
    omega
section
variable {c : List Int} {i : Int}
theorem vP (s : St c i) (h p q a b : Int) (hq : bK q = true) : Ex (fun k=>eF.j0 k p q a b c i h) (fun r=>Sm r.2.1.length):=by
  have hp:=bK.pm hq
  have h2:=hp.two
  refine Ex.step (fun k=>by rw [eF.j0]) ?_
  obtain ⟨n,hn,hn2⟩:=Jt (wrap64 (wrap64 (a + b) + 1))
  rw [hn]
  refine Ex.bind (qo hp s _ n (by omega)) (fun l hl=>?_)
  have ll:=hl.2.1
  refine Ex.bind (jJ hl.1 _ 2) (fun d hd=>Ex.ite (fun _=>?_) (fun _=>?_))
  · refine Ex.bind (o5 hp hd.1 _ 4 (by omega)) (fun f hf=>?_)
    refine Ex.bind (P:=fun y=>y = [1]) (Ex.eq rfl rfl) (fun y hy=>?_)
    subst hy
    refine Ex.bind (o5 hp hf.1 _ 3 (by omega)) (fun g hg=>?_)
    have lg:=hg.2.2
    have e : ([1] ++ g.1).length = g.1.length + 1:=by simp
    refine Ex.pos (by rw [List.length_singleton];omega) ?_
    refine Ex.bind (P:=fun y=>y.length = n) ⟨_,qV hp f.1 ([1] ++ g.1) hf.2.1 (((Nm.nil q).cons (by omega) (by omega)).append hg.2.1) n (by omega) (by omega) (by omega),jY _ _ _ _ _⟩ (fun y hy=>?_)
    refine Ex.bind (jJ hg.1 _ 24) (fun d hd=>Ex.ite (fun _=>?_) (fun _=>?_))
    · exact Ex.pos (by omega) (Ex.now (by simp [Sm];omega))
    · exact Ex.now (by dsimp only;unfold Sm;omega)
  · refine Ex.bind (jJ hd.1 _ 24) (fun d hd=>Ex.ite (fun _=>?_) (fun _=>?_))
    · exact Ex.pos (by omega) (Ex.now (by simp [Sm];omega))
    · exact Ex.now (by dsimp only;unfold Sm;omega)
theorem yE {q : Int} (hp : Pm q) (p m : Int) (hm : 0 ≤ m∧m ≤ 24) (d : Nat) : ∀ (j h : Int) (o : List (List Int)),St c j → o.length + d ≤ 13 → (∀ l ∈ o,l.length ≤ 26) →
    Ex (fun k=>bN.l0 k p o q m (d : Int) c j h) (fun r=>Sm r.2.length∧∀ l ∈ r.2,Sm l.length):=by
  induction d with
  | zero =>
    intro j h o s ho hl
    have sm : ∀ l ∈ o,Sm l.length:=fun l h=>by have:=hl l h;unfold Sm;omega
    refine Ex.step (fun k=>by rw [bN.l0]) ?_
    refine Ex.neg (by omega) (Ex.ite (fun g=>Ex.pos (by omega) ?_) (fun _=>Ex.now ⟨by dsimp only;unfold Sm;omega,sm⟩))
    have e : (dA o 0).length ≤ 26:=by
      rw [show dA o 0 = o.getD 0 [] from ou o 0]
      cases o with
      | nil=>simp
      | cons x o=>exact hl x (List.mem_cons_self ..)
    refine Ex.bind (sJ s _ _ _ (by omega)) (fun u hu=>Ex.now ⟨by dsimp only;rw [List.length_set];unfold Sm;omega,fun l h=>?_⟩)
    dsimp only at h
    rcases List.mem_or_eq_of_mem_set h with k | k
    · exact sm l k
    · have:=hu.2;rw [k];unfold Sm;omega
  | succ d ih =>
    intro j h o s ho hl
    refine Ex.step (fun k=>by rw [bN.l0]) ?_
    refine Ex.pos (by omega) (Ex.bind (o5 hp s _ _ hm) (fun a ha=>Ex.pos (by omega) ?_))
    rw [vI (i:=d + 1) (by omega) (by omega),Nat.add_sub_cancel]
    refine ih _ _ _ ha.1 (by rw [List.length_append,List.length_singleton];omega) (fun l h=>?_)
    rcases List.mem_append.1 h with k | k
    · exact hl l k
    · rw [List.mem_singleton.1 k];exact ha.2.2
end
section
variable {c : List Int} (hb : ∀ x ∈ c,0 ≤ x∧x < 256) (hl : c.length ≤ 4096)
include hb hl
theorem zC : Ex (fun k=>dM.f k c) (fun r=>Sm r.2.1.length∧Sm r.2.2.1.length):=by
  unfold dM.f
  refine Ex.bind (qH hb hl) (fun a ha=>?_)
  obtain ⟨e,st⟩:=ha
  rw [e]
  refine Ex.bind (DI st _) (fun t ht=>?_)
  have l1:=ht.2.1
  have l2:=ht.2.2
  refine Ex.ite (fun g=>Ex.pos (by omega) ?_) (fun _=>rA ht.1 _ _ _ _ _ l1 l2 (fun k=>absurd k (by decide)))
  exact Ex.ite (fun _=>Ex.bind (jJ ht.1 _ 4) (fun d hd=>rA hd.1 _ _ _ _ _ l1 l2 (fun _=>by omega))) (fun _=>rA ht.1 _ _ _ _ _ l1 l2 (fun k=>absurd k (by decide)))
theorem zD : Ex (fun k=>gm.f k c) (fun r=>Sm r.2.1.length∧Sm r.2.2.length):=by
  unfold gm.f
  refine Ex.bind (qH hb hl) (fun a ha=>?_)
  obtain ⟨e,st⟩:=ha
  rw [e]
  refine Ex.bind (DI st _) (fun t ht=>?_)
  have l1:=ht.2.1
  have l2:=ht.2.2
  exact Ex.now ⟨by dsimp only;unfold Sm;omega,by dsimp only;unfold Sm;omega⟩
theorem zF : Ex (fun k=>fF.f k c) (fun r=>Sm r.2.length):=by
  unfold fF.f
  refine Ex.bind (qH hb hl) (fun a ha=>?_)
  obtain ⟨e,st⟩:=ha
  rw [e]
  refine Ex.bind (sK st _) (fun b hb=>Ex.bind (qK b.1) (fun q hq=>Ex.bind (mD hb _ _ (by simp)) (fun m hm=>?_)))
  have e : ∀ x ∈ ([1,2,3,8,24,0,25] : List Int),0 ≤ x∧x ≤ 25:=by decide
  have hm2:=e _ hm.2
  obtain ⟨n,hn⟩ : ∃ n : Nat,m.1 = (n : Int):=⟨m.1.toNat,by omega⟩
  rw [hn]
  exact Ex.bind (qo (bK.pm hq) hm.1 _ n (by omega)) (fun l hl=>Ex.now (by have:=hl.2.1;dsimp only;unfold Sm;omega))
theorem zG : Ex (fun k=>eF.f k c) (fun r=>Sm r.2.1.length):=by
  unfold eF.f
  refine Ex.bind (qH hb hl) (fun a ha=>?_)
  obtain ⟨e,st⟩:=ha
  rw [e]
  refine Ex.bind (sK st _) (fun b hb=>Ex.bind (qK b.1) (fun q hq=>Ex.bind (jJ hb _ 6) (fun x hx=>Ex.bind (jJ hx.1 _ 6) (fun y hy=>Ex.bind (jJ hy.1 _ 12) (fun z hz=>Ex.ite (fun _=>?_) (fun _=>vP hz.1 _ _ _ _ _ hq))))))
  exact Ex.bind (xK hz.1 _ _) (fun u hu=>vP hu _ _ _ _ _ hq)
theorem BQ : Ex (fun k=>fo.f k c) (fun r=>Sm r.2.1.length∧Sm r.2.2.length):=by
  unfold fo.f
  refine Ex.bind (qH hb hl) (fun a ha=>?_)
  obtain ⟨e,st⟩:=ha
  rw [e]
  refine Ex.bind (sK st _) (fun b hb=>Ex.bind (mD hb _ _ (by simp)) (fun m hm=>?_))
  have e : ∀ x ∈ ([0,1,2,3,8,24,25] : List Int),0 ≤ x∧x ≤ 25:=by decide
  have hm2:=e _ hm.2
  obtain ⟨n,hn⟩ : ∃ n : Nat,m.1 = (n : Int):=⟨m.1.toNat,by omega⟩
  rw [hn]
  refine Ex.bind (qK b.1) (fun q hq=>Ex.bind (qo (bK.pm hq) hm.1 _ n (by omega)) (fun l hl=>Ex.bind (qK b.1) (fun q2 hq2=>Ex.bind (qo (bK.pm hq2) hl.1 _ n (by omega)) (fun l2 hl2=>?_))))
  have e1:=hl.2.1
  have e2:=hl2.2.1
  refine Ex.bind (jJ hl2.1 _ 24) (fun d hd=>Ex.ite (fun _=>Ex.pos (by omega) (Ex.now ⟨by dsimp only;unfold Sm;omega,by simp [Sm];omega⟩)) (fun _=>Ex.now ⟨by dsimp only;unfold Sm;omega,by dsimp only;unfold Sm;omega⟩))
theorem yF : Ex (fun k=>bN.f k c) (fun r=>Sm r.2.length∧∀ l ∈ r.2,Sm l.length):=by
  unfold bN.f
  refine Ex.bind (qH hb hl) (fun a ha=>?_)
  obtain ⟨e,st⟩:=ha
  rw [e]
  refine Ex.bind (sK st _) (fun b hb=>Ex.bind (qK b.1) (fun q hq=>Ex.bind (mD hb _ _ (by simp)) (fun m hm=>Ex.bind (mD hm.1 _ _ (by simp)) (fun n hn=>?_))))
  have e1 : ∀ x ∈ ([0,1,2] : List Int),0 ≤ x∧x ≤ 24:=by decide
  have e2 : ∀ x ∈ ([0,1,2,4,6,13] : List Int),0 ≤ x∧x ≤ 13:=by decide
  have n2:=e2 _ hn.2
  obtain ⟨d,hd⟩ : ∃ d : Nat,n.1 = (d : Int):=⟨n.1.toNat,by omega⟩
  rw [hd]
  exact yE (bK.pm hq) _ _ (e1 _ hm.2) d _ _ [] hn.1 (by simp only [List.length_nil];omega) (fun l h=>by simp at h)
end
/- A prime divides a product only with one of its factors. -/
theorem bK.div {p : Int} (h : bK p = true) {j : Nat} (h2 : 2 ≤ j) (hj : (j : Int) * (j : Int) ≤ p) : ¬ (j : Int) ∣ p:=by
  intro hd
  simp only [bK,Bool.and_eq_true,decide_eq_true_eq] at h
  have hj1 : j < 101:=by
    apply Decidable.byContradiction
    intro g
    have:=EO (a:=(101 : Int)) (b:=(101 : Int)) (m:=(j : Int)) (n:=(j : Int)) (by omega) (by omega) (by omega) (by omega)
    omega
  exact h.2 j hj1 h2 hj (Int.emod_eq_zero_of_dvd hd)
theorem bK.gcd {p : Nat} (h : bK (p : Int) = true) {a : Nat} (h1 : 1 ≤ a) (ha : a < p) : Nat.gcd p a = 1:=by
  obtain ⟨g,hg⟩ : ∃ g,Nat.gcd p a = g:=⟨_,rfl⟩
  have hp:=(bK.pm h).two
  have d1 : g ∣ p:=hg ▸ Nat.gcd_dvd_left p a
  have d2 : g ∣ a:=hg ▸ Nat.gcd_dvd_right p a
  have l1 : g ≤ a:=Nat.le_of_dvd (by omega) d2
  have l0 : 0 < g:=hg ▸ Nat.gcd_pos_of_pos_right p (by omega)
  rw [hg]
  apply Decidable.byContradiction
  intro hne
  obtain ⟨q,hq⟩:=d1
  have hq2 : 2 ≤ q:=by
    rcases Nat.lt_or_ge q 2 with g2 | g2
    · exfalso
      have : q = 0 ∨ q = 1:=by omega
      rcases this with rfl | rfl
      · omega
      · omega
    · exact g2
  rcases Nat.le_total g q with hle | hle
  · refine bK.div h (j:=g) (by omega) ?_ ⟨(q : Int),by rw [hq];simp⟩
    have:=Nat.mul_le_mul_left g hle
    rw [← hq] at this
    exact_mod_cast this
  · refine bK.div h (j:=q) hq2 ?_ ⟨(g : Int),by rw [hq,Int.natCast_mul];exact Int.mul_comm _ _⟩
    have:=Nat.mul_le_mul_right q hle
    rw [← hq] at this
    exact_mod_cast this
/-- A number that p does not divide may be left out. -/
theorem bK.cancel {p a d : Int} (h : bK p = true) (ha : 1 ≤ a∧a < p) (hd : p ∣ a * d) : p ∣ d:=by
  obtain ⟨P,rfl⟩ : ∃ P : Nat,p = (P : Int):=⟨p.toNat,by omega⟩
  obtain ⟨A,rfl⟩ : ∃ A : Nat,a = (A : Int):=⟨a.toNat,by omega⟩
  have hg:=bK.gcd h (a:=A) (by omega) (by omega)
  have h1:=Int.natAbs_dvd_natAbs.2 hd
  rw [Int.natAbs_mul] at h1
  have h2 : P ∣ d.natAbs:=Nat.Coprime.dvd_of_dvd_mul_left (k:=P) (m:=A) (n:=d.natAbs) hg h1
  exact Int.natAbs_dvd_natAbs.1 h2
/- Numbers modulo P as a ring of their own; sums there: plain; no condition. -/
section
variable {P : Nat} [NeZero P]
/-- A whole number's rest modulo P. -/
def fz (P : Nat) [NeZero P] (x : Int) : Fin P:=⟨(x % (P : Int)).toNat,by
  have:=Nat.pos_of_neZero P
  have:=Int.emod_nonneg x (show (P : Int) ≠ 0 by omega)
  have:=Int.emod_lt_of_pos x (show 0 < (P : Int) by omega)
  omega⟩
theorem nT (x : Int) : ((fz P x).val : Int) = x % (P : Int):=by
  have:=Nat.pos_of_neZero P
  have:=Int.emod_nonneg x (show (P : Int) ≠ 0 by omega)
  show (((x % (P : Int)).toNat : Nat) : Int) = _
  omega
theorem vQ {x y : Int} : fz P x = fz P y ↔ x % (P : Int) = y % (P : Int):=by
  constructor
  · intro h
    rw [← nT,← nT,h]
  · intro h
    apply Fin.ext
    have h1:=nT (P:=P) x
    have h2:=nT (P:=P) y
    omega
theorem Gs (x : Int) : fz P (x % (P : Int)) = fz P x:=vQ.2 (Int.emod_emod _ _)
theorem qp (x y : Int) : fz P (x + y) = fz P x + fz P y:=by
  apply Fin.ext
  apply Int.ofNat.inj
  show (((fz P (x + y)).val : Nat) : Int) = (((fz P x + fz P y).val : Nat) : Int)
  rw [Fin.val_add,Int.natCast_emod,Int.natCast_add,nT,nT,nT,← Int.add_emod]
theorem oK (x y : Int) : fz P (x * y) = fz P x * fz P y:=by
  apply Fin.ext
  apply Int.ofNat.inj
  show (((fz P (x * y)).val : Nat) : Int) = (((fz P x * fz P y).val : Nat) : Int)
  rw [Fin.val_mul,Int.natCast_emod,Int.natCast_mul,nT,nT,nT,← Int.mul_emod]
theorem lw : fz P 0 = 0:=by
  apply Fin.ext
  show ((0 : Int) % (P : Int)).toNat = (0 : Fin P).val
  simp
theorem mo : fz P 1 = 1:=by
  apply Fin.ext
  apply Int.ofNat.inj
  show (((fz P 1).val : Nat) : Int) = (((1 : Fin P).val : Nat) : Int)
  rw [nT]
  show (1 : Int) % (P : Int) = ((1 % P : Nat) : Int)
  simp
theorem DJ (x : Int) : fz P (-x) = -fz P x:=by
  have h : fz P (-x) + fz P x = 0:=by rw [← qp,Int.add_left_neg,lw]
  grind
theorem Cx (x y : Int) : fz P (x - y) = fz P x - fz P y:=by
  rw [Int.sub_eq_add_neg,qp,DJ]
  grind
theorem tu {x : Int} : fz P x = 0 ↔ x % (P : Int) = 0:=by
  rw [← lw,vQ,Int.zero_emod]
/-- Sums. -/
def sF (g : Nat → Fin P) : Nat → Fin P
  | 0=>0
  | n + 1=>sF g n + g n
theorem CG (g : Nat → Int) (n : Nat) : fz P (sumTo g n) = sF (fun i=>fz P (g i)) n:=by
  induction n with
  | zero=>exact lw
  | succ n ih=>rw [sumTo,qp,ih];rfl
theorem jl {g h : Nat → Fin P} (n : Nat) (e : ∀ i,i < n → g i = h i) : sF g n = sF h n:=by
  induction n with
  | zero=>rfl
  | succ n ih=>rw [sF,sF,ih (fun i hi=>e i (by omega)),e n (by omega)]
theorem xL {g : Nat → Fin P} (n : Nat) (e : ∀ i,i < n → g i = 0) : sF g n = 0:=by
  induction n with
  | zero=>rfl
  | succ n ih=>rw [sF,ih (fun i hi=>e i (by omega)),e n (by omega)];grind
theorem xM (g h : Nat → Fin P) (n : Nat) : sF (fun i=>g i + h i) n = sF g n + sF h n:=by
  induction n with
  | zero=>simp only [sF];grind
  | succ n ih=>simp only [sF];rw [ih];grind
theorem zH (c : Fin P) (g : Nat → Fin P) (n : Nat) : sF (fun i=>c * g i) n = c * sF g n:=by
  induction n with
  | zero=>simp only [sF];grind
  | succ n ih=>simp only [sF];rw [ih];grind
theorem AJ (c : Fin P) (g : Nat → Fin P) (n : Nat) : sF (fun i=>g i * c) n = sF g n * c:=by
  induction n with
  | zero=>simp only [sF];grind
  | succ n ih=>simp only [sF];rw [ih];grind
theorem nN (g : Nat → Fin P) (n : Nat) : sF g (n + 1) = g 0 + sF (fun t=>g (t + 1)) n:=by
  induction n with
  | zero=>simp only [sF];grind
  | succ n ih=>rw [sF,ih,sF];grind
theorem sM {g : Nat → Fin P} {n : Nat} (e : ∀ i,n ≤ i → g i = 0) (d : Nat) : sF g (n + d) = sF g n:=by
  induction d with
  | zero=>rfl
  | succ d ih=>rw [← Nat.add_assoc,sF,ih,e _ (by omega)];grind
theorem G8 {g : Nat → Fin P} {n m : Nat} (h : n ≤ m) (e : ∀ i,n ≤ i → g i = 0) : sF g m = sF g n:=by
  obtain ⟨d,rfl⟩:=Nat.le.dest h
  exact sM e d
/-- One place alone. -/
theorem Fz {g : Nat → Fin P} {n k : Nat} (hk : k < n) (e : ∀ i,i < n → i ≠ k → g i = 0) : sF g n = g k:=by
  induction n with
  | zero=>omega
  | succ n ih =>
    rw [sF]
    by_cases c : k = n
    · subst c
      rw [xL k (fun i hi=>e i (by omega) (by omega))]
      grind
    · rw [ih (by omega) (fun i hi=>e i (by omega)),e n (by omega) (by omega)]
      grind
/-- The numbers of a list. -/
def cf (P : Nat) [NeZero P] (f : List Int) (i : Nat) : Fin P:=fz P (f.getD i 0)
theorem lG {f : List Int} {i : Nat} (h : f.length ≤ i) : cf P f i = 0:=by
  unfold cf
  rw [List.getD_eq_getElem?_getD,List.getElem?_eq_none h]
  exact lw
end
/- Three-term recurrences and the pairing of a functional: orthogonality, what vanishes on all of them, Christoffel and Darboux: plain; no condition. -/
section
variable {P : Nat} [NeZero P] {m : Nat → Fin P} {N : Nat}
/-- What the functional makes of f times x^k. -/
def lam (m : Nat → Fin P) (N : Nat) (f : Nat → Fin P) (k : Nat) : Fin P:=sF (fun t=>f t * m (t + k)) N
/-- What the functional makes of f times g. -/
def bi (m : Nat → Fin P) (N : Nat) (f g : Nat → Fin P) : Fin P:=sF (fun j=>g j * lam m N f j) N
/-- Times x. -/
def xs (f : Nat → Fin P) : Nat → Fin P
  | 0=>0
  | i + 1=>f i
theorem AL (f g h : Nat → Fin P) (c : Fin P) : bi m N h (fun i=>f i + c * g i) = bi m N h f + c * bi m N h g:=by
  unfold bi
  rw [← zH,← xM]
  exact jl N fun t _=>by grind
/-- Monic polynomials by a recurrence of three terms, with their norms, up to n. -/
structure Tri (m : Nat → Fin P) (N n : Nat) (Q Qb : Nat → Nat → Fin P) (al be h : Nat → Fin P) : Prop where
  q0 : ∀ i,Q 0 i = if i = 0 then 1 else 0
  b0 : ∀ i,Qb 0 i = 0
  bs : ∀ k,Qb (k + 1) = Q k
  st : ∀ k i,Q (k + 1) i = xs (Q k) i - al k * Q k i - be k * Qb k i
  nn : n + 2 ≤ N
  hk : ∀ k,k ≤ n → h k = bi m N (Q k) (Q k)
  ak : ∀ k,k < n → al k * h k = bi m N (xs (Q k)) (Q k)
  bk : ∀ k,k < n → be (k + 1) * h k = h (k + 1)
section
variable {n : Nat} {Q Qb : Nat → Nat → Fin P} {al be h : Nat → Fin P} (T : Tri m N n Q Qb al be h)
include T
theorem Tri.sup (k : Nat) : ∀ i,k < i → Q k i = 0∧Qb k i = 0:=by
  induction k with
  | zero=>intro i hi;exact ⟨by rw [T.q0,if_neg (by omega)],T.b0 i⟩
  | succ k ih =>
    intro i hi
    obtain ⟨j,rfl⟩ : ∃ j,i = j + 1:=⟨i - 1,by omega⟩
    have h1:=ih (j + 1) (by omega)
    have h2:=ih j (by omega)
    refine ⟨?_,by rw [T.bs];exact h1.1⟩
    rw [T.st,h1.1,h1.2]
    simp only [xs]
    rw [h2.1]
    grind
theorem Tri.top (k : Nat) : Q k k = 1:=by
  induction k with
  | zero=>rw [T.q0,if_pos rfl]
  | succ k ih =>
    have h1:=T.sup k (k + 1) (by omega)
    rw [T.st,h1.1,h1.2]
    simp only [xs]
    rw [ih]
    grind
theorem Tri.step (f : Nat → Fin P) (k : Nat) : bi m N f (Q (k + 1)) = bi m N f (xs (Q k)) - al k * bi m N f (Q k) - be k * bi m N f (Qb k):=by
  have e : Q (k + 1) = fun i=>(fun i=>xs (Q k) i + (-al k) * Q k i) i + (-be k) * Qb k i:=by
    funext i
    rw [T.st]
    grind
  rw [e,AL (fun i=>xs (Q k) i + (-al k) * Q k i),AL (xs (Q k))]
  grind
theorem Tri.far {k : Nat} (hk : k ≤ n) : ∀ i,N ≤ i + 1 → Q k i = 0:=fun i hi=>(T.sup k i (by have:=T.nn;omega)).1
end
/-! ### values -/
def pw (x : Fin P) : Nat → Fin P
  | 0=>1
  | i + 1=>pw x i * x
def va (N : Nat) (x : Fin P) (f : Nat → Fin P) : Fin P:=sF (fun i=>f i * pw x i) N
end
/- Fermat: the power p - 2 is the inverse; no condition but that p is a prime. -/
/-- How many ways to choose k of n. -/
def chs : Nat → Nat → Int
  | _,0=>1
  | 0,_ + 1=>0
  | n + 1,k + 1=>chs n k + chs n (k + 1)
theorem sN (n k : Nat) : chs (n + 1) (k + 1) = chs n k + chs n (k + 1):=by rw [chs]
theorem uJ (n : Nat) : ∀ k,n < k → chs n k = 0:=by
  induction n with
  | zero =>
    intro k h
    obtain ⟨j,rfl⟩ : ∃ j,k = j + 1:=⟨k - 1,by omega⟩
    rw [chs]
  | succ n ih =>
    intro k h
    obtain ⟨j,rfl⟩ : ∃ j,k = j + 1:=⟨k - 1,by omega⟩
    rw [chs,ih j (by omega),ih (j + 1) (by omega)];rfl
theorem DK (n : Nat) : chs n n = 1:=by
  induction n with
  | zero=>rw [chs]
  | succ n ih=>rw [chs,ih,uJ n (n + 1) (by omega)];rfl
theorem pJ (n : Nat) : chs n 0 = 1:=by cases n <;> rw [chs]
theorem E8 (n : Nat) : ∀ k : Nat,((k : Int) + 1) * chs (n + 1) (k + 1) = ((n : Int) + 1) * chs n k:=by
  induction n with
  | zero =>
    intro k
    cases k with
    | zero=>simp [chs]
    | succ k=>rw [sN,uJ 0 (k + 1) (by omega),uJ 0 (k + 1 + 1) (by omega)];simp
  | succ n ih =>
    intro k
    cases k with
    | zero =>
      have h:=ih 0
      rw [sN (n + 1)]
      simp only [pJ,Int.natCast_succ,Int.natCast_zero] at h ⊢
      clear ih
      generalize chs (n + 1) (0 + 1) = a at *
      omega
    | succ k =>
      have h1:=ih k
      have h2:=ih (k + 1)
      have e:=sN n k
      rw [sN (n + 1)]
      simp only [Int.natCast_succ] at *
      clear ih
      generalize chs (n + 1) (k + 1) = a at *
      generalize chs (n + 1) (k + 1 + 1) = b at *
      generalize chs n k = c at *
      generalize chs n (k + 1) = d at *
      grind
section
variable {P : Nat} [NeZero P]
theorem Hz (a : Int) (n : Nat) : fz P ((a + 1) ^ n) = sF (fun k=>fz P (chs n k) * fz P (a ^ k)) (n + 1):=by
  induction n with
  | zero =>
    simp only [sF,Int.pow_zero,mo]
    rw [show chs 0 0 = 1 from rfl,mo]
    grind
  | succ n ih =>
    have e : ∀ k,fz P (chs (n + 1) (k + 1)) * fz P (a ^ (k + 1)) = fz P (chs n k) * fz P (a ^ k) * fz P a + fz P (chs n (k + 1)) * fz P (a ^ (k + 1)):=by
      intro k
      rw [chs,qp,Int.pow_succ,oK]
      grind
    rw [Int.pow_succ,oK,ih,nN (fun k=>fz P (chs (n + 1) k) * fz P (a ^ k)),jl (n + 1) (fun k _=>e k),xM,AJ,qp,mo]
    have l : sF (fun k=>fz P (chs n (k + 1)) * fz P (a ^ (k + 1))) (n + 1) + 1 = sF (fun k=>fz P (chs n k) * fz P (a ^ k)) (n + 1):=by
      rw [nN (fun k=>fz P (chs n k) * fz P (a ^ k))]
      show sF (fun k=>fz P (chs n (k + 1)) * fz P (a ^ (k + 1))) n + fz P (chs n (n + 1)) * fz P (a ^ (n + 1)) + 1 = _
      rw [uJ n (n + 1) (by omega),pJ,lw,Int.pow_zero,mo]
      grind
    rw [pJ,Int.pow_zero,mo]
    generalize sF (fun k=>fz P (chs n k) * fz P (a ^ k)) (n + 1) = s at *
    generalize sF (fun k=>fz P (chs n (k + 1)) * fz P (a ^ (k + 1))) (n + 1) = t at *
    grind
end
theorem BR {p : Int} (h : bK p = true) {k n : Nat} (hn : p = (n : Int) + 1) (hk : k < n) : p ∣ chs (n + 1) (k + 1):=by
  refine bK.cancel h (a:=(k : Int) + 1) ⟨by omega,by omega⟩ ?_
  rw [E8,← hn]
  exact ⟨_,rfl⟩
theorem Ju {p : Int} (h : bK p = true) (a : Nat) : ((a : Int) ^ p.toNat) % p = (a : Int) % p:=by
  have hp:=(bK.pm h).two
  obtain ⟨n,hn⟩ : ∃ n : Nat,p = (n : Int) + 1:=⟨(p - 1).toNat,by omega⟩
  have hP : p.toNat = n + 1:=by omega
  have e1 : p = ((n + 1 : Nat) : Int):=by omega
  have key : fz (n + 1) ((a : Int) ^ (n + 1)) = fz (n + 1) (a : Int):=by
    induction a with
    | zero=>rw [Int.pow_succ];simp
    | succ a ih =>
      rw [Int.natCast_succ,Hz,sF,nN,xL n (fun t ht=>?_),pJ,DK,Int.pow_zero,mo,qp,ih,mo]
      · grind
      · have hd:=BR h hn ht
        rw [e1] at hd
        rw [tu.2 (Int.emod_eq_zero_of_dvd hd)]
        grind
  rw [hP,e1]
  exact vQ.1 key
/-- Fermat. -/
theorem Gt {p : Int} (h : bK p = true) {x : Int} (hx : 1 ≤ x∧x < p) : x ^ (p.toNat - 1) % p = 1:=by
  have hp:=(bK.pm h).two
  obtain ⟨a,rfl⟩ : ∃ a : Nat,x = (a : Int):=⟨x.toNat,by omega⟩
  have h1:=Ju h a
  rw [show p.toNat = p.toNat - 1 + 1 from by omega,Int.pow_succ] at h1
  have h2 : p ∣ (a : Int) * ((a : Int) ^ (p.toNat - 1) - 1):=by
    have:=Int.emod_emod_of_dvd ((a : Int) ^ (p.toNat - 1) * a - a) (Int.dvd_refl p)
    refine Int.dvd_of_emod_eq_zero ?_
    rw [show (a : Int) * ((a : Int) ^ (p.toNat - 1) - 1) = (a : Int) ^ (p.toNat - 1) * a - a from by grind,Int.sub_emod,h1,Int.sub_self,Int.zero_emod]
  have h3:=bK.cancel h hx h2
  have h4:=Int.emod_eq_zero_of_dvd h3
  have h5 : ((a : Int) ^ (p.toNat - 1) - 1 + 1) % p = 1 % p:=by rw [Int.add_emod,h4,Int.zero_add,Int.emod_emod]
  rw [Int.sub_add_cancel] at h5
  rw [h5]
  exact Int.emod_eq_of_lt (by omega) (by omega)
theorem DL {p : Int} (h : bK p = true) {x : Int} (hx : 1 ≤ x∧x < p) : (x * iR p x) % p = 1:=by
  have hp:=bK.pm h
  have h2:=hp.two
  have e : x * x ^ (p.toNat - 2) = x ^ (p.toNat - 1):=by
    rw [show p.toNat - 1 = p.toNat - 2 + 1 from by omega,Int.pow_succ,Int.mul_comm]
  rw [iR,ES hp,Int.mul_emod,Int.emod_emod,← Int.mul_emod,e]
  exact Gt h hx
theorem CF {p : Int} (h : bK p = true) [NeZero p.toNat] {x : Int} (hx : 0 ≤ x∧x < p) (h0 : fz p.toNat x ≠ 0) : fz p.toNat x * fz p.toNat (iR p x) = 1:=by
  have hp:=bK.pm h
  have h2:=hp.two
  have e : ((p.toNat : Nat) : Int) = p:=by omega
  have h1 : 1 ≤ x:=by
    apply Decidable.byContradiction
    intro g
    exact h0 (by rw [show x = 0 from by omega];exact lw)
  rw [← oK,← mo,vQ,e,DL h ⟨h1,hx.2⟩,Int.emod_eq_of_lt (by omega) (by omega)]
/- Polynomials and functionals over the numbers modulo p; conditions: p in the program's range. -/
theorem nez {p : Int} (hp : Pm p) : NeZero p.toNat:=⟨by have:=hp.two;omega⟩
theorem Pm.cast {p : Int} (hp : Pm p) : ((p.toNat : Nat) : Int) = p:=by have:=hp.two;omega
section
variable {p : Int} [NeZero p.toNat] (hp : Pm p)
include hp
theorem pz (x : Int) : fz p.toNat (x % p) = fz p.toNat x:=by
  have h:=Gs (P:=p.toNat) x
  rwa [hp.cast] at h
theorem nI {x : Int} (h : 0 ≤ x∧x < p) (h0 : fz p.toNat x = 0) : x = 0:=by
  have h1:=tu.1 h0
  rwa [hp.cast,Int.emod_eq_of_lt h.1 h.2] at h1
theorem y5 {x y : Int} (hx : 0 ≤ x∧x < p) (hy : 0 ≤ y∧y < p) (h : fz p.toNat x = fz p.toNat y) : x = y:=by
  have h1:=vQ.1 h
  rwa [hp.cast,Int.emod_eq_of_lt hx.1 hx.2,Int.emod_eq_of_lt hy.1 hy.2] at h1
theorem E9 (f g : List Int) (k : Nat) : cf p.toNat (kI p f g) k = sF (fun t=>cf p.toNat f t * fz p.toNat (sh g t k)) f.length:=by
  unfold cf
  rw [Dl hp.pos,pz hp,CG]
  exact jl _ fun t _=>oK _ _
omit hp in
end
/- Products of sequences of numbers modulo p: plain; no condition. -/
section
variable {P : Nat} [NeZero P]
def cv (f g : Nat → Fin P) (k : Nat) : Fin P:=sF (fun t=>f t * g (k - t)) (k + 1)
theorem Fp (n : Nat) : ∀ h : Nat → Fin P,sF h (n + 1) = sF (fun t=>h (n - t)) (n + 1):=by
  induction n with
  | zero=>intro h;simp only [sF,Nat.sub_zero]
  | succ n ih =>
    intro h
    rw [nN h,ih (fun t=>h (t + 1))]
    have e : sF (fun t=>h (n + 1 - t)) (n + 1) = sF (fun t=>h (n - t + 1)) (n + 1):=jl _ (fun t ht=>by rw [show n + 1 - t = n - t + 1 from by omega])
    have e2 : sF (fun t=>h (n + 1 - t)) (n + 1 + 1) = sF (fun t=>h (n + 1 - t)) (n + 1) + h (n + 1 - (n + 1)):=rfl
    rw [e2,e,Nat.sub_self]
    grind
theorem pE (f g : Nat → Fin P) : cv f g = cv g f:=by
  funext k
  unfold cv
  rw [Fp]
  refine jl _ fun t ht=>?_
  rw [show k - (k - t) = t from by omega]
  grind
theorem EA {f g f' g' : Nat → Fin P} {k : Nat} (hf : ∀ t,t ≤ k → f t = f' t) (hg : ∀ t,t ≤ k → g t = g' t) : cv f g k = cv f' g' k:=by
  unfold cv
  exact jl _ fun t ht=>by rw [hf t (by omega),hg (k - t) (by omega)]
theorem DN (f g h : Nat → Fin P) (c : Fin P) : cv f (fun i=>g i + c * h i) = fun k=>cv f g k + c * cv f h k:=by
  funext k
  unfold cv
  rw [← zH,← xM]
  exact jl _ fun t _=>by grind
theorem wY (f g h : Nat → Fin P) (c : Fin P) : cv (fun i=>g i + c * h i) f = fun k=>cv g f k + c * cv h f k:=by
  rw [pE,DN,pE f g,pE f h]
/-- A triangle's sum in two ways. -/
theorem Gu (F : Nat → Nat → Fin P) (n : Nat) : sF (fun t=>sF (fun s=>F s (t - s)) (t + 1)) n = sF (fun s=>sF (fun u=>F s u) (n - s)) n:=by
  induction n with
  | zero=>rfl
  | succ n ih =>
    have e : sF (fun s=>sF (fun u=>F s u) (n + 1 - s)) (n + 1) = sF (fun s=>sF (fun u=>F s u) (n - s) + F s (n - s)) (n + 1):=by
      refine jl _ fun s hs=>?_
      rw [show n + 1 - s = n - s + 1 from by omega,sF]
    have e2 : sF (fun s=>sF (fun u=>F s u) (n - s)) (n + 1) = sF (fun s=>sF (fun u=>F s u) (n - s)) n:=by
      rw [sF,Nat.sub_self,sF];grind
    rw [e,xM,e2,← ih,sF]
theorem xW (f g h : Nat → Fin P) : cv (cv f g) h = cv f (cv g h):=by
  funext k
  unfold cv
  have e1 : sF (fun t=>sF (fun s=>f s * g (t - s)) (t + 1) * h (k - t)) (k + 1) = sF (fun t=>sF (fun s=>(fun s u=>f s * (g u * h (k - s - u))) s (t - s)) (t + 1)) (k + 1):=by
    refine jl _ fun t ht=>?_
    rw [← AJ]
    refine jl _ fun s hs=>?_
    dsimp only
    rw [show k - s - (t - s) = k - t from by omega]
    grind
  rw [e1,Gu (fun s u=>f s * (g u * h (k - s - u)))]
  refine jl _ fun s hs=>?_
  rw [← zH,show k + 1 - s = k - s + 1 from by omega]
theorem xk (f : Nat → Fin P) : cv f (fun _=>0) = fun _=>0:=funext fun k=>xL _ fun t _=>by grind
theorem y7 (f : Nat → Fin P) : cv (fun i=>if i = 0 then 1 else 0) f = f:=by
  funext k
  unfold cv
  rw [Fz (k:=0) (by omega) (fun i _ hi=>by dsimp only;rw [if_neg hi];grind)]
  dsimp only
  rw [if_pos rfl,Nat.sub_zero]
  grind
end
section
variable {p : Int} [NeZero p.toNat] (hp : Pm p)
include hp
theorem xV (f g : List Int) : cf p.toNat (kI p f g) = cv (cf p.toNat f) (cf p.toNat g):=by
  funext k
  rw [E9 hp]
  unfold cv
  have h1 : sF (fun t=>cf p.toNat f t * fz p.toNat (sh g t k)) f.length = sF (fun t=>cf p.toNat f t * fz p.toNat (sh g t k)) (f.length + (k + 1)):=(sM (fun t ht=>by rw [lG ht];grind) _).symm
  have h2 : sF (fun t=>cf p.toNat f t * fz p.toNat (sh g t k)) (k + 1) = sF (fun t=>cf p.toNat f t * fz p.toNat (sh g t k)) (f.length + (k + 1)):=by
    rw [Nat.add_comm f.length]
    exact (sM (fun t ht=>by rw [sh,if_neg (by omega),lw];grind) _).symm
  rw [h1,← h2]
  refine jl _ fun t ht=>?_
  rw [sh,if_pos (by omega)]
  rfl
omit hp in
theorem Gv (f g : List Int) (k : Nat) : sF (fun t=>cf p.toNat f t * fz p.toNat (sh g t k)) f.length = cv (cf p.toNat f) (cf p.toNat g) k:=by
  unfold cv
  have h1 : sF (fun t=>cf p.toNat f t * fz p.toNat (sh g t k)) f.length = sF (fun t=>cf p.toNat f t * fz p.toNat (sh g t k)) (f.length + (k + 1)):=(sM (fun t ht=>by rw [lG ht];grind) _).symm
  have h2 : sF (fun t=>cf p.toNat f t * fz p.toNat (sh g t k)) (k + 1) = sF (fun t=>cf p.toNat f t * fz p.toNat (sh g t k)) (f.length + (k + 1)):=by
    rw [Nat.add_comm f.length]
    exact (sM (fun t ht=>by rw [sh,if_neg (by omega),lw];grind) _).symm
  rw [h1,← h2]
  refine jl _ fun t ht=>?_
  rw [sh,if_pos (by omega)]
  rfl
/-- Lists of numbers modulo p without noughts at their ends are told by their numbers. -/
theorem Gw {f g : List Int} (nf : Nm p f) (ng : Nm p g) (tf : iQ f = f) (tg : iQ g = g) (h : ∀ k,cf p.toNat f k = cf p.toNat g k) : f = g:=by
  rw [← tf,← tg]
  exact r9 fun k=>y5 hp (nf.mq hp.pos k) (ng.mq hp.pos k) (h k)
end
/- Division of polynomials modulo p: plain; conditions: p a prime, the divisor's last number is not 0. -/
/-- Quotients from place i - 1 on down: the quotient and the rest. -/
def l9 (p v : Int) (g : List Int) : Nat → List Int → List Int → List Int × List Int
  | 0,r,o=>(o,r)
  | i + 1,r,o=>l9 p v g i (mH p (-(r.getD (i + g.length - 1) 0 * v % p)) g i g.length 0 r) (o.set i (r.getD (i + g.length - 1) 0 * v % p))
def iM (p : Int) (f g : List Int) : List Int × List Int :=
  if f.length < g.length then ([],f) else ((l9 p (iR p (g.getD (g.length - 1) 0)) g (f.length - g.length + 1) f (List.replicate (f.length - g.length + 1) 0)).1,iQ (l9 p (iR p (g.getD (g.length - 1) 0)) g (f.length - g.length + 1) f (List.replicate (f.length - g.length + 1) 0)).2)
section
variable {p : Int} (hp : Pm p)
include hp
theorem DR (v : Int) (g : List Int) (d : Nat) : ∀ (r o : List Int),Nm p r → Nm p o → (l9 p v g d r o).2.length = r.length∧(l9 p v g d r o).1.length = o.length∧Nm p (l9 p v g d r o).2∧Nm p (l9 p v g d r o).1:=by
  induction d with
  | zero=>intro r o hr ho;exact ⟨rfl,rfl,hr,ho⟩
  | succ d ih =>
    intro r o hr ho
    have hb:=jQ hp.pos (r.getD (d + g.length - 1) 0 * v)
    have h:=ih (mH p (-(r.getD (d + g.length - 1) 0 * v % p)) g d g.length 0 r) (o.set d (r.getD (d + g.length - 1) 0 * v % p)) (mW hp.pos _ _ _ _ _ _ hr) (ho.set hb.1 hb.2 _)
    rw [jU,List.length_set] at h
    exact h
omit hp in
theorem zI (v : Int) (g : List Int) (d : Nat) : ∀ (r o : List Int) (j : Nat),d ≤ j → (l9 p v g d r o).1.getD j 0 = o.getD j 0:=by
  induction d with
  | zero=>intro r o j _;rfl
  | succ d ih=>intro r o j hj;rw [l9,ih _ _ j (by omega),getD_set_ne (by omega)]
theorem yG [NeZero p.toNat] {v : Int} {g : List Int} (hg : 0 < g.length) (hv : fz p.toNat (g.getD (g.length - 1) 0) * fz p.toNat v = 1) (d : Nat) : ∀ (r o : List Int),Nm p r → d ≤ o.length → d + g.length ≤ r.length + 1 →
    (∀ k,cf p.toNat r k = sF (fun t=>cf p.toNat (l9 p v g d r o).1 t * fz p.toNat (sh g t k)) d + cf p.toNat (l9 p v g d r o).2 k) ∧
    ((∀ k,d + g.length ≤ k + 1 → cf p.toNat r k = 0) → ∀ k,g.length ≤ k + 1 → cf p.toNat (l9 p v g d r o).2 k = 0):=by
  induction d with
  | zero =>
    intro r o _ _ _
    refine ⟨fun k=>by simp only [sF,l9];grind,fun h k hk=>h k (by omega)⟩
  | succ d ih =>
    intro r o nr ho hr
    obtain ⟨c,hc⟩ : ∃ c,r.getD (d + g.length - 1) 0 * v % p = c:=⟨_,rfl⟩
    rw [l9,hc]
    have e1 : ∀ k,cf p.toNat (mH p (-c) g d g.length 0 r) k = cf p.toNat r k - fz p.toNat c * fz p.toNat (sh g d k):=fun k=>by
      unfold cf
      rw [yB hp.pos _ _ _ _ (by omega) nr,pz hp,qp,oK,DJ]
      grind
    have ec : fz p.toNat c = cf p.toNat r (d + g.length - 1) * fz p.toNat v:=by rw [← hc,pz hp,oK];rfl
    obtain ⟨I1,I2⟩:=ih (mH p (-c) g d g.length 0 r) (o.set d c) (mW hp.pos _ _ _ _ _ _ nr) (by rw [List.length_set];omega) (by rw [jU];omega)
    have ek : cf p.toNat (l9 p v g d (mH p (-c) g d g.length 0 r) (o.set d c)).1 d = fz p.toNat c:=by
      unfold cf
      rw [zI v g d _ _ d (Nat.le_refl d),um (by omega)]
    refine ⟨fun k=>?_,fun hz k hk=>I2 (fun k hk=>?_) k hk⟩
    · have:=I1 k
      rw [e1] at this
      rw [sF,ek]
      grind
    · rw [e1]
      by_cases c1 : k = d + g.length - 1
      · have : fz p.toNat (sh g d k) = fz p.toNat (g.getD (g.length - 1) 0):=by rw [sh,if_pos (by omega),show k - d = g.length - 1 from by omega]
        rw [this,ec,c1]
        grind
      · rw [hz k (by omega),Dk (by omega),lw]
        grind
end
section
variable {p : Int} (hq : bK p = true) {f g : List Int} (nf : Nm p f) (ng : Nm p g) (hg : 0 < g.length) (hl : g.getD (g.length - 1) 0 ≠ 0)
include hq ng hg hl
omit hg in
theorem rO [NeZero p.toNat] : fz p.toNat (g.getD (g.length - 1) 0) * fz p.toNat (iR p (g.getD (g.length - 1) 0)) = 1:=by
  have hp:=bK.pm hq
  exact CF hq (ng.mq hp.pos _) (fun k=>hl (nI hp (ng.mq hp.pos _) k))
include nf
theorem nZ : Nm p (iM p f g).1∧Nm p (iM p f g).2∧(iM p f g).1.length = (if f.length < g.length then 0 else f.length - g.length + 1)∧(iM p f g).2.length < g.length∧iQ (iM p f g).2 = (if f.length < g.length then iQ f else (iM p f g).2):=by
  have hp:=bK.pm hq
  haveI:=nez hp
  unfold iM
  by_cases h : f.length < g.length
  · rw [if_pos h,if_pos h,if_pos h]
    exact ⟨Nm.nil p,nf,rfl,h,rfl⟩
  · rw [if_neg h,if_neg h,if_neg h]
    have ok:=DR hp (iR p (g.getD (g.length - 1) 0)) g (f.length - g.length + 1) f (List.replicate (f.length - g.length + 1) 0) nf (Nm.zeros hp.pos _)
    have eq:=yG hp hg (rO hq ng hl) (f.length - g.length + 1) f (List.replicate (f.length - g.length + 1) 0) nf (by simp) (by omega)
    refine ⟨ok.2.2.2,ok.2.2.1.iQ,by rw [ok.2.1,List.length_replicate],?_,r9 fun k=>by rw [lK]⟩
    have z:=eq.2 (fun k hk=>lG (by omega))
    generalize (l9 p (iR p (g.getD (g.length - 1) 0)) g (f.length - g.length + 1) f (List.replicate (f.length - g.length + 1) 0)).2 = r at *
    show (iQ r).length < g.length
    apply Decidable.byContradiction
    intro hn
    have h1:=qF _ r rfl (by omega)
    rw [lK] at h1
    exact h1 (nI hp (ok.2.2.1.mq hp.pos _) (z _ (by omega)))
/-- f is the quotient times g, and the rest. -/
theorem AO [NeZero p.toNat] (k : Nat) : cf p.toNat f k = sF (fun t=>cf p.toNat (iM p f g).1 t * fz p.toNat (sh g t k)) (iM p f g).1.length + cf p.toNat (iM p f g).2 k:=by
  have hp:=bK.pm hq
  have hlen:=(nZ hq nf ng hg hl).2.2.1
  rw [hlen]
  unfold iM
  by_cases h : f.length < g.length
  · rw [if_pos h,if_pos h]
    simp only [sF]
    grind
  · rw [if_neg h,if_neg h]
    have eq:=yG hp hg (rO hq ng hl) (f.length - g.length + 1) f (List.replicate (f.length - g.length + 1) 0) nf (by simp) (by omega)
    rw [eq.1 k]
    congr 1
    unfold cf
    rw [lK]
/-- The quotient's highest number is not 0. -/
theorem yH (hf : f.getD (f.length - 1) 0 ≠ 0) : iQ (iM p f g).1 = (iM p f g).1:=by
  have hp:=bK.pm hq
  haveI:=nez hp
  by_cases h : f.length < g.length
  · unfold iM;rw [if_pos h];rfl
  · have hlen:=(nZ hq nf ng hg hl).2.2.1
    rw [if_neg h] at hlen
    have hr:=(nZ hq nf ng hg hl).2.2.2.1
    refine EQ hlen fun hz=>hf (nI hp (nf.mq hp.pos _) ?_)
    show cf p.toNat f (f.length - 1) = 0
    rw [AO hq nf ng hg hl,hlen,lG (f:=(iM p f g).2) (by omega),sF,xL (f.length - g.length) (fun t ht=>by rw [Dk (by omega),lw];grind)]
    have : cf p.toNat (iM p f g).1 (f.length - g.length) = 0:=by unfold cf;rw [hz,lw]
    rw [this]
    grind
end
/- Quotients of divisions one behind the other, their convergents: the last one is the quotient. Conditions: p a prime, polynomials without noughts at their ends. -/
def lF (p : Int) : Nat → List Int → List Int → List (List Int)
  | 0,_,_=>[]
  | d + 1,f,g=>if g.length = 0 then [] else (iM p f g).1 :: lF p d g (iM p f g).2
/-- One convergent more. -/
def iD (p : Int) (q : List Int) (s : List Int × List Int) : List Int × List Int:=(s.2,kW p (kI p q s.2) s.1 1)
def o6 (p : Int) : List (List Int) → List Int × List Int → List Int × List Int
  | [],s=>s
  | q :: qs,s=>o6 p qs (iD p q s)
section
variable {p : Int} [NeZero p.toNat] (hp : Pm p)
include hp
theorem rP {f : List Int} (g : List Int) (k : Int) (hf : Nm p f) : cf p.toNat (kW p f g k) = fun i=>cf p.toNat f i + fz p.toNat k * cf p.toNat g i:=by
  funext i
  unfold cf
  rw [Dm hp.pos g k hf,pz hp,qp,oK]
theorem Fq (q : List Int) (s : List Int × List Int) : cf p.toNat (iD p q s).2 = fun k=>cv (cf p.toNat q) (cf p.toNat s.2) k + cf p.toNat s.1 k:=by
  unfold iD
  funext k
  rw [rP hp _ _ (rM hp.pos _ _),xV hp,mo]
  grind
end
/-- Rests: no noughts at the end. -/
def Pl (p : Int) (f : List Int) : Prop:=Nm p f∧iQ f = f
theorem Pl.last {p : Int} {f : List Int} (h : Pl p f) (hf : 0 < f.length) : f.getD (f.length - 1) 0 ≠ 0:=by
  have h1:=qF _ f rfl (by rw [h.2];exact hf)
  rwa [h.2] at h1
section
variable {p : Int} (hq : bK p = true)
include hq
theorem o7 {f g : List Int} (hf : Pl p f) (hg : Pl p g) (h0 : 0 < g.length) : Pl p (iM p f g).2∧(iM p f g).2.length < g.length∧(f.length < g.length ∨ Pl p (iM p f g).1)∧Nm p (iM p f g).1:=by
  have h:=nZ hq hf.1 hg.1 h0 (hg.last h0)
  refine ⟨⟨h.2.1,?_⟩,h.2.2.2.1,?_,h.1⟩
  · rw [h.2.2.2.2]
    split
    · rename_i c
      rw [hf.2]
      unfold iM
      rw [if_pos c]
    · rfl
  · by_cases c : f.length < g.length
    · exact .inl c
    · exact .inr ⟨h.1,yH hq hf.1 hg.1 h0 (hg.last h0) (hf.last (by omega))⟩
variable [NeZero p.toNat]
theorem zZ {f g : List Int} (hf : Pl p f) (hg : Pl p g) (h0 : 0 < g.length) (k : Nat) : cf p.toNat f k = cv (cf p.toNat (iM p f g).1) (cf p.toNat g) k + cf p.toNat (iM p f g).2 k:=by
  rw [AO hq hf.1 hg.1 h0 (hg.last h0) k,Gv]
/-- The last convergent is the quotient. -/
theorem BS (F G : Nat → Fin p.toNat) (d : Nat) : ∀ (f g : List Int) (a b : List Int × List Int) (s : Fin p.toNat),Pl p f → Pl p g → g.length ≤ d →
    (∀ k,cv (cf p.toNat a.2) G k - cv (cf p.toNat b.2) F k = s * cf p.toNat g k) → (∀ k,cv (cf p.toNat a.1) G k - cv (cf p.toNat b.1) F k = -s * cf p.toNat f k) →
    cv (cf p.toNat (o6 p (lF p d f g) a).2) G = cv (cf p.toNat (o6 p (lF p d f g) b).2) F:=by
  have hp:=bK.pm hq
  have done : ∀ (g : List Int) (a b : List Int × List Int) (s : Fin p.toNat),g.length = 0 → (∀ k,cv (cf p.toNat a.2) G k - cv (cf p.toNat b.2) F k = s * cf p.toNat g k) → cv (cf p.toNat a.2) G = cv (cf p.toNat b.2) F:=by
    intro g a b s h0 h
    funext k
    have:=h k
    rw [lG (f:=g) (by omega)] at this
    grind
  induction d with
  | zero =>
    intro f g a b s _ _ hd h1 _
    exact done g a b s (by omega) h1
  | succ d ih =>
    intro f g a b s hf hg hd h1 h2
    rw [lF]
    by_cases h0 : g.length = 0
    · rw [if_pos h0]
      exact done g a b s h0 h1
    · rw [if_neg h0]
      have P:=o7 hq hf hg (by omega)
      refine ih g (iM p f g).2 (iD p (iM p f g).1 a) (iD p (iM p f g).1 b) (-s) hg P.1 (by omega) (fun k=>?_) (fun k=>?_)
      · have e:=zZ hq hf hg (by omega) k
        have c1 : ∀ (x : List Int × List Int) (X : Nat → Fin p.toNat),cv (cf p.toNat (iD p (iM p f g).1 x).2) X k = cv (cf p.toNat (iM p f g).1) (cv (cf p.toNat x.2) X) k + cv (cf p.toNat x.1) X k:=by
          intro x X
          have : cf p.toNat (iD p (iM p f g).1 x).2 = fun i=>cv (cf p.toNat (iM p f g).1) (cf p.toNat x.2) i + 1 * cf p.toNat x.1 i:=by
            rw [Fq hp];funext i;grind
          rw [this,wY,xW]
          grind
        have c2 : cv (cf p.toNat (iM p f g).1) (cv (cf p.toNat a.2) G) k - cv (cf p.toNat (iM p f g).1) (cv (cf p.toNat b.2) F) k = s * cv (cf p.toNat (iM p f g).1) (cf p.toNat g) k:=by
          have e2 : cv (cf p.toNat a.2) G = fun i=>cv (cf p.toNat b.2) F i + s * cf p.toNat g i:=by
            funext i
            have:=h1 i
            grind
          rw [e2,DN]
          grind
        have e3:=h2 k
        rw [c1,c1]
        grind
      · have e:=h1 k
        show cv (cf p.toNat a.2) G k - cv (cf p.toNat b.2) F k = - -s * cf p.toNat g k
        grind
end
/- Division of polynomials: the program's and the reference's come to the plain one. Conditions: p a prime, the divisor is not empty, no noughts at the ends. -/
section
variable {p : Int} (hp : Pm p) {g : List Int} (ng : Nm p g)
include hp ng
theorem DT {c : Int} (hc : 0 ≤ c∧c < p) {i : Nat} {o : List Int} (hi : i < o.length) (so : Sm o.length) (ho : o.getD i 0 = c) (R : List Int × List Int) (d : Nat) : ∀ (j : Nat) (r : List Int),j + d = g.length → i + g.length ≤ r.length → Nm p r → Sm r.length →
    Ev (fun n=>aZ.l0 n p g (mH p (-c) g i d j r) o (wrap64 ((i : Int) - 1))) R →
    Ev (fun n=>aZ.l1 n p g r o (i : Int) g (g.length : Int) (j : Int)) R:=by
  induction d with
  | zero =>
    intro j r hj hl hr hs e
    refine Ev.step (fun n=>by rw [aZ.l1]) ?_
    exact Ev.neg (by omega) e
  | succ d ih =>
    intro j r hj hl hr hs e
    have h1:=hr.get (i:=i + j) (by omega)
    have h2:=ng.get (i:=j) (by omega)
    have h3:=rU hp hc.1 hc.2 h2.1 h2.2
    have ht:=hp.top
    have hm:=jQ hp.pos (r.getD (i + j) 0 + -c * g.getD j 0)
    have hs':=hs
    unfold Sm at hs' so
    have hw : wrap64 ((i : Int) + (j : Int)) = ((i + j : Nat) : Int):=Bz (n:=r.length) (by omega) (by omega)
    refine Ev.step (fun n=>by rw [aZ.l1]) ?_
    rw [hw]
    have c1 : (j : Int) < (g.length : Int):=by clear h1 h2 h3 hm hw e;omega
    have c2 : (0 : Int) ≤ (j : Int):=by clear h1 h2 h3 hm hw e;omega
    have c3 : (0 : Int) ≤ ((i + j : Nat) : Int):=by clear h1 h2 h3 hm hw e;omega
    have c4 : ((i + j : Nat) : Int) < (r.length : Int):=by clear h1 h2 h3 hm hw e;omega
    have c5 : (0 : Int) ≤ (i : Int):=by clear h1 h2 h3 hm hw e;omega
    have c6 : (i : Int) < (o.length : Int):=by clear h1 h2 h3 hm hw e;omega
    refine Ev.pos c1 (Ev.pos c2 (Ev.pos c1 (Ev.pos c3 (Ev.pos c4 (Ev.pos c5 (Ev.pos c6 ?_))))))
    rw [fI,fI,fI,ho,bT (x:=c * g.getD j 0) (by omega) (by omega),bT (by omega) (by omega)]
    refine Ev.gY (p8 hp _) ?_
    rw [jN (i:=j) (n:=g.length) (by clear h1 h2 h3 hm hw e;omega) (by clear h1 h2 h3 hm hw e;omega),fT,show r.getD (i + j) 0 - c * g.getD j 0 = r.getD (i + j) 0 + -c * g.getD j 0 from by rw [Int.neg_mul,Int.sub_eq_add_neg]]
    exact ih (j + 1) _ (by clear h1 h2 h3 hm hw e;omega) (by rw [List.length_set];clear h1 h2 h3 hm hw e;omega) (hr.set hm.1 hm.2 _) (by rw [List.length_set];exact hs) e
theorem BU (g0 : 0 < g.length) (d : Nat) : ∀ r o : List Int,d ≤ o.length → d + g.length ≤ r.length + 1 → Nm p r → Sm r.length → Sm o.length →
    Ev (fun n=>aZ.l0 n p g r o ((d : Int) - 1)) ((l9 p (iR p (g.getD (g.length - 1) 0)) g d r o).1,iQ (l9 p (iR p (g.getD (g.length - 1) 0)) g d r o).2):=by
  induction d with
  | zero =>
    intro r o _ _ _ hs _
    refine Ev.step (fun n=>by rw [aZ.l0]) ?_
    exact Ev.neg (by omega) (Ev.bind (om r hs) (Ev.now _))
  | succ d ih =>
    intro r o ho hr nr sr so
    have sr':=sr
    have so':=so
    unfold Sm at sr' so'
    have e0 : ((d + 1 : Nat) : Int) - 1 = (d : Int):=by omega
    have e1 : wrap64 (wrap64 ((d : Int) + (g.length : Int)) - 1) = ((d + g.length - 1 : Nat) : Int):=by
      rw [bT (x:=(d : Int) + (g.length : Int)) (by omega) (by omega),bT (by omega) (by omega)];omega
    have e2 : wrap64 ((g.length : Int) - 1) = ((g.length - 1 : Nat) : Int):=vI g0 (by omega)
    have hc:=jQ hp.pos (r.getD (d + g.length - 1) 0 * iR p (g.getD (g.length - 1) 0))
    refine Ev.step (fun n=>by rw [aZ.l0]) ?_
    rw [e0,e1,e2,fI,fI,fT]
    refine Ev.pos (by omega) (Ev.pos (by omega) (Ev.pos (by omega) (Ev.pos (by omega) (Ev.pos (by omega) (Ev.bind (zx hp (nr.mq hp.pos _) (ng.mq hp.pos _)) (Ev.pos (by omega) (Ev.pos (by omega) ?_)))))))
    refine DT hp ng hc (by rw [List.length_set];omega) (by rw [List.length_set];exact so) (um (by omega)) _ g.length 0 r (by omega) (by omega) nr sr ?_
    rw [bT (by omega) (by omega)]
    exact ih _ _ (by rw [List.length_set];omega) (by rw [jU];omega) (mW hp.pos _ _ _ _ _ _ nr) (by rw [jU];exact sr) (by rw [List.length_set];exact so)
theorem qP {f : List Int} (nf : Nm p f) (g0 : 0 < g.length) (sf : Sm f.length) (sg : Sm g.length) : Ev (fun k=>aZ.f k p f g) (iM p f g):=by
  have sf':=sf
  have sg':=sg
  unfold Sm at sf' sg'
  unfold aZ.f iM
  refine Ev.gY (vv f sf) ?_
  by_cases h : f.length < g.length
  · rw [if_pos h]
    exact Ev.pos (by omega) (Ev.now _)
  · rw [if_neg h]
    have e : wrap64 (wrap64 ((f.length : Int) - (g.length : Int)) + 1) = ((f.length - g.length + 1 : Nat) : Int):=by
      rw [bT (x:=(f.length : Int) - (g.length : Int)) (by omega) (by omega),bT (by omega) (by omega)];omega
    rw [e,fT]
    refine Ev.neg (by omega) (Ev.pos (by omega) (Ev.pos (by omega) (Ev.gY rfl ?_)))
    rw [List.length_replicate,bT (by omega) (by omega)]
    exact BU hp ng g0 _ f _ (by rw [List.length_replicate];omega) (by omega) nf sf (by rw [List.length_replicate];unfold Sm;omega)
theorem DU {c : Int} (hc : 0 ≤ c∧c < p) {i : Nat} (v : Int) (o : List Int) (R : List Int × List Int) (d : Nat) : ∀ (j : Nat) (r : List Int),j + d = g.length → i + g.length ≤ r.length → Nm p r → Sm r.length →
    Ev (fun n=>bA.l0 n p g (mH p (-c) g i d j r) (g.length : Int) o v (wrap64 ((i : Int) - 1))) R →
    Ev (fun n=>bA.l1 n p g r (g.length : Int) o v (i : Int) c (j : Int)) R:=by
  induction d with
  | zero =>
    intro j r hj hl hr hs e
    refine Ev.step (fun n=>by rw [bA.l1]) ?_
    exact Ev.neg (by omega) e
  | succ d ih =>
    intro j r hj hl hr hs e
    have h1:=hr.get (i:=i + j) (by omega)
    have h2:=ng.get (i:=j) (by omega)
    have h3:=rU hp hc.1 hc.2 h2.1 h2.2
    have ht:=hp.top
    have hm:=jQ hp.pos (r.getD (i + j) 0 + -c * g.getD j 0)
    have hs':=hs
    unfold Sm at hs'
    have hw : wrap64 ((i : Int) + (j : Int)) = ((i + j : Nat) : Int):=Bz (n:=r.length) (by omega) (by omega)
    refine Ev.step (fun n=>by rw [bA.l1]) ?_
    rw [hw]
    have c1 : (j : Int) < (g.length : Int):=by clear h1 h2 h3 hm hw e;omega
    have c2 : (0 : Int) ≤ (j : Int):=by clear h1 h2 h3 hm hw e;omega
    have c3 : (0 : Int) ≤ ((i + j : Nat) : Int):=by clear h1 h2 h3 hm hw e;omega
    have c4 : ((i + j : Nat) : Int) < (r.length : Int):=by clear h1 h2 h3 hm hw e;omega
    refine Ev.pos c1 (Ev.pos c3 (Ev.pos c4 (Ev.pos c2 (Ev.pos c1 ?_))))
    rw [fI,fI,bT (x:=c * g.getD j 0) (by omega) (by omega),bT (by omega) (by omega)]
    refine Ev.gY (xA hp _) ?_
    rw [jN (i:=j) (n:=g.length) (by clear h1 h2 h3 hm hw e;omega) (by clear h1 h2 h3 hm hw e;omega),fT,show r.getD (i + j) 0 - c * g.getD j 0 = r.getD (i + j) 0 + -c * g.getD j 0 from by rw [Int.neg_mul,Int.sub_eq_add_neg]]
    exact ih (j + 1) _ (by clear h1 h2 h3 hm hw e;omega) (by rw [List.length_set];clear h1 h2 h3 hm hw e;omega) (hr.set hm.1 hm.2 _) (by rw [List.length_set];exact hs) e
theorem BV (g0 : 0 < g.length) {v : Int} (hv : 0 ≤ v∧v < p) (d : Nat) : ∀ r o : List Int,d ≤ o.length → d + g.length ≤ r.length + 1 → Nm p r → Sm r.length → Sm o.length →
    Ev (fun n=>bA.l0 n p g r (g.length : Int) o v ((d : Int) - 1)) (iQ (l9 p v g d r o).1,iQ (l9 p v g d r o).2):=by
  induction d with
  | zero =>
    intro r o _ _ _ hs so
    refine Ev.step (fun n=>by rw [bA.l0]) ?_
    exact Ev.neg (by omega) (Ev.bind (l7 o so) (Ev.bind (l7 r hs) (Ev.now _)))
  | succ d ih =>
    intro r o ho hr nr sr so
    have sr':=sr
    have so':=so
    unfold Sm at sr' so'
    have e0 : ((d + 1 : Nat) : Int) - 1 = (d : Int):=by omega
    have e1 : wrap64 (wrap64 ((d : Int) + (g.length : Int)) - 1) = ((d + g.length - 1 : Nat) : Int):=by
      rw [bT (x:=(d : Int) + (g.length : Int)) (by omega) (by omega),bT (by omega) (by omega)];omega
    have hc:=jQ hp.pos (r.getD (d + g.length - 1) 0 * v)
    have h1:=nr.mq hp.pos (d + g.length - 1)
    have h3:=rU hp h1.1 h1.2 hv.1 hv.2
    refine Ev.step (fun n=>by rw [bA.l0]) ?_
    rw [e0,e1,fI,fT,bT (x:=r.getD (d + g.length - 1) 0 * v) (by omega) (by omega),jk h3.1]
    refine Ev.pos (by omega) (Ev.pos (by omega) (Ev.pos (by omega) (Ev.neg hp.ne (Ev.pos (by omega) (Ev.pos (by omega) ?_)))))
    refine DU hp ng hc v _ _ g.length 0 r (by omega) (by omega) nr sr ?_
    rw [bT (by omega) (by omega)]
    exact ih _ _ (by rw [List.length_set];omega) (by rw [jU];omega) (mW hp.pos _ _ _ _ _ _ nr) (by rw [jU];exact sr) (by rw [List.length_set];exact so)
end
theorem qQ {p : Int} (hq : bK p = true) {f g : List Int} (hf : Pl p f) (hg : Pl p g) (g0 : 0 < g.length) (sf : Sm f.length) (sg : Sm g.length) : Ev (fun k=>bA.f k p f g) (iM p f g):=by
  have hp:=bK.pm hq
  haveI:=nez hp
  have sf':=sf
  have sg':=sg
  unfold Sm at sf' sg'
  have top : g.length ≤ f.length → iQ (iM p f g).1 = (iM p f g).1:=fun h=>yH hq hf.1 hg.1 g0 (hg.last g0) (hf.last (by omega))
  unfold iM at top
  unfold bA.f iM
  refine Ev.gY (vM f sf) ?_
  by_cases h : f.length < g.length
  · rw [if_pos h]
    exact Ev.pos (by omega) (Ev.now _)
  · rw [if_neg h] at top ⊢
    have e : wrap64 (wrap64 ((f.length : Int) - (g.length : Int)) + 1) = ((f.length - g.length + 1 : Nat) : Int):=by
      rw [bT (x:=(f.length : Int) - (g.length : Int)) (by omega) (by omega),bT (by omega) (by omega)];omega
    have e1 : wrap64 ((f.length : Int) - (g.length : Int)) = ((f.length - g.length + 1 : Nat) : Int) - 1:=by rw [bT (by omega) (by omega)];omega
    have e2 : wrap64 ((g.length : Int) - 1) = ((g.length - 1 : Nat) : Int):=vI g0 (by omega)
    rw [e,e1,e2,fT,fI]
    refine Ev.neg (by omega) (Ev.pos (by omega) (Ev.pos (by omega) (Ev.pos (by omega) (Ev.pos (by omega) (Ev.bind (qZ hp (hg.1.mq hp.pos _)) ?_)))))
    have r:=BV hp hg.1 g0 (pq hp (g.getD (g.length - 1) 0)) (f.length - g.length + 1) f (List.replicate (f.length - g.length + 1) 0) (by rw [List.length_replicate];omega) (by omega) hf.1 sf (by rw [List.length_replicate];unfold Sm;omega)
    have top:=top (by omega)
    dsimp only at top
    rw [top] at r
    exact r
end Go.Proofs.Ytknppcledhnkoaa.Pr
