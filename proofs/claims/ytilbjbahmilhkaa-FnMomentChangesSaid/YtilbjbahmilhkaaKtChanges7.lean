/- Texts of this session in one: what functions of the program compute, and plain facts of it, under the conditions that each theorem names. -/
import Derived.Laws.BitsLemmas
import Derived.Test.YtilbjbahmilhkaaKtChanges1
import Derived.Test.YtilbjbahmilhkaaKtChanges2
import Derived.Test.YtilbjbahmilhkaaKtChanges3
import Derived.Test.YtilbjbahmilhkaaKtChanges4
import Derived.Test.YtilbjbahmilhkaaKtChanges6
namespace Go.Proofs.Ytilbjbahmilhkaa.Pr
open Go.RowKit Go.Proofs.YtilbjbahmilhkaaW.PrintWords Go.Proofs.YtilbjbahmilhkaaW.PrintLast Go.Proofs.YtilbjbahmilhkaaW.PrintMore
attribute [local go_sem] oz oC qG qH mX mY oF oG   -- for this text's walks alone
set_option linter.unusedVariables false
set_option maxHeartbeats 8000000
set_option maxRecDepth 100000
set_option linter.unusedSimpArgs false
/-! ### iX: function 29 -/
def iX.f (k : Nat) (aD : Int) (aA : List Int) (a1 : Bool) (l2 : List (List Int)) : Option (Int):=(dA.f k aD aA).bind fun aj3=>(if aj3 = true then ((mD.f k aD a1 l2).bind fun afs=>(some afs)) else (some 1))
theorem iX.calls (k : Nat) (aD : Int) (bE : Option Addr) (bC : Nat) (aA : List Int) (F1 : Value) (a1 : Bool) (A2 : Option Addr) (c2 : Nat) (l2 : List (List Int)) (r : Int) (w : World) (hr0_1 : Kd.C (Kd.int .i64) w bE aA.length aA) (jN : aA.length ≤ bC) (hF1 : FnB Try.prog w F1 a1) (hr2 : Kd.C (Kd.slice 2 (Kd.int .i64)) w A2 l2.length l2) (hc2 : l2.length ≤ c2) (H : iX.f k aD aA a1 l2 = some r) :
  Calls Try.prog 29 #[.agg #[.int .i64 aD,.slice bE aA.length bC],F1,.slice A2 l2.length c2] w fun e w'=>e = .returned (.int .i64 r)∧Below w.heap.size w w':=by
 have uz:=Try.underlying26;have iY:=zA hr0_1;have jo:=zA jN;clear hr0_1 jN;obtain ⟨G1,fi1,ca1,rfl,rR,hF1⟩:=hF1;have rR : ∀ (args_ : Array Value) (w_ : World),(callFunc G1 args_).run Try.prog w_ = .ok (.enter G1 args_) w_:=rR;have HF1:=zA hF1;clear hF1;have HR2:=zA hr2;have HC2:=zA hc2;clear hr2 hc2;have HB:=zA (Below.refl w.heap.size w);unfold iX.f at H;replace H:=bO H;obtain ⟨aj3,A4,H⟩:=H;replace H:=gB H;obtain ⟨rfl,H⟩|⟨rfl,H⟩:=H
 ·replace H:=bO H;obtain ⟨afs,A6,H⟩:=H;obtain rfl:=Option.some.inj H;go_enter Try.func29,Try.ntmps29;go_wp2_with (first | ((with_reducible refine dz (N:=3) rfl ?_);refine bx 3 #[.int .i64 aD,.slice bE aA.length bC] 26 ?_;intro aj4 hg w7 hbox hb;have rM:=zA (hbox);have VM:=gq HB hg;have:=geI VM;replace HB:=xH HB hb;clear hb hbox hg;have Tu:=bc rM 0;have Tv:=bc rM 1;have Tw:=bf rM 0;have Tx:=bf rM 1) | ((with_reducible refine ag (f:=65) rfl ?_);refine gL (some 8) Try.func65 #[.agg #[.int .i64 aD,.slice bE aA.length bC]] ?_;(with_reducible refine (dA.calls k aD _ _ aA true _ ?side1 ?side2 A4.out).mono ?_);(case side1=>exact uC ((Kd.dH iY.out HB.out)));(case side2=>exact jo.out);rintro e w9 ⟨rfl,hb⟩;refine ⟨_,rfl,?_⟩;replace rM:=xB rM hb;replace HB:=xH HB hb;(try clear hb);have wH:=bc rM 0;have wI:=bc rM 1;have wJ:=bf rM 0;have wK:=bf rM 1) | ((with_reducible refine ag (f:=71) rfl ?_);refine gL (some 14) Try.func71 #[.int .i64 aD,(.func (.func G1) fi1 ca1),.slice A2 l2.length c2] ?_;(with_reducible refine (mD.calls k aD _ a1 _ _ l2 afs _ ?side1 ?side2 ?side3 A6.out).mono ?_);(case side1=>exact FnB.later (uH HB.out) (show FnB Try.prog w (.func (.func G1) fi1 ca1) a1 from ⟨_,_,_,rfl,rR,HF1.out⟩));(case side2=>exact uC ((Kd.dH HR2.out HB.out)));(case side3=>exact HC2.out);rintro e w11 ⟨rfl,hb⟩;refine ⟨_,rfl,?_⟩;replace rM:=xB rM hb;replace HB:=xH HB hb;(try clear hb)));go_ret;exact ⟨eX,uH HB.out⟩
 ·obtain rfl:=Option.some.inj H;go_enter Try.func29,Try.ntmps29;go_wp2_with (first | ((with_reducible refine dz (N:=3) rfl ?_);refine bx 3 #[.int .i64 aD,.slice bE aA.length bC] 26 ?_;intro aj4 hg w12 hbox hb;have rM:=zA (hbox);have VM:=gq HB hg;have:=geI VM;replace HB:=xH HB hb;clear hb hbox hg;have rA:=bc rM 0;have tu:=bc rM 1;have rC:=bf rM 0;have tC:=bf rM 1) | ((with_reducible refine ag (f:=65) rfl ?_);refine gL (some 8) Try.func65 #[.agg #[.int .i64 aD,.slice bE aA.length bC]] ?_;(with_reducible refine (dA.calls k aD _ _ aA false _ ?side1 ?side2 A4.out).mono ?_);(case side1=>exact uC ((Kd.dH iY.out HB.out)));(case side2=>exact jo.out);rintro e w14 ⟨rfl,hb⟩;refine ⟨_,rfl,?_⟩;replace rM:=xB rM hb;replace HB:=xH HB hb;(try clear hb)));go_ret;exact ⟨eX,uH HB.out⟩
/-! ### bK: function 21 -/
def bK.l0 : Nat → List Int → List Int → Int → Int → Int → List Int → Int → List Int → Option (Int × List Int × Int)
 | 0,_,_,_,_,_,_,_,_=>none
 | k + 1,x10,x11,x29,x30,KA,KC,QI,KD=>if x30 < x29 then ((cz.f k KA KC x10).bind fun RD=>(if KD.length < 17592186044416 then ((di.f KA KC).bind fun VN=>((aZ.f k VN x10 x11).bind fun ZP=>(bK.l0 k ZP x11 x29 (wrap64 (x30 + 1)) KA KC QI (KD ++ [RD])))) else (none))) else (some (QI,KD,0))
def bK.f (k : Nat) (aD : Int) (aA : List Int) (a1 : Int) (a2 : Int) : Option (Int × List Int × Int):=(dn.f aD aA a1 a2).bind fun ZQ=>((iX.f k aD aA ZQ ([] : List (List Int))).bind fun VO=>(if VO = 0 then ((iw.f k (([a2,a1] : List Int))).bind fun OD=>(bK.l0 k (([1] : List Int)) OD (aA.length : Int) 0 aD aA aD ([] : List Int))) else (some (0,([] : List Int),VO))))
def bK.T8 : Bool × List (List Nat × List Nat):=(true,[([],[]),([0],[0]),([],[]),([],[]),([2,3],[2,3]),([4],[4]),([1,5,4],[1,5]),([0,1,2,3,4,5,6],[]),([7,6,6,0,1,2,3,4,5,6],[6,7])])
def bK.B8 : List Nat:=[0,1,0,0,12,28,63,127,255]
theorem bK.as1 : l6 .any (opsOf Try.f21 8) = bK.T8:=by kernel_rfl
theorem bK.aj5 : jV bK.T8.2 bK.B8 = true:=by kernel_rfl
theorem bK.calls (k : Nat) (aD : Int) (bE : Option Addr) (bC : Nat) (aA : List Int) (a1 : Int) (a2 : Int) (r1 : Int) (r2 : List Int) (r3 : Int) (w : World) (hr0_1 : Kd.C (Kd.int .i64) w bE aA.length aA) (jN : aA.length ≤ bC) (H : bK.f k aD aA a1 a2 = some (r1,r2,r3)) :
  Calls Try.prog 21 #[.agg #[.int .i64 aD,.slice bE aA.length bC],.int .i64 a1,.int .i64 a2] w fun e w'=>∃ v1_ : Value,e = .returned (.tuple #[.agg #[.int .i64 r1,v1_],.int .i64 r3])∧Kd.R (Kd.int .i64) 2 w' w.heap.size (fun _=>True) v1_ r2∧Below w.heap.size w w':=by
 have uz:=Try.underlying26;have hmf : ∀ (fn_ : Fn) (first_ cap_ : Array Value) (w_ : World),(Instr.makeFunc fn_ first_ cap_).run Try.prog w_ = .ok (.func fn_ first_ cap_) w_:=fun _ _ _ _=>rfl;have iY:=zA hr0_1;have jo:=zA jN;clear hr0_1 jN;have HB:=zA (Below.refl w.heap.size w);unfold bK.f at H;replace H:=bO H;obtain ⟨ZQ,A4,H⟩:=H;replace H:=bO H;obtain ⟨VO,A5,H⟩:=H;replace H:=gE H;obtain ⟨c6,qo,xE,H⟩|⟨c6,qo,xE,H⟩:=H
 ·simp only [Option.some.injEq,Prod.mk.injEq] at H;obtain ⟨rfl,rfl,rfl⟩:=H;go_enter Try.func21,Try.ntmps21;go_wp2_with (first | (refine bX 3 rfl #[.int .i64 aD,.slice bE aA.length bC] 26 ?_;intro yF w65 hg fA hb;have VP:=gq HB hg;have:=geI VP;replace HB:=xH HB hb;clear hb hg) | (refine bX 4 rfl #[.int .i64 a1] 2 ?_;intro o6 w66 hg jy hb;have VQ:=gq HB hg;have:=geI VQ;have VR:=gq HB hg;replace HB:=xH HB hb;have zV:=nL fA hg;have zW:=nG fA hg;replace fA:=xB fA hb;have:=geI VR;clear hb hg) | (refine bX 5 rfl #[.int .i64 a2] 2 ?_;intro o7 w67 hg jX hb;have VS:=gq HB hg;have:=geI VS;have VT:=gq HB hg;replace HB:=xH HB hb;have zX:=nL fA hg;have zY:=nG fA hg;replace fA:=xB fA hb;have I6:=nL jy hg;have I7:=nG jy hg;replace jy:=xB jy hb;have:=geI VT;clear hb hg) | ((with_reducible refine dz (N:=6) rfl ?_);refine bx 6 #[.int .i64 0,.slice none 0 0] 26 ?_;intro EI hg w68 hbox hb;have kX:=zA (hbox);have VU:=gq HB hg;have:=geI VU;have VV:=gq HB hg;replace HB:=xH HB hb;have xN:=nL fA hg;have xO:=nG fA hg;replace fA:=xB fA hb;have zZ:=nL jy hg;have z8:=nG jy hg;replace jy:=xB jy hb;have Aa:=nL jX hg;have Ab:=nG jX hg;replace jX:=xB jX hb;have:=geI VV;clear hb hbox hg;have Vp:=zV.out;have Vq:=zW.out;have aj6:=zX.out;have aj7:=zY.out;have acw:=xN.out;have acx:=xO.out;have Ko:=bc fA 0;have Kq:=bc fA 1;have Kr:=bf fA 0;have Kt:=bf fA 1) | ((with_reducible refine ag (f:=29) rfl ?_);refine gL (some 14) Try.func29 #[.agg #[.int .i64 aD,.slice bE aA.length bC],(.func (.func 59) #[] #[.pointer (some ⟨yF,0,none⟩),.pointer (some ⟨o6,0,none⟩),.pointer (some ⟨o7,0,none⟩)]),.slice none 0 0] ?_;(refine (iX.calls k aD _ _ aA _ ZQ _ _ ([] : List (List Int)) VO _ ?side1 ?side2 ?side3 ?side4 ?side5 A5.out).mono ?_);(case side1=>exact uC ((Kd.dH iY.out HB.out)));(case side2=>exact jo.out);(case side3=>exact FnB.of Try.func59 (by kernel_rfl) rfl (fun W_ hW_=>eD (args':=#[.pointer (some ⟨yF,0,none⟩),.pointer (some ⟨o6,0,none⟩),.pointer (some ⟨o7,0,none⟩)]) (by simp) ((dn.calls _ aD _ _ aA _ a1 _ a2 _ W_ (bu (g:=yF) (o:=.cells #[.int .i64 aD,.slice bE aA.length bC] 26 (0,0)) (uB fA.out) hW_) (Kd.dH (by exact uC ((Kd.dH iY.out HB.out))) hW_) (by exact jo.out) (bu (g:=o6) (o:=.cells #[.int .i64 a1] 2 (0,0)) (uB jy.out) hW_) (bu (g:=o7) (o:=.cells #[.int .i64 a2] 2 (0,0)) (uB jX.out) hW_) A4.out).mono fun e_ W2_ h_=>⟨h_.1,h_.2⟩)));(case side4=>exact Kd.Mq _ _);(case side5=>exact Nat.le_refl _);rintro e w73 ⟨rfl,hb⟩;refine ⟨_,rfl,?_⟩;replace fA:=xB fA hb;replace jy:=xB jy hb;replace jX:=xB jX hb;replace kX:=xB kX hb;replace HB:=xH HB hb;(try clear hb);have Vl:=z8.out;have Vm:=zZ.out;have aj8:=Ab.out;have aj9:=Aa.out;have aqn:=bc kX 0;have aqo:=bc kX 1;have aqp:=bf kX 0;have aqr:=bf kX 1));refine bodyPost_ret (kr rfl _ _ EI 26 #[.int .i64 0,.slice none 0 0] (0,0) _ rfl (by (repeat refine up1 ?_);refine aX (cs:=#[.int .i64 0,.slice none 0 0]) ?_ 1 _ rfl;(repeat refine up1 ?_);refine aX (cs:=#[.int .i64 0,.slice none 0 0]) ?_ 0 _ rfl;(repeat refine up1 ?_);exact kX.out) Try.underlying26 rfl (by kernel_rfl)) rfl ?_;exact ⟨_,eX,by first | exact Kd.qM _ _ _ _ _ | exact Kd.ut _ _ _ _ _ | exact Kd.um _ _ _ _ _ | exact Kd.uu _ _ _ _ _ | exact Kd.uo _ _ _ _ _,uH HB.out⟩
 clear c6;obtain ⟨as2,VW⟩:=eY ([1] : List Int);(try rw [←VW.out] at H);obtain ⟨ZR,VX⟩:=eY ([a2,a1] : List Int);(try rw [←VX.out] at H);replace H:=bO H;obtain ⟨OD,A7,H⟩:=H;have H':=zA H;clear H;go_enter Try.func21,Try.ntmps21;go_wp2_with (first | (refine bX 3 rfl #[.int .i64 aD,.slice bE aA.length bC] 26 ?_;intro yF w8 hg fA hb;have VP:=gq HB hg;have:=geI VP;replace HB:=xH HB hb;clear hb hg) | (refine bX 4 rfl #[.int .i64 a1] 2 ?_;intro o6 w9 hg jy hb;have VQ:=gq HB hg;have:=geI VQ;have VR:=gq HB hg;replace HB:=xH HB hb;have zV:=nL fA hg;have zW:=nG fA hg;replace fA:=xB fA hb;have:=geI VR;clear hb hg) | (refine bX 5 rfl #[.int .i64 a2] 2 ?_;intro o7 w10 hg jX hb;have VS:=gq HB hg;have:=geI VS;have VT:=gq HB hg;replace HB:=xH HB hb;have zX:=nL fA hg;have zY:=nG fA hg;replace fA:=xB fA hb;have I6:=nL jy hg;have I7:=nG jy hg;replace jy:=xB jy hb;have:=geI VT;clear hb hg) | ((with_reducible refine dz (N:=6) rfl ?_);refine bx 6 #[.int .i64 0,.slice none 0 0] 26 ?_;intro EI hg w11 hbox hb;have kX:=zA (hbox);have VU:=gq HB hg;have:=geI VU;have VV:=gq HB hg;replace HB:=xH HB hb;have xN:=nL fA hg;have xO:=nG fA hg;replace fA:=xB fA hb;have zZ:=nL jy hg;have z8:=nG jy hg;replace jy:=xB jy hb;have Aa:=nL jX hg;have Ab:=nG jX hg;replace jX:=xB jX hb;have:=geI VV;clear hb hbox hg;have Pt:=zV.out;have Pv:=zW.out;have aiz:=zX.out;have aiA:=zY.out;have Vg:=xN.out;have Vh:=xO.out;have wU:=bc fA 0;have yz:=bc fA 1;have wV:=bf fA 0;have yA:=bf fA 1) | ((with_reducible refine ag (f:=29) rfl ?_);refine gL (some 14) Try.func29 #[.agg #[.int .i64 aD,.slice bE aA.length bC],(.func (.func 59) #[] #[.pointer (some ⟨yF,0,none⟩),.pointer (some ⟨o6,0,none⟩),.pointer (some ⟨o7,0,none⟩)]),.slice none 0 0] ?_;(refine (iX.calls k aD _ _ aA _ ZQ _ _ ([] : List (List Int)) VO _ ?side1 ?side2 ?side3 ?side4 ?side5 A5.out).mono ?_);(case side1=>exact uC ((Kd.dH iY.out HB.out)));(case side2=>exact jo.out);(case side3=>exact FnB.of Try.func59 (by kernel_rfl) rfl (fun W_ hW_=>eD (args':=#[.pointer (some ⟨yF,0,none⟩),.pointer (some ⟨o6,0,none⟩),.pointer (some ⟨o7,0,none⟩)]) (by simp) ((dn.calls _ aD _ _ aA _ a1 _ a2 _ W_ (bu (g:=yF) (o:=.cells #[.int .i64 aD,.slice bE aA.length bC] 26 (0,0)) (uB fA.out) hW_) (Kd.dH (by exact uC ((Kd.dH iY.out HB.out))) hW_) (by exact jo.out) (bu (g:=o6) (o:=.cells #[.int .i64 a1] 2 (0,0)) (uB jy.out) hW_) (bu (g:=o7) (o:=.cells #[.int .i64 a2] 2 (0,0)) (uB jX.out) hW_) A4.out).mono fun e_ W2_ h_=>⟨h_.1,h_.2⟩)));(case side4=>exact Kd.Mq _ _);(case side5=>exact Nat.le_refl _);rintro e w16 ⟨rfl,hb⟩;refine ⟨_,rfl,?_⟩;replace fA:=xB fA hb;replace jy:=xB jy hb;replace jX:=xB jX hb;replace kX:=xB kX hb;replace HB:=xH HB hb;(try clear hb);(try clear hk);have wW:=bc fA 0;have wX:=bc fA 1;have wY:=bf fA 0;have wZ:=bf fA 1) | ((with_reducible refine dz (N:=9) rfl ?_);refine bx 9 #[.int .i64 0,.slice none 0 0] 26 ?_;intro CF hg w18 hbox hb;have kK:=zA (hbox);have aka:=gq HB hg;have:=geI aka;have akb:=gq HB hg;replace HB:=xH HB hb;have sG:=nL fA hg;have Ac:=nG fA hg;replace fA:=xB fA hb;have qQ:=nL jy hg;have D9:=nG jy hg;replace jy:=xB jy hb;have qR:=nL jX hg;have Ea:=nG jX hg;replace jX:=xB jX hb;have u6:=nL kX hg;have Eb:=nG kX hg;replace kX:=xB kX hb;have:=geI akb;clear hb hbox hg;have UR:=Ac.out;have UT:=sG.out;have abF:=D9.out;have abG:=qQ.out;have abH:=Ea.out;have abI:=qR.out;have axD:=Eb.out;have axE:=u6.out;have ZT:=bc kK 0;have ZU:=bc kK 1;have ZV:=bf kK 0;have ZW:=bf kK 1) | ((with_reducible refine dz (N:=22) rfl ?_);refine Kd.rD (Kd.int .i64) _ 2 ?hg (N:=22) ?hd (xs:=([1] : List Int)) (inner:=[.int .i64 1]) (ok:=fun _=>True) (okp:=fun _=>True) ?hr ?hp (fun _ hk=>hk) trivial (Below.refl _ _) (Nat.le_refl _) (by simp) ?_;(case hd=>rfl);(case hg=>rfl);(case hr=>first | (go_simp;done) | (go_simp;rfl));(case hp=>exact (cB.one (show Kd.M (Kd.int .i64) _ _ _ 1 [.int .i64 1] from rfl) (cB.none _ _)));intro as3 w24 ql hb hg_ hnew_;clear hg_ hnew_;(first | rw [← VW.out] at ql | (simp only [Int.reduceToNat] at ql;rw [← VW.out] at ql));have EJ:=zA (Kd.bv (Kd.Ec (Kd.Ec ql (g:=o6) (o:=.cells #[.int .i64 a1] 2 (0,0)) (by (repeat refine up1 ?_);refine aC ?_ qQ.out _;(repeat refine up1 ?_);refine aC ?_ qQ.out _;(repeat refine up1 ?_);exact jy.out)) (g:=o7) (o:=.cells #[.int .i64 a2] 2 (0,0)) (by (repeat refine up1 ?_);refine aC ?_ qR.out _;(repeat refine up1 ?_);refine aC ?_ qR.out _;(repeat refine up1 ?_);exact jX.out)) (av (uH HB.out)));replace fA:=zA (bu (g:=yF) (o:=.cells #[.int .i64 aD,.slice bE aA.length bC] 26 (0,0)) (by (repeat refine up1 ?_);refine aC ?_ sG.out _;(repeat refine up1 ?_);refine aC ?_ sG.out _;(repeat refine up1 ?_);exact fA.out) hb);replace jy:=zA (bu (g:=o6) (o:=.cells #[.int .i64 a1] 2 (0,0)) (by (repeat refine up1 ?_);refine aC ?_ qQ.out _;(repeat refine up1 ?_);refine aC ?_ qQ.out _;(repeat refine up1 ?_);exact jy.out) hb);replace jX:=zA (bu (g:=o7) (o:=.cells #[.int .i64 a2] 2 (0,0)) (by (repeat refine up1 ?_);refine aC ?_ qR.out _;(repeat refine up1 ?_);refine aC ?_ qR.out _;(repeat refine up1 ?_);exact jX.out) hb);replace kX:=zA (bu (g:=EI) (o:=.cells #[.int .i64 0,.slice none 0 0] 26 (0,0)) (by (repeat refine up1 ?_);refine aC ?_ u6.out _;(repeat refine up1 ?_);refine aC ?_ u6.out _;(repeat refine up1 ?_);exact kX.out) hb);replace kK:=zA (bu (g:=CF) (o:=.cells #[.int .i64 aD,.slice none 0 0] 26 (0,0)) (by (repeat refine up1 ?_);refine aX (cs:=#[.int .i64 aD,.slice none 0 0]) ?_ 1 _ rfl;(repeat refine up1 ?_);refine aX (cs:=#[.int .i64 0,.slice none 0 0]) ?_ 0 _ rfl;(repeat refine up1 ?_);exact kK.out) hb);replace HB:=xH HB hb;clear hb ql;have akc:=I7.out;have akd:=I6.out;have ake:=Aa.out;have akf:=Ab.out;have xc:=bc jX 0;have xe:=bf jX 0;have acy:=zZ.out;have acz:=z8.out;have xg:=bc jy 0;have xh:=bf jy 0) | ((with_reducible refine dz (N:=25) rfl ?_);refine Kd.rD (Kd.int .i64) _ 2 ?hg (N:=25) ?hd (xs:=([a2,a1] : List Int)) (inner:=[.int .i64 a2,.int .i64 a1]) (ok:=fun _=>True) (okp:=fun _=>True) ?hr ?hp (fun _ hk=>hk) trivial (Below.refl _ _) (Nat.le_refl _) (by simp) ?_;(case hd=>rfl);(case hg=>rfl);(case hr=>first | (go_simp;done) | (go_simp;rfl));(case hp=>exact (cB.one (show Kd.M (Kd.int .i64) _ _ _ a2 [.int .i64 a2] from rfl) (cB.one (show Kd.M (Kd.int .i64) _ _ _ a1 [.int .i64 a1] from rfl) (cB.none _ _))));intro azk w31 RF hb hg_ hnew_;clear hg_ hnew_;(first | rw [← VX.out] at RF | (simp only [Int.reduceToNat] at RF;rw [← VX.out] at RF));have AX:=zA (Kd.bv (Kd.Ec (Kd.Ec (nw RF (uR EJ.out)) (g:=o6) (o:=.cells #[.int .i64 a1] 2 (0,0)) (uB jy.out)) (g:=o7) (o:=.cells #[.int .i64 a2] 2 (0,0)) (uB jX.out)) (av (uH HB.out)));replace EJ:=zA (Kd.aJ (uR EJ.out) (Kd.bD RF) hb);replace fA:=xB fA hb;replace jy:=xB jy hb;replace jX:=xB jX hb;replace kX:=xB kX hb;replace kK:=xB kK hb;replace HB:=xH HB hb;clear hb RF;obtain ⟨Ke,Kg,Ol⟩:=Kd.aW AX.out;subst Ol) | ((with_reducible refine ag (f:=61) rfl ?_);refine gL (some 26) Try.func61 #[.slice Ke ZR.length Kg] ?_;(with_reducible refine (iw.calls k (fun k_=>some k_ = (.slice Ke ZR.length Kg : Value).ownBlock) (.slice Ke ZR.length Kg) ZR OD w _ ?side1 ?side2 A7.out).mono ?_);(case side1=>exact uH HB.out);(case side2=>exact Kd.Bu rfl AX.out);rintro e w34 ⟨RG,rfl,ho0,hb,hkp⟩;refine ⟨_,rfl,?_⟩;replace fA:=zA (vU (uB fA.out) hkp (fun hs_=>(fun e_=>(Kd.BR AX.out fA.out (by decide)) e_) hs_));replace kX:=zA (vU (uB kX.out) hkp (fun hs_=>(fun e_=>(Kd.BR AX.out kX.out (by decide)) e_) hs_));replace kK:=zA (vU (uB kK.out) hkp (fun hs_=>(fun e_=>(Kd.BR AX.out kK.out (by decide)) e_) hs_));have akg:=zA (Kd.af (ok':=fun k_=>ax k_ as3∧k_ ≠ o6∧k_ ≠ o7) ho0 (fun k_ hk_=>⟨Or.elim hk_ (fun hs_=>fun e_=>(((EJ.out).1 k_ e_.symm).2) hs_) (fun hn_=>(Kd.fresh' (Kd.xx (uR EJ.out)) k_ hn_)),Or.elim hk_ (fun hs_=>fun e_=>(Kd.Ed AX.out (fun _ hk=>hk.1.2)) (by rw [← e_];exact hs_)) (fun hn_=>(Kd.D7 (g:=o6) (o:=.cells #[.int .i64 a1] 2 (0,0)) (uB jy.out) k_ hn_)),Or.elim hk_ (fun hs_=>fun e_=>(Kd.Ed AX.out (fun _ hk=>hk.2)) (by rw [← e_];exact hs_)) (fun hn_=>(Kd.D7 (g:=o7) (o:=.cells #[.int .i64 a2] 2 (0,0)) (uB jX.out) k_ hn_))⟩));replace jy:=zA (vU (uB jy.out) hkp (fun hs_=>(fun e_=>(Kd.Ed AX.out (fun _ hk=>hk.1.2)) e_) hs_));replace jX:=zA (vU (uB jX.out) hkp (fun hs_=>(fun e_=>(Kd.Ed AX.out (fun _ hk=>hk.2)) e_) hs_));replace EJ:=zA (Kd.af (ok':=fun k_=>k_ ≠ o6∧k_ ≠ o7∧ax k_ RG) (Kd.X5 (EJ.out) hkp (fun k_ hk_ hs_=>(hk_.2) hs_)) (fun k_ hk_=>⟨hk_.1.1.1.2,hk_.1.1.2,fun e_=>Or.elim (ho0.1 k_ e_.symm) (fun hs_=>hk_.2.1 hs_) (fun hn_=>Nat.not_le.2 hk_.2.2 hn_)⟩));replace HB:=zA (hb);clear AX;(try clear hb);(try clear hkp);(try clear ho0);have ZX:=bc fA 0;have ZY:=bc fA 1;have ZZ:=bf fA 0;have Z0:=bf fA 1));go_loopg [10,30] k (fun kq v10 v30 w'=>∃ (fK : List Int) (QJ : Int) (sH : List Int) (uL : Value),v30 = .int .i64 QJ∧aa (bK.l0 kq fK OD (aA.length : Int) QJ aD aA aD sH = some (r1,r2,r3))∧aa (kq ≤ k)∧aa (Kd.R (Kd.int .i64) 2 w' w.heap.size (fun k_=>ax k_ RG∧ax k_ uL∧k_ ≠ o6∧k_ ≠ o7) v10 fK)∧aa (Kd.R (Kd.int .i64) 2 w' w.heap.size (fun k_=>ax k_ v10∧ax k_ uL∧k_ ≠ o6∧k_ ≠ o7) RG OD)∧aa (Kd.R (Kd.int .i64) 2 w' w.heap.size (fun k_=>ax k_ v10∧ax k_ RG∧k_ ≠ o6∧k_ ≠ o7) uL sH)∧aa (w'.heap[yF]? = some (.cells #[.int .i64 aD,(.slice bE aA.length bC)] 26 (0,0)))∧aa (w'.heap[o6]? = some (.cells #[.int .i64 a1] 2 (0,0)))∧aa (w'.heap[o7]? = some (.cells #[.int .i64 a2] 2 (0,0)))∧aa (w'.heap[EI]? = some (.cells #[.int .i64 0,(.slice none 0 0)] 26 (0,0)))∧aa (w'.heap[CF]? = some (.cells #[.int .i64 aD,uL] 26 (0,0)))∧aa (Below w.heap.size w w'));(case atStart=>exact ⟨(as2),(0),(([] : List Int)),(.slice none 0 0),eS,H',⟨Nat.le_refl _⟩,⟨uR (Kd.af EJ.out (fun _ hk=>⟨hk.2.2,⟨(by simp [Value.ownBlock]),⟨hk.1,hk.2.1⟩⟩⟩))⟩,⟨uR (Kd.af akg.out (fun _ hk=>⟨hk.1,⟨(by simp [Value.ownBlock]),⟨hk.2.1,hk.2.2⟩⟩⟩))⟩,⟨by first | exact Kd.qM _ _ _ _ _ | exact Kd.ut _ _ _ _ _ | exact Kd.um _ _ _ _ _ | exact Kd.uu _ _ _ _ _ | exact Kd.uo _ _ _ _ _⟩,⟨uB fA.out⟩,⟨uB jy.out⟩,⟨uB jX.out⟩,⟨uB kX.out⟩,⟨uB kK.out⟩,⟨uH HB.out⟩⟩)
 case round =>
  clear H';(try clear c1);(try clear c2);(try clear p2);(try clear c5);(try clear c6);(try clear qo);(try clear xE);(try clear c12);(try clear c13);(try clear c14);(try clear c19);(try clear c20);(try clear c21);(try clear c22);(try clear c26);(try clear c27);(try clear c29);(try clear wU);(try clear yz);(try clear wW);(try clear wX);(try clear ZT);(try clear ZU);(try clear xc);(try clear xg);(try clear ZX);(try clear ZY);(try clear wV);(try clear yA);(try clear wY);(try clear wZ);(try clear ZV);(try clear ZW);(try clear xe);(try clear xh);(try clear ZZ);(try clear Z0);obtain ⟨fK,QJ,sH,uL,rfl,HA,HK1,jH,tY,l8,fA,jy,jX,kX,kK,HB⟩:=hrel
  cases gk with
  | zero=>exact absurd HA.out (by simp [bK.l0])
  | succ k1 =>
   have H:=HA.out;clear HA;simp only [bK.l0] at H;replace H:=gF H;obtain ⟨akh,H⟩|⟨akh,H⟩:=H
   ·simp only [Option.some.injEq,Prod.mk.injEq] at H;obtain ⟨rfl,rfl,rfl⟩:=H;have aki:=Ac.out;have akj:=sG.out;have abB:=D9.out;have abC:=qQ.out;have abD:=Ea.out;have abE:=qR.out;have UM:=Eb.out;have UN:=u6.out;have YM:=bc kK 0;have YN:=bc kK 1;have YO:=bf kK 0;have YP:=bf kK 1;have Vn:=xO.out;have Vo:=xN.out;have akk:=z8.out;have akl:=zZ.out;have acl:=Ab.out;have acm:=Aa.out;have aqs:=bc kX 0;have aqt:=bc kX 1;have aqu:=bf kX 0;have aqv:=bf kX 1;obtain ⟨akm,akn,rfl⟩:=Kd.aW l8.out;go_wp2;refine bodyPost_ret (kr rfl _ _ EI 26 #[.int .i64 aD,.slice akm sH.length akn] (0,0) _ rfl (by (repeat refine up1 ?_);refine aX (cs:=#[.int .i64 aD,.slice none 0 0]) ?_ 1 _ rfl;(repeat refine up1 ?_);refine aX (cs:=#[.int .i64 0,.slice none 0 0]) ?_ 0 _ rfl;(repeat refine up1 ?_);exact kX.out) Try.underlying26 rfl (by kernel_rfl)) rfl ?_;exact ⟨_,eX,uR (Kd.af (Kd.bA (p:=⟨EI,1,none⟩) (Kd.bA (p:=⟨EI,0,none⟩) (Kd.bI l8.out kX.out (by decide)) (fun _ hk=>hk.2) (.int .i64 aD)) (fun _ hk=>hk.2) (.slice akm sH.length akn)) (fun _ hk=>trivial)),uH HB.out⟩
   replace H:=bO H;obtain ⟨RD,A37,H⟩:=H;replace H:=gZ H;obtain ⟨VY,H⟩:=H;obtain ⟨RH,acA⟩:=eY (sH ++ [RD] : List Int);(try rw [←acA.out] at H);replace H:=bO H;obtain ⟨VN,A39,H⟩:=H;replace H:=bO H;obtain ⟨ZP,A40,H⟩:=H;have H':=zA H;clear H;(try go_wp2);replace jH:=zA (Kd.jJ jH.out);replace tY:=zA (Kd.jJ tY.out);replace l8:=zA (Kd.jJ l8.out);replace fA:=zA (cO fA.out);replace jy:=zA (cO jy.out);replace jX:=zA (cO jX.out);replace kX:=zA (cO kX.out);replace kK:=zA (cO kK.out);replace HB:=zA (aU HB.out);obtain ⟨Kh,Ki,UZ⟩:=Kd.aW jH.out;(first | subst UZ | (injection UZ with f1_ f2_ f3_;have f4_:=f1_.symm;have f5_:=f3_.symm;clear f1_ f2_ f3_;subst f4_;subst f5_));refine ll (n:=9) (S:=fun w'=>w'.cell? ⟨CF,0,none⟩ = some (.int .i64 aD)∧w'.cell? ⟨CF,1,none⟩ = some (uL)∧w'.cell? ⟨yF,0,none⟩ = some (.int .i64 aD)∧w'.cell? ⟨yF,1,none⟩ = some (.slice bE aA.length bC)) (ds:=[8]) #[false,false,false,false,false,false,false,false,false] (by kernel_rfl) rfl rfl ⟨bcu kK 0,bcu kK 1,bcu fA 0,bcu fA 1⟩ (fun hHeld=>?_);refine ig bK.as1 bK.aj5 (fun HT_ HW_=>?_);generalize wr.drew = w41 at jH tY l8 fA jy jX kX kK HB hHeld ⊢;refine pu_ 0 32 (bl 9 1) HT_ ?_;refine pu_ 3 35 (bl 9 9) HT_ ?_;refine ta_ 1 33 (bl 9 11) HT_ HW_ hHeld ?_;refine ta_ 2 34 (bl 9 15) HT_ HW_ hHeld ?_;refine on_ 4 (some 36) (bl 9 31) HT_ (fun K hK=>?_);refine gS Try.func37 #[.agg #[.int .i64 aD,.slice bE aA.length bC],.slice Kh fK.length Ki] ?_;(with_reducible refine (cz.calls k1 aD _ _ aA _ _ fK RD _ ?side1 ?side2 ?side3 ?side4 A37.out).mono ?_);(case side1=>exact uC ((Kd.dH iY.out HB.out)));(case side2=>exact jo.out);(case side3=>exact uC ((Kd.aK jH.out).2.2));(case side4=>exact (Kd.aK jH.out).2.1);rintro e w43 ⟨rfl,hb⟩;refine ⟨_,rfl,?_⟩;replace jH:=xR jH hb;replace tY:=xR tY hb;replace l8:=xR l8 hb;replace fA:=xB fA hb;replace jy:=xB jy hb;replace jX:=xB jX hb;replace kX:=xB kX hb;replace kK:=xB kK hb;replace HB:=xH HB hb;(try clear hb);refine hK.out _ _ ⟨bcu kK 0,bcu kK 1,bcu fA 0,bcu fA 1⟩ (fun hHeld=>?_);clear hK K;refine no_ 36 ?_;refine on_ 5 (some 37) (bl 9 63) HT_ (fun K hK=>?_);refine yT (w1:=?_) (v:=?_) (by rfl) rfl ?_ ?_;rotate_left 2
   ·go_simp;constructor
    ·rfl
    ·rfl
   refine hK.out _ _ ⟨(bG (l7 kK.out _) 0).trans rfl,(bG (l7 kK.out _) 1).trans rfl,(bG (l7 fA.out _) 0).trans rfl,(bG (l7 fA.out _) 1).trans rfl⟩ (fun hHeld=>?_);clear hK K;refine no_ 37 ?_;refine on_ 6 (some 38) (bl 9 127) HT_ (fun K hK=>?_);refine Kd.qC (Kd.int .i64) (w0:=w) w.heap.size (by rfl) (.tmp 33) (.tmp 37) 24 2 (.int .i64 0) 8 rfl Try.underlying24 mf rfl (by decide) (by omega) uL sH RD [.int .i64 RD] (fun k_=>ax k_ (.slice Kh fK.length Ki)∧ax k_ RG∧k_ ≠ o6∧k_ ≠ o7) (fun _=>False) rfl rfl ?aP (fun _ hk=>hk.elim) ?aF ?aO ?aB ?aS ?aL ?_;(case aP=>exact rfl);(case aB=>exact (uH HB.out));(case aF=>exact (fun k_ hk=>⟨Kd.fresh' (Kd.xx (uR jH.out)) k_ hk,Kd.fresh' (Kd.xx (uR tY.out)) k_ hk,Kd.D7 (g:=o6) (o:=.cells #[.int .i64 a1] 2 (0,0)) (uB jy.out) k_ hk,Kd.D7 (g:=o7) (o:=.cells #[.int .i64 a2] 2 (0,0)) (uB jX.out) k_ hk⟩));(case aO=>exact (uR l8.out));(case aS=>exact (av (uH HB.out)));(case aL=>have:=VY.out;omega);intro azl w44 ho hb hg hat;rw [← acA.out] at ho;replace jH:=zA (Kd.mq (ok:=(fun k_=>ax k_ RG∧k_ ≠ o6∧k_ ≠ o7)) (uR (Kd.af jH.out (fun _ ⟨a,d,b,c⟩=>⟨⟨a,b,c⟩,d⟩))) hg hat);replace tY:=zA (Kd.mq (ok:=(fun k_=>ax k_ (.slice Kh fK.length Ki)∧k_ ≠ o6∧k_ ≠ o7)) (uR (Kd.af tY.out (fun _ ⟨a,d,b,c⟩=>⟨⟨a,b,c⟩,d⟩))) hg hat);replace fA:=kG hg l8 fA;replace jy:=zA (uO (g:=o6) (o:=.cells #[.int .i64 a1] 2 (0,0)) (uB jy.out) hg (Kd.Ed l8.out (fun _ hk=>hk.2.2.1)));replace jX:=zA (uO (g:=o7) (o:=.cells #[.int .i64 a2] 2 (0,0)) (uB jX.out) hg (Kd.Ed l8.out (fun _ hk=>hk.2.2.2)));replace kX:=kG hg l8 kX;replace kK:=kG hg l8 kK;replace HB:=zA (hb);have G9:=zA (ho);clear l8;clear ho hb hg hat;obtain ⟨gT,gQ,Kj⟩:=Kd.aW G9.out;(first | subst Kj | (injection Kj with f1_ f2_ f3_;have f4_:=f1_.symm;have f5_:=f3_.symm;clear f1_ f2_ f3_;subst f4_;subst f5_));refine hK.out _ _ ⟨bcu kK 0,bcu kK 1,bcu fA 0,bcu fA 1⟩ (fun hHeld=>?_);clear hK K;refine no_ 38 ?_;refine pu_ 7 39 (bl 9 255) HT_ ?_;refine AJ (i:=8) (N:=none) (bl 9 511) rfl rfl (uj HT_.out (by kernel_rfl)) (by decide) (fun K hK=>?_);have aiv : w44.cell? ⟨CF,1,none⟩ = some (uL):=(bG kK.out 1).trans rfl;have abL:=bf kK 1;have PZ:=sG.out;have Y0:=qQ.out;have YV:=qR.out;have YW:=u6.out;have P5:=Ac.out;have Y1:=D9.out;have YX:=Ea.out;have YY:=Eb.out;refine qi (w1:=?_) (by rfl) rfl ?_ ?_;rotate_left
   ·go_simp;rfl
   refine hK.out _ _ ?_;clear hK K;refine done_ (done_of HT_.out (by kernel_rfl)) ?_;have ako:=zV.out;have akp:=zW.out;have acB:=zX.out;have acC:=zY.out;have akq:=xN.out;have akr:=xO.out;have abT:=sG.out;have abU:=Ac.out;have aqw:=bc fA 0;have aqx:=bc fA 1;have aqy:=bf fA 0;have aqz:=bf fA 1;(try go_wp2_with (first | ((with_reducible refine ag (f:=38) rfl ?_);refine gL (some 41) Try.func38 #[.agg #[.int .i64 aD,.slice bE aA.length bC]] ?_;(with_reducible refine (di.calls aD _ _ aA VN _ ?side1 ?side2 A39.out).mono ?_);(case side1=>exact Kd.dH iY.out (uH HB.out));(case side2=>exact jo.out);rintro e w52 ⟨rfl,hb⟩;refine ⟨_,rfl,?_⟩;replace jH:=zA (Kd.jU (uR ((Kd.af (Kd.bA (p:=⟨CF,1,none⟩) (Kd.bI jH.out kK.out (by decide)) (fun _ hk=>hk.2) (.slice gT RH.length gQ)) (fun _ h_=>h_.1)))) hb);replace tY:=zA (Kd.jU (uR ((Kd.af (Kd.bA (p:=⟨CF,1,none⟩) (Kd.bI tY.out kK.out (by decide)) (fun _ hk=>hk.2) (.slice gT RH.length gQ)) (fun _ h_=>h_.1)))) hb);replace G9:=zA (Kd.jU (uR ((Kd.af (Kd.bA (p:=⟨CF,1,none⟩) (Kd.bI G9.out kK.out (by decide)) (fun _ hk=>hk.2) (.slice gT RH.length gQ)) (fun _ h_=>h_.1)))) hb);replace fA:=zA (bu (g:=yF) (o:=.cells #[.int .i64 aD,.slice bE aA.length bC] 26 (0,0)) (by (repeat refine up1 ?_);refine aC ?_ sG.out _;(repeat refine up1 ?_);exact fA.out) hb);replace jy:=zA (bu (g:=o6) (o:=.cells #[.int .i64 a1] 2 (0,0)) (by (repeat refine up1 ?_);refine aC ?_ qQ.out _;(repeat refine up1 ?_);exact jy.out) hb);replace jX:=zA (bu (g:=o7) (o:=.cells #[.int .i64 a2] 2 (0,0)) (by (repeat refine up1 ?_);refine aC ?_ qR.out _;(repeat refine up1 ?_);exact jX.out) hb);replace kX:=zA (bu (g:=EI) (o:=.cells #[.int .i64 0,.slice none 0 0] 26 (0,0)) (by (repeat refine up1 ?_);refine aC ?_ u6.out _;(repeat refine up1 ?_);exact kX.out) hb);replace kK:=zA (bu (g:=CF) (o:=.cells #[.int .i64 aD,.slice gT RH.length gQ] 26 (0,0)) (by (repeat refine up1 ?_);refine aX (cs:=#[.int .i64 aD,uL]) ?_ 1 _ rfl;(repeat refine up1 ?_);exact kK.out) hb);replace HB:=xH HB hb;(try clear hb);(try clear hk);obtain ⟨RI,Ot,ZI⟩:=Kd.aW tY.out;subst ZI) | ((with_reducible refine ag (f:=39) rfl ?_);refine gL (some 44) Try.func39 #[.int .i64 VN,.slice Kh fK.length Ki,.slice RI OD.length Ot] ?_;(with_reducible refine (aZ.calls k1 VN _ _ fK _ _ OD ZP _ ?side1 ?side2 ?side3 ?side4 A40.out).mono ?_);(case side1=>exact uC ((Kd.aK jH.out).2.2));(case side2=>exact (Kd.aK jH.out).2.1);(case side3=>exact uC ((Kd.aK tY.out).2.2));(case side4=>exact (Kd.aK tY.out).2.1);rintro e w54 ⟨azm,rfl,ho0,hb⟩;refine ⟨_,rfl,?_⟩;have aks:=zA (Kd.bv (Kd.Ec (Kd.Ec (nw (nw (nw ho0 (uR jH.out)) (uR tY.out)) (uR G9.out)) (g:=o6) (o:=.cells #[.int .i64 a1] 2 (0,0)) (uB jy.out)) (g:=o7) (o:=.cells #[.int .i64 a2] 2 (0,0)) (uB jX.out)) (av (uH HB.out)));replace jH:=zA (Kd.aJ (uR jH.out) (Kd.bD ho0) hb);replace tY:=zA (Kd.aJ (uR tY.out) (Kd.bD ho0) hb);replace G9:=zA (Kd.aJ (uR G9.out) (Kd.bD ho0) hb);replace fA:=xB fA hb;replace jy:=xB jy hb;replace jX:=xB jX hb;replace kX:=xB kX hb;replace kK:=xB kK hb;replace HB:=xH HB hb;(try clear hb);(try clear hk);(try clear ho0))));go_roundg k1;(case measure=>have:=HK1.out;omega);(case rel=>exact ⟨(ZP),(wrap64 (QJ + 1)),(RH),(.slice gT RH.length gQ),eS,H',⟨by have:=HK1.out;omega⟩,⟨uR (Kd.af aks.out (fun _ ⟨⟨⟨⟨_,a⟩,b⟩,c⟩,d⟩=>⟨a,b,c,d⟩))⟩,⟨uR (Kd.af tY.out (fun _ ⟨⟨⟨_,c,d⟩,b⟩,a⟩=>⟨a,b,c,d⟩))⟩,⟨uR (Kd.af G9.out (fun _ ⟨⟨_,b,c,d⟩,a⟩=>⟨a,b,c,d⟩))⟩,⟨uB fA.out⟩,⟨uB jy.out⟩,⟨uB jX.out⟩,⟨uB kX.out⟩,⟨uB kK.out⟩,⟨uH HB.out⟩⟩)
/- Plain lemmas: rounds (Ev), wrapped sums, rests modulo p, lists read and written at an index. No program is in sight. -/
section
variable {α β : Type}
theorem Ev.pos {c : Prop} [Decidable c] {X Y : Nat → Option α} {r : α} (h : c) (e : Ev X r) : Ev (fun k=>if c then X k else Y k) r:=by
  simpa only [if_pos h] using e
theorem Ev.neg {c : Prop} [Decidable c] {X Y : Nat → Option α} {r : α} (h : ¬ c) (e : Ev Y r) : Ev (fun k=>if c then X k else Y k) r:=by
  simpa only [if_neg h] using e
theorem Ev.eq {x : Option α} {r : α} (h : x = some r) : Ev (fun _=>x) r:=⟨0,fun _ _=>h⟩
theorem Ev.mM {r s : α} (h : r = s) : Ev (fun _=>some r) s:=⟨0,fun _ _=>by rw [h]⟩
theorem Ev.kQ {x : Option α} {f : Nat → α → Option β} {a : α} {r : β} (h : x = some a) (e : Ev (fun n=>f n a) r) : Ev (fun n=>x.bind (f n)) r:=by
  subst h;simpa using e
theorem Ev.cast {g : Nat → Option α} {r s : α} (h : Ev g r) (e : r = s) : Ev g s:=e ▸ h
theorem Ev.fn {g : Nat → Option α} {r s : α} (h : Ev g r) (h' : Ev g s) : r = s:=by
  obtain ⟨K,h⟩:=h
  obtain ⟨K',h'⟩:=h'
  have a:=h (max K K') (by omega)
  have b:=h' (max K K') (by omega)
  rw [a] at b
  exact Option.some.inj b
end

theorem dQ {x : Int} (h0 : -9223372036854775808 ≤ x) (h1 : x < 9223372036854775808) : wrap64 x = x:=by unfold wrap64;omega
theorem lW {i n : Nat} (h : i < n) (hn : n < 4611686018427387904) : wrap64 ((i : Int) + 1) = ((i + 1 : Nat) : Int):=by unfold wrap64;omega
theorem XK {i j n : Nat} (h : i + j < n) (hn : n < 4611686018427387904) : wrap64 ((i : Int) + (j : Int)) = ((i + j : Nat) : Int):=by unfold wrap64;omega
theorem abo {i : Nat} (h : 0 < i) (hn : i < 4611686018427387904) : wrap64 ((i : Int) - 1) = ((i - 1 : Nat) : Int):=by unfold wrap64;omega

theorem ma (l : List Int) (i : Nat) : rd l (i : Int) = l.getD i 0:=by simp [rd]
theorem JX (l : List (List Int)) (i : Nat) : uq l (i : Int) = l.getD i []:=by simp [uq]
theorem vY {α : Type} {l : List α} {i : Nat} {d : α} (h : i < l.length) : l.getD i d ∈ l:=by
  simp only [List.getD_eq_getElem?_getD,List.getElem?_eq_getElem h,Option.getD_some];exact List.getElem_mem h
theorem mZ (i : Nat) : ((i : Int)).toNat = i:=rfl

/-- A length that is small. -/
abbrev Sm (n : Nat) : Prop:=n ≤ 1048576

/-- Numbers modulo p. -/
def Nm (p : Int) (l : List Int) : Prop:=∀ x ∈ l,0 ≤ x∧x < p
theorem Nm.nil (p : Int) : Nm p []:=fun x h=>by cases h
theorem Nm.cons {p x : Int} {l : List Int} (h0 : 0 ≤ x) (h1 : x < p) (h : Nm p l) : Nm p (x :: l):=fun y hy=>by
  rcases List.mem_cons.1 hy with rfl | hy
  · exact ⟨h0,h1⟩
  · exact h y hy
theorem Nm.append {p : Int} {l m : List Int} (h : Nm p l) (h' : Nm p m) : Nm p (l ++ m):=fun y hy=>by
  rcases List.mem_append.1 hy with hy | hy
  · exact h y hy
  · exact h' y hy
theorem Nm.get {p : Int} {l : List Int} (h : Nm p l) {i : Nat} (hi : i < l.length) : 0 ≤ l.getD i 0∧l.getD i 0 < p:=h _ (vY hi)
theorem Nm.BA {p : Int} {l : List Int} (h : Nm p l) (hp : 0 < p) (i : Nat) : 0 ≤ l.getD i 0∧l.getD i 0 < p:=by
  by_cases hi : i < l.length
  · exact h.get hi
  · rw [List.getD_eq_getElem?_getD,List.getElem?_eq_none (by omega)];exact ⟨Int.le_refl _,hp⟩
theorem Nm.take {p : Int} {l : List Int} (h : Nm p l) (n : Nat) : Nm p (l.take n):=fun x hx=>h x (List.mem_of_mem_take hx)
theorem Nm.drop {p : Int} {l : List Int} (h : Nm p l) (n : Nat) : Nm p (l.drop n):=fun x hx=>h x (List.mem_of_mem_drop hx)
theorem Nm.set {p x : Int} {l : List Int} (h : Nm p l) (h0 : 0 ≤ x) (h1 : x < p) (i : Nat) : Nm p (l.set i x):=fun y hy=>by
  rcases List.mem_or_eq_of_mem_set hy with hy | rfl
  · exact h y hy
  · exact ⟨h0,h1⟩
theorem Nm.zeros {p : Int} (hp : 0 < p) (n : Nat) : Nm p (List.replicate n 0):=fun x hx=>by
  rw [(List.mem_replicate.1 hx).2];exact ⟨Int.le_refl _,hp⟩
instance (p : Int) (l : List Int) : Decidable (Nm p l):=by unfold Nm;infer_instance

/-- A modulus that the program may have (in its range; a Gd or not). -/
structure Pm (p : Int) : Prop where
  two : 2 ≤ p
  top : p ≤ 10007
theorem Pm.pos {p : Int} (h : Pm p) : 0 < p:=by have:=h.two;omega
theorem Pm.ne {p : Int} (h : Pm p) : p ≠ 0:=by have:=h.two;omega

theorem XM {a b m n : Int} (ha : 0 ≤ a) (ha' : a ≤ m) (hb : 0 ≤ b) (hb' : b ≤ n) : 0 ≤ a * b∧a * b ≤ m * n :=
  ⟨Int.mul_nonneg ha hb,Int.mul_le_mul ha' hb' hb (by omega)⟩
/-- A product of two numbers modulo p. -/
theorem Bj {p a b : Int} (hp : Pm p) (ha : 0 ≤ a) (ha' : a < p) (hb : 0 ≤ b) (hb' : b < p) : 0 ≤ a * b∧a * b ≤ 100140049:=by
  have h1:=hp.top
  have h:=XM (m:=10007) (n:=10007) ha (by omega) hb (by omega)
  exact ⟨h.1,by omega⟩
theorem j6 {a b : Int} (h : 0 ≤ a) : Int.tmod a b = a % b:=Int.tmod_eq_emod_of_nonneg h
theorem nI {p : Int} (hp : 0 < p) (x : Int) : 0 ≤ x % p∧x % p < p:=⟨Int.emod_nonneg _ (by omega),Int.emod_lt_of_pos _ hp⟩
/-- Go's '(x % p + p) % p' is the rest of x. -/
theorem JS {p x : Int} (hp : Pm p) : Int.tmod (wrap64 (Int.tmod x p + p)) p = x % p:=by
  have h2:=hp.two
  have ht:=hp.top
  have h:=Int.tmod_eq_emod (a:=x) (b:=p)
  have hb:=nI hp.pos x
  have hn : ((p.natAbs : Nat) : Int) = p:=by omega
  split at h
  · rw [h,Int.natCast_zero,dQ (by omega) (by omega),j6 (by omega),show x % p - 0 + p = x % p + p from by omega,Int.add_emod_right,Int.emod_emod]
  · rw [h,hn,dQ (by omega) (by omega),j6 (by omega),show x % p - p + p = x % p from by omega,Int.emod_emod]

/-- A list without noughts at its end. -/
def ny (l : List Int) : List Int:=(l.reverse.dropWhile (· == 0)).reverse
theorem Gy : ny [] = []:=rfl
theorem rF (l : List Int) : ny (l ++ [0]) = ny l:=by simp [ny]
theorem uS (l : List Int) {x : Int} (h : x ≠ 0) : ny (l ++ [x]) = l ++ [x]:=by simp [ny,h]
theorem KE {α : Type} {P : List α → Prop} (h0 : P []) (h1 : ∀ l x,P l → P (l ++ [x])) (l : List α) : P l:=by
  have h : ∀ l : List α,P l.reverse:=by
    intro l
    induction l with
    | nil=>exact h0
    | cons x l ih=>rw [List.reverse_cons];exact h1 _ _ ih
  simpa using h l.reverse
theorem Gx (l : List Int) : ∃ n,l = ny l ++ List.replicate n 0:=by
  induction l using KE with
  | h0=>exact ⟨0,rfl⟩
  | h1 l x ih =>
    by_cases h : x = 0
    · subst h
      obtain ⟨n,hn⟩:=ih
      refine ⟨n + 1,?_⟩
      rw [rF,List.replicate_succ',← List.append_assoc,← hn]
    · exact ⟨0,by rw [uS l h];simp⟩
/- The great laws' comparisons of lists and moments. -/
open Go Go.RowKit Go.Proofs.YtilbjbahmilhkaaW.PrintWords Go.Proofs.YtilbjbahmilhkaaW.PrintLast Go.Proofs.YtilbjbahmilhkaaW.PrintMore
theorem Z4 (l : List Int) (hl : Sm l.length) (d : Nat) : ∀ i : Nat,i + d = l.length → Ev (fun k=>iy.l0 k l l (i : Int)) true:=by
  unfold Sm at hl
  induction d with
  | zero =>
    intro i hi
    refine Ev.step (fun k=>by rw [iy.l0]) ?_
    exact Ev.neg (by omega) (Ev.now _)
  | succ d ih =>
    intro i hi
    refine Ev.step (fun k=>by rw [iy.l0]) ?_
    refine Ev.pos (by omega) (Ev.pos (by omega) (Ev.pos (by omega) (Ev.pos rfl ?_)))
    rw [lW (i:=i) (n:=l.length) (by omega) (by omega)]
    exact ih (i + 1) (by omega)
theorem Z5 (l : List Int) (hl : Sm l.length) : Ev (fun k=>iy.f k l l) true:=by
  unfold iy.f
  exact Ev.pos rfl (Z4 l hl l.length 0 (by omega))
theorem zl (p : Int) (l : List Int) (hl : Sm l.length) : Ev (fun k=>jW.f k p l p l) true:=by
  unfold jW.f
  exact Ev.pos rfl (Ev.bind (Z5 l hl) (Ev.now _))
/- Copies of lists; no condition. -/
theorem Sm0 : Sm ([] : List Int).length:=by simp [Sm]
theorem Sm.take {l : List Int} (h : Sm l.length) (n : Nat) : Sm (l.take n).length:=by unfold Sm at h ⊢;rw [List.length_take];omega
theorem Sm.drop {l : List Int} (h : Sm l.length) (n : Nat) : Sm (l.drop n).length:=by unfold Sm at h ⊢;rw [List.length_drop];omega
theorem JQ (l : List Int) (hl : Sm l.length) : jB.f l = some l:=by
  unfold jB.f
  simp only [Option.bind_some,List.length_nil,List.nil_append]
  rw [if_pos (by unfold Sm at hl;omega)]
/- Primes and numbers modulo p: what the program and the reference compute of them. -/
theorem Eu (a b c : Int) : iR.f a b c = some (decide (b ≤ a∧a ≤ c)):=by
  unfold iR.f
  by_cases h : b ≤ a
  · rw [if_pos h];simp [h]
  · rw [if_neg h];simp [h]
theorem Dp (a b c : Int) : jP.f a b c = some (decide (b ≤ a∧a ≤ c)):=by
  unfold jP.f
  by_cases h : b ≤ a
  · rw [if_pos h];simp [h]
  · rw [if_neg h];simp [h]
theorem has_eq (p x : Int) : dO.f p x = some (decide (0 ≤ x∧x < p)):=by
  unfold dO.f
  by_cases h : 0 ≤ x
  · rw [if_pos h];simp [h]
  · rw [if_neg h];simp [h]
theorem DC {p : Int} (hp : Pm p) (x : Int) : gJ.f p x = some (x % p):=by
  unfold gJ.f
  rw [if_neg hp.ne,JS hp]

/-! ### primes -/
def EK (p : Int) (i : Nat) : Prop:=∀ j,j < 101 → i ≤ j → (j : Int) * (j : Int) ≤ p → p % (j : Int) ≠ 0
instance (p : Int) (i : Nat) : Decidable (EK p i):=by unfold EK;infer_instance
def fV (p : Int) : Bool:=decide (2 ≤ p∧p ≤ 10007) && decide (EK p 2)
theorem fV.pm {p : Int} (h : fV p = true) : Pm p:=by
  simp only [fV,Bool.and_eq_true,decide_eq_true_eq] at h
  exact ⟨h.1.1,h.1.2⟩
theorem Ha {p : Int} {i : Nat} (h : p % (i : Int) ≠ 0) : decide (EK p i) = decide (EK p (i + 1)):=by
  apply decide_eq_decide.2
  constructor
  · exact fun g j h1 h2 h3=>g j h1 (by omega) h3
  · intro g j h1 h2 h3
    by_cases e : j = i
    · subst e;exact h
    · exact g j h1 (by omega) h3
theorem Ad {p : Int} {i : Nat} (h : p < (i : Int) * (i : Int)) : EK p i:=by
  intro j h1 h2 h3
  have:=XM (a:=(i : Int)) (b:=(i : Int)) (m:=(j : Int)) (n:=(j : Int)) (by omega) (by omega) (by omega) (by omega)
  omega
theorem sqB {i : Nat} (h : i ≤ 101) : 0 ≤ (i : Int) * (i : Int)∧(i : Int) * (i : Int) ≤ 10201:=by
  have:=XM (a:=(i : Int)) (b:=(i : Int)) (m:=101) (n:=101) (by omega) (by omega) (by omega) (by omega)
  omega
theorem KF {p : Int} (h2 : 2 ≤ p) (ht : p ≤ 10007) (d : Nat) : ∀ i,2 ≤ i → i + d = 101 → Ev (fun k=>eP.l0 k p (i : Int)) (decide (EK p i)):=by
  induction d with
  | zero =>
    intro i hi hd
    obtain rfl : i = 101:=by omega
    refine Ev.step (fun k=>by rw [eP.l0]) ?_
    refine Ev.neg (by rw [dQ (by omega) (by omega)];omega) (Ev.mM ?_)
    exact (decide_eq_true (Ad (by omega))).symm
  | succ d ih =>
    intro i hi hd
    have hb:=sqB (i:=i) (by omega)
    refine Ev.step (fun k=>by rw [eP.l0]) ?_
    rw [dQ (x:=(i : Int) * (i : Int)) (by omega) (by omega),j6 (by omega)]
    by_cases h : (i : Int) * (i : Int) ≤ p
    · refine Ev.pos h (Ev.neg (by omega) ?_)
      by_cases h3 : p % (i : Int) = 0
      · exact Ev.pos h3 (Ev.mM (decide_eq_false (fun g=>g i (by omega) (by omega) h h3)).symm)
      · refine Ev.neg h3 ?_
        rw [Ha h3,lW (i:=i) (n:=101) (by omega) (by omega)]
        exact ih (i + 1) (by omega) (by omega)
    · exact Ev.neg h (Ev.mM (decide_eq_true (Ad (by omega))).symm)
theorem KG {p : Int} (h2 : 2 ≤ p) (ht : p ≤ 10007) (d : Nat) : ∀ i,2 ≤ i → i + d = 101 → Ev (fun k=>eB.l0 k p (i : Int)) (decide (EK p i)):=by
  induction d with
  | zero =>
    intro i hi hd
    obtain rfl : i = 101:=by omega
    refine Ev.step (fun k=>by rw [eB.l0]) ?_
    refine Ev.neg (by rw [dQ (by omega) (by omega)];omega) (Ev.mM ?_)
    exact (decide_eq_true (Ad (by omega))).symm
  | succ d ih =>
    intro i hi hd
    have hb:=sqB (i:=i) (by omega)
    refine Ev.step (fun k=>by rw [eB.l0]) ?_
    rw [dQ (x:=(i : Int) * (i : Int)) (by omega) (by omega),j6 (by omega)]
    by_cases h : (i : Int) * (i : Int) ≤ p
    · refine Ev.pos h (Ev.neg (by omega) ?_)
      by_cases h3 : p % (i : Int) = 0
      · exact Ev.pos h3 (Ev.mM (decide_eq_false (fun g=>g i (by omega) (by omega) h h3)).symm)
      · refine Ev.neg h3 ?_
        rw [Ha h3,lW (i:=i) (n:=101) (by omega) (by omega)]
        exact ih (i + 1) (by omega) (by omega)
    · exact Ev.neg h (Ev.mM (decide_eq_true (Ad (by omega))).symm)
theorem BS (p : Int) : Ev (fun k=>eP.f k p) (fV p):=by
  unfold eP.f fV
  refine Ev.kQ (Eu _ _ _) ?_
  by_cases h : 2 ≤ p∧p ≤ 10007
  · refine Ev.pos (decide_eq_true h) ?_
    rw [decide_eq_true h,Bool.true_and]
    exact KF h.1 h.2 99 2 (by omega) (by omega)
  · refine Ev.neg (by simp [h]) (Ev.mM ?_)
    rw [decide_eq_false h,Bool.false_and]
theorem yg (p : Int) : Ev (fun k=>eB.f k p) (fV p):=by
  unfold eB.f fV
  refine Ev.kQ (Dp _ _ _) ?_
  by_cases h : 2 ≤ p∧p ≤ 10007
  · refine Ev.pos (decide_eq_true h) ?_
    rw [decide_eq_true h,Bool.true_and]
    exact KG h.1 h.2 99 2 (by omega) (by omega)
  · refine Ev.neg (by simp [h]) (Ev.mM ?_)
    rw [decide_eq_false h,Bool.false_and]

/-! ### numbers modulo p -/
theorem KH (p x : Int) (l : List Int) : Nm p (x :: l) ↔ (0 ≤ x∧x < p)∧Nm p l:=by
  constructor
  · exact fun h=>⟨h x (List.mem_cons_self ..),fun y hy=>h y (List.mem_cons_of_mem _ hy)⟩
  · exact fun h=>Nm.cons h.1.1 h.1.2 h.2
theorem VZ (p : Int) (l : List Int) : Cr (fun z_=>dO.f p z_) l = some (decide (Nm p l)):=by
  induction l with
  | nil=>simp only [Cr];rw [decide_eq_true (Nm.nil p)]
  | cons x l ih =>
    simp only [has_eq] at ih
    simp only [Cr,has_eq,Option.bind_some]
    by_cases h : 0 ≤ x∧x < p
    · rw [if_pos (decide_eq_true h),ih]
      congr 1
      apply decide_eq_decide.2
      rw [KH]
      exact ⟨fun g=>⟨h,g⟩,fun g=>g.2⟩
    · rw [if_neg (by simp [h])]
      congr 1
      exact (decide_eq_false (fun g=>h ((KH p x l).1 g).1)).symm
theorem Hd (p : Int) (l : List Int) (hl : l.length < 4611686018427387904) : iB.f l (fun z_=>dO.f p z_) = some (decide (Nm p l)):=by
  unfold iB.f
  rw [if_pos hl,VZ]
theorem QK {p : Int} {l : List Int} {i : Nat} (h : i < l.length) : Nm p (l.drop i) ↔ (0 ≤ l.getD i 0∧l.getD i 0 < p)∧Nm p (l.drop (i + 1)):=by
  rw [D6 l 0 i h,KH]
/-! ### sums -/
def sumTo (g : Nat → Int) : Nat → Int
  | 0=>0
  | n + 1=>sumTo g n + g n
/- What comes to some value of a kind, whichever (Ex); the source of drawn numbers. No condition. -/
/-- It comes to a value with P. -/
def Ex {α : Type} (g : Nat → Option α) (P : α → Prop) : Prop:=∃ r,Ev g r∧P r
section
variable {α β : Type} {P P' : α → Prop} {Q : β → Prop} {g f X Y : Nat → Option α}
theorem Ex.now {r : α} (h : P r) : Ex (fun _=>some r) P:=⟨r,Ev.now r,h⟩
theorem Ex.weak (h : Ex g P) (k : ∀ a,P a → P' a) : Ex g P':=by
  obtain ⟨r,e,h⟩:=h
  exact ⟨r,e,k r h⟩
theorem Ex.bind {f : Nat → α → Option β} (h : Ex g P) (k : ∀ a,P a → Ex (fun n=>f n a) Q) : Ex (fun n=>(g n).bind (f n)) Q:=by
  obtain ⟨r,e,h⟩:=h
  obtain ⟨s,e',h'⟩:=k r h
  exact ⟨s,Ev.bind e e',h'⟩
theorem Ex.ite {c : Prop} [Decidable c] (h : c → Ex X P) (h' : ¬ c → Ex Y P) : Ex (fun k=>if c then X k else Y k) P:=by
  by_cases g : c
  · obtain ⟨r,e,hr⟩:=h g
    exact ⟨r,Ev.pos g e,hr⟩
  · obtain ⟨r,e,hr⟩:=h' g
    exact ⟨r,Ev.neg g e,hr⟩
theorem Ex.pos {c : Prop} [Decidable c] (g : c) (h : Ex X P) : Ex (fun k=>if c then X k else Y k) P:=Ex.ite (fun _=>h) (fun n=>absurd g n)
theorem Ex.neg {c : Prop} [Decidable c] (g : ¬ c) (h : Ex Y P) : Ex (fun k=>if c then X k else Y k) P:=Ex.ite (fun n=>absurd n g) (fun _=>h)
theorem Ex.step (h : ∀ k,g (k + 1) = f k) (k : Ex f P) : Ex g P:=by
  obtain ⟨r,e,hr⟩:=k
  exact ⟨r,Ev.step h e,hr⟩
theorem Ex.eq {x : Option α} {r : α} (h : x = some r) (k : P r) : Ex (fun _=>x) P:=⟨r,Ev.eq h,k⟩
end

/-- A source of numbers: bytes, of which the first i are used. -/
structure St (c : List Int) (i : Int) : Prop where
  b : ∀ x ∈ c,0 ≤ x∧x < 256
  l : c.length ≤ 4096
  lo : 0 ≤ i
  hi : i ≤ (c.length : Int)
theorem Z6 (y : Int) : 0 ≤ Go.bits .and .u64 (IntKind.u64.wrap y / 8589934592) 16777215∧Go.bits .and .u64 (IntKind.u64.wrap y / 8589934592) 16777215 < 16777216:=by
  have hw : ∀ n : Int,0 ≤ n → n < 2 ^ 63 → IntKind.u64.wrap n = n:=fun n h₀ h₁=>by rw [IntKind.wrap_u64];omega
  have h0 : 0 ≤ IntKind.u64.wrap y / 8589934592∧IntKind.u64.wrap y / 8589934592 < 2147483648:=by rw [IntKind.wrap_u64];omega
  have h:=bits_mask .u64 63 (by decide) hw 24 (by decide) (IntKind.u64.wrap y / 8589934592) (by omega) (by omega)
  have e : ((2 : Int) ^ 24 - 1) = 16777215:=by decide
  have e2 : ((2 : Int) ^ 24) = 16777216:=by decide
  rw [e,e2] at h
  rw [h]
  omega
/-- What Next gives. -/
def Nx (c : List Int) (n : Int) (r : Int × Int × Int) : Prop:=St c r.2.1∧0 ≤ r.1∧(1 ≤ n → r.1 < n)∧(n < 1 → r.1 = 0)
theorem mo {c : List Int} {i : Int} (s : St c i) (h n : Int) : Ex (fun _=>aN.f c i h n) (Nx c n):=by
  unfold aN.f
  have hl:=s.l
  have hlo:=s.lo
  have hhi:=s.hi
  have hm:=Z6 (IntKind.u64.wrap (h * 6364136223846793005) + 1442695040888963407)
  generalize Go.bits .and .u64 (IntKind.u64.wrap (IntKind.u64.wrap (h * 6364136223846793005) + 1442695040888963407) / 8589934592) 16777215 = m at hm ⊢
  refine Ex.ite (fun g=>Ex.now ⟨s,Int.le_refl _,fun g'=>by omega,fun _=>rfl⟩) (fun g=>?_)
  refine Ex.ite (fun g1=>?_) (fun g1=>?_)
  · have hx : 0 ≤ rd c i∧rd c i < 256:=by
      obtain ⟨j,rfl⟩ : ∃ j : Nat,i = (j : Int):=⟨i.toNat,by omega⟩
      rw [ma]
      exact s.b _ (vY (by omega))
    have e : wrap64 (wrap64 m + wrap64 (rd c i)) = m + rd c i:=by
      rw [dQ (x:=rd c i) (by omega) (by omega),dQ (x:=m) (by omega) (by omega),dQ (by omega) (by omega)]
    have hb:=nI (p:=n) (by omega) (m + rd c i)
    refine Ex.pos s.lo (Ex.neg (by omega) (Ex.now ⟨⟨s.b,s.l,?_,?_⟩,?_,?_,?_⟩))
    · show 0 ≤ wrap64 (i + 1)
      rw [dQ (by omega) (by omega)];omega
    · show wrap64 (i + 1) ≤ _
      rw [dQ (by omega) (by omega)];omega
    · show 0 ≤ Int.tmod (wrap64 (wrap64 m + wrap64 (rd c i))) n
      rw [e,j6 (by omega)];exact hb.1
    · show 1 ≤ n → Int.tmod (wrap64 (wrap64 m + wrap64 (rd c i))) n < n
      rw [e,j6 (by omega)];exact fun _=>hb.2
    · exact fun g'=>by omega
  · have e : wrap64 m = m:=dQ (by omega) (by omega)
    have hb:=nI (p:=n) (by omega) m
    refine Ex.neg (by omega) (Ex.now ⟨s,?_,?_,?_⟩)
    · show 0 ≤ Int.tmod (wrap64 m) n
      rw [e,j6 (by omega)];exact hb.1
    · show 1 ≤ n → Int.tmod (wrap64 m) n < n
      rw [e,j6 (by omega)];exact fun _=>hb.2
    · exact fun g'=>by omega
theorem zw {c : List Int} {i : Int} (s : St c i) (h : Int) (l : List Int) (hl : 1 ≤ l.length) : Ex (fun _=>iJ.f c i h l) (fun r=>St c r.2.1∧r.1 ∈ l):=by
  unfold iJ.f
  refine Ex.bind (mo s h (l.length : Int)) (fun r hr=>?_)
  obtain ⟨h1,h2,h3,_⟩:=hr
  have h3:=h3 (by omega)
  refine Ex.pos h2 (Ex.pos h3 (Ex.now ⟨h1,?_⟩))
  obtain ⟨j,e⟩ : ∃ j : Nat,r.1 = (j : Int):=⟨r.1.toNat,by omega⟩
  dsimp only
  rw [e,ma]
  exact vY (by omega)
/-- A code's source. -/
def Sc (c : List Int) (r : List Int × Int × Int) : Prop:=r.1 = c∧St c r.2.1
theorem Z7 {c : List Int} (hb : ∀ x ∈ c,0 ≤ x∧x < 256) (hl : c.length ≤ 4096) (d : Nat) : ∀ (i : Nat) (h : Int),i + d = c.length → Ex (fun k=>dU.l0 k c (i : Int) c 0 h) (Sc c):=by
  have s : St c 0:=⟨hb,hl,Int.le_refl _,by omega⟩
  induction d with
  | zero =>
    intro i h hi
    refine Ex.step (fun k=>by rw [dU.l0]) ?_
    exact Ex.neg (by omega) (Ex.now ⟨rfl,s⟩)
  | succ d ih =>
    intro i h hi
    refine Ex.step (fun k=>by rw [dU.l0]) ?_
    refine Ex.pos (by omega) (Ex.ite (fun _=>Ex.pos (by omega) ?_) (fun _=>Ex.now ⟨rfl,s⟩))
    rw [lW (i:=i) (n:=c.length) (by omega) (by omega)]
    exact ih (i + 1) _ (by omega)
theorem PM {c : List Int} (hb : ∀ x ∈ c,0 ≤ x∧x < 256) (hl : c.length ≤ 4096) : Ex (fun k=>dU.f k c) (Sc c):=by
  unfold dU.f
  exact Z7 hb hl c.length 0 _ (by omega)
/- Polynomials and the program's code for them; no condition. -/
/-! ### polynomials -/
def OE (l : List Int) : Bool:=decide (l.length = 0) || (l.getD (l.length - 1) 0 != 0)
def vZ (p : Int) (l : List Int) : Bool:=decide (Nm p l) && (decide (l.length ≤ 25) && OE l)
theorem V3 (l : List Int) (hl : Sm l.length) :
    (if (l.length : Int) = 0 then (some true) else (if 0 ≤ (wrap64 ((l.length : Int) - 1)) then (if (wrap64 ((l.length : Int) - 1)) < (l.length : Int) then (some ((rd l (wrap64 ((l.length : Int) - 1))) != 0)) else none) else none)) = some (OE l):=by
  unfold OE
  by_cases h : l.length = 0
  · rw [if_pos (by omega)];simp [h]
  · rw [if_neg (by omega),abo (by omega) (by unfold Sm at hl;omega),if_pos (by omega),if_pos (by omega),ma]
    simp [h]
theorem Mr (p : Int) (l : List Int) (hl : Sm l.length) : nZ.f p l = some (vZ p l):=by
  unfold nZ.f vZ
  by_cases h : l.length ≤ 25
  · rw [if_pos (by omega),Hd p l (by omega),Option.bind_some]
    by_cases hn : Nm p l
    · rw [if_pos (decide_eq_true hn),V3 l hl];simp [h,hn]
    · rw [if_neg (by simp [hn])];simp [hn]
  · rw [if_neg (by omega)];simp [h]
theorem RJ (p : Int) (ls : List (List Int)) (hl : ∀ l ∈ ls,Sm l.length) : Cr (fun z_=>fU.f z_ p) ls = some (ls.all (vZ p)):=by
  induction ls with
  | nil=>rfl
  | cons l ls ih =>
    have e : fU.f l p = some (vZ p l):=by
      unfold fU.f
      rw [Mr p l (hl l (List.mem_cons_self ..))];rfl
    simp only [Cr,e,Option.bind_some,List.all_cons]
    by_cases h : vZ p l = true
    · rw [if_pos h,ih (fun m hm=>hl m (List.mem_cons_of_mem _ hm)),h,Bool.true_and]
    · rw [if_neg h,Bool.eq_false_iff.2 h,Bool.false_and]
theorem Mt (p : Int) (b : Bool) (ls : List (List Int)) (hs : Sm ls.length) (hl : ∀ l ∈ ls,Sm l.length) :
    Ev (fun k=>mD.f k p b ls) (if ls.all (vZ p) then (if fV p && b then 0 else 2) else 1):=by
  unfold mD.f
  have e : jr.f ls (fun z_=>fU.f z_ p) = some (ls.all (vZ p)):=by
    unfold jr.f
    rw [if_pos (by unfold Sm at hs;omega),RJ p ls hl]
  refine Ev.kQ e ?_
  by_cases h : ls.all (vZ p) = true
  · refine Ev.pos h (Ev.bind (yg p) ?_)
    rw [if_pos h]
    cases fV p <;> cases b <;> exact ⟨0,fun _ _=>rfl⟩
  · refine Ev.neg h (Ev.mM ?_)
    rw [if_neg h]
/- Small facts of polynomials; no condition. -/
theorem vZ.nm {p : Int} {f : List Int} (h : vZ p f = true) : Nm p f:=by
  simp only [vZ,Bool.and_eq_true,decide_eq_true_eq] at h;exact h.1
theorem vZ.len {p : Int} {f : List Int} (h : vZ p f = true) : f.length ≤ 25:=by
  simp only [vZ,Bool.and_eq_true,decide_eq_true_eq] at h;exact h.2.1
/- Polynomials: the reference's test; no condition. -/

/- Moments: which lists are some, for the program and for the reference; no condition. -/
theorem OG (p : Int) (hp : -9223372036854775807 ≤ p) (hp' : p ≤ 9223372036854775807) (l : List Int) (hl : Sm l.length) (d : Nat) : ∀ i,i + d = l.length → Ev (fun k=>fT.l0 k p l (i : Int)) (decide (Nm p (l.drop i))):=by
  induction d with
  | zero =>
    intro i hi
    refine Ev.step (fun k=>by rw [fT.l0]) ?_
    refine Ev.neg (by omega) (Ev.mM ?_)
    rw [List.drop_eq_nil_of_le (by omega)]
    exact (decide_eq_true (Nm.nil p)).symm
  | succ d ih =>
    intro i hi
    refine Ev.step (fun k=>by rw [fT.l0]) ?_
    refine Ev.pos (by omega) (Ev.pos (by omega) (Ev.kQ (Eu _ _ _) ?_))
    rw [ma,dQ (x:=p - 1) (by omega) (by omega),lW (i:=i) (n:=l.length) (by omega) (by unfold Sm at hl;omega)]
    by_cases h : 0 ≤ l.getD i 0∧l.getD i 0 ≤ p - 1
    · refine Ev.pos (decide_eq_true h) (Ev.cast (ih (i + 1) (by omega)) ?_)
      apply decide_eq_decide.2
      rw [QK (by omega : i < l.length)]
      exact ⟨fun g=>⟨⟨h.1,by omega⟩,g⟩,fun g=>g.2⟩
    · refine Ev.neg (by simpa using h) (Ev.mM (decide_eq_false ?_).symm)
      rw [QK (by omega : i < l.length)]
      exact fun g=>h ⟨g.1.1,by omega⟩
theorem OH {p : Int} (hp : Pm p) (l : List Int) (hl : Sm l.length) : Ev (fun k=>fT.f k p l) (decide (Nm p l)):=by
  unfold fT.f
  have h2:=hp.two
  have ht:=hp.top
  simpa using OG p (by omega) (by omega) l hl l.length 0 (by omega)

/-! ### moments -/
def lK (p : Int) (l : List Int) : Bool:=fV p && (decide (1 ≤ l.length∧l.length ≤ 24) && decide (Nm p l))
theorem lK.pm {p : Int} {l : List Int} (h : lK p l = true) : Pm p:=by
  simp only [lK,Bool.and_eq_true] at h;exact fV.pm h.1
theorem lK.nm {p : Int} {l : List Int} (h : lK p l = true) : Nm p l:=by
  simp only [lK,Bool.and_eq_true,decide_eq_true_eq] at h;exact h.2.2
theorem lK.len {p : Int} {l : List Int} (h : lK p l = true) : 1 ≤ l.length∧l.length ≤ 24:=by
  simp only [lK,Bool.and_eq_true,decide_eq_true_eq] at h;exact h.2.1
theorem lK.Gd {p : Int} {l : List Int} (h : lK p l = true) : fV p = true:=by
  simp only [lK,Bool.and_eq_true] at h;exact h.1
theorem oo (p : Int) (l : List Int) (hl : Sm l.length) : Ev (fun k=>jQ.f k p l) (lK p l):=by
  unfold jQ.f lK
  refine Ev.bind (BS p) ?_
  by_cases hp : fV p = true
  · rw [hp,Bool.true_and]
    refine Ev.pos rfl ?_
    by_cases h1 : 1 ≤ l.length
    · refine Ev.pos (by omega) ?_
      by_cases h2 : l.length ≤ 24
      · refine Ev.pos (by omega) (Ev.bind (OH (fV.pm hp) l hl) (Ev.mM ?_))
        rw [decide_eq_true (⟨h1,h2⟩ : 1 ≤ l.length∧l.length ≤ 24),Bool.true_and]
      · exact Ev.neg (by omega) (Ev.mM (by simp [h2]))
    · exact Ev.neg (by omega) (Ev.mM (by simp [h1]))
  · rw [Bool.eq_false_iff.2 hp,Bool.false_and]
    exact Ev.neg (by simp) (Ev.now _)
theorem qL (p : Int) (l : List Int) (hl : Sm l.length) : Ev (fun k=>dA.f k p l) (lK p l):=by
  unfold dA.f lK
  refine Ev.bind (yg p) ?_
  by_cases hp : fV p = true
  · rw [hp,Bool.true_and]
    refine Ev.pos rfl (Ev.kQ (a:=(l.length : Int)) rfl (Ev.kQ (Dp _ _ _) ?_))
    by_cases h : 1 ≤ l.length∧l.length ≤ 24
    · refine Ev.pos (decide_eq_true (by omega)) (Ev.kQ (a:=p) rfl (Ev.kQ (Hd p l (by unfold Sm at hl;omega)) (Ev.mM ?_)))
      rw [decide_eq_true h,Bool.true_and]
    · refine Ev.neg (by simp;omega) (Ev.mM ?_)
      rw [decide_eq_false h,Bool.false_and]
  · rw [Bool.eq_false_iff.2 hp,Bool.false_and]
    exact Ev.neg (by simp) (Ev.now _)
theorem yL (p : Int) (l : List Int) (hl : Sm l.length) (b : Bool) (ls : List (List Int)) (hs : Sm ls.length) (hls : ∀ l ∈ ls,Sm l.length) :
    Ev (fun k=>iX.f k p l b ls) (if lK p l && ls.all (vZ p) then (if b then 0 else 2) else 1):=by
  unfold iX.f
  refine Ev.bind (qL p l hl) ?_
  by_cases h : lK p l = true
  · rw [h,Bool.true_and]
    refine Ev.pos rfl (Ev.bind (Mt p b ls hs hls) (Ev.mM ?_))
    rw [lK.Gd h,Bool.true_and]
  · rw [Bool.eq_false_iff.2 h,Bool.false_and]
    exact Ev.neg (by simp) (Ev.mM rfl)
/- Small facts of lists, copies and polynomials; no condition. -/
theorem Z8 (p : Int) (m l : List Int) (hl : Sm l.length) : kv.f p m l = some (p,l):=by
  unfold kv.f kw.f
  rw [if_pos (by unfold Sm at hl;omega)];rfl
/- AddMoments: for all arguments the program and the reference come to one value; no condition. -/
/-- l and k times m together, number by number. -/
def zm (p : Int) (l m : List Int) (k : Int) (n : Nat) : List Int:=(List.range n).map fun i=>(l.getD i 0 + k * m.getD i 0) % p
theorem nC (p : Int) (l m : List Int) (k : Int) (n : Nat) : (zm p l m k n).length = n:=by simp [zm]
theorem I8 (p : Int) (l m : List Int) (k : Int) (n : Nat) : zm p l m k (n + 1) = zm p l m k n ++ [(l.getD n 0 + k * m.getD n 0) % p]:=by
  simp [zm,List.range_succ]
theorem OI {p k : Int} (hp : Pm p) (hk : 0 ≤ k∧k < p) (l m : List Int) (hl : Nm p l) (hm : Nm p m) (hlm : l.length = m.length) (hs : Sm l.length) (d : Nat) : ∀ i,i + d = l.length →
    Ev (fun n=>bM.l0 n k (i : Int) p l p m p (zm p l m k i)) (p,zm p l m k l.length,0):=by
  induction d with
  | zero =>
    intro i hi
    refine Ev.step (fun n=>by rw [bM.l0]) ?_
    refine Ev.neg (by omega) (Ev.mM ?_)
    rw [show i = l.length from by omega]
  | succ d ih =>
    intro i hi
    unfold Sm at hs
    have h1:=hl.get (i:=i) (by omega)
    have h2:=hm.get (i:=i) (by omega)
    have h3:=Bj hp hk.1 hk.2 h2.1 h2.2
    have ht:=hp.top
    refine Ev.step (fun n=>by rw [bM.l0]) ?_
    refine Ev.pos (by omega) (Ev.pos (by omega) (Ev.pos (by omega) (Ev.neg hp.ne (Ev.pos (by rw [nC];omega) ?_))))
    rw [lW (i:=i) (n:=l.length) (by omega) (by omega),ma,ma,dQ (x:=k * m.getD i 0) (by omega) (by omega),dQ (by omega) (by omega),j6 (by omega),← I8]
    exact ih (i + 1) (by omega)
theorem OJ {p k : Int} (hp : Pm p) (hk : 0 ≤ k∧k < p) (l m : List Int) (hl : Nm p l) (hm : Nm p m) (hlm : l.length = m.length) (hs : Sm l.length) (d : Nat) : ∀ i,i + d = l.length →
    Ev (fun n=>bL.l0 n k m (m.length : Int) (i : Int) p l p (zm p l m k i ++ l.drop i)) (p,zm p l m k l.length,0):=by
  induction d with
  | zero =>
    intro i hi
    refine Ev.step (fun n=>by rw [bL.l0]) ?_
    refine Ev.neg (by omega) (Ev.mM ?_)
    rw [show i = l.length from by omega,List.drop_length,List.append_nil]
  | succ d ih =>
    intro i hi
    unfold Sm at hs
    have h1:=hl.get (i:=i) (by omega)
    have h2:=hm.get (i:=i) (by omega)
    have h3:=Bj hp hk.1 hk.2 h2.1 h2.2
    have ht:=hp.top
    have hlen : (zm p l m k i ++ l.drop i).length = l.length:=by rw [List.length_append,nC,List.length_drop];omega
    have hg : (zm p l m k i ++ l.drop i).getD i 0 = l.getD i 0:=by
      rw [List.getD_eq_getElem?_getD,List.getElem?_append_right (by rw [nC];omega),nC,Nat.sub_self,List.getElem?_drop,List.getD_eq_getElem?_getD];rfl
    refine Ev.step (fun n=>by rw [bL.l0]) ?_
    refine Ev.pos (by omega) (Ev.pos (by omega) (Ev.pos (by omega) (Ev.kQ (a:=p) rfl (Ev.pos (by rw [hlen];omega) (Ev.kQ (DC hp _) ?_)))))
    rw [lW (i:=i) (n:=l.length) (by omega) (by omega),ma,ma,hg,dQ (x:=k * m.getD i 0) (by omega) (by omega),dQ (by omega) (by omega)]
    have e : (zm p l m k i ++ l.drop i).set ((i : Int)).toNat ((l.getD i 0 + k * m.getD i 0) % p) = zm p l m k (i + 1) ++ l.drop (i + 1):=by
      rw [mZ,List.set_append_right (h:=by rw [nC];omega),nC,Nat.sub_self,List.drop_eq_getElem_cons (by omega),List.set_cons_zero,I8,List.append_assoc]
      rfl
    rw [e]
    exact ih (i + 1) (by omega)
theorem He (p : Int) (l : List Int) (q : Int) (m : List Int) (k : Int) (hl : Sm l.length) (hm : Sm m.length) :
    ∃ v : Int × List Int × Int,Ev (fun n=>bM.f n p l q m k) v∧Ev (fun n=>bL.f n p l q m k) v∧Sm v.2.1.length ∧
      (v.2.2 = 0 → lK p l = true∧lK q m = true∧p = q∧l.length = m.length∧(0 ≤ k∧k < p)∧v = (p,zm p l m k l.length,0)):=by
  by_cases h : (lK p l && lK q m) = true
  · have h1 : lK p l = true:=by simp only [Bool.and_eq_true] at h;exact h.1
    have h2 : lK q m = true:=by simp only [Bool.and_eq_true] at h;exact h.2
    have hp:=lK.pm h1
    have ht:=hp.top
    have h2':=hp.two
    by_cases e : p = q∧l.length = m.length∧(0 ≤ k∧k < p)
    · obtain ⟨rfl,hlm,hk⟩:=e
      refine ⟨(p,zm p l m k l.length,0),?_,?_,by rw [nC];exact hl,fun _=>⟨h1,h2,rfl,hlm,hk,rfl⟩⟩
      · unfold bM.f
        refine Ev.bind (oo p l hl) (Ev.pos h1 (Ev.bind (oo p m hm) ?_))
        rw [h2]
        refine Ev.step (fun n=>by rw [bM.j0]) ?_
        refine Ev.neg (by decide) (Ev.pos rfl (Ev.pos (by omega) (Ev.kQ (Eu _ _ _) ?_)))
        rw [dQ (by omega) (by omega)]
        refine Ev.pos (decide_eq_true (by omega)) ?_
        exact OI hp hk l m (lK.nm h1) (lK.nm h2) hlm hl l.length 0 (by omega)
      · unfold bL.f
        refine Ev.bind (qL p l hl) (Ev.pos h1 (Ev.bind (qL p m hm) ?_))
        rw [h2]
        refine Ev.step (fun n=>by rw [bL.j0]) ?_
        refine Ev.neg (by decide) (Ev.pos rfl (Ev.pos (by omega) (Ev.kQ (a:=p) rfl (Ev.kQ (has_eq _ _) (Ev.pos (decide_eq_true hk) (Ev.kQ (Z8 p l l hl) ?_))))))
        exact OJ hp hk l m (lK.nm h1) (lK.nm h2) hlm hl l.length 0 (by omega)
    · refine ⟨(0,[],2),?_,?_,Sm0,fun g=>absurd g (by decide)⟩
      · unfold bM.f
        refine Ev.bind (oo p l hl) (Ev.pos h1 (Ev.bind (oo q m hm) ?_))
        rw [h2]
        refine Ev.step (fun n=>by rw [bM.j0]) ?_
        refine Ev.neg (by decide) ?_
        by_cases e1 : p = q
        · refine Ev.pos e1 ?_
          by_cases e2 : l.length = m.length
          · refine Ev.pos (by omega) (Ev.kQ (Eu _ _ _) ?_)
            rw [dQ (by omega) (by omega)]
            exact Ev.neg (by simp only [decide_eq_true_eq];omega) (Ev.now _)
          · exact Ev.neg (by omega) (Ev.now _)
        · exact Ev.neg e1 (Ev.now _)
      · unfold bL.f
        refine Ev.bind (qL p l hl) (Ev.pos h1 (Ev.bind (qL q m hm) ?_))
        rw [h2]
        refine Ev.step (fun n=>by rw [bL.j0]) ?_
        refine Ev.neg (by decide) ?_
        by_cases e1 : p = q
        · refine Ev.pos e1 ?_
          by_cases e2 : l.length = m.length
          · refine Ev.pos (by omega) (Ev.kQ (a:=p) rfl (Ev.kQ (has_eq _ _) ?_))
            exact Ev.neg (by simp only [decide_eq_true_eq];omega) (Ev.now _)
          · exact Ev.neg (by omega) (Ev.now _)
        · exact Ev.neg e1 (Ev.now _)
  · refine ⟨(0,[],1),?_,?_,Sm0,fun g=>absurd g (by decide)⟩
    · unfold bM.f
      refine Ev.bind (oo p l hl) ?_
      by_cases h1 : lK p l = true
      · refine Ev.pos h1 (Ev.bind (oo q m hm) ?_)
        rw [show lK q m = false from by rw [h1,Bool.true_and] at h;exact Bool.eq_false_iff.2 h]
        refine Ev.step (fun n=>by rw [bM.j0]) ?_
        exact Ev.pos rfl (Ev.now _)
      · refine Ev.neg h1 ?_
        refine Ev.step (fun n=>by rw [bM.j0]) ?_
        exact Ev.pos rfl (Ev.now _)
    · unfold bL.f
      refine Ev.bind (qL p l hl) ?_
      by_cases h1 : lK p l = true
      · refine Ev.pos h1 (Ev.bind (qL q m hm) ?_)
        rw [show lK q m = false from by rw [h1,Bool.true_and] at h;exact Bool.eq_false_iff.2 h]
        refine Ev.step (fun n=>by rw [bL.j0]) ?_
        exact Ev.pos rfl (Ev.now _)
      · refine Ev.neg h1 ?_
        refine Ev.step (fun n=>by rw [bL.j0]) ?_
        exact Ev.pos rfl (Ev.now _)
/- What the functional makes of a polynomial: one sum modulo p, in the program and in the reference. -/
/-- The functional at f times x^s. -/
def xu (p : Int) (m f : List Int) (s : Nat) : Int:=sumTo (fun j=>f.getD j 0 * m.getD (j + s) 0) f.length % p

theorem KI {p : Int} (hp : Pm p) (m f : List Int) (hm : Nm p m) (hf : Nm p f) (s : Nat) (hs : f.length + s ≤ m.length ∨ f = []) (hl : Sm f.length) (hss : Sm s) (d : Nat) : ∀ i,i + d = f.length →
    Ev (fun k=>iA.l0 k f (s : Int) (sumTo (fun j=>f.getD j 0 * m.getD (j + s) 0) i % p) (i : Int) p m) (xu p m f s):=by
  induction d with
  | zero =>
    intro i hi
    refine Ev.step (fun k=>by rw [iA.l0]) ?_
    refine Ev.neg (by omega) (Ev.mM ?_)
    unfold xu
    rw [show i = f.length from by omega]
  | succ d ih =>
    intro i hi
    have hs' : f.length + s ≤ m.length:=by
      rcases hs with h | h
      · exact h
      · rw [h] at hi;simp at hi
    unfold Sm at hl hss
    have h1:=hf.get (i:=i) (by omega)
    have h2:=hm.get (i:=i + s) (by omega)
    have h3:=Bj hp h1.1 h1.2 h2.1 h2.2
    have h4:=nI hp.pos (sumTo (fun j=>f.getD j 0 * m.getD (j + s) 0) i)
    have ht:=hp.top
    refine Ev.step (fun k=>by rw [iA.l0]) ?_
    refine Ev.pos (by omega) (Ev.pos (by omega) ?_)
    rw [XK (i:=i) (j:=s) (n:=i + s + 1) (by omega) (by omega)]
    refine Ev.pos (by omega) (Ev.pos (by omega) (Ev.neg hp.ne ?_))
    rw [ma,ma,dQ (x:=f.getD i 0 * m.getD (i + s) 0) (by omega) (by omega),dQ (by omega) (by omega),j6 (by omega),Int.emod_add_emod,lW (i:=i) (n:=f.length) (by omega) (by omega)]
    exact ih (i + 1) (by omega)
theorem Jz {p : Int} (hp : Pm p) (m f : List Int) (hm : Nm p m) (hf : Nm p f) (s : Nat) (hs : f.length + s ≤ m.length ∨ f = []) (hl : Sm f.length) (hss : Sm s) :
    Ev (fun k=>iA.f k p m f (s : Int)) (xu p m f s):=by
  unfold iA.f
  have h:=KI hp m f hm hf s hs hl hss f.length 0 (by omega)
  simpa [sumTo] using h

theorem KJ {p : Int} (hp : Pm p) (m f : List Int) (hm : Nm p m) (hf : Nm p f) (hs : f.length ≤ m.length) (hl : Sm f.length) (d : Nat) : ∀ i,i + d = f.length →
    Ev (fun k=>cz.l0 k (sumTo (fun j=>f.getD j 0 * m.getD j 0) i % p) f (f.length : Int) (i : Int) p m) (xu p m f 0):=by
  induction d with
  | zero =>
    intro i hi
    refine Ev.step (fun k=>by rw [cz.l0]) ?_
    refine Ev.neg (by omega) (Ev.mM ?_)
    unfold xu
    rw [show i = f.length from by omega]
    rfl
  | succ d ih =>
    intro i hi
    unfold Sm at hl
    have h1:=hf.get (i:=i) (by omega)
    have h2:=hm.get (i:=i) (by omega)
    have h3:=Bj hp h1.1 h1.2 h2.1 h2.2
    have h4:=nI hp.pos (sumTo (fun j=>f.getD j 0 * m.getD j 0) i)
    have ht:=hp.top
    refine Ev.step (fun k=>by rw [cz.l0]) ?_
    refine Ev.pos (by omega) (Ev.pos (by omega) (Ev.pos (by omega) (Ev.kQ (a:=p) rfl (Ev.pos (by omega) (Ev.kQ (DC hp _) ?_)))))
    rw [ma,ma,dQ (x:=f.getD i 0 * m.getD i 0) (by omega) (by omega),dQ (by omega) (by omega),Int.emod_add_emod,lW (i:=i) (n:=f.length) (by omega) (by omega)]
    exact ih (i + 1) (by omega)
theorem JA {p : Int} (hp : Pm p) (m f : List Int) (hm : Nm p m) (hf : Nm p f) (hs : f.length ≤ m.length) (hl : Sm f.length) :
    Ev (fun k=>cz.f k p m f) (xu p m f 0):=by
  unfold cz.f
  have h:=KJ hp m f hm hf hs hl f.length 0 (by omega)
  simpa [sumTo] using h
/- Lists without noughts at their end; no condition. -/
theorem Yl {p : Int} (hp : Pm p) (x : Int) : lY.f p x = some (x % p):=by
  unfold lY.f
  rw [if_neg hp.ne,JS hp]

/-! ### noughts at the end -/
theorem I9 (l : List Int) (x : Int) (m : List Int) : ((l ++ [x]) ++ m).getD l.length 0 = x:=by
  rw [List.append_assoc,List.getD_eq_getElem?_getD,List.getElem?_append_right (Nat.le_refl _),Nat.sub_self];rfl
theorem Mv (l : List Int) : Sm l.length → Ev (fun k=>iw.l0 k l) (ny l):=by
  induction l using KE with
  | h0 =>
    intro _
    refine Ev.step (fun k=>by rw [iw.l0]) ?_
    exact Ev.neg (by simp) (Ev.now _)
  | h1 l x ih =>
    intro hl
    have hn : (l ++ [x]).length = l.length + 1:=by simp
    rw [hn] at hl
    unfold Sm at hl
    have e : wrap64 (((l ++ [x]).length : Int) - 1) = (l.length : Int):=by rw [hn,dQ (by omega) (by omega)];omega
    have er : rd (l ++ [x]) (l.length : Int) = x:=by
      rw [ma];have:=I9 l x [];rwa [List.append_nil] at this
    refine Ev.step (fun k=>by rw [iw.l0]) ?_
    rw [e,er]
    refine Ev.pos (by omega) (Ev.pos (by omega) (Ev.pos (by omega) ?_))
    by_cases hx : x = 0
    · refine Ev.pos hx (Ev.pos (by omega) ?_)
      rw [mZ,List.take_left,hx,rF]
      exact ih (by unfold Sm;omega)
    · refine Ev.neg hx (Ev.mM ?_)
      rw [uS l hx]
theorem Ey (l : List Int) (hl : Sm l.length) : Ev (fun k=>iw.f k l) (ny l):=by
  unfold iw.f
  exact Mv l hl
theorem Mw (l : List Int) : ∀ m : List Int,Sm (l ++ m).length → Ev (fun k=>dV.l0 k (l ++ m) (l.length : Int)) (ny l):=by
  induction l using KE with
  | h0 =>
    intro m hl
    refine Ev.step (fun k=>by rw [dV.l0]) ?_
    refine Ev.neg (by simp) (Ev.pos (by simp) (Ev.pos (by simp) (Ev.kQ (JQ _ (hl.take _)) (Ev.mM ?_))))
    simp [Gy]
  | h1 l x ih =>
    intro m hl
    have hn : (l ++ [x]).length = l.length + 1:=by simp
    have hl':=hl
    rw [List.length_append,hn] at hl'
    have hm : (l ++ [x] ++ m).length = l.length + 1 + m.length:=by rw [List.length_append,hn]
    unfold Sm at hl'
    have e : wrap64 (((l ++ [x]).length : Int) - 1) = (l.length : Int):=by rw [hn,dQ (by omega) (by omega)];omega
    have er : rd ((l ++ [x]) ++ m) (l.length : Int) = x:=by
      rw [ma];exact I9 l x m
    refine Ev.step (fun k=>by rw [dV.l0]) ?_
    rw [e,er]
    refine Ev.pos (by omega) (Ev.pos (by omega) (Ev.pos (by omega) ?_))
    by_cases hx : x = 0
    · refine Ev.pos hx ?_
      have:=ih ([x] ++ m) (by rw [← List.append_assoc];exact hl)
      rw [← List.append_assoc] at this
      rw [hx,rF]
      rw [hx] at this
      exact this
    · refine Ev.neg hx (Ev.pos (by omega) (Ev.pos (by omega) (Ev.kQ (JQ _ (hl.take _)) (Ev.mM ?_))))
      rw [mZ,List.take_left,uS l hx]
theorem Ew (l : List Int) (hl : Sm l.length) : Ev (fun k=>dV.f k l) (ny l):=by
  unfold dV.f
  have:=Mw l [] (by rw [List.append_nil];exact hl)
  rwa [List.append_nil] at this
theorem Le (l : List Int) : (ny l).length ≤ l.length:=by
  obtain ⟨n,h⟩:=Gx l
  have:=congrArg List.length h
  rw [List.length_append] at this
  omega
theorem Nm.ny {p : Int} {l : List Int} (h : Nm p l) : Nm p (ny l):=by
  obtain ⟨n,e⟩:=Gx l
  intro x hx
  refine h x ?_
  rw [e]
  exact List.mem_append_left _ hx
end Go.Proofs.Ytilbjbahmilhkaa.Pr
