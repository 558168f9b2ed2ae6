/- Texts of this session in one: what functions of the program compute, and plain facts of it, under the conditions that each theorem names. -/
import Derived.Below
import Derived.ChangeOld
import Derived.OpenShut
import Derived.ProofKit
import Derived.ShutString
import Derived.SizedLaws
import Derived.Test.YtnpepkpogohcmaaRows
import Derived.WalkKit
import Derived.Test.YtnpepkpogohcmaaKFimplExpandPolynomial
import Derived.Test.YtnpepkpogohcmaaKFimplSumOfExpansion
import Derived.Test.YtnpepkpogohcmaaKFspecl02Bad
import Derived.Test.YtnpepkpogohcmaaKtExpansions1
import Derived.Test.YtnpepkpogohcmaaKtExpansions2
import Derived.Test.YtnpepkpogohcmaaKtExpansions3
import Derived.Test.YtnpepkpogohcmaaKtExpansions4
import Derived.Test.YtnpepkpogohcmaaKtExpansions5
import Derived.Test.YtnpepkpogohcmaaKWSized
import Derived.Test.YtnpepkpogohcmaaKXBExp
import Derived.Test.YtnpepkpogohcmaaKXBSumE
namespace Go.Proofs.Ytnpepkpogohcmaa.Pr
open Go.RowKit Go.Proofs.YtnpepkpogohcmaaW.PrintWords Go.Proofs.YtnpepkpogohcmaaW.PrintLast Go.Proofs.YtnpepkpogohcmaaW.PrintMore
attribute [local go_sem] tN tO wJ wK qL qM tQ tT   -- for this text's walks alone
set_option linter.unusedVariables false
set_option maxHeartbeats 8000000
set_option maxRecDepth 100000
set_option linter.unusedSimpArgs false
/-! ### nG: function 46 -/
def nG.f (k : Nat) (bX : List Int) (gH : Int) (gP : Int) : Option (Int × List Int × Int × Int):=(ou.f k bX gH gP).bind fun QI=>((ig.f k bX QI.2.2.1 QI.2.2.2 QI.1 QI.2.1).bind fun QJ=>(some (QJ.1,QJ.2.1,QJ.2.2.1,QJ.2.2.2)))
theorem nG.calls (k : Nat) (g : Nat) (bX : List Int) (gH : Int) (gP : Int) (r1 : Int) (r2 : List Int) (r3 : Int) (r4 : Int) (w0 w : World) (hI : au w0 w g bX gH gP) (hB : Below w0.heap.size w0 w) (H : nG.f k bX gH gP = some (r1,r2,r3,r4)) :
  Calls Try.prog 46 #[.pointer (some ⟨g,0,none⟩)] w fun e w'=>∃ v1_ : Value,e = .returned (.agg #[.int .i64 r1,v1_])∧Kd.R (Kd.int .i64) 2 w' w.heap.size (fun _=>True) v1_ r2∧au w0 w' g bX r3 r4∧Below w0.heap.size w0 w'∧aC w w' g none:=by
 have uD:=Try.underlying26;have HI0:=zA hI;have:=geI (zA (au.ge HI0.out));have HK:=zA (aC.refl w g none);have HL:=zA hB.size;clear hI;have HW0:=zA hB.size;have HB:=zA hB;clear hB;unfold nG.f at H;replace H:=bO H;obtain ⟨⟨Mj,IZ,fF,aiS⟩,A2,H⟩:=H;(try dsimp only at H);replace H:=bO H;obtain ⟨⟨ZW,zY,asi,fO⟩,A3,H⟩:=H;(try dsimp only at H);simp only [Option.some.injEq,Prod.mk.injEq] at H;obtain ⟨rfl,rfl,rfl,rfl⟩:=H;go_enter Try.func46,Try.ntmps46;go_wp2_with (first | ((with_reducible refine aT (N:=2) rfl ?_);refine bx 2 #[.int .i64 0,.slice none 0 0] 26 ?_;intro bG hg w4 hbox hb;replace HB:=zA (cK (uH HB.out) hb);have aQ:=zA (hbox);have Vb:=zA ((by rw [hg];exact (fC (w:=w) (g:=g) (row:=none) (uK HK.out)) : w.heap.size ≤ bG));have:=geI Vb;have Vd:=zA ((Nat.le_trans HW0.out (by rw [hg];exact (fC (w:=w) (g:=g) (row:=none) (uK HK.out)) : w.heap.size ≤ bG) : w0.heap.size ≤ bG));replace HK:=zA (aC.trans (uK HK.out) (aC.of_below hb g none) (.inl rfl));have QK:=zA ((by rw [hg];exact Nat.ne_of_lt (au.lt (show au w0 _ g bX gH gP from uI HI0.out)) : g ≠ bG));have:=neI QK;have FQ:=zA ((by rw [hg];exact Nat.ne_of_gt (au.lt (show au w0 _ g bX gH gP from uI HI0.out)) : bG ≠ g));have:=neI FQ;replace HI0:=zA (au.below (uI HI0.out) hb);have:=geI Vd;clear hb hbox hg) | ((with_reducible refine ag (f:=77) rfl ?_);refine gL (some 5) Try.func77 #[.pointer (some ⟨g,0,none⟩)] ?_;(with_reducible refine (ou.calls k g bX gH gP Mj IZ fF aiS w0 _ ?side1 ?side2 A2.out).mono ?_);(case side1=>exact uI HI0.out);(case side2=>exact uH HB.out);rintro e w5 ⟨ayC,rfl,ho0,hi,hb,hk⟩;refine ⟨_,rfl,?_⟩;replace aQ:=zA (aC.blk hk (g':=bG) (o:=.cells #[.int .i64 0,.slice none 0 0] 26 (0,0)) (uB aQ.out) FQ.out (by simp));have Jt:=zA (Kd.aX ho0 (fC (w:=w) (g:=g) (row:=none) (uK HK.out)));replace HK:=zA (aC.trans (uK HK.out) hk (.inl rfl));replace HB:=zA (hb);replace HI0:=zA (hi);(try clear hb);(try clear hk);(try clear hi);(try clear ho0);obtain ⟨Ao6,co6,eo6⟩:=Kd.bB Jt.out;subst eo6) | ((with_reducible refine ag (f:=76) rfl ?_);refine gL (some 6) Try.func76 #[.pointer (some ⟨g,0,none⟩),.agg #[.int .i64 Mj,.slice Ao6 IZ.length co6]] ?_;(with_reducible refine (ig.calls k g bX fF aiS Mj (fun k_=>some k_ = (.slice Ao6 IZ.length co6 : Value).ownBlock) (.slice Ao6 IZ.length co6) IZ ZW zY asi fO w0 _ ?side1 ?side2 ?side3 A3.out).mono ?_);(case side1=>exact uI HI0.out);(case side2=>exact uH HB.out);(case side3=>exact Kd.aX (Kd.xW rfl Jt.out) HL.out);rintro e w7 ⟨ayD,rfl,ho0,hi,hb,hkp⟩;refine ⟨_,rfl,?_⟩;replace HI0:=zA (hi);replace aQ:=zA (Mk (uB aQ.out) hkp (fun hs_=>Or.elim hs_ (fun hs_=>(fun e_=>(Kd.rC Jt.out aQ.out (by decide)) e_) hs_) (fun e_=>FQ.out e_)));have acu:=zA (Kd.ah (ok':=fun k_=>True) (Kd.ZX (d:=(Kd.int .i64)) (b:=w0.heap.size) (b':=w.heap.size) (fun _ _ _ _ h_=>h_) ho0 (fun k_ e_=>Or.elim (ho0.1 k_ e_) (fun hs_=>(fun e_=>Kd.aG Jt.out k_ e_.symm) hs_) (fun hn_=>Nat.le_trans (fC (w:=w) (g:=g) (row:=none) (uK HK.out)) hn_))) (fun k_ hk_=>trivial));replace HK:=zA (Kept.aiT (uK HK.out) hkp (fun k_ hs_=>Or.elim hs_ (fun hs_=>(fun e_=>.inr (Kd.aG Jt.out k_ e_.symm)) hs_) (fun e_=>.inl e_)));replace HB:=zA (hb);clear Jt;(try clear hb);(try clear hkp);(try clear ho0);have asj:=FQ.out;have asl:=QK.out;have y8:=bc aQ 0;have y9:=bc aQ 1;have zZ:=bf aQ 0;have za:=bf aQ 1;obtain ⟨aeF,aeG,asn⟩:=Kd.bB acu.out;subst asn));refine bodyPost_ret (results_cell_row rfl _ _ bG 26 #[.int .i64 ZW,.slice aeF zY.length aeG] (0,0) _ rfl (by (repeat refine up1 ?_);refine bV (cs:=#[.int .i64 ZW,.slice none 0 0]) ?_ 1 _ rfl;(repeat refine up1 ?_);refine bV (cs:=#[.int .i64 0,.slice none 0 0]) ?_ 0 _ rfl;(repeat refine up1 ?_);exact aQ.out) Try.underlying26 rfl (by kernel_rfl)) rfl ?_;exact ⟨_,eX,uR (Kd.ah (Kd.bW (p:=⟨bG,1,none⟩) (Kd.bW (p:=⟨bG,0,none⟩) (Kd.dE acu.out aQ.out (by decide)) (fun _ hk=>hk.2) (.int .i64 ZW)) (fun _ hk=>hk.2) (.slice aeF zY.length aeG)) (fun _ hk=>trivial)),uI HI0.out,uH HB.out,uK HK.out⟩
/-! ### iw: function 57 -/
def iw.j0 : Nat → Int → Bool → List Int → Int → Int → Int → List Int → Option (Int × List Int × Int)
 | 0,_,_,_,_,_,_,_=>none
 | k + 1,x6,x23,FR,QL,QM,Kh,Ki=>if x23 = true then ((je.f k Kh Ki).bind fun Tx=>((aY.f FR QL QM (wrap64 ((mn x6 Tx) + 1))).bind fun Ve=>((aY.f FR Ve.2.1 Ve.2.2 24).bind fun aiU=>(some (Kh,Ki,wrap64 (Ve.1 + (wrap64 (Int.tdiv aiU.1 23)))))))) else ((aY.f FR QL QM (wrap64 (x6 + 1))).bind fun Vf=>((aY.f FR Vf.2.1 Vf.2.2 24).bind fun aiV=>(some (Kh,Ki,wrap64 (Vf.1 + (wrap64 (Int.tdiv aiV.1 23)))))))
def iw.f (k : Nat) (l0 : List Int) : Option (Int × List Int × Int):=(eF.f k l0).bind fun Ju=>((nG.f k Ju.1 Ju.2.1 Ju.2.2).bind fun zD=>((kI.f k zD.1 zD.2.1).bind fun aiW=>(if aiW = true then ((aY.f Ju.1 zD.2.2.1 zD.2.2.2 6).bind fun Vg=>(iw.j0 k (mn (mx (wrap64 ((zD.2.1.length : Int) / 2)) 0) 12) (decide (Vg.1 > 0)) Ju.1 Vg.2.1 Vg.2.2 zD.1 zD.2.1)) else (iw.j0 k (mn (mx (wrap64 ((zD.2.1.length : Int) / 2)) 0) 12) false Ju.1 zD.2.2.1 zD.2.2.2 zD.1 zD.2.1))))
def iw.T6 : Bool × List (List Nat × List Nat):=(true,[([],[]),([],[]),([],[]),([2],[2]),([1,3],[1,3]),([],[]),([5,4],[5]),([6],[6]),([4,7],[4,7]),([0,6,0],[0]),([8,9,0,1,2,3,4,5,6,7,8,9],[8])])
def iw.B6 : List Nat:=[0,0,0,4,14,0,62,126,254,127,1023]
theorem iw.LW : mf .any (opsOf Try.f57 6) = iw.T6:=by kernel_rfl
theorem iw.ES : jP iw.T6.2 iw.B6 = true:=by kernel_rfl
theorem iw.calls (k : Nat) (A0 : Option Addr) (c0 : Nat) (l0 : List Int) (r1 : Int) (r2 : List Int) (r3 : Int) (w : World) (hr0 : Kd.C (Kd.int .u8) w A0 l0.length l0) (hc0 : l0.length ≤ c0) (H : iw.f k l0 = some (r1,r2,r3)) :
  Calls Try.prog 57 #[.slice A0 l0.length c0] w fun e w'=>∃ v1_ : Value,e = .returned (.tuple #[.agg #[.int .i64 r1,v1_],.int .i64 r3])∧Kd.R (Kd.int .i64) 2 w' w.heap.size (fun _=>True) v1_ r2∧Below w.heap.size w w':=by
 have uD:=Try.underlying26;have HR0:=zA hr0;have HC0:=zA hc0;clear hr0 hc0;have HB:=zA (Below.refl w.heap.size w);unfold iw.f at H;replace H:=bO H;obtain ⟨⟨zQ,aiX,aiY⟩,A2,H⟩:=H;(try dsimp only at H);replace H:=bO H;obtain ⟨⟨rP,rF,Ml,Mm⟩,A3,H⟩:=H;(try dsimp only at H);obtain ⟨ji4,Mo⟩ : ∃ j_ : Int,(mx (wrap64 ((rF.length : Int) / 2)) 0) = j_:=⟨_,rfl⟩;(first | rw [Mo] at H | simp only [Mo] at H);(try rw [Mo] at A2);(try rw [Mo] at A3);(try (have awu : 0 ≤ ji4:=by (rw [← Mo];unfold mx;(repeat' split) <;> omega)));(try (have awv : 0 ≤ ji4:=by omega));have aww : (if (wrap64 ((rF.length : Int) / 2)) < 0 then 0 else (wrap64 ((rF.length : Int) / 2))) = ji4:=Mo;obtain ⟨ji5,tu⟩ : ∃ j_ : Int,(mn (ji4) 12) = j_:=⟨_,rfl⟩;(first | rw [tu] at H | simp only [tu] at H);(try rw [tu] at A2);(try rw [tu] at A3);have Mq : (if 12 < (ji4) then 12 else (ji4)) = ji5:=tu;have HC6:=zA H;clear H;go_enter Try.func57,Try.ntmps57;go_upto_region 4 with (first | ((with_reducible refine aT (N:=2) rfl ?_);refine bx 2 #[.int .i64 0,.slice none 0 0] 26 ?_;intro nM hg w7 hbox hb;have kJ:=zA (hbox);have aiZ:=gq HB hg;have:=geI aiZ;have ai0:=gq HB hg;replace HB:=xH HB hb;have:=geI ai0;clear hb hbox hg) | ((with_reducible refine ag (f:=47) rfl ?_);refine gL (some 8) Try.func47 #[.slice A0 l0.length c0] ?_;(with_reducible refine (eF.calls k _ _ l0 zQ aiX aiY w _ ?side1 ?side2 ?side3 A2.out).mono ?_);(case side1=>exact uH HB.out);(case side2=>exact HR0.out);(case side3=>exact HC0.out);rintro e w8 ⟨xy,rfl,hi,hb,hb2⟩;refine ⟨_,rfl,?_⟩;replace HB:=zA (hb);have mo:=zA (hi);have Ty:=zA (au.Er hi (dD (g:=nM) (o:=.cells #[.int .i64 0,.slice none 0 0] 26 (0,0)) (uB kJ.out) hb2) (by decide));have:=neI Ty;have uY:=zA (Ne.symm (au.Er hi (dD (g:=nM) (o:=.cells #[.int .i64 0,.slice none 0 0] 26 (0,0)) (uB kJ.out) hb2) (by decide)));have:=neI uY;replace kJ:=xB kJ hb2;(try clear hb);(try clear hb2);(try clear hk);(try clear hi)) | ((with_reducible refine ag (f:=46) rfl ?_);refine gL (some 10) Try.func46 #[.pointer (some ⟨xy,0,none⟩)] ?_;(with_reducible refine (nG.calls k xy zQ aiX aiY rP rF Ml Mm w _ ?side1 ?side2 A3.out).mono ?_);(case side1=>exact uI mo.out);(case side2=>exact uH HB.out);rintro e w9 ⟨ayE,rfl,ho0,hi,hb,hk⟩;refine ⟨_,rfl,?_⟩;replace kJ:=zA (aC.blk hk (g':=nM) (o:=.cells #[.int .i64 0,.slice none 0 0] 26 (0,0)) (uB kJ.out) uY.out (by simp));have xz:=zA (Kd.aX ho0 (af (uH HB.out)));replace HB:=zA (hb);replace mo:=zA (hi);(try clear hb);(try clear hb2);(try clear hk);(try clear hi);(try clear ho0)) | ((with_reducible refine aT (N:=5) rfl ?_);refine bx 5 #[.int .i64 0,.slice none 0 0] 26 ?_;intro ry hg w10 hbox hb;replace xz:=xR xz hb;have jK:=zA (hbox);have ai1:=zA ((by rw [hg];exact (af (uH HB.out)) : w.heap.size ≤ ry));have:=geI ai1;have ai2:=zA ((by rw [hg];exact (af (uH HB.out)) : w.heap.size ≤ ry));replace HB:=zA (cK (uH HB.out) hb);have nJ:=zA ((by rw [hg];exact neL kJ : nM ≠ ry));have:=neI nJ;have lD:=zA ((by rw [hg];exact neG kJ : ry ≠ nM));have:=neI lD;replace kJ:=xB kJ hb;have yJ:=zA ((by rw [hg];exact Nat.ne_of_lt (au.lt (show au w _ xy zQ Ml Mm from uI mo.out)) : xy ≠ ry));have:=neI yJ;have pY:=zA ((by rw [hg];exact Nat.ne_of_gt (au.lt (show au w _ xy zQ Ml Mm from uI mo.out)) : ry ≠ xy));have:=neI pY;replace mo:=zA (au.below (uI mo.out) hb);have:=geI ai2;clear hb hbox hg;have acv:=lD.out;have acw:=nJ.out;have Vh:=pY.out;have Vi:=yJ.out;have qR:=bc jK 0;have qU:=bc jK 1;have qV:=bf jK 0;have qW:=bf jK 1;obtain ⟨kL,kM,GZ⟩:=Kd.bB xz.out;subst GZ));(try simp only [Act.put,ls,lz,ln]);go_cut [23] (fun v23 wc=>∃ (kq : Nat) (Vj : Bool) (uZ : Int) (u6 : Int),v23 = .bool Vj∧aa (iw.j0 kq ji5 Vj zQ uZ u6 rP rF = some (r1,r2,r3))∧aa (kq ≤ k)∧aa (Kd.R (Kd.int .i64) 2 wc w.heap.size (fun _=>True) (.slice kL rF.length kM) rF)∧aa (wc.heap[nM]? = some (.cells #[.int .i64 0,(.slice none 0 0)] 26 (0,0)))∧aa (wc.heap[ry]? = some (.cells #[.int .i64 rP,(.slice kL rF.length kM)] 26 (0,0)))∧aa (au w wc xy zQ uZ u6)∧aa (Below w.heap.size w wc))
 case first =>
  have H:=HC6.out;clear HC6;replace H:=bO H;obtain ⟨aiW,A15,H⟩:=H;replace H:=gB H;obtain ⟨rfl,H⟩|⟨rfl,H⟩:=H
  ·replace H:=bO H;obtain ⟨⟨ai3,ai4,ai5⟩,A17,H⟩:=H;(try dsimp only at H);have H':=zA H;clear H;have ai6:=lD.out;have ai7:=nJ.out;have ai8:=pY.out;have ai9:=yJ.out;have QN:=bc jK 0;have QO:=bc jK 1;have QP:=bf jK 0;have QQ:=bf jK 1;go_wp2_with (first | ((with_reducible refine ag (f:=42) rfl ?_);refine gL (some 18) Try.func42 #[.agg #[.int .i64 rP,.slice kL rF.length kM]] ?_;(with_reducible refine (kI.calls k rP _ _ rF true _ ?side1 ?side2 A15.out).mono ?_);(case side1=>exact rc (uR ((rf2 xz jK (by decide) (.int .i64 rP) (.slice kL rF.length kM)))));(case side2=>exact (Kd.aM xz.out).2.1);rintro e w21 ⟨rfl,hb⟩;refine ⟨_,rfl,?_⟩;replace xz:=zA (Kd.pF (uR ((rf2 xz jK (by decide) (.int .i64 rP) (.slice kL rF.length kM)))) hb);replace kJ:=zA (dD (g:=nM) (o:=.cells #[.int .i64 0,.slice none 0 0] 26 (0,0)) (by (repeat refine up1 ?_);refine dG ?_ nJ.out _;(repeat refine up1 ?_);refine dG ?_ nJ.out _;(repeat refine up1 ?_);exact kJ.out) hb);replace jK:=zA (dD (g:=ry) (o:=.cells #[.int .i64 rP,.slice kL rF.length kM] 26 (0,0)) (by (repeat refine up1 ?_);refine bV (cs:=#[.int .i64 rP,.slice none 0 0]) ?_ 1 _ rfl;(repeat refine up1 ?_);refine bV (cs:=#[.int .i64 0,.slice none 0 0]) ?_ 0 _ rfl;(repeat refine up1 ?_);exact jK.out) hb);replace HB:=zA (cK (uH HB.out) hb);replace mo:=zA (au.below (show au w ((w10.setCell ⟨ry,0,none⟩ (.int .i64 rP)).setCell ⟨ry,1,none⟩ (.slice kL rF.length kM)) xy zQ Ml Mm from uI mo.out) hb);(try clear hb);(try clear hk);(try clear hi)) | (go_at_call 51;(with_reducible refine (aY.calls xy zQ Ml Mm 6 ai3 ai4 ai5 w _ ?side1 ?side2 A17.out).mono ?_);(case side1=>exact uI mo.out);(case side2=>exact uH HB.out);rintro e w22 ⟨rfl,hi,hb,hk⟩;replace kJ:=zA (aC.blk hk (g':=nM) (o:=.cells #[.int .i64 0,.slice none 0 0] 26 (0,0)) (uB kJ.out) uY.out (by simp));replace xz:=zA (Kd.ah (Kd.ky (au.apart (show au w _ xy zQ Ml Mm from uI mo.out) (uR xz.out) (by decide)) hk (fun _ h=>h.2)) (fun _ h=>h.1));replace jK:=zA (aC.blk hk (g':=ry) (o:=.cells #[.int .i64 rP,.slice kL rF.length kM] 26 (0,0)) (uB jK.out) pY.out (by simp));replace HB:=zA (hb);replace mo:=zA (hi);(try clear hb);(try clear hk);(try clear hi)));go_meet;(case rel=>exact ⟨_,(decide (ai3 > 0)),(ai4),(ai5),eS,H',⟨by first | omega | exact Nat.le_refl _⟩,⟨uR xz.out⟩,⟨uB kJ.out⟩,⟨uB jK.out⟩,⟨uI mo.out⟩,⟨uH HB.out⟩⟩)
  ·have H':=zA H;clear H;have aja:=lD.out;have ajb:=nJ.out;have Vk:=pY.out;have Vl:=yJ.out;have FT:=bc jK 0;have FU:=bc jK 1;have FV:=bf jK 0;have FW:=bf jK 1;go_wp2_with (first | ((with_reducible refine ag (f:=42) rfl ?_);refine gL (some 18) Try.func42 #[.agg #[.int .i64 rP,.slice kL rF.length kM]] ?_;(with_reducible refine (kI.calls k rP _ _ rF false _ ?side1 ?side2 A15.out).mono ?_);(case side1=>exact rc (uR ((rf2 xz jK (by decide) (.int .i64 rP) (.slice kL rF.length kM)))));(case side2=>exact (Kd.aM xz.out).2.1);rintro e w26 ⟨rfl,hb⟩;refine ⟨_,rfl,?_⟩;replace xz:=zA (Kd.pF (uR ((rf2 xz jK (by decide) (.int .i64 rP) (.slice kL rF.length kM)))) hb);replace kJ:=zA (dD (g:=nM) (o:=.cells #[.int .i64 0,.slice none 0 0] 26 (0,0)) (by (repeat refine up1 ?_);refine dG ?_ nJ.out _;(repeat refine up1 ?_);refine dG ?_ nJ.out _;(repeat refine up1 ?_);exact kJ.out) hb);replace jK:=zA (dD (g:=ry) (o:=.cells #[.int .i64 rP,.slice kL rF.length kM] 26 (0,0)) (by (repeat refine up1 ?_);refine bV (cs:=#[.int .i64 rP,.slice none 0 0]) ?_ 1 _ rfl;(repeat refine up1 ?_);refine bV (cs:=#[.int .i64 0,.slice none 0 0]) ?_ 0 _ rfl;(repeat refine up1 ?_);exact jK.out) hb);replace HB:=zA (cK (uH HB.out) hb);replace mo:=zA (au.below (show au w ((w10.setCell ⟨ry,0,none⟩ (.int .i64 rP)).setCell ⟨ry,1,none⟩ (.slice kL rF.length kM)) xy zQ Ml Mm from uI mo.out) hb);(try clear hb)));go_meet;(case rel=>exact ⟨_,(false),(Ml),(Mm),eS,H',⟨by first | omega | exact Nat.le_refl _⟩,⟨uR xz.out⟩,⟨uB kJ.out⟩,⟨uB jK.out⟩,⟨uI mo.out⟩,⟨uH HB.out⟩⟩)
 case rest =>
  clear HC6;(try clear c1);(try clear c2);(try clear p2);(try clear c4);(try clear c5);(try clear p6);(try clear c11);(try clear c12);(try clear c16);(try clear c18);(try clear c19);(try clear c23);(try clear c24);(try clear qR);(try clear qU);(try clear QN);(try clear QO);(try clear FT);(try clear FU);(try clear qV);(try clear qW);(try clear QP);(try clear QQ);(try clear FV);(try clear FW);obtain ⟨kq,Vj,uZ,u6,rfl,HA,HJ5,kz,kJ,jK,mo,HB⟩:=hcut
  cases kq with
  | zero=>exact absurd HA.out (by simp [iw.j0])
  | succ kj5 =>
   have H:=HA.out;clear HA;simp only [iw.j0] at H;replace H:=gB H;obtain ⟨rfl,H⟩|⟨rfl,H⟩:=H
   ·replace H:=bO H;obtain ⟨Tx,A28,H⟩:=H;obtain ⟨aeH,Jv⟩ : ∃ j_ : Int,(mn ji5 Tx) = j_:=⟨_,rfl⟩;(first | rw [Jv] at H | simp only [Jv] at H);(try rw [Jv] at A28);have aso : (if Tx < ji5 then Tx else ji5) = aeH:=Jv;replace H:=bO H;obtain ⟨⟨asq,aeI,aeJ⟩,A30,H⟩:=H;(try dsimp only at H);replace H:=bO H;obtain ⟨⟨asr,ass,ast⟩,A31,H⟩:=H;(try dsimp only at H);simp only [Option.some.injEq,Prod.mk.injEq] at H;obtain ⟨rfl,rfl,rfl⟩:=H;have ajc:=lD.out;have ajd:=nJ.out;have aje:=pY.out;have ajf:=yJ.out;have Cx:=bc jK 0;have Cy:=bc jK 1;have Cz:=bf jK 0;have CB:=bf jK 1;(try go_wp2_with (first | ((with_reducible refine ag (f:=83) rfl ?_);refine gL (some 26) Try.func83 #[.agg #[.int .i64 rP,.slice kL rF.length kM]] ?_;(with_reducible refine (je.calls kj5 rP _ _ rF Tx _ ?side1 ?side2 A28.out).mono ?_);(case side1=>exact uC ((Kd.aM kz.out).2.2));(case side2=>exact (Kd.aM kz.out).2.1);rintro e w35 ⟨rfl,hb⟩;refine ⟨_,rfl,?_⟩;replace kz:=xR kz hb;replace kJ:=xB kJ hb;replace jK:=xB jK hb;replace HB:=zA (cK (uH HB.out) hb);replace mo:=zA (au.below (uI mo.out) hb);(try clear hb))));replace kz:=zA (Kd.iV kz.out);replace kJ:=zA (eD kJ.out);replace jK:=zA (eD jK.out);replace mo:=zA (au.drew mo.out);replace HB:=zA (aZ HB.out);refine kF (n:=11) (S:=fun w'=>w'.cell? ⟨ry,0,none⟩ = some (.int .i64 rP)∧w'.cell? ⟨ry,1,none⟩ = some (.slice kL rF.length kM)) (ds:=[]) #[false,false,false,false,false,false,false,false,false,false,false] (by kernel_rfl) rfl rfl ⟨bcu jK 0,bcu jK 1⟩ (fun hHeld=>?_);refine gX iw.LW iw.ES (fun HT_ HW_=>?_);generalize w35.drew = w36 at kz kJ jK mo HB hHeld ⊢;refine pu_ 1 29 (bl 11 2) HT_ ?_;refine pu_ 2 30 (bl 11 6) HT_ ?_;refine pu_ 3 31 (bl 11 14) HT_ ?_;refine pu_ 5 33 (bl 11 46) HT_ ?_;refine ta_ 0 28 (bl 11 47) HT_ HW_ hHeld ?_;refine on_ 4 (some 32) (bl 11 63) HT_ (fun K hK=>?_);refine G5 Try.func51 (by kernel_rfl) rfl #[.pointer (some ⟨xy,0,none⟩),.int .i64 (wrap64 ((aeH) + 1))] (by rfl) rfl rfl (by (try simp only [la,lb,lc]);first | done | (simp only [Jv];rfl) | rfl | (simp only [ld,le];rfl)) ?_;(with_reducible refine (aY.calls xy zQ uZ u6 (wrap64 ((aeH) + 1)) asq aeI aeJ w _ ?side1 ?side2 A30.out).mono ?_);(case side1=>exact uI mo.out);(case side2=>exact uH HB.out);rintro e w37 ⟨rfl,hi,hb,hk⟩;refine ⟨_,rfl,?_⟩;replace kz:=zA (Kd.ah (Kd.ky (au.apart (show au w _ xy zQ uZ u6 from uI mo.out) (uR kz.out) (by decide)) hk (fun _ h=>h.2)) (fun _ h=>h.1));replace kJ:=zA (aC.blk hk (g':=nM) (o:=.cells #[.int .i64 0,.slice none 0 0] 26 (0,0)) (uB kJ.out) uY.out (by simp));replace jK:=zA (aC.blk hk (g':=ry) (o:=.cells #[.int .i64 rP,.slice kL rF.length kM] 26 (0,0)) (uB jK.out) pY.out (by simp));replace HB:=zA (hb);replace mo:=zA (hi);(try clear hb);refine hK.out _ _ ⟨bcu jK 0,bcu jK 1⟩ (fun hHeld=>?_);clear hK K;refine no_ 32 ?_;refine on_ 6 (some 34) (bl 11 127) HT_ (fun K hK=>?_);refine gS Try.func51 #[.pointer (some ⟨xy,0,none⟩),.int .i64 24] ?_;(with_reducible refine (aY.calls xy zQ aeI aeJ 24 asr ass ast w _ ?side1 ?side2 A31.out).mono ?_);(case side1=>exact uI mo.out);(case side2=>exact uH HB.out);rintro e w38 ⟨rfl,hi,hb,hk⟩;refine ⟨_,rfl,?_⟩;replace kz:=zA (Kd.ah (Kd.ky (au.apart (show au w _ xy zQ aeI aeJ from uI mo.out) (uR kz.out) (by decide)) hk (fun _ h=>h.2)) (fun _ h=>h.1));replace kJ:=zA (aC.blk hk (g':=nM) (o:=.cells #[.int .i64 0,.slice none 0 0] 26 (0,0)) (uB kJ.out) uY.out (by simp));replace jK:=zA (aC.blk hk (g':=ry) (o:=.cells #[.int .i64 rP,.slice kL rF.length kM] 26 (0,0)) (uB jK.out) pY.out (by simp));replace HB:=zA (hb);replace mo:=zA (hi);(try clear hb);refine hK.out _ _ ⟨bcu jK 0,bcu jK 1⟩ (fun hHeld=>?_);clear hK K;refine no_ 34 ?_;refine pu_ 7 35 (bl 11 255) HT_ ?_;refine pu_ 8 36 (bl 11 511) HT_ ?_;refine on_ 9 (none) (bl 11 1023) HT_ (fun K hK=>?_);have asu : w38.cell? ⟨nM,0,none⟩ = some (.int .i64 0):=(dH kJ.out 0).trans rfl;have ajg:=bf kJ 0;have ZY:=lD.out;have ZZ:=nJ.out;have asv : w38.cell? ⟨nM,1,none⟩ = some (.slice none 0 0):=(dH kJ.out 1).trans rfl;have ajh:=bf kJ 1;have Z0:=lD.out;have Z4:=nJ.out;refine uL (w1:=?_) (by rfl) rfl ?_ ?_;rotate_left
    ·go_simp;rfl
    refine hK.out _ _ ⟨((cell_far (p:=⟨nM,_,none⟩) lD.out _).trans (((cell_far (p:=⟨nM,_,none⟩) lD.out _).trans (hHeld.1)))),((cell_far (p:=⟨nM,_,none⟩) lD.out _).trans (((cell_far (p:=⟨nM,_,none⟩) lD.out _).trans (hHeld.2))))⟩ (fun hHeld=>?_);clear hK K;refine pu_ 10 3 (bl 11 2047) HT_ ?_;refine done_ (done_of HT_.out (by kernel_rfl)) ?_;(try go_wp2);refine bodyPost_ret (uW rfl _ _ nM 26 #[.int .i64 rP,.slice kL rF.length kM] (0,0) _ rfl (by (repeat refine up1 ?_);refine bV (cs:=#[.int .i64 rP,.slice none 0 0]) ?_ 1 _ rfl;(repeat refine up1 ?_);refine bV (cs:=#[.int .i64 0,.slice none 0 0]) ?_ 0 _ rfl;(repeat refine up1 ?_);exact kJ.out) Try.underlying26 rfl (by kernel_rfl)) rfl ?_;exact ⟨_,by first | rfl | (simp [gY,ib] <;> rfl) | (simp only [← Mo,← tu,← Jv];first | rfl | (simp [gY,ib] <;> rfl)) | (simp [*,gY,ib] <;> rfl),uR (Kd.ah (Kd.bW (p:=⟨nM,1,none⟩) (Kd.bW (p:=⟨nM,0,none⟩) (Kd.dE kz.out kJ.out (by decide)) (fun _ hk=>hk.2) (.int .i64 rP)) (fun _ hk=>hk.2) (.slice kL rF.length kM)) (fun _ hk=>trivial)),uH HB.out⟩
   ·replace H:=bO H;obtain ⟨⟨asw,aeK,aeL⟩,A41,H⟩:=H;(try dsimp only at H);replace H:=bO H;obtain ⟨⟨asx,asy,asz⟩,A42,H⟩:=H;(try dsimp only at H);simp only [Option.some.injEq,Prod.mk.injEq] at H;obtain ⟨rfl,rfl,rfl⟩:=H;(try go_wp2);replace kz:=zA (Kd.iV kz.out);replace kJ:=zA (eD kJ.out);replace jK:=zA (eD jK.out);replace mo:=zA (au.drew mo.out);replace HB:=zA (aZ HB.out);refine kF (n:=11) (S:=fun w'=>w'.cell? ⟨ry,0,none⟩ = some (.int .i64 rP)∧w'.cell? ⟨ry,1,none⟩ = some (.slice kL rF.length kM)) (ds:=[]) #[false,false,false,false,false,false,false,false,false,false,false] (by kernel_rfl) rfl rfl ⟨bcu jK 0,bcu jK 1⟩ (fun hHeld=>?_);refine gX iw.LW iw.ES (fun HT_ HW_=>?_);generalize wc.drew = w43 at kz kJ jK mo HB hHeld ⊢;refine pu_ 1 29 (bl 11 2) HT_ ?_;refine pu_ 2 30 (bl 11 6) HT_ ?_;refine pu_ 3 31 (bl 11 14) HT_ ?_;refine pu_ 5 33 (bl 11 46) HT_ ?_;refine ta_ 0 28 (bl 11 47) HT_ HW_ hHeld ?_;refine on_ 4 (some 32) (bl 11 63) HT_ (fun K hK=>?_);refine G5 Try.func51 (by kernel_rfl) rfl #[.pointer (some ⟨xy,0,none⟩),.int .i64 (wrap64 (ji5 + 1))] (by rfl) rfl rfl (by (try simp only [la,lb,lc]);first | done | (simp only [tu];rfl) | rfl | (simp only [ld,le];rfl)) ?_;(with_reducible refine (aY.calls xy zQ uZ u6 (wrap64 (ji5 + 1)) asw aeK aeL w _ ?side1 ?side2 A41.out).mono ?_);(case side1=>exact uI mo.out);(case side2=>exact uH HB.out);rintro e w44 ⟨rfl,hi,hb,hk⟩;refine ⟨_,rfl,?_⟩;replace kz:=zA (Kd.ah (Kd.ky (au.apart (show au w _ xy zQ uZ u6 from uI mo.out) (uR kz.out) (by decide)) hk (fun _ h=>h.2)) (fun _ h=>h.1));replace kJ:=zA (aC.blk hk (g':=nM) (o:=.cells #[.int .i64 0,.slice none 0 0] 26 (0,0)) (uB kJ.out) uY.out (by simp));replace jK:=zA (aC.blk hk (g':=ry) (o:=.cells #[.int .i64 rP,.slice kL rF.length kM] 26 (0,0)) (uB jK.out) pY.out (by simp));replace HB:=zA (hb);replace mo:=zA (hi);(try clear hb);refine hK.out _ _ ⟨bcu jK 0,bcu jK 1⟩ (fun hHeld=>?_);clear hK K;refine no_ 32 ?_;refine on_ 6 (some 34) (bl 11 127) HT_ (fun K hK=>?_);refine gS Try.func51 #[.pointer (some ⟨xy,0,none⟩),.int .i64 24] ?_;(with_reducible refine (aY.calls xy zQ aeK aeL 24 asx asy asz w _ ?side1 ?side2 A42.out).mono ?_);(case side1=>exact uI mo.out);(case side2=>exact uH HB.out);rintro e w45 ⟨rfl,hi,hb,hk⟩;refine ⟨_,rfl,?_⟩;replace kz:=zA (Kd.ah (Kd.ky (au.apart (show au w _ xy zQ aeK aeL from uI mo.out) (uR kz.out) (by decide)) hk (fun _ h=>h.2)) (fun _ h=>h.1));replace kJ:=zA (aC.blk hk (g':=nM) (o:=.cells #[.int .i64 0,.slice none 0 0] 26 (0,0)) (uB kJ.out) uY.out (by simp));replace jK:=zA (aC.blk hk (g':=ry) (o:=.cells #[.int .i64 rP,.slice kL rF.length kM] 26 (0,0)) (uB jK.out) pY.out (by simp));replace HB:=zA (hb);replace mo:=zA (hi);(try clear hb);refine hK.out _ _ ⟨bcu jK 0,bcu jK 1⟩ (fun hHeld=>?_);clear hK K;refine no_ 34 ?_;refine pu_ 7 35 (bl 11 255) HT_ ?_;refine pu_ 8 36 (bl 11 511) HT_ ?_;refine on_ 9 (none) (bl 11 1023) HT_ (fun K hK=>?_);have ayF : w45.cell? ⟨nM,0,none⟩ = some (.int .i64 0):=(dH kJ.out 0).trans rfl;have awx:=bf kJ 0;have aqn:=lD.out;have aqo:=nJ.out;have ayG : w45.cell? ⟨nM,1,none⟩ = some (.slice none 0 0):=(dH kJ.out 1).trans rfl;have awy:=bf kJ 1;have aqp:=lD.out;have aqr:=nJ.out;refine uL (w1:=?_) (by rfl) rfl ?_ ?_;rotate_left
    ·go_simp;rfl
    refine hK.out _ _ ⟨((cell_far (p:=⟨nM,_,none⟩) lD.out _).trans (((cell_far (p:=⟨nM,_,none⟩) lD.out _).trans (hHeld.1)))),((cell_far (p:=⟨nM,_,none⟩) lD.out _).trans (((cell_far (p:=⟨nM,_,none⟩) lD.out _).trans (hHeld.2))))⟩ (fun hHeld=>?_);clear hK K;refine pu_ 10 3 (bl 11 2047) HT_ ?_;refine done_ (done_of HT_.out (by kernel_rfl)) ?_;(try go_wp2);refine bodyPost_ret (uW rfl _ _ nM 26 #[.int .i64 rP,.slice kL rF.length kM] (0,0) _ rfl (by (repeat refine up1 ?_);refine bV (cs:=#[.int .i64 rP,.slice none 0 0]) ?_ 1 _ rfl;(repeat refine up1 ?_);refine bV (cs:=#[.int .i64 0,.slice none 0 0]) ?_ 0 _ rfl;(repeat refine up1 ?_);exact kJ.out) Try.underlying26 rfl (by kernel_rfl)) rfl ?_;exact ⟨_,by first | rfl | (simp [gY,ib] <;> rfl) | (simp only [← Mo,← tu];first | rfl | (simp [gY,ib] <;> rfl)) | (simp [*,gY,ib] <;> rfl),uR (Kd.ah (Kd.bW (p:=⟨nM,1,none⟩) (Kd.bW (p:=⟨nM,0,none⟩) (Kd.dE kz.out kJ.out (by decide)) (fun _ hk=>hk.2) (.int .i64 rP)) (fun _ hk=>hk.2) (.slice kL rF.length kM)) (fun _ hk=>trivial)),uH HB.out⟩
/-! ### bY: function 22 -/
def bY.f (k : Nat) (l0 : List Int) : Option (Int × List Int × List Int):=(eF.f k l0).bind fun QR=>((iw.f k l0).bind fun QS=>((mD.f k QS.1).bind fun Vm=>((aY.f QR.1 QR.2.1 QR.2.2 12).bind fun Vn=>((lF.f k QR.1 Vn.2.1 Vn.2.2 Vm (wrap64 (QS.2.2 + (wrap64 (Int.tdiv Vn.1 11))))).bind fun aji=>(some (QS.1,QS.2.1,aji.1))))))
def bY.T3 : Bool × List (List Nat × List Nat):=(true,[([],[]),([],[]),([],[]),([2],[2]),([3],[3]),([],[]),([],[]),([6,4],[6]),([7],[7]),([5,8],[5,8]),([1,4,9,7],[1,4,9]),([0,10,0],[0]),([10,11,0,1,2,3,4,5,6,7,8,9,10,11],[10])])
def bY.B3 : List Nat:=[0,0,0,4,12,0,0,92,220,508,1022,2047,4095]
theorem bY.asA : mf .any (opsOf Try.f22 3) = bY.T3:=by kernel_rfl
theorem bY.ajj : jP bY.T3.2 bY.B3 = true:=by kernel_rfl
theorem bY.calls (k : Nat) (A0 : Option Addr) (c0 : Nat) (l0 : List Int) (r1 : Int) (r2 : List Int) (r3 : List Int) (w : World) (hr0 : Kd.C (Kd.int .u8) w A0 l0.length l0) (hc0 : l0.length ≤ c0) (H : bY.f k l0 = some (r1,r2,r3)) :
  Calls Try.prog 22 #[.slice A0 l0.length c0] w fun e w'=>∃ v1_ v2_ : Value,e = .returned (.tuple #[.agg #[.int .i64 r1,v1_],v2_])∧Kd.R (Kd.int .i64) 2 w' w.heap.size (fun k_=>ax k_ v2_) v1_ r2∧Kd.R (Kd.int .i64) 2 w' w.heap.size (fun k_=>ax k_ v1_) v2_ r3∧Below w.heap.size w w':=by
 have uD:=Try.underlying26;have HR0:=zA hr0;have HC0:=zA hc0;clear hr0 hc0;have HB:=zA (Below.refl w.heap.size w);unfold bY.f at H;replace H:=bO H;obtain ⟨⟨Mr,Tz,TA⟩,A2,H⟩:=H;(try dsimp only at H);replace H:=bO H;obtain ⟨⟨zb,z8,aeM⟩,A3,H⟩:=H;(try dsimp only at H);replace H:=bO H;obtain ⟨Vm,A4,H⟩:=H;replace H:=bO H;obtain ⟨⟨aeN,aeO,aeP⟩,A5,H⟩:=H;(try dsimp only at H);replace H:=bO H;obtain ⟨⟨asB,asC,asD⟩,A6,H⟩:=H;(try dsimp only at H);simp only [Option.some.injEq,Prod.mk.injEq] at H;obtain ⟨rfl,rfl,rfl⟩:=H;go_enter Try.func22,Try.ntmps22;(try go_wp2_with (first | ((with_reducible refine aT (N:=2) rfl ?_);refine bx 2 #[.int .i64 0,.slice none 0 0] 26 ?_;intro uM hg w7 hbox hb;have oQ:=zA (hbox);have ajk:=gq HB hg;have:=geI ajk;have ajl:=gq HB hg;replace HB:=xH HB hb;have:=geI ajl;clear hb hbox hg) | ((with_reducible refine ag (f:=47) rfl ?_);refine gL (some 8) Try.func47 #[.slice A0 l0.length c0] ?_;(with_reducible refine (eF.calls k _ _ l0 Mr Tz TA w _ ?side1 ?side2 ?side3 A2.out).mono ?_);(case side1=>exact uH HB.out);(case side2=>exact HR0.out);(case side3=>exact HC0.out);rintro e w8 ⟨G6,rfl,hi,hb,hb2⟩;refine ⟨_,rfl,?_⟩;replace HB:=zA (hb);have uO:=zA (hi);have TB:=zA (au.Er hi (dD (g:=uM) (o:=.cells #[.int .i64 0,.slice none 0 0] 26 (0,0)) (uB oQ.out) hb2) (by decide));have:=neI TB;have Es:=zA (Ne.symm (au.Er hi (dD (g:=uM) (o:=.cells #[.int .i64 0,.slice none 0 0] 26 (0,0)) (uB oQ.out) hb2) (by decide)));have:=neI Es;replace oQ:=xB oQ hb2;(try clear hb);(try clear hb2);(try clear hi)) | ((with_reducible refine ag (f:=57) rfl ?_);refine gL (some 11) Try.func57 #[.slice A0 l0.length c0] ?_;(with_reducible refine (iw.calls k _ _ l0 zb z8 aeM _ ?side1 ?side2 A3.out).mono ?_);(case side1=>exact uC ((Kd.aW HR0.out HB.out)));(case side2=>exact HC0.out);rintro e w9 ⟨ayH,rfl,ho0,hb⟩;refine ⟨_,rfl,?_⟩;have xA:=zA (Kd.aX ho0 (af (uH HB.out)));replace oQ:=xB oQ hb;replace HB:=zA (cK (uH HB.out) hb);replace uO:=zA (au.below (uI uO.out) hb);(try clear hb);(try clear hb2);(try clear hi);(try clear ho0)) | ((with_reducible refine aT (N:=5) rfl ?_);refine bx 5 #[.int .i64 0,.slice none 0 0] 26 ?_;intro pO hg w10 hbox hb;replace xA:=xR xA hb;have qC:=zA (hbox);have ajm:=zA ((by rw [hg];exact (af (uH HB.out)) : w.heap.size ≤ pO));have:=geI ajm;have ajn:=zA ((by rw [hg];exact (af (uH HB.out)) : w.heap.size ≤ pO));replace HB:=zA (cK (uH HB.out) hb);have xc:=zA ((by rw [hg];exact neL oQ : uM ≠ pO));have:=neI xc;have sU:=zA ((by rw [hg];exact neG oQ : pO ≠ uM));have:=neI sU;replace oQ:=xB oQ hb;have Jw:=zA ((by rw [hg];exact Nat.ne_of_lt (au.lt (show au w _ G6 Mr Tz TA from uI uO.out)) : G6 ≠ pO));have:=neI Jw;have AR:=zA ((by rw [hg];exact Nat.ne_of_gt (au.lt (show au w _ G6 Mr Tz TA from uI uO.out)) : pO ≠ G6));have:=neI AR;replace uO:=zA (au.below (uI uO.out) hb);have:=geI ajn;clear hb hbox hg;have acv:=sU.out;have acw:=xc.out;have Vh:=AR.out;have Vi:=Jw.out;have qR:=bc qC 0;have qU:=bc qC 1;have qV:=bf qC 0;have qW:=bf qC 1;obtain ⟨kL,kM,GZ⟩:=Kd.bB xA.out;subst GZ)));have n0_ : aa (Kd.R (Kd.int .i64) 2 ((w10.setCell ⟨pO,0,none⟩ (.int .i64 zb)).setCell ⟨pO,1,none⟩ (.slice kL z8.length kM)) w.heap.size (fun _=>True) (.slice kL z8.length kM) z8):=⟨uR (Kd.ah (Kd.bW (p:=⟨pO,1,none⟩) (Kd.bW (p:=⟨pO,0,none⟩) (Kd.dE xA.out qC.out (by decide)) (fun _ hk=>hk.2) (.int .i64 zb)) (fun _ hk=>hk.2) (.slice kL z8.length kM)) (fun _ hk=>trivial))⟩;have n1_ : aa (((w10.setCell ⟨pO,0,none⟩ (.int .i64 zb)).setCell ⟨pO,1,none⟩ (.slice kL z8.length kM)).heap[uM]? = some (.cells #[.int .i64 0,.slice none 0 0] 26 (0,0))):=⟨by (repeat refine up1 ?_);refine dG ?_ xc.out _;(repeat refine up1 ?_);refine dG ?_ xc.out _;(repeat refine up1 ?_);exact oQ.out⟩;have n2_ : aa (((w10.setCell ⟨pO,0,none⟩ (.int .i64 zb)).setCell ⟨pO,1,none⟩ (.slice kL z8.length kM)).heap[pO]? = some (.cells #[.int .i64 zb,.slice kL z8.length kM] 26 (0,0))):=⟨by (repeat refine up1 ?_);refine bV (cs:=#[.int .i64 zb,.slice none 0 0]) ?_ 1 _ rfl;(repeat refine up1 ?_);refine bV (cs:=#[.int .i64 0,.slice none 0 0]) ?_ 0 _ rfl;(repeat refine up1 ?_);exact qC.out⟩;have n3_ : aa (au w ((w10.setCell ⟨pO,0,none⟩ (.int .i64 zb)).setCell ⟨pO,1,none⟩ (.slice kL z8.length kM)) G6 Mr Tz TA):=⟨uI uO.out⟩;have n4_ : aa (Below w.heap.size w ((w10.setCell ⟨pO,0,none⟩ (.int .i64 zb)).setCell ⟨pO,1,none⟩ (.slice kL z8.length kM))):=⟨uH HB.out⟩;(try clear xA);(try clear oQ);(try clear qC);(try clear uO);(try clear HB);generalize ((w10.setCell ⟨pO,0,none⟩ (.int .i64 zb)).setCell ⟨pO,1,none⟩ (.slice kL z8.length kM)) = w15 at n0_ n1_ n2_ n3_ n4_ ⊢;have xA:=n0_;have oQ:=n1_;have qC:=n2_;have uO:=n3_;have HB:=n4_;clear n0_ n1_ n2_ n3_ n4_;replace xA:=zA (Kd.iV xA.out);replace oQ:=zA (eD oQ.out);replace qC:=zA (eD qC.out);replace uO:=zA (au.drew uO.out);replace HB:=zA (aZ HB.out);refine kF (n:=13) (S:=fun w'=>w'.cell? ⟨pO,0,none⟩ = some (.int .i64 zb)∧w'.cell? ⟨pO,1,none⟩ = some (.slice kL z8.length kM)) (ds:=[]) #[false,false,false,false,false,false,false,false,false,false,false,false,false] (by kernel_rfl) rfl rfl ⟨bcu qC 0,bcu qC 1⟩ (fun hHeld=>?_);refine gX bY.asA bY.ajj (fun HT_ HW_=>?_);generalize w15.drew = w16 at xA oQ qC uO HB hHeld ⊢;refine pu_ 1 15 (bl 13 2) HT_ ?_;refine pu_ 2 16 (bl 13 6) HT_ ?_;refine pu_ 5 19 (bl 13 38) HT_ ?_;refine pu_ 6 20 (bl 13 102) HT_ ?_;refine ta_ 0 14 (bl 13 103) HT_ HW_ hHeld ?_;refine ta_ 3 17 (bl 13 111) HT_ HW_ hHeld ?_;refine on_ 4 (some 18) (bl 13 127) HT_ (fun K hK=>?_);refine gS Try.func59 #[.int .i64 zb] ?_;(with_reducible refine (mD.calls k zb Vm _ A4.out).mono ?_);rintro e w' ⟨rfl,⟨nd,rfl⟩⟩;refine ⟨_,rfl,?_⟩;refine hK.out _ _ ⟨bcu qC 0,bcu qC 1⟩ (fun hHeld=>?_);clear hK K;refine no_ 18 ?_;refine on_ 7 (some 21) (bl 13 255) HT_ (fun K hK=>?_);refine gS Try.func51 #[.pointer (some ⟨G6,0,none⟩),.int .i64 12] ?_;(with_reducible refine (aY.calls G6 Mr Tz TA 12 aeN aeO aeP w _ ?side1 ?side2 A5.out).mono ?_);(case side1=>exact uI uO.out);(case side2=>exact uH HB.out);rintro e w17 ⟨rfl,hi,hb,hk⟩;refine ⟨_,rfl,?_⟩;replace oQ:=zA (aC.blk hk (g':=uM) (o:=.cells #[.int .i64 0,.slice none 0 0] 26 (0,0)) (uB oQ.out) Es.out (by simp));replace xA:=zA (Kd.ah (Kd.ky (au.apart (show au w _ G6 Mr Tz TA from uI uO.out) (uR xA.out) (by decide)) hk (fun _ h=>h.2)) (fun _ h=>h.1));replace qC:=zA (aC.blk hk (g':=pO) (o:=.cells #[.int .i64 zb,.slice kL z8.length kM] 26 (0,0)) (uB qC.out) AR.out (by simp));replace HB:=zA (hb);replace uO:=zA (hi);(try clear hb);refine hK.out _ _ ⟨bcu qC 0,bcu qC 1⟩ (fun hHeld=>?_);clear hK K;refine no_ 21 ?_;refine pu_ 8 22 (bl 13 511) HT_ ?_;refine pu_ 9 23 (bl 13 1023) HT_ ?_;refine on_ 10 (some 24) (bl 13 2047) HT_ (fun K hK=>?_);refine gS Try.func58 #[.pointer (some ⟨G6,0,none⟩),.int .i64 Vm,.int .i64 (wrap64 (aeM + (wrap64 (Int.tdiv aeN 11))))] ?_;(with_reducible refine (lF.calls k G6 Mr aeO aeP Vm (wrap64 (aeM + (wrap64 (Int.tdiv aeN 11)))) asB asC asD w _ ?side1 ?side2 A6.out).mono ?_);(case side1=>exact uI uO.out);(case side2=>exact uH HB.out);rintro e w18 ⟨ayI,rfl,ho0,hi,hb,hk⟩;refine ⟨_,rfl,?_⟩;replace oQ:=zA (aC.blk hk (g':=uM) (o:=.cells #[.int .i64 0,.slice none 0 0] 26 (0,0)) (uB oQ.out) Es.out (by simp));replace qC:=zA (aC.blk hk (g':=pO) (o:=.cells #[.int .i64 zb,.slice kL z8.length kM] 26 (0,0)) (uB qC.out) AR.out (by simp));have ajo:=zA (Kd.aX (nw ho0 (uR xA.out)) (af (uH HB.out)));replace xA:=zA (Kd.ah (Kd.Et (Kd.Kj (au.apart (show au w _ G6 Mr aeO aeP from uI uO.out) (uR xA.out) (by decide)) hk) (Kd.aG ho0)) (fun _ h_=>h_.1));replace HB:=zA (hb);replace uO:=zA (hi);(try clear hb);(try clear ho0);refine hK.out _ _ ⟨bcu qC 0,bcu qC 1⟩ (fun hHeld=>?_);clear hK K;refine no_ 24 ?_;refine on_ 11 (none) (bl 13 4095) HT_ (fun K hK=>?_);have ayJ : w18.cell? ⟨uM,0,none⟩ = some (.int .i64 0):=(dH oQ.out 0).trans rfl;have awz:=bf oQ 0;have aqs:=sU.out;have aqt:=xc.out;have ayK : w18.cell? ⟨uM,1,none⟩ = some (.slice none 0 0):=(dH oQ.out 1).trans rfl;have awC:=bf oQ 1;have aqu:=sU.out;have aqv:=xc.out;refine uL (w1:=?_) (by rfl) rfl ?_ ?_;rotate_left
 ·go_simp;rfl
 refine hK.out _ _ ⟨((cell_far (p:=⟨uM,_,none⟩) sU.out _).trans (((cell_far (p:=⟨uM,_,none⟩) sU.out _).trans (hHeld.1)))),((cell_far (p:=⟨uM,_,none⟩) sU.out _).trans (((cell_far (p:=⟨uM,_,none⟩) sU.out _).trans (hHeld.2))))⟩ (fun hHeld=>?_);clear hK K;refine pu_ 12 3 (bl 13 8191) HT_ ?_;refine done_ (done_of HT_.out (by kernel_rfl)) ?_;(try go_wp2);refine bodyPost_ret (uW rfl _ _ uM 26 #[.int .i64 zb,.slice kL z8.length kM] (0,0) _ rfl (by (repeat refine up1 ?_);refine bV (cs:=#[.int .i64 zb,.slice none 0 0]) ?_ 1 _ rfl;(repeat refine up1 ?_);refine bV (cs:=#[.int .i64 0,.slice none 0 0]) ?_ 0 _ rfl;(repeat refine up1 ?_);exact oQ.out) Try.underlying26 rfl (by kernel_rfl)) rfl ?_;exact ⟨_,_,eX,uR (Kd.ah (Kd.bW (p:=⟨uM,1,none⟩) (Kd.bW (p:=⟨uM,0,none⟩) (Kd.dE xA.out oQ.out (by decide)) (fun _ hk=>hk.2) (.int .i64 zb)) (fun _ hk=>hk.2) (.slice kL z8.length kM)) (fun _ hk=>hk.1.2)),uR (Kd.ah (Kd.bW (p:=⟨uM,1,none⟩) (Kd.bW (p:=⟨uM,0,none⟩) (Kd.dE ajo.out oQ.out (by decide)) (fun _ hk=>hk.2) (.int .i64 zb)) (fun _ hk=>hk.2) (.slice kL z8.length kM)) (fun _ hk=>hk.1.2)),uH HB.out⟩
/-! ### dh: function 26 -/
def dh.l0 : Nat → Int → List Int → Int → List Int → Int → Int → Int → List Int → Option (Int × List Int × List Int)
 | 0,_,_,_,_,_,_,_,_=>none
 | k + 1,x6,x7,x8,Mt,Vo,Vp,G7,Mv=>if x8 ≤ x6 then ((mD.f k G7).bind fun Mw=>((aY.f Mt Vo Vp Mw).bind fun OM=>(if x7.length < 17592186044416 then (dh.l0 k x6 (x7 ++ [OM.1]) (wrap64 (x8 + 1)) Mt OM.2.1 OM.2.2 G7 Mv) else (none)))) else (some (G7,Mv,x7))
def dh.f (k : Nat) (l0 : List Int) : Option (Int × List Int × List Int):=(eF.f k l0).bind fun OO=>((iw.f k l0).bind fun OP=>(dh.l0 k OP.2.2 (([] : List Int)) 0 OO.1 OO.2.1 OO.2.2 OP.1 OP.2.1))
theorem dh.calls (k : Nat) (A0 : Option Addr) (c0 : Nat) (l0 : List Int) (r1 : Int) (r2 : List Int) (r3 : List Int) (w : World) (hr0 : Kd.C (Kd.int .u8) w A0 l0.length l0) (hc0 : l0.length ≤ c0) (H : dh.f k l0 = some (r1,r2,r3)) :
  Calls Try.prog 26 #[.slice A0 l0.length c0] w fun e w'=>∃ v1_ v2_ : Value,e = .returned (.tuple #[.agg #[.int .i64 r1,v1_],v2_])∧Kd.R (Kd.int .i64) 2 w' w.heap.size (fun k_=>ax k_ v2_) v1_ r2∧Kd.R (Kd.int .i64) 2 w' w.heap.size (fun k_=>ax k_ v1_) v2_ r3∧Below w.heap.size w w':=by
 have uD:=Try.underlying26;have HR0:=zA hr0;have HC0:=zA hc0;clear hr0 hc0;have HB:=zA (Below.refl w.heap.size w);unfold dh.f at H;replace H:=bO H;obtain ⟨⟨CE,MB,MC⟩,A2,H⟩:=H;(try dsimp only at H);replace H:=bO H;obtain ⟨⟨xC,xD,acx⟩,A3,H⟩:=H;(try dsimp only at H);obtain ⟨ajp,OQ⟩:=eY ([] : List Int);(try rw [←OQ.out] at H);have H':=zA H;clear H;go_enter Try.func26,Try.ntmps26;go_wp2_with (first | ((with_reducible refine aT (N:=2) rfl ?_);refine bx 2 #[.int .i64 0,.slice none 0 0] 26 ?_;intro ze hg w4 hbox hb;have mh:=zA (hbox);have aeQ:=gq HB hg;have:=geI aeQ;have aeR:=gq HB hg;replace HB:=xH HB hb;have:=geI aeR;clear hb hbox hg) | ((with_reducible refine ag (f:=47) rfl ?_);refine gL (some 10) Try.func47 #[.slice A0 l0.length c0] ?_;(with_reducible refine (eF.calls k _ _ l0 CE MB MC w _ ?side1 ?side2 ?side3 A2.out).mono ?_);(case side1=>exact uH HB.out);(case side2=>exact HR0.out);(case side3=>exact HC0.out);rintro e w5 ⟨Br,rfl,hi,hb,hb2⟩;refine ⟨_,rfl,?_⟩;replace HB:=zA (hb);have qf:=zA (hi);have Fa:=zA (au.Er hi (dD (g:=ze) (o:=.cells #[.int .i64 0,.slice none 0 0] 26 (0,0)) (uB mh.out) hb2) (by decide));have:=neI Fa;have Aa:=zA (Ne.symm (au.Er hi (dD (g:=ze) (o:=.cells #[.int .i64 0,.slice none 0 0] 26 (0,0)) (uB mh.out) hb2) (by decide)));have:=neI Aa;replace mh:=xB mh hb2;(try clear hb);(try clear hb2);(try clear hk);(try clear hi)) | ((with_reducible refine ag (f:=57) rfl ?_);refine gL (some 13) Try.func57 #[.slice A0 l0.length c0] ?_;(with_reducible refine (iw.calls k _ _ l0 xC xD acx _ ?side1 ?side2 A3.out).mono ?_);(case side1=>exact uC ((Kd.aW HR0.out HB.out)));(case side2=>exact HC0.out);rintro e w6 ⟨awD,rfl,ho0,hb⟩;refine ⟨_,rfl,?_⟩;have Eu:=zA (Kd.aX ho0 (af (uH HB.out)));replace mh:=xB mh hb;replace HB:=zA (cK (uH HB.out) hb);replace qf:=zA (au.below (uI qf.out) hb);(try clear hb);(try clear hb2);(try clear hk);(try clear hi);(try clear ho0)) | ((with_reducible refine aT (N:=5) rfl ?_);refine bx 5 #[.int .i64 0,.slice none 0 0] 26 ?_;intro wB hg w7 hbox hb;replace Eu:=xR Eu hb;have nN:=zA (hbox);have aeS:=zA ((by rw [hg];exact (af (uH HB.out)) : w.heap.size ≤ wB));have:=geI aeS;have aeT:=zA ((by rw [hg];exact (af (uH HB.out)) : w.heap.size ≤ wB));replace HB:=zA (cK (uH HB.out) hb);have sV:=zA ((by rw [hg];exact neL mh : ze ≠ wB));have:=neI sV;have xZ:=zA ((by rw [hg];exact neG mh : wB ≠ ze));have:=neI xZ;replace mh:=xB mh hb;have yc:=zA ((by rw [hg];exact Nat.ne_of_lt (au.lt (show au w _ Br CE MB MC from uI qf.out)) : Br ≠ wB));have:=neI yc;have vT:=zA ((by rw [hg];exact Nat.ne_of_gt (au.lt (show au w _ Br CE MB MC from uI qf.out)) : wB ≠ Br));have:=neI vT;replace qf:=zA (au.below (uI qf.out) hb);have:=geI aeT;clear hb hbox hg;have asj:=xZ.out;have asl:=sV.out;have aiC:=vT.out;have aiD:=yc.out;have tV:=bc nN 0;have tX:=bc nN 1;have tY:=bf nN 0;have tZ:=bf nN 1;obtain ⟨nZ,oh,aeU⟩:=Kd.bB Eu.out;subst aeU) | ((with_reducible refine aT (N:=16) rfl ?_);refine Kd.mX (Kd.int .i64) _ 2 ?hg (N:=16) ?hd (xs:=([] : List Int)) (inner:=[]) (ok:=fun _=>True) (okp:=fun _=>True) ?hr ?hp (fun _ hk=>hk) trivial (Below.refl _ _) (Nat.le_refl _) (by simp) ?_;(case hd=>rfl);(case hg=>rfl);(case hr=>first | (go_simp;done) | (go_simp;rfl));(case hp=>exact (cB.none _ _));intro awE w12 zf hb hg_ hnew_;clear hg_ hnew_;(first | rw [← OQ.out] at zf | (simp only [Int.reduceToNat] at zf;rw [← OQ.out] at zf));have Kk:=rf2 Eu nN (by decide) (.int .i64 xC) (.slice nZ xD.length oh);have aeV:=zA (Kd.aX (nw zf (uR Kk)) (af (uH HB.out)));replace Eu:=zA (Kd.aJ (uR Kk) (Kd.aG zf) hb);clear Kk;replace mh:=zA (dD (g:=ze) (o:=.cells #[.int .i64 0,.slice none 0 0] 26 (0,0)) (by (repeat refine up1 ?_);refine dG ?_ sV.out _;(repeat refine up1 ?_);refine dG ?_ sV.out _;(repeat refine up1 ?_);exact mh.out) hb);replace nN:=zA (dD (g:=wB) (o:=.cells #[.int .i64 xC,.slice nZ xD.length oh] 26 (0,0)) (by (repeat refine up1 ?_);refine bV (cs:=#[.int .i64 xC,.slice none 0 0]) ?_ 1 _ rfl;(repeat refine up1 ?_);refine bV (cs:=#[.int .i64 0,.slice none 0 0]) ?_ 0 _ rfl;(repeat refine up1 ?_);exact nN.out) hb);replace HB:=zA (cK (uH HB.out) hb);replace qf:=zA (au.below (show au w ((w7.setCell ⟨wB,0,none⟩ (.int .i64 xC)).setCell ⟨wB,1,none⟩ (.slice nZ xD.length oh)) Br CE MB MC from uI qf.out) hb);clear hb zf));go_loopg [7,8] k (fun kq v7 v8 w'=>∃ (kg : List Int) (dM : Int) (vk : Int) (vv : Int),v8 = .int .i64 dM∧aa (dh.l0 kq acx kg dM CE vk vv xC xD = some (r1,r2,r3))∧aa (kq ≤ k)∧aa (Kd.R (Kd.int .i64) 2 w' w.heap.size (fun k_=>ax k_ (.slice nZ xD.length oh)) v7 kg)∧aa (Kd.R (Kd.int .i64) 2 w' w.heap.size (fun k_=>ax k_ v7) (.slice nZ xD.length oh) xD)∧aa (w'.heap[ze]? = some (.cells #[.int .i64 0,(.slice none 0 0)] 26 (0,0)))∧aa (w'.heap[wB]? = some (.cells #[.int .i64 xC,(.slice nZ xD.length oh)] 26 (0,0)))∧aa (au w w' Br CE vk vv)∧aa (Below w.heap.size w w'));(case atStart=>exact ⟨(ajp),(0),(MB),(MC),eS,H',⟨Nat.le_refl _⟩,⟨uR (Kd.ah aeV.out (fun _ hk=>hk.2))⟩,⟨uR (Kd.ah Eu.out (fun _ hk=>hk.2))⟩,⟨uB mh.out⟩,⟨uB nN.out⟩,⟨uI qf.out⟩,⟨uH HB.out⟩⟩)
 case round =>
  clear H';(try clear c2);(try clear p2);(try clear c4);(try clear c5);(try clear c8);(try clear c9);(try clear tV);(try clear tX);(try clear tY);(try clear tZ);obtain ⟨kg,dM,vk,vv,rfl,HA,HK1,dX,sI,mh,nN,qf,HB⟩:=hrel
  cases gk with
  | zero=>exact absurd HA.out (by simp [dh.l0])
  | succ k1 =>
   have H:=HA.out;clear HA;simp only [dh.l0] at H;replace H:=gF H;obtain ⟨xE,H⟩|⟨xE,H⟩:=H
   ·simp only [Option.some.injEq,Prod.mk.injEq] at H;obtain ⟨rfl,rfl,rfl⟩:=H;have aja:=xZ.out;have ajb:=sV.out;have Vk:=vT.out;have Vl:=yc.out;have FT:=bc nN 0;have FU:=bc nN 1;have FV:=bf nN 0;have FW:=bf nN 1;have ajq:=Aa.out;have ajr:=Fa.out;have Kl:=bc mh 0;have Km:=bc mh 1;have Kn:=bf mh 0;have Ko:=bf mh 1;go_wp2;refine bodyPost_ret (uW rfl _ _ ze 26 #[.int .i64 xC,.slice nZ xD.length oh] (0,0) _ rfl (by (repeat refine up1 ?_);refine bV (cs:=#[.int .i64 xC,.slice none 0 0]) ?_ 1 _ rfl;(repeat refine up1 ?_);refine bV (cs:=#[.int .i64 0,.slice none 0 0]) ?_ 0 _ rfl;(repeat refine up1 ?_);exact mh.out) Try.underlying26 rfl (by kernel_rfl)) rfl ?_;exact ⟨_,_,eX,uR (rf2 sI mh (by decide) (.int .i64 xC) (.slice nZ xD.length oh)),uR (rf2 dX mh (by decide) (.int .i64 xC) (.slice nZ xD.length oh)),uH HB.out⟩
   replace H:=bO H;obtain ⟨Mw,A15,H⟩:=H;replace H:=bO H;obtain ⟨⟨QT,acy,acz⟩,A16,H⟩:=H;(try dsimp only at H);replace H:=gZ H;obtain ⟨Vq,H⟩:=H;obtain ⟨ajs,Vr⟩:=eY (kg ++ [QT] : List Int);(try rw [←Vr.out] at H);have H':=zA H;clear H;have ai6:=xZ.out;have ai7:=sV.out;have ai8:=vT.out;have ai9:=yc.out;have QN:=bc nN 0;have QO:=bc nN 1;have QP:=bf nN 0;have QQ:=bf nN 1;go_wp2_with (first | ((with_reducible refine ag (f:=59) rfl ?_);refine gL (some 26) Try.func59 #[.int .i64 xC] ?_;(with_reducible refine (mD.calls k1 xC Mw _ A15.out).mono ?_);rintro e w' ⟨rfl,⟨nd,rfl⟩⟩;refine ⟨_,rfl,?_⟩) | ((with_reducible refine ag (f:=51) rfl ?_);refine gL (some 27) Try.func51 #[.pointer (some ⟨Br,0,none⟩),.int .i64 Mw] ?_;(with_reducible refine (aY.calls Br CE vk vv Mw QT acy acz w _ ?side1 ?side2 A16.out).mono ?_);(case side1=>exact uI qf.out);(case side2=>exact uH HB.out);rintro e w21 ⟨rfl,hi,hb,hk⟩;refine ⟨_,rfl,?_⟩;replace dX:=zA (Kd.ah (Kd.ky (au.apart (show au w _ Br CE vk vv from uI qf.out) (uR dX.out) (by decide)) hk (fun _ h=>h.2)) (fun _ h=>h.1));replace sI:=zA (Kd.ah (Kd.ky (au.apart (show au w _ Br CE vk vv from uI qf.out) (uR sI.out) (by decide)) hk (fun _ h=>h.2)) (fun _ h=>h.1));replace mh:=zA (aC.blk hk (g':=ze) (o:=.cells #[.int .i64 0,.slice none 0 0] 26 (0,0)) (uB mh.out) Aa.out (by simp));replace nN:=zA (aC.blk hk (g':=wB) (o:=.cells #[.int .i64 xC,.slice nZ xD.length oh] 26 (0,0)) (uB nN.out) vT.out (by simp));replace HB:=zA (hb);replace qf:=zA (hi);(try clear hb);(try clear hk);(try clear hi)) | ((with_reducible refine fo (b:=.append) (xs:=#[.tmp 22,.tmp 28]) rfl ?_);at_builtin;refine Kd.kU (Kd.int .i64) (w0:=w) w.heap.size rfl (.tmp 22) (.tmp 28) 24 2 (.int .i64 0) 8 rfl Try.underlying24 lh rfl (by decide) (by omega) u7 kg QT [.int .i64 QT] (fun k_=>ax k_ (.slice nZ xD.length oh)) (fun _=>False) rfl rfl ?aP (fun _ hk=>hk.elim) ?aF ?aO ?aB ?aS ?aL ?_;(case aP=>exact rfl);(case aB=>exact (uH HB.out));(case aF=>exact (fun k_ hk=>Kd.fresh' (Kd.ku (uR sI.out)) k_ hk));(case aO=>exact (uR dX.out));(case aS=>exact (af (uH HB.out)));(case aL=>have:=Vq.out;omega);intro awF w22 ho hb hg hat;rw [← Vr.out] at ho;replace sI:=zA (Kd.fM (ok:=(fun _=>True)) (uR (Kd.ah sI.out (fun _ hk=>⟨trivial,hk⟩))) hg hat);replace mh:=zA (iH (g:=ze) (o:=.cells #[.int .i64 0,.slice none 0 0] 26 (0,0)) (uB mh.out) hg (Kd.rC dX.out mh.out (by decide)));replace nN:=zA (iH (g:=wB) (o:=.cells #[.int .i64 xC,.slice nZ xD.length oh] 26 (0,0)) (uB nN.out) hg (Kd.rC dX.out nN.out (by decide)));replace qf:=zA (au.grown (uI qf.out) hg (au.own_ne qf.out dX.out (by decide)));replace HB:=zA (hb);have aeW:=zA (ho);clear dX ho hb hg hat));go_roundg k1;(case measure=>have:=HK1.out;omega);(case rel=>exact ⟨(ajs),(wrap64 (dM + 1)),(acy),(acz),eS,H',⟨by have:=HK1.out;omega⟩,⟨uR aeW.out⟩,⟨uR (Kd.ah sI.out (fun _ hk=>hk.2))⟩,⟨uB mh.out⟩,⟨uB nN.out⟩,⟨uI qf.out⟩,⟨uH HB.out⟩⟩)
/-! ### aA: function 4 -/
mutual
def aA.j0 : Nat → List Int → List Int → List Int → Int → Bool → Int → List Int → Option (Bool)
 | 0,_,_,_,_,_,_,_=>none
 | k + 1,x0,x4,x5,x6,x46,qD,qE=>if x46 = true then (some false) else ((dh.f k x0).bind fun wC=>((bE.f k wC.1 wC.2.1 wC.2.2).bind fun Ew=>((aN.f k wC.1 wC.2.1 wC.2.2).bind fun Vs=>(if Ew.2 = Vs.2 then ((fw.f k Ew.1 Vs.1).bind fun QU=>(aA.j1 k x4 x5 x6 wC.2.2 Ew.1 Ew.2 (!QU) qD qE wC.1 wC.2.1)) else (aA.j1 k x4 x5 x6 wC.2.2 Ew.1 Ew.2 true qD qE wC.1 wC.2.1)))))
def aA.j1 : Nat → List Int → List Int → Int → List Int → List Int → Int → Bool → Int → List Int → Int → List Int → Option (Bool)
 | 0,_,_,_,_,_,_,_,_,_,_,_=>none
 | k + 1,x4,x5,x6,x10,x11,x12,x72,qD,qE,Ab,Ac=>if x72 = true then (some false) else (if x12 = 0 then (if (x10.length : Int) = 0 then (aA.j2 k x4 x5 x6 x10 x11 true qD qE Ab Ac) else (if 0 ≤ (wrap64 ((x10.length : Int) - 1)) then (if (wrap64 ((x10.length : Int) - 1)) < (x10.length : Int) then (aA.j2 k x4 x5 x6 x10 x11 ((rd x10 (wrap64 ((x10.length : Int) - 1))) != 0) qD qE Ab Ac) else (none)) else (none))) else (aA.j2 k x4 x5 x6 x10 x11 false qD qE Ab Ac))
def aA.j2 : Nat → List Int → List Int → Int → List Int → List Int → Bool → Int → List Int → Int → List Int → Option (Bool)
 | 0,_,_,_,_,_,_,_,_,_,_=>none
 | k + 1,x4,x5,x6,x10,x11,x88,qD,qE,Ab,Ac=>if x88 = true then ((bu.f k Ab Ac x11).bind fun Vt=>(if Vt.2 = 0 then ((fw.f k Vt.1 x10).bind fun acA=>(if acA = true then (aA.j3 k x4 x5 x6 qD qE) else (some false))) else (some false))) else (aA.j3 k x4 x5 x6 qD qE)
def aA.j3 : Nat → List Int → List Int → Int → Int → List Int → Option (Bool)
 | 0,_,_,_,_,_=>none
 | k + 1,x4,x5,x6,qD,qE=>if x6 = 0 then ((bE.f k qD qE x5).bind fun Vu=>(if Vu.2 = 0 then ((fw.f k Vu.1 x4).bind fun Vv=>(some Vv)) else (some false))) else (some ((x5.length : Int) == 0))
end
def aA.f (k : Nat) (l0 : List Int) : Option (Bool):=(uk.f l0).bind fun acB=>(if acB = true then (some true) else ((bY.f k l0).bind fun wD=>((bu.f k wD.1 wD.2.1 wD.2.2).bind fun Ey=>((aI.f k wD.1 wD.2.1 wD.2.2).bind fun Vw=>(if Ey.2 = Vw.2 then ((fw.f k Ey.1 Vw.1).bind fun QV=>(aA.j0 k l0 wD.2.2 Ey.1 Ey.2 (!QV) wD.1 wD.2.1)) else (aA.j0 k l0 wD.2.2 Ey.1 Ey.2 true wD.1 wD.2.1))))))
theorem aA.calls (k : Nat) (A0 : Option Addr) (c0 : Nat) (l0 : List Int) (r : Bool) (hr_ : r = true) (w : World) (hr0 : Kd.C (Kd.int .u8) w A0 l0.length l0) (hc0 : l0.length ≤ c0) (H : aA.f k l0 = some r) :
  Calls Try.prog 4 #[.slice A0 l0.length c0] w fun e w'=>e = .returned (.bool r)∧Below w.heap.size w w':=by
 have uD:=Try.underlying26;have HRT:=zA hr_;clear hr_;have HR0:=zA hr0;have HC0:=zA hc0;clear hr0 hc0;have HB:=zA (Below.refl w.heap.size w);unfold aA.f at H;replace H:=bO H;obtain ⟨acB,A2,H⟩:=H;replace H:=gB H;obtain ⟨rfl,H⟩|⟨rfl,H⟩:=H
 ·obtain rfl:=Option.some.inj H;go_enter Try.func4,Try.ntmps4;go_wp2_with (first | ((with_reducible refine ag (f:=5) rfl ?_);refine gL (some 20) Try.func5 #[.slice A0 l0.length c0] ?_;(with_reducible refine (uk.calls _ _ l0 true _ ?side1 ?side2 A2.out).mono ?_);(case side1=>exact uC HR0.out);(case side2=>exact HC0.out);rintro e w' ⟨rfl,⟨nd,rfl⟩⟩;refine ⟨_,rfl,?_⟩));go_ret;exact ⟨eX,uH HB.out⟩
 ·replace H:=bO H;obtain ⟨⟨rQ,kX,mK⟩,A4,H⟩:=H;(try dsimp only at H);replace H:=bO H;obtain ⟨⟨zF,ME⟩,A5,H⟩:=H;(try dsimp only at H);replace H:=bO H;obtain ⟨⟨acC,ajt⟩,A6,H⟩:=H;(try dsimp only at H);have HC7:=zA H;clear H;go_enter Try.func4,Try.ntmps4;go_upto_region 6 with (first | ((with_reducible refine ag (f:=5) rfl ?_);refine gL (some 20) Try.func5 #[.slice A0 l0.length c0] ?_;(with_reducible refine (uk.calls _ _ l0 false _ ?side1 ?side2 A2.out).mono ?_);(case side1=>exact uC HR0.out);(case side2=>exact HC0.out);rintro e w' ⟨rfl,⟨nd,rfl⟩⟩;refine ⟨_,rfl,?_⟩) | ((with_reducible refine ag (f:=22) rfl ?_);refine gL (some 23) Try.func22 #[.slice A0 l0.length c0] ?_;(with_reducible refine (bY.calls k _ _ l0 rQ kX mK _ ?side1 ?side2 A4.out).mono ?_);(case side1=>exact uC HR0.out);(case side2=>exact HC0.out);rintro e w8 ⟨awG,awH,rfl,ho0,ho1,hb⟩;refine ⟨_,rfl,?_⟩;have qg:=zA (Kd.aX ho0 (af (uH HB.out)));have rG:=zA (Kd.aX ho1 (af (uH HB.out)));replace HB:=xH HB hb;(try clear hb);(try clear ho0);(try clear ho1)) | ((with_reducible refine aT (N:=3) rfl ?_);(try (refine lq (by rfl) ?_;dsimp only));refine bx 3 #[.int .i64 0,.slice none 0 0] 26 ?_;intro yD hg w9 hbox hb;replace qg:=xR qg hb;replace rG:=xR rG hb;have iL:=zA (hbox);have aeX:=gq HB hg;have:=geI aeX;have aeY:=gq HB hg;replace HB:=xH HB hb;have:=geI aeY;clear hb hbox hg;have tV:=bc iL 0;have tX:=bc iL 1;have tY:=bf iL 0;have tZ:=bf iL 1;obtain ⟨nZ,oh,aeU⟩:=Kd.bB qg.out;subst aeU) | ((with_reducible refine qB (t:=26) (p:=3) rfl ?_);refine pq (t:=26) (p:=3) (v:=?asE) (w1:=((w9.setCell ⟨yD,0,none⟩ (.int .i64 rQ)).setCell ⟨yD,1,none⟩ (.slice nZ kX.length oh))) ?hg ?ho ?hn ?hr ?_;(case ho=>rfl);(case hg=>rfl);(case hn=>rfl);(case hr=>first | (go_simp;done) | (go_simp;rfl));intro w12 hw;have n0_:=nR hw (uR (rf2 qg iL (by decide) (.int .i64 rQ) (.slice nZ kX.length oh)));have n1_:=nR hw (uR (rf2 rG iL (by decide) (.int .i64 rQ) (.slice nZ kX.length oh)));have n2_ : aa (w12.heap[yD]? = some (.cells #[.int .i64 rQ,.slice nZ kX.length oh] 26 (0,0))):=⟨(by rw [hw];exact (by (repeat refine up1 ?_);refine bV (cs:=#[.int .i64 rQ,.slice none 0 0]) ?_ 1 _ rfl;(repeat refine up1 ?_);refine bV (cs:=#[.int .i64 0,.slice none 0 0]) ?_ 0 _ rfl;(repeat refine up1 ?_);exact iL.out))⟩;have n3_:=nB hw (uH HB.out);clear hw qg rG iL HB;have qg:=n0_;have rG:=n1_;have iL:=n2_;have HB:=n3_;clear n0_ n1_ n2_ n3_;have qR:=bc iL 0;have qU:=bc iL 1;have qV:=bf iL 0;have qW:=bf iL 1;obtain ⟨kL,kM,GZ⟩:=Kd.bB rG.out;subst GZ) | ((with_reducible refine ag (f:=23) rfl ?_);refine gL (some 29) Try.func23 #[.agg #[.int .i64 rQ,.slice nZ kX.length oh],.slice kL mK.length kM] ?_;(with_reducible refine (bu.calls k rQ _ _ kX (fun k_=>some k_ = (.slice kL mK.length kM : Value).ownBlock) _ _ mK zF ME _ ?side1 ?side2 ?side3 A5.out).mono ?_);(case side1=>exact uC ((Kd.aM qg.out).2.2));(case side2=>exact (Kd.aM qg.out).2.1);(case side3=>exact Kd.R_V (Kd.xW rfl (Kd.dE (rG.out) iL.out (by decide))));rintro e w15 ⟨ul,rfl,ho0,hb⟩;refine ⟨_,rfl,?_⟩;have Ad:=zA (Kd.aX (nw (nw (Kd.ah (ok':=fun k_=>True) ho0 (fun _ hk_=>trivial)) (uR qg.out)) (uR rG.out)) (af (uH HB.out)));replace qg:=zA (Kd.aJ (uR qg.out) (Kd.aG ho0) hb);replace rG:=zA (Kd.aJ (uR rG.out) (Kd.aG ho0) hb);replace iL:=xB iL hb;replace HB:=xH HB hb;(try clear hb);(try clear ho0);have yf:=bc iL 0;have zg:=bc iL 1;have yg:=bf iL 0;have zh:=bf iL 1) | ((with_reducible refine ag (f:=24) rfl ?_);refine gL (some 35) Try.func24 #[.agg #[.int .i64 rQ,.slice nZ kX.length oh],.slice kL mK.length kM] ?_;(with_reducible refine (aI.calls k rQ _ _ kX (fun k_=>some k_ = (.slice kL mK.length kM : Value).ownBlock) _ _ mK acC ajt _ ?side1 ?side2 ?side3 A6.out).mono ?_);(case side1=>exact uC ((Kd.aM qg.out).2.2));(case side2=>exact (Kd.aM qg.out).2.1);(case side3=>exact Kd.R_V (Kd.xW rfl (Kd.dE (rG.out) iL.out (by decide))));rintro e w17 ⟨awI,rfl,ho0,hb⟩;refine ⟨_,rfl,?_⟩;have OT:=zA (Kd.aX (nw (nw (nw (Kd.ah (ok':=fun k_=>True) ho0 (fun _ hk_=>trivial)) (uR qg.out)) (uR rG.out)) (uR Ad.out)) (af (uH HB.out)));replace qg:=zA (Kd.aJ (uR qg.out) (Kd.aG ho0) hb);replace rG:=zA (Kd.aJ (uR rG.out) (Kd.aG ho0) hb);replace Ad:=zA (Kd.aJ (uR Ad.out) (Kd.aG ho0) hb);replace iL:=xB iL hb;replace HB:=xH HB hb;(try clear hb);(try clear ho0)));(try simp only [Act.put,ls,lz,ln]);go_cut [46] (fun v46 wc=>∃ (kq : Nat) (Vx : Bool),v46 = .bool Vx∧aa (aA.j0 kq l0 mK zF ME Vx rQ kX = some r)∧aa (kq ≤ k)∧aa (Kd.R (Kd.int .i64) 2 wc w.heap.size (fun k_=>ax k_ ul∧ax k_ (.slice nZ kX.length oh)) (.slice kL mK.length kM) mK)∧aa (Kd.R (Kd.int .i64) 2 wc w.heap.size (fun k_=>ax k_ (.slice kL mK.length kM)∧ax k_ (.slice nZ kX.length oh)) ul zF)∧aa (Kd.R (Kd.int .i64) 2 wc w.heap.size (fun k_=>ax k_ (.slice kL mK.length kM)∧ax k_ ul) (.slice nZ kX.length oh) kX)∧aa (wc.heap[yD]? = some (.cells #[.int .i64 rQ,(.slice nZ kX.length oh)] 26 (0,0)))∧aa (Below w.heap.size w wc))
  case first =>
   have H:=HC7.out;clear HC7;replace H:=gE H;obtain ⟨c18,yK,Jy,H⟩|⟨c18,yK,Jy,H⟩:=H
   ·(first | rw [yK] | (simp only [jW,nH];rw [yK]) | skip);have H':=zA H;clear H;go_wp2;go_meet;(case rel=>exact ⟨_,(true),eS,H',⟨by first | omega | exact Nat.le_refl _⟩,⟨uR (Kd.ah rG.out (fun _ ⟨⟨b,a⟩,_⟩=>⟨a,b⟩))⟩,⟨uR (Kd.ah Ad.out (fun _ hk=>⟨hk.1.2,hk.1.1.2⟩))⟩,⟨uR (Kd.ah qg.out (fun _ ⟨⟨a,b⟩,_⟩=>⟨a,b⟩))⟩,⟨uB iL.out⟩,⟨uH HB.out⟩⟩)
   clear c18;(first | rw [yK] | (simp only [jW,nH];rw [yK]) | skip);replace H:=bO H;obtain ⟨QV,A19,H⟩:=H;have H':=zA H;clear H;obtain ⟨asF,aju,rfl⟩:=Kd.bB Ad.out;obtain ⟨Vy,Vz,rfl⟩:=Kd.bB OT.out;go_wp2_with (first | (go_at_call 25;(with_reducible refine (fw.calls k _ _ zF _ _ acC QV _ ?side1 ?side2 ?side3 ?side4 A19.out).mono ?_);(case side1=>exact uC ((Kd.aM Ad.out).2.2));(case side2=>exact (Kd.aM Ad.out).2.1);(case side3=>exact uC ((Kd.aM OT.out).2.2));(case side4=>exact (Kd.aM OT.out).2.1);rintro e w' ⟨rfl,⟨nd,rfl⟩⟩));go_meet;(case rel=>exact ⟨_,(!QV),eS,H',⟨by first | omega | exact Nat.le_refl _⟩,⟨uR (Kd.ah rG.out (fun _ ⟨⟨b,a⟩,_⟩=>⟨a,b⟩))⟩,⟨uR (Kd.ah Ad.out (fun _ hk=>⟨hk.1.2,hk.1.1.2⟩))⟩,⟨uR (Kd.ah qg.out (fun _ ⟨⟨a,b⟩,_⟩=>⟨a,b⟩))⟩,⟨uB iL.out⟩,⟨uH HB.out⟩⟩)
  case rest =>
   clear HC7;(try clear c1);(try clear c2);(try clear p2);(try clear c3);(try clear c4);(try clear c5);(try clear c18);(try clear yK);(try clear Jy);(try clear tV);(try clear tX);(try clear qR);(try clear qU);(try clear yf);(try clear zg);(try clear tY);(try clear tZ);(try clear qV);(try clear qW);(try clear yg);(try clear zh);obtain ⟨kq,Vx,rfl,HA,HJ6,um,iF,iy,iL,HB⟩:=hcut
   cases kq with
   | zero=>exact absurd HA.out (by simp [aA.j0])
   | succ kj6 =>
    have H:=HA.out;clear HA;simp only [aA.j0] at H;replace H:=gB H;obtain ⟨rfl,H⟩|⟨rfl,H⟩:=H
    ·rw [HRT.out] at H;exact absurd H (by simp)
    ·replace H:=bO H;obtain ⟨⟨qF,lG,oU⟩,A23,H⟩:=H;(try dsimp only at H);replace H:=bO H;obtain ⟨⟨CF,acD⟩,A24,H⟩:=H;(try dsimp only at H);replace H:=bO H;obtain ⟨⟨acE,ajv⟩,A25,H⟩:=H;(try dsimp only at H);have aeZ:=zA H;clear H;go_upto_region 11 with (first | ((with_reducible refine ag (f:=26) rfl ?_);refine gL (some 49) Try.func26 #[.slice A0 l0.length c0] ?_;(with_reducible refine (dh.calls kj6 _ _ l0 qF lG oU _ ?side1 ?side2 A23.out).mono ?_);(case side1=>exact uC ((Kd.aW HR0.out HB.out)));(case side2=>exact HC0.out);rintro e w27 ⟨awJ,awK,rfl,ho0,ho1,hb⟩;refine ⟨_,rfl,?_⟩;have sJ:=zA (Kd.aX (nw (nw (nw ho0 (uR um.out)) (uR iF.out)) (uR iy.out)) (af (uH HB.out)));have sK:=zA (Kd.aX (nw (nw (nw ho1 (uR um.out)) (uR iF.out)) (uR iy.out)) (af (uH HB.out)));replace um:=td2 (uR um.out) hb ho0 ho1;replace iF:=td2 (uR iF.out) hb ho0 ho1;replace iy:=td2 (uR iy.out) hb ho0 ho1;replace iL:=xB iL hb;replace HB:=xH HB hb;(try clear hb);(try clear ho0);(try clear ho1)) | ((with_reducible refine aT (N:=9) rfl ?_);(try (refine lq (by rfl) ?_;dsimp only));refine bx 9 #[.int .i64 0,.slice none 0 0] 26 ?_;intro Ez hg w28 hbox hb;replace um:=xR um hb;replace iF:=xR iF hb;replace iy:=xR iy hb;replace sJ:=xR sJ hb;replace sK:=xR sK hb;have jV:=zA (hbox);have ae0:=gq HB hg;have:=geI ae0;have ae1:=gq HB hg;replace HB:=xH HB hb;have vU:=zA ((by rw [hg];exact neL iL : yD ≠ Ez));have Ae:=zA ((by rw [hg];exact neG iL : Ez ≠ yD));replace iL:=xB iL hb;have:=geI ae1;clear hb hbox hg;have ajw:=Ae.out;have ajx:=vU.out;have FX:=bc jV 0;have FY:=bc jV 1;have FZ:=bf jV 0;have F3:=bf jV 1;obtain ⟨rR,rT,asG⟩:=Kd.bB sJ.out;subst asG;obtain ⟨xG,xI,TC⟩:=Kd.bB sK.out;subst TC) | ((with_reducible refine ag (f:=27) rfl ?_);refine gL (some 55) Try.func27 #[.agg #[.int .i64 qF,.slice rR lG.length rT],.slice xG oU.length xI] ?_;(with_reducible refine (bE.calls kj6 qF _ _ lG _ _ oU CF acD _ ?side1 ?side2 ?side3 ?side4 A24.out).mono ?_);(case side1=>exact rc (uR ((rf2 sJ jV (by decide) (.int .i64 qF) (.slice rR lG.length rT)))));(case side2=>exact (Kd.aM sJ.out).2.1);(case side3=>exact rc (uR ((rf2 sK jV (by decide) (.int .i64 qF) (.slice rR lG.length rT)))));(case side4=>exact (Kd.aM sK.out).2.1);rintro e w33 ⟨zG,rfl,ho0,hb⟩;refine ⟨_,rfl,?_⟩;have VA:=rf2 um jV (by decide) (.int .i64 qF) (.slice rR lG.length rT);have VB:=rf2 iF jV (by decide) (.int .i64 qF) (.slice rR lG.length rT);have Af:=rf2 iy jV (by decide) (.int .i64 qF) (.slice rR lG.length rT);have Ag:=zA (Kd.aX (nw (nw (nw (nw (nw ho0 (uR VA)) (uR VB)) (uR Af)) (uR ((rf2 sJ jV (by decide) (.int .i64 qF) (.slice rR lG.length rT))))) (uR ((rf2 sK jV (by decide) (.int .i64 qF) (.slice rR lG.length rT))))) (af (uH HB.out)));replace um:=zA (Kd.aJ (uR VA) (Kd.aG ho0) hb);replace iF:=zA (Kd.aJ (uR VB) (Kd.aG ho0) hb);replace iy:=zA (Kd.aJ (uR Af) (Kd.aG ho0) hb);clear VA VB Af;replace sJ:=zA (Kd.aJ (uR ((rf2 sJ jV (by decide) (.int .i64 qF) (.slice rR lG.length rT)))) (Kd.aG ho0) hb);replace sK:=zA (Kd.aJ (uR ((rf2 sK jV (by decide) (.int .i64 qF) (.slice rR lG.length rT)))) (Kd.aG ho0) hb);replace iL:=zA (dD (g:=yD) (o:=.cells #[.int .i64 rQ,.slice nZ kX.length oh] 26 (0,0)) (by (repeat refine up1 ?_);refine dG ?_ vU.out _;(repeat refine up1 ?_);refine dG ?_ vU.out _;(repeat refine up1 ?_);exact iL.out) hb);replace jV:=zA (dD (g:=Ez) (o:=.cells #[.int .i64 qF,.slice rR lG.length rT] 26 (0,0)) (by (repeat refine up1 ?_);refine bV (cs:=#[.int .i64 qF,.slice none 0 0]) ?_ 1 _ rfl;(repeat refine up1 ?_);refine bV (cs:=#[.int .i64 0,.slice none 0 0]) ?_ 0 _ rfl;(repeat refine up1 ?_);exact jV.out) hb);replace HB:=xH HB hb;(try clear hb);(try clear ho0);have Cx:=bc jV 0;have Cy:=bc jV 1;have Cz:=bf jV 0;have CB:=bf jV 1) | ((with_reducible refine ag (f:=28) rfl ?_);refine gL (some 61) Try.func28 #[.agg #[.int .i64 qF,.slice rR lG.length rT],.slice xG oU.length xI] ?_;(with_reducible refine (aN.calls kj6 qF _ _ lG _ _ oU acE ajv _ ?side1 ?side2 ?side3 ?side4 A25.out).mono ?_);(case side1=>exact uC ((Kd.aM sJ.out).2.2));(case side2=>exact (Kd.aM sJ.out).2.1);(case side3=>exact uC ((Kd.aM sK.out).2.2));(case side4=>exact (Kd.aM sK.out).2.1);rintro e w35 ⟨awL,rfl,ho0,hb⟩;refine ⟨_,rfl,?_⟩;have OU:=zA (Kd.aX (nw (nw (nw (nw (nw (nw ho0 (uR um.out)) (uR iF.out)) (uR iy.out)) (uR sJ.out)) (uR sK.out)) (uR Ag.out)) (af (uH HB.out)));replace um:=zA (Kd.aJ (uR um.out) (Kd.aG ho0) hb);replace iF:=zA (Kd.aJ (uR iF.out) (Kd.aG ho0) hb);replace iy:=zA (Kd.aJ (uR iy.out) (Kd.aG ho0) hb);replace sJ:=zA (Kd.aJ (uR sJ.out) (Kd.aG ho0) hb);replace sK:=zA (Kd.aJ (uR sK.out) (Kd.aG ho0) hb);replace Ag:=zA (Kd.aJ (uR Ag.out) (Kd.aG ho0) hb);replace iL:=xB iL hb;replace jV:=xB jV hb;replace HB:=xH HB hb;(try clear hb);(try clear ho0)));(try simp only [Act.put,ls,lz,ln]);go_cut [72] (fun v72 wc=>∃ (kq : Nat) (OV : Bool),v72 = .bool OV∧aa (aA.j1 kq mK zF ME oU CF acD OV rQ kX qF lG = some r)∧aa (kq ≤ kj6)∧aa (Kd.R (Kd.int .i64) 2 wc w.heap.size (fun k_=>ax k_ ul∧ax k_ (.slice xG oU.length xI)∧ax k_ zG∧ax k_ (.slice nZ kX.length oh)∧ax k_ (.slice rR lG.length rT)) (.slice kL mK.length kM) mK)∧aa (Kd.R (Kd.int .i64) 2 wc w.heap.size (fun k_=>ax k_ (.slice kL mK.length kM)∧ax k_ (.slice xG oU.length xI)∧ax k_ zG∧ax k_ (.slice nZ kX.length oh)∧ax k_ (.slice rR lG.length rT)) ul zF)∧aa (Kd.R (Kd.int .i64) 2 wc w.heap.size (fun k_=>ax k_ (.slice kL mK.length kM)∧ax k_ ul∧ax k_ zG∧ax k_ (.slice nZ kX.length oh)∧ax k_ (.slice rR lG.length rT)) (.slice xG oU.length xI) oU)∧aa (Kd.R (Kd.int .i64) 2 wc w.heap.size (fun k_=>ax k_ (.slice kL mK.length kM)∧ax k_ ul∧ax k_ (.slice xG oU.length xI)∧ax k_ (.slice nZ kX.length oh)∧ax k_ (.slice rR lG.length rT)) zG CF)∧aa (Kd.R (Kd.int .i64) 2 wc w.heap.size (fun k_=>ax k_ (.slice kL mK.length kM)∧ax k_ ul∧ax k_ (.slice xG oU.length xI)∧ax k_ zG∧ax k_ (.slice rR lG.length rT)) (.slice nZ kX.length oh) kX)∧aa (Kd.R (Kd.int .i64) 2 wc w.heap.size (fun k_=>ax k_ (.slice kL mK.length kM)∧ax k_ ul∧ax k_ (.slice xG oU.length xI)∧ax k_ zG∧ax k_ (.slice nZ kX.length oh)) (.slice rR lG.length rT) lG)∧aa (wc.heap[yD]? = some (.cells #[.int .i64 rQ,(.slice nZ kX.length oh)] 26 (0,0)))∧aa (wc.heap[Ez]? = some (.cells #[.int .i64 qF,(.slice rR lG.length rT)] 26 (0,0)))∧aa (Below w.heap.size w wc))
     case first =>
      have H:=aeZ.out;clear aeZ;replace H:=gE H;obtain ⟨c36,CG,QW,H⟩|⟨c36,CG,QW,H⟩:=H
      ·(first | rw [CG] | (simp only [jW,nH];rw [CG]) | skip);have H':=zA H;clear H;go_wp2;go_meet;(case rel=>exact ⟨_,(true),eS,H',⟨by have:=HJ6.out;first | omega | exact Nat.le_refl _⟩,⟨uR (Kd.ah um.out (fun _ ⟨⟨⟨⟨⟨a,d⟩,f⟩,b⟩,c⟩,_⟩=>⟨a,b,c,d,f⟩))⟩,⟨uR (Kd.ah iF.out (fun _ ⟨⟨⟨⟨⟨a,d⟩,f⟩,b⟩,c⟩,_⟩=>⟨a,b,c,d,f⟩))⟩,⟨uR (Kd.ah sK.out (fun _ ⟨⟨⟨⟨⟨f,a⟩,b⟩,d⟩,c⟩,_⟩=>⟨a,b,c,d,f⟩))⟩,⟨uR (Kd.ah Ag.out (fun _ ⟨⟨⟨⟨⟨⟨_,a⟩,b⟩,d⟩,f⟩,c⟩,_⟩=>⟨a,b,c,d,f⟩))⟩,⟨uR (Kd.ah iy.out (fun _ ⟨⟨⟨⟨⟨a,b⟩,f⟩,c⟩,d⟩,_⟩=>⟨a,b,c,d,f⟩))⟩,⟨uR (Kd.ah sJ.out (fun _ ⟨⟨⟨⟨⟨c,a⟩,b⟩,f⟩,d⟩,_⟩=>⟨a,b,c,d,f⟩))⟩,⟨uB iL.out⟩,⟨uB jV.out⟩,⟨uH HB.out⟩⟩)
      clear c36;(first | rw [CG] | (simp only [jW,nH];rw [CG]) | skip);replace H:=bO H;obtain ⟨QU,A37,H⟩:=H;have H':=zA H;clear H;obtain ⟨tC,qw,rfl⟩:=Kd.bB Ag.out;obtain ⟨ayL,ayM,rfl⟩:=Kd.bB OU.out;go_wp2_with (first | (go_at_call 25;(with_reducible refine (fw.calls kj6 _ _ CF _ _ acE QU _ ?side1 ?side2 ?side3 ?side4 A37.out).mono ?_);(case side1=>exact uC ((Kd.aM Ag.out).2.2));(case side2=>exact (Kd.aM Ag.out).2.1);(case side3=>exact uC ((Kd.aM OU.out).2.2));(case side4=>exact (Kd.aM OU.out).2.1);rintro e w' ⟨rfl,⟨nd,rfl⟩⟩));go_meet;(case rel=>exact ⟨_,(!QU),eS,H',⟨by have:=HJ6.out;first | omega | exact Nat.le_refl _⟩,⟨uR (Kd.ah um.out (fun _ ⟨⟨⟨⟨⟨a,d⟩,f⟩,b⟩,c⟩,_⟩=>⟨a,b,c,d,f⟩))⟩,⟨uR (Kd.ah iF.out (fun _ ⟨⟨⟨⟨⟨a,d⟩,f⟩,b⟩,c⟩,_⟩=>⟨a,b,c,d,f⟩))⟩,⟨uR (Kd.ah sK.out (fun _ ⟨⟨⟨⟨⟨f,a⟩,b⟩,d⟩,c⟩,_⟩=>⟨a,b,c,d,f⟩))⟩,⟨uR (Kd.ah Ag.out (fun _ ⟨⟨⟨⟨⟨⟨_,a⟩,b⟩,d⟩,f⟩,c⟩,_⟩=>⟨a,b,c,d,f⟩))⟩,⟨uR (Kd.ah iy.out (fun _ ⟨⟨⟨⟨⟨a,b⟩,f⟩,c⟩,d⟩,_⟩=>⟨a,b,c,d,f⟩))⟩,⟨uR (Kd.ah sJ.out (fun _ ⟨⟨⟨⟨⟨c,a⟩,b⟩,f⟩,d⟩,_⟩=>⟨a,b,c,d,f⟩))⟩,⟨uB iL.out⟩,⟨uB jV.out⟩,⟨uH HB.out⟩⟩)
     case rest =>
      clear aeZ;(try clear c1);(try clear c2);(try clear p2);(try clear c3);(try clear c4);(try clear c5);(try clear c18);(try clear yK);(try clear Jy);(try clear c22);(try clear c23);(try clear c24);(try clear c26);(try clear c27);(try clear c28);(try clear c29);(try clear c36);(try clear CG);(try clear QW);(try clear tV);(try clear tX);(try clear qR);(try clear qU);(try clear yf);(try clear zg);(try clear FX);(try clear FY);(try clear Cx);(try clear Cy);(try clear tY);(try clear tZ);(try clear qV);(try clear qW);(try clear yg);(try clear zh);(try clear FZ);(try clear F3);(try clear Cz);(try clear CB);(try clear p2);obtain ⟨kq,OV,rfl,HA,VC,um,iF,oO,CK,iy,lu,iL,jV,HB⟩:=hcut
      cases kq with
      | zero=>exact absurd HA.out (by simp [aA.j1])
      | succ asH =>
       have H:=HA.out;clear HA;simp only [aA.j1] at H;replace H:=gB H;obtain ⟨rfl,H⟩|⟨rfl,H⟩:=H
       ·rw [HRT.out] at H;exact absurd H (by simp)
       ·have ae2:=zA H;clear H;go_upto_region 13 with (fail);go_cut [88] (fun v88 wc=>∃ (kq : Nat) (OW : Bool),v88 = .bool OW∧aa (aA.j2 kq mK zF ME oU CF OW rQ kX qF lG = some r)∧aa (kq ≤ asH)∧aa (Kd.R (Kd.int .i64) 2 wc w.heap.size (fun k_=>ax k_ ul∧ax k_ (.slice xG oU.length xI)∧ax k_ zG∧ax k_ (.slice nZ kX.length oh)∧ax k_ (.slice rR lG.length rT)) (.slice kL mK.length kM) mK)∧aa (Kd.R (Kd.int .i64) 2 wc w.heap.size (fun k_=>ax k_ (.slice kL mK.length kM)∧ax k_ (.slice xG oU.length xI)∧ax k_ zG∧ax k_ (.slice nZ kX.length oh)∧ax k_ (.slice rR lG.length rT)) ul zF)∧aa (Kd.R (Kd.int .i64) 2 wc w.heap.size (fun k_=>ax k_ (.slice kL mK.length kM)∧ax k_ ul∧ax k_ zG∧ax k_ (.slice nZ kX.length oh)∧ax k_ (.slice rR lG.length rT)) (.slice xG oU.length xI) oU)∧aa (Kd.R (Kd.int .i64) 2 wc w.heap.size (fun k_=>ax k_ (.slice kL mK.length kM)∧ax k_ ul∧ax k_ (.slice xG oU.length xI)∧ax k_ (.slice nZ kX.length oh)∧ax k_ (.slice rR lG.length rT)) zG CF)∧aa (Kd.R (Kd.int .i64) 2 wc w.heap.size (fun k_=>ax k_ (.slice kL mK.length kM)∧ax k_ ul∧ax k_ (.slice xG oU.length xI)∧ax k_ zG∧ax k_ (.slice rR lG.length rT)) (.slice nZ kX.length oh) kX)∧aa (Kd.R (Kd.int .i64) 2 wc w.heap.size (fun k_=>ax k_ (.slice kL mK.length kM)∧ax k_ ul∧ax k_ (.slice xG oU.length xI)∧ax k_ zG∧ax k_ (.slice nZ kX.length oh)) (.slice rR lG.length rT) lG)∧aa (wc.heap[yD]? = some (.cells #[.int .i64 rQ,(.slice nZ kX.length oh)] 26 (0,0)))∧aa (wc.heap[Ez]? = some (.cells #[.int .i64 qF,(.slice rR lG.length rT)] 26 (0,0)))∧aa (Below w.heap.size w wc))
        case first =>
         have H:=ae2.out;clear ae2;replace H:=gE H;obtain ⟨c42,Fb,VD,H⟩|⟨c42,Fb,VD,H⟩:=H
         ·(first | rw [Fb] | (simp only [jW,nH];rw [Fb]) | skip);have H':=zA H;clear H;go_wp2;go_meet;(case rel=>exact ⟨_,(false),eS,H',⟨by have:=HJ6.out;have:=VC.out;first | omega | exact Nat.le_refl _⟩,⟨uR um.out⟩,⟨uR iF.out⟩,⟨uR oO.out⟩,⟨uR CK.out⟩,⟨uR iy.out⟩,⟨uR lu.out⟩,⟨uB iL.out⟩,⟨uB jV.out⟩,⟨uH HB.out⟩⟩)
         clear c42;(first | rw [Fb] | (simp only [jW,nH];rw [Fb]) | skip);replace H:=gE H;obtain ⟨c43,QX,VE,H⟩|⟨c43,QX,VE,H⟩:=H
         ·have acF : ¬ (oU = []):=fun h_=>c43 (by rw [h_];rfl);obtain ⟨VF,QY⟩ : ∃ j_ : Int,(wrap64 ((oU.length : Int) - 1)) = j_:=⟨_,rfl⟩;(first | rw [QY] at H | simp only [QY] at H);have asI : (IntKind.i64.wrap ((oU.length : Int) - 1)) = VF:=(jW _).trans QY;replace H:=gD H;obtain ⟨acG,H⟩:=H;replace H:=gD H;obtain ⟨acH,H⟩:=H;have H':=zA H;clear H;have MF : 0 ≤ ((VF) : Int):=oD;have MG : (VF) < (oU.length : Int):=oD;obtain ⟨asJ,ajy,MH⟩:=Kd.ic (Kd.aM oO.out).2.2 (VF) MF MG;cases ajy;replace MF:=eq_true MF;replace MG:=eq_true MG;go_wp2;go_meet;(case rel=>exact ⟨_,(((rd oU (VF)) != 0)),(by first | rfl | (simp;done) | (simp only [← QY] <;> (first | rfl | simp)) | (simp [*];done)),H',⟨by have:=HJ6.out;have:=VC.out;first | omega | exact Nat.le_refl _⟩,⟨uR um.out⟩,⟨uR iF.out⟩,⟨uR oO.out⟩,⟨uR CK.out⟩,⟨uR iy.out⟩,⟨uR lu.out⟩,⟨uB iL.out⟩,⟨uB jV.out⟩,⟨uH HB.out⟩⟩)
         clear c43;have H':=zA H;clear H;go_wp2;go_meet;(case rel=>exact ⟨_,(true),eS,H',⟨by have:=HJ6.out;have:=VC.out;first | omega | exact Nat.le_refl _⟩,⟨uR um.out⟩,⟨uR iF.out⟩,⟨uR oO.out⟩,⟨uR CK.out⟩,⟨uR iy.out⟩,⟨uR lu.out⟩,⟨uB iL.out⟩,⟨uB jV.out⟩,⟨uH HB.out⟩⟩)
        case rest =>
         clear ae2;(try clear c1);(try clear p1);(try clear q1);(try clear hx1);(try clear c2);(try clear p2);(try clear c3);(try clear c4);(try clear c5);(try clear p6);(try clear p11);(try clear q11);(try clear asK);(try clear c18);(try clear yK);(try clear Jy);(try clear c22);(try clear c23);(try clear c24);(try clear c26);(try clear c27);(try clear c28);(try clear c29);(try clear c36);(try clear CG);(try clear QW);(try clear c40);(try clear c42);(try clear Fb);(try clear VD);(try clear c43);(try clear QX);(try clear VE);(try clear acF);(try clear c45);(try clear acG);(try clear c46);(try clear acH);(try clear tV);(try clear tX);(try clear qR);(try clear qU);(try clear yf);(try clear zg);(try clear FX);(try clear FY);(try clear Cx);(try clear Cy);(try clear tY);(try clear tZ);(try clear qV);(try clear qW);(try clear yg);(try clear zh);(try clear FZ);(try clear F3);(try clear Cz);(try clear CB);(try clear MH);(try clear MF);(try clear p2);(try clear MG);obtain ⟨kq,OW,rfl,HA,ajz,um,iF,oO,CK,iy,lu,iL,jV,HB⟩:=hcut
         cases kq with
         | zero=>exact absurd HA.out (by simp [aA.j2])
         | succ ae3 =>
          have H:=HA.out;clear HA;simp only [aA.j2] at H;have ae4:=zA H;clear H;go_upto_if 88 with (fail);go_cut [] (fun wc=>∃ (kq : Nat),aa (aA.j3 kq mK zF ME rQ kX = some r)∧aa (kq ≤ ae3)∧aa (Kd.R (Kd.int .i64) 2 wc w.heap.size (fun k_=>ax k_ ul∧ax k_ (.slice nZ kX.length oh)∧ax k_ (.slice rR lG.length rT)) (.slice kL mK.length kM) mK)∧aa (Kd.R (Kd.int .i64) 2 wc w.heap.size (fun k_=>ax k_ (.slice kL mK.length kM)∧ax k_ (.slice nZ kX.length oh)∧ax k_ (.slice rR lG.length rT)) ul zF)∧aa (Kd.R (Kd.int .i64) 2 wc w.heap.size (fun k_=>ax k_ (.slice kL mK.length kM)∧ax k_ ul∧ax k_ (.slice rR lG.length rT)) (.slice nZ kX.length oh) kX)∧aa (Kd.R (Kd.int .i64) 2 wc w.heap.size (fun k_=>ax k_ (.slice kL mK.length kM)∧ax k_ ul∧ax k_ (.slice nZ kX.length oh)) (.slice rR lG.length rT) lG)∧aa (wc.heap[yD]? = some (.cells #[.int .i64 rQ,(.slice nZ kX.length oh)] 26 (0,0)))∧aa (wc.heap[Ez]? = some (.cells #[.int .i64 qF,(.slice rR lG.length rT)] 26 (0,0)))∧aa (Below w.heap.size w wc))
          case first =>
           have H:=ae4.out;clear ae4;replace H:=gB H;obtain ⟨rfl,H⟩|⟨rfl,H⟩:=H
           ·replace H:=bO H;obtain ⟨⟨acI,ajA⟩,A49,H⟩:=H;(try dsimp only at H);replace H:=gE H;obtain ⟨c50,Fe,QZ,H⟩|⟨c50,Fe,QZ,H⟩:=H
            ·(first | rw [Fe] | (simp only [jW,nH];rw [Fe]) | skip);rw [HRT.out] at H;exact absurd H (by simp)
            clear c50;(first | rw [Fe] | (simp only [jW,nH];rw [Fe]) | skip);replace H:=bO H;obtain ⟨acA,A51,H⟩:=H;replace H:=gB H;obtain ⟨rfl,H⟩|⟨rfl,H⟩:=H
            ·have H':=zA H;clear H;have awM:=Ae.out;have awN:=vU.out;have Z5:=bc jV 0;have Z6:=bc jV 1;have Z7:=bf jV 0;have Z8:=bf jV 1;obtain ⟨ajB,ajC,rfl⟩:=Kd.bB CK.out;go_wp2_with (first | ((with_reducible refine ag (f:=23) rfl ?_);refine gL (some 92) Try.func23 #[.agg #[.int .i64 qF,.slice rR lG.length rT],.slice ajB CF.length ajC] ?_;(with_reducible refine (bu.calls ae3 qF _ _ lG (fun k_=>some k_ = (.slice ajB CF.length ajC : Value).ownBlock) _ _ CF acI ajA _ ?side1 ?side2 ?side3 A49.out).mono ?_);(case side1=>exact uC ((Kd.aM lu.out).2.2));(case side2=>exact (Kd.aM lu.out).2.1);(case side3=>exact Kd.R_V (Kd.xW rfl (Kd.dE (Kd.dE (CK.out) iL.out (by decide)) jV.out (by decide))));rintro e w56 ⟨awO,rfl,ho0,hb⟩;refine ⟨_,rfl,?_⟩;have OX:=zA (Kd.aX (nw (nw (nw (nw (nw (nw (Kd.ah (ok':=fun k_=>True) ho0 (fun _ hk_=>trivial)) (uR um.out)) (uR iF.out)) (uR oO.out)) (uR CK.out)) (uR iy.out)) (uR lu.out)) (af (uH HB.out)));replace um:=zA (Kd.aJ (uR um.out) (Kd.aG ho0) hb);replace iF:=zA (Kd.aJ (uR iF.out) (Kd.aG ho0) hb);replace oO:=zA (Kd.aJ (uR oO.out) (Kd.aG ho0) hb);replace CK:=zA (Kd.aJ (uR CK.out) (Kd.aG ho0) hb);replace iy:=zA (Kd.aJ (uR iy.out) (Kd.aG ho0) hb);replace lu:=zA (Kd.aJ (uR lu.out) (Kd.aG ho0) hb);replace iL:=xB iL hb;replace jV:=xB jV hb;replace HB:=xH HB hb;(try clear hb);(try clear ho0);obtain ⟨TD,TE,ae5⟩:=Kd.bB OX.out;subst ae5) | (go_at_call 25;(with_reducible refine (fw.calls ae3 _ _ acI _ _ oU true _ ?side1 ?side2 ?side3 ?side4 A51.out).mono ?_);(case side1=>exact uC ((Kd.aM OX.out).2.2));(case side2=>exact (Kd.aM OX.out).2.1);(case side3=>exact uC ((Kd.aM oO.out).2.2));(case side4=>exact (Kd.aM oO.out).2.1);rintro e w' ⟨rfl,⟨nd,rfl⟩⟩));go_meet;(case rel=>exact ⟨_,H',⟨by have:=HJ6.out;have:=VC.out;have:=ajz.out;first | omega | exact Nat.le_refl _⟩,⟨uR (Kd.ah um.out (fun _ ⟨⟨a,_,_,b,c⟩,_⟩=>⟨a,b,c⟩))⟩,⟨uR (Kd.ah iF.out (fun _ ⟨⟨a,_,_,b,c⟩,_⟩=>⟨a,b,c⟩))⟩,⟨uR (Kd.ah iy.out (fun _ ⟨⟨a,b,_,_,c⟩,_⟩=>⟨a,b,c⟩))⟩,⟨uR (Kd.ah lu.out (fun _ ⟨⟨a,b,_,_,c⟩,_⟩=>⟨a,b,c⟩))⟩,⟨uB iL.out⟩,⟨uB jV.out⟩,⟨uH HB.out⟩⟩)
            ·rw [HRT.out] at H;exact absurd H (by simp)
           ·have H':=zA H;clear H;go_wp2;go_meet;(case rel=>exact ⟨_,H',⟨by have:=HJ6.out;have:=VC.out;have:=ajz.out;first | omega | exact Nat.le_refl _⟩,⟨uR (Kd.ah um.out (fun _ ⟨a,_,_,b,c⟩=>⟨a,b,c⟩))⟩,⟨uR (Kd.ah iF.out (fun _ ⟨a,_,_,b,c⟩=>⟨a,b,c⟩))⟩,⟨uR (Kd.ah iy.out (fun _ ⟨a,b,_,_,c⟩=>⟨a,b,c⟩))⟩,⟨uR (Kd.ah lu.out (fun _ ⟨a,b,_,_,c⟩=>⟨a,b,c⟩))⟩,⟨uB iL.out⟩,⟨uB jV.out⟩,⟨uH HB.out⟩⟩)
          case rest =>
           clear ae4;(try clear c1);(try clear p1);(try clear q1);(try clear hx1);(try clear c2);(try clear p2);(try clear c3);(try clear c4);(try clear c5);(try clear p6);(try clear p11);(try clear q11);(try clear asK);(try clear c18);(try clear yK);(try clear Jy);(try clear c22);(try clear c23);(try clear c24);(try clear c26);(try clear c27);(try clear c28);(try clear c29);(try clear c36);(try clear CG);(try clear QW);(try clear c40);(try clear c42);(try clear Fb);(try clear VD);(try clear c43);(try clear QX);(try clear VE);(try clear acF);(try clear c45);(try clear acG);(try clear c46);(try clear acH);(try clear c48);(try clear c50);(try clear Fe);(try clear QZ);(try clear c52);(try clear c53);(try clear tV);(try clear tX);(try clear qR);(try clear qU);(try clear yf);(try clear zg);(try clear FX);(try clear FY);(try clear Cx);(try clear Cy);(try clear Z5);(try clear Z6);(try clear tY);(try clear tZ);(try clear qV);(try clear qW);(try clear yg);(try clear zh);(try clear FZ);(try clear F3);(try clear Cz);(try clear CB);(try clear Z7);(try clear Z8);(try clear MH);(try clear p1);(try clear p11);(try clear MF);(try clear p2);(try clear p6);(try clear q1);(try clear q11);(try clear MG);obtain ⟨kq,HA,ayN,um,iF,iy,lu,iL,jV,HB⟩:=hcut
           cases kq with
           | zero=>exact absurd HA.out (by simp [aA.j3])
           | succ ajD =>
            have H:=HA.out;clear HA;simp only [aA.j3] at H;replace H:=gE H;obtain ⟨c58,VG,VH,H⟩|⟨c58,VG,VH,H⟩:=H
            ·obtain rfl:=Option.some.inj H;obtain ⟨ajE,ajF,rfl⟩:=Kd.bB iF.out;go_wp2;go_ret;exact ⟨eX,uH HB.out⟩
            clear c58;replace H:=bO H;obtain ⟨⟨acJ,ajG⟩,A59,H⟩:=H;(try dsimp only at H);replace H:=gE H;obtain ⟨c60,ajH,ajI,H⟩|⟨c60,ajH,ajI,H⟩:=H
            ·rw [HRT.out] at H;exact absurd H (by simp)
            clear c60;replace H:=bO H;obtain ⟨Vv,A61,H⟩:=H;obtain rfl:=Option.some.inj H;have ait:=vU.out;have aiu:=Ae.out;have Zq:=bc iL 0;have Zr:=bc iL 1;have Zt:=bf iL 0;have Zu:=bf iL 1;obtain ⟨asL,asM,rfl⟩:=Kd.bB iF.out;go_wp2_with (first | ((with_reducible refine ag (f:=27) rfl ?_);refine gL (some 111) Try.func27 #[.agg #[.int .i64 rQ,.slice nZ kX.length oh],.slice asL zF.length asM] ?_;(with_reducible refine (bE.calls ajD rQ _ _ kX _ _ zF acJ ajG _ ?side1 ?side2 ?side3 ?side4 A59.out).mono ?_);(case side1=>exact uC ((Kd.aM iy.out).2.2));(case side2=>exact (Kd.aM iy.out).2.1);(case side3=>exact uC ((Kd.aM iF.out).2.2));(case side4=>exact (Kd.aM iF.out).2.1);rintro e w65 ⟨awP,rfl,ho0,hb⟩;refine ⟨_,rfl,?_⟩;have OY:=zA (Kd.aX (nw (nw (nw (nw ho0 (uR um.out)) (uR iF.out)) (uR iy.out)) (uR lu.out)) (af (uH HB.out)));replace um:=zA (Kd.aJ (uR um.out) (Kd.aG ho0) hb);replace iF:=zA (Kd.aJ (uR iF.out) (Kd.aG ho0) hb);replace iy:=zA (Kd.aJ (uR iy.out) (Kd.aG ho0) hb);replace lu:=zA (Kd.aJ (uR lu.out) (Kd.aG ho0) hb);replace iL:=xB iL hb;replace jV:=xB jV hb;replace HB:=xH HB hb;(try clear hb);(try clear ho0);obtain ⟨ayO,ayP,asN⟩:=Kd.bB OY.out;subst asN) | (go_at_call 25;(with_reducible refine (fw.calls ajD _ _ acJ _ _ mK Vv _ ?side1 ?side2 ?side3 ?side4 A61.out).mono ?_);(case side1=>exact uC ((Kd.aM OY.out).2.2));(case side2=>exact (Kd.aM OY.out).2.1);(case side3=>exact uC ((Kd.aM um.out).2.2));(case side4=>exact (Kd.aM um.out).2.1);rintro e w' ⟨rfl,⟨nd,rfl⟩⟩));go_ret;exact ⟨eX,uH HB.out⟩
/-- THE ONE PURE STATEMENT of aA: yours. -/
def aA.Pure : Prop:=∀ (l0 : List Int),l0.length ≤ maxLen → l0.length * 1 ≤ 140737488351232 → (∀ x ∈ l0,(Lit.int .u8 x).wf = true) → ∃ k,aA.f k l0 = some true
theorem aA.walk (P : aA.Pure) (a0 : Option Addr) (MI cap0 : Nat) (z0 : List Int) (w : World) (w0 : (a0 = none∧MI = 0∧cap0 = 0∧z0 = []) ∨ ∃ x,a0 = some x∧MI ≤ cap0∧cap0 ≤ maxLen∧z0.length = cap0∧(∀ i,i < z0.length → w.cell? (x.add i) = some (.int .u8 (z0.getD i 0)))∧∀ n ∈ z0,(Lit.int .u8 n).wf = true) (y0 : MI * 1 ≤ 140737488351232) :
  Calls Try.prog 4 #[.slice a0 MI cap0] w fun e w'=>e = .returned (.bool true)∧Below w.heap.size w w':=by
 obtain ⟨l0,rfl,hr0,hm0,hw0,hc0⟩:=kG.aeA w0;obtain ⟨k,h⟩:=P l0 hm0 y0 hw0;refine (aA.calls k _ _ l0 true rfl w (Kd.yX (d:=(0 : Int)) (h1:=fun _=>rfl) hr0) hc0 h).mono ?_;rintro e w' ⟨rfl,hd⟩;exact ⟨rfl,hd⟩
/- The draws of moments and polynomials come to some value, of small length; no condition. -/
open Go Go.RowKit Go.Proofs.YtnpepkpogohcmaaW.PrintWords Go.Proofs.YtnpepkpogohcmaaW.PrintLast Go.Proofs.YtnpepkpogohcmaaW.PrintMore
section
variable {c : List Int} {i : Int}
theorem VI (s : St c i) (h : Int) : Ex (fun _=>kT.f c i h) (fun r=>St c r.2.1∧oJ r.1 = true):=by
  unfold kT.f
  refine Ex.bind (CL s h _ (by decide)) (fun r hr=>Ex.now ⟨hr.1,?_⟩)
  have e : ∀ x ∈ ([2,3,5,7,7,11,13,17,31,101,997,10007] : List Int),oJ x = true:=by decide
  exact e _ hr.2
theorem Z9 (s : St c i) (h n : Int) : Ex (fun _=>ow.f c i h n) (fun r=>St c r.2.1):=by
  unfold ow.f
  refine Ex.bind (mE s h 14) (fun r hr=>?_)
  refine Ex.ite (fun _=>?_) (fun _=>?_)
  · exact Ex.bind (CL hr.1 _ _ (by simp)) (fun r hr=>Ex.now hr.1)
  · exact Ex.bind (mE hr.1 _ _) (fun r hr=>Ex.now hr.1)
theorem Q0 (p : Int) : Ex (fun k=>mD.f k p) (fun q=>oJ q = true):=by
  unfold mD.f
  refine Ex.bind (P:=fun b=>b = oJ p) ⟨_,CO p,rfl⟩ (fun b hb=>Ex.ite (fun g=>Ex.now ?_) (fun _=>Ex.now (by decide)))
  rw [← hb];exact g
theorem aaa (p : Int) (m : Int) (d : Nat) : ∀ (j n h : Int) (o : List Int),St c j → n ≤ (d : Int) → o.length + d ≤ 1000 → Ex (fun k=>eZ.l0 k p n o m c j h) (fun r=>St c r.2.1∧r.1.length ≤ o.length + d):=by
  induction d with
  | zero =>
    intro j n h o s hn ho
    refine Ex.step (fun k=>by rw [eZ.l0]) ?_
    exact Ex.neg (by omega) (Ex.now ⟨s,by dsimp only;omega⟩)
  | succ d ih =>
    intro j n h o s hn ho
    refine Ex.step (fun k=>by rw [eZ.l0]) ?_
    refine Ex.ite (fun g=>?_) (fun g=>Ex.now ⟨s,by dsimp only;omega⟩)
    have hw : wrap64 (n - 1) = n - 1:=df (by omega) (by omega)
    have next : ∀ (j' h' x : Int),St c j' → Ex (fun k=>eZ.l0 k p (wrap64 (n - 1)) (o ++ [x]) m c j' h') (fun r=>St c r.2.1∧r.1.length ≤ o.length + (d + 1)):=by
      intro j' h' x s'
      rw [hw]
      refine Ex.weak (ih j' (n - 1) h' (o ++ [x]) s' (by omega) (by simp;omega)) (fun r hr=>⟨hr.1,?_⟩)
      have:=hr.2
      simp only [List.length_append,List.length_singleton] at this
      omega
    refine Ex.ite (fun _=>?_) (fun _=>?_)
    · exact Ex.bind (mE s h p) (fun r hr=>Ex.pos (by omega) (next _ _ _ hr.1))
    · refine Ex.bind (mE s h 3) (fun r hr=>?_)
      refine Ex.ite (fun _=>?_) (fun _=>?_)
      · exact Ex.bind (mE hr.1 _ p) (fun r hr=>Ex.pos (by omega) (next _ _ _ hr.1))
      · exact Ex.pos (by omega) (next _ _ _ hr.1)
theorem MJ (s : St c i) (h p : Int) (n : Int) (hn : -1000 ≤ n∧n ≤ 100) : Ex (fun k=>lF.f k c i h p n) (fun r=>St c r.2.1∧r.1.length ≤ 102):=by
  unfold lF.f
  refine Ex.bind (mE s h _) (fun r hr=>?_)
  obtain ⟨s1,h1,h2,h3⟩:=hr
  rw [df (x:=n + 2) (by omega) (by omega)] at h2 h3
  have hb : r.1 ≤ 101:=by
    by_cases g : 1 ≤ n + 2
    · have:=h2 g;omega
    · have:=h3 (by omega);omega
  have hf : Ex (fun k=>eZ.f k c r.2.1 r.2.2 p r.1) (fun r'=>St c r'.2.1∧r'.1.length ≤ 102):=by
    unfold eZ.f
    refine Ex.bind (mE s1 _ 3) (fun r' hr'=>?_)
    refine Ex.weak (aaa p _ 101 _ _ _ [] hr'.1 (by omega) (by simp)) (fun a ha=>⟨ha.1,?_⟩)
    have:=ha.2
    simp only [List.length_nil] at this
    omega
  refine Ex.bind hf (fun r' hr'=>?_)
  refine Ex.bind (P:=fun l=>l = mr r'.1) ⟨_,xY r'.1 (by unfold Sm;omega),rfl⟩ (fun l hl=>Ex.now ⟨hr'.1,?_⟩)
  have:=CR r'.1
  dsimp only
  rw [hl]
  have:=hr'.2
  omega
theorem G8 (p n : Int) (hn : n ≤ 100) (d : Nat) : ∀ (j h : Int) (o : List Int),St c j → o.length ≤ 100 → (n ≤ (o.length : Int)∧d = 0 ∨ (o.length : Int) + d = n) →
    Ex (fun k=>dP.l0 k p n o (o.length : Int) c j h) (fun r=>St c r.2.1∧(r.1.length = o.length + d)):=by
  induction d with
  | zero =>
    intro j h o s ho hi
    refine Ex.step (fun k=>by rw [dP.l0]) ?_
    exact Ex.neg (by omega) (Ex.now ⟨s,rfl⟩)
  | succ d ih =>
    intro j h o s ho hi
    refine Ex.step (fun k=>by rw [dP.l0]) ?_
    refine Ex.pos (by omega) ?_
    have hw : wrap64 ((o.length : Int) + 1) = ((o.length + 1 : Nat) : Int):=kS (n:=1000) (by omega) (by omega)
    have next : ∀ (j' h' x : Int),St c j' → Ex (fun k=>dP.l0 k p n (o ++ [x]) (wrap64 ((o.length : Int) + 1)) c j' h') (fun r=>St c r.2.1∧r.1.length = o.length + (d + 1)):=by
      intro j' h' x s'
      have:=ih j' h' (o ++ [x]) s' (by simp;omega) (by simp;omega)
      simp only [List.length_append,List.length_singleton] at this
      rw [hw]
      refine Ex.weak this (fun r hr=>⟨hr.1,?_⟩)
      have:=hr.2
      omega
    refine Ex.bind (mE s h _) (fun r hr=>Ex.bind (mE hr.1 _ 16) (fun r' hr'=>?_))
    exact Ex.ite (fun _=>Ex.pos (by omega) (next _ _ _ hr'.1)) (fun _=>Ex.pos (by omega) (next _ _ _ hr'.1))
theorem BS (s : St c i) (h p n : Int) (hn : n ≤ 100) : Ex (fun k=>dP.f k c i h p n) (fun r=>St c r.2.1∧r.1.length = n.toNat):=by
  unfold dP.f
  have e : dP.l0 = dP.l0:=rfl
  by_cases g : n ≤ 0
  · refine Ex.weak (G8 p n hn 0 i h [] s (by simp) (.inl ⟨by simpa using g,rfl⟩)) (fun r hr=>⟨hr.1,?_⟩)
    have:=hr.2
    simp only [List.length_nil] at this
    omega
  · refine Ex.weak (G8 p n hn n.toNat i h [] s (by simp) (.inr (by simp;omega))) (fun r hr=>⟨hr.1,?_⟩)
    have:=hr.2
    simp only [List.length_nil] at this
    omega
theorem VJ (p x8 x9 : Int) (o : List Int) (h : Int) {j : Int} {P : List Int × Int × Int → Prop} (ho : o.length ≤ 1000)
    (hno : Ex (fun k=>bN.l0 k p o (wrap64 (x8 - 1)) c j h) P) (hyes : Ex (fun k=>bN.l0 k p (o ++ [x9]) (wrap64 (x8 - 1)) c j h) P) (d : Nat) : ∀ (i : Nat) (b : Bool),i + d = o.length →
    Ex (fun k=>bN.l1 k p o x8 x9 b (i : Int) c j h) P:=by
  induction d with
  | zero =>
    intro i b hi
    refine Ex.step (fun k=>by rw [bN.l1]) ?_
    exact Ex.neg (by omega) (Ex.ite (fun _=>hno) (fun _=>Ex.pos (by omega) hyes))
  | succ d ih =>
    intro i b hi
    refine Ex.step (fun k=>by rw [bN.l1]) ?_
    refine Ex.pos (by omega) ?_
    rw [kS (i:=i) (n:=o.length) (by omega) (by omega)]
    exact Ex.ite (fun _=>ih (i + 1) _ (by omega)) (fun _=>Ex.pos (by omega) (ih (i + 1) _ (by omega)))
theorem VK (p : Int) (d : Nat) : ∀ (j n h : Int) (o : List Int),St c j → n ≤ (d : Int) → o.length + d ≤ 100 → Ex (fun k=>bN.l0 k p o n c j h) (fun r=>St c r.2.1∧r.1.length ≤ o.length + d):=by
  induction d with
  | zero =>
    intro j n h o s hn ho
    refine Ex.step (fun k=>by rw [bN.l0]) ?_
    exact Ex.neg (by omega) (Ex.now ⟨s,by dsimp only;omega⟩)
  | succ d ih =>
    intro j n h o s hn ho
    refine Ex.step (fun k=>by rw [bN.l0]) ?_
    refine Ex.ite (fun g=>?_) (fun g=>Ex.now ⟨s,by dsimp only;omega⟩)
    have hw : wrap64 (n - 1) = n - 1:=df (by omega) (by omega)
    refine Ex.bind (mE s h p) (fun r hr=>Ex.bind (mE hr.1 _ _) (fun r' hr'=>Ex.bind (CL hr'.1 _ _ (by simp)) (fun r'' hr''=>?_)))
    refine VJ p n r''.1 o r''.2.2 (by omega) ?_ ?_ o.length 0 false (by omega)
    · rw [hw]
      exact Ex.weak (ih _ (n - 1) _ o hr''.1 (by omega) (by omega)) (fun a ha=>⟨ha.1,by have:=ha.2;omega⟩)
    · rw [hw]
      refine Ex.weak (ih _ (n - 1) _ (o ++ [r''.1]) hr''.1 (by omega) (by simp;omega)) (fun a ha=>⟨ha.1,?_⟩)
      have:=ha.2
      simp only [List.length_append,List.length_singleton] at this
      omega
theorem VL (s : St c i) (h p : Int) : Ex (fun k=>bN.f k c i h p 6) (fun r=>St c r.2.1∧r.1.length ≤ 7):=by
  unfold bN.f
  refine Ex.bind (mE s h _) (fun r hr=>?_)
  obtain ⟨s1,h1,h2,_⟩:=hr
  rw [df (x:=(6 : Int) + 1) (by omega) (by omega)] at h2
  have h2:=h2 (by omega)
  refine Ex.weak (VK p 7 _ _ _ [] s1 (by omega) (by simp)) (fun a ha=>⟨ha.1,?_⟩)
  have:=ha.2
  simp only [List.length_nil] at this
  omega
theorem ajJ {p : Int} (hp : p ≠ 0) (nodes : List Int) (n : Int) (o : List Int) (ho : o.length ≤ 1000) (q : Nat) {P : Int × List Int → Prop} (hq : nodes.length = q) (hq2 : q ≤ 100) (x11 : Int)
    (k : ∀ (ws' : List Int) (s : Int),ws'.length = q → Ex (fun k=>eU.l0 k p nodes n ws' (wrap64 (x11 + 1)) p (o ++ [s])) P) (d : Nat) : ∀ (i : Nat) (s : Int) (ws' : List Int),ws'.length = q → i + d = q →
    Ex (fun k=>eU.l1 k p nodes n ws' x11 s (i : Int) p o) P:=by
  induction d with
  | zero =>
    intro i s ws' hw hi
    refine Ex.step (fun k=>by rw [eU.l1]) ?_
    exact Ex.neg (by omega) (Ex.pos (by omega) (k ws' s hw))
  | succ d ih =>
    intro i s ws' hw hi
    refine Ex.step (fun k=>by rw [eU.l1]) ?_
    refine Ex.pos (by omega) (Ex.pos (by omega) (Ex.pos (by omega) (Ex.neg hp ?_)))
    rw [kS (i:=i) (n:=q) (by omega) (by omega)]
    exact ih (i + 1) _ _ (by rw [List.length_set];exact hw) (by omega)
theorem acK {p : Int} (hp : p ≠ 0) (nodes : List Int) (n : Int) (q : Nat) (hq : nodes.length = q) (hq2 : q ≤ 100) (d : Nat) : ∀ (o ws : List Int),ws.length = q → o.length + d ≤ 100 → (n ≤ (o.length : Int)∧d = 0 ∨ (o.length : Int) + d = n) →
    Ex (fun k=>eU.l0 k p nodes n ws (o.length : Int) p o) (fun r=>r.2.length = o.length + d):=by
  induction d with
  | zero =>
    intro o ws hw ho hi
    refine Ex.step (fun k=>by rw [eU.l0]) ?_
    exact Ex.neg (by omega) (Ex.now rfl)
  | succ d ih =>
    intro o ws hw ho hi
    refine Ex.step (fun k=>by rw [eU.l0]) ?_
    refine Ex.pos (by omega) ?_
    refine ajJ hp nodes n o (by omega) q hq hq2 _ (fun ws' s hw'=>?_) q 0 0 ws hw (by omega)
    rw [kS (i:=o.length) (n:=1000) (by omega) (by omega)]
    have:=ih (o ++ [s]) ws' hw' (by simp;omega) (by simp;omega)
    simp only [List.length_append,List.length_singleton] at this
    exact Ex.weak this (fun r hr=>by omega)
theorem ajK {p : Int} (hp : p ≠ 0) (nodes ws : List Int) (n : Int) (hq : ws.length = nodes.length) (hq2 : nodes.length ≤ 100) (hn : n ≤ 100) : Ex (fun k=>eU.f k p nodes ws n) (fun r=>r.2.length ≤ 100):=by
  unfold eU.f
  refine Ex.bind (P:=fun l=>l = ws) (Ex.eq (G9 ws (by unfold Sm;omega)) rfl) (fun l hl=>?_)
  subst hl
  by_cases g : n ≤ 0
  · refine Ex.weak (acK hp nodes n nodes.length rfl hq2 0 [] l hq (by simp) (.inl ⟨by simpa using g,rfl⟩)) (fun r hr=>?_)
    simp only [List.length_nil] at hr
    omega
  · refine Ex.weak (acK hp nodes n nodes.length rfl hq2 n.toNat [] l hq (by simp;omega) (.inr (by simp;omega))) (fun r hr=>?_)
    simp only [List.length_nil] at hr
    omega
end
theorem aab (l : List Int) (hl : l.length ≤ 1000) (d : Nat) : ∀ (o : List Int),o.length + d = l.length → Ex (fun k=>jA.l0 k l o ((d : Int) - 1)) (fun r=>r.length = l.length):=by
  induction d with
  | zero =>
    intro o ho
    refine Ex.step (fun k=>by rw [jA.l0]) ?_
    exact Ex.neg (by omega) (Ex.now (by omega))
  | succ d ih =>
    intro o ho
    refine Ex.step (fun k=>by rw [jA.l0]) ?_
    refine Ex.pos (by omega) (Ex.pos (by omega) (Ex.pos (by omega) (Ex.pos (by omega) ?_)))
    rw [df (x:=((d + 1 : Nat) : Int) - 1 - 1) (by omega) (by omega),show ((d + 1 : Nat) : Int) - 1 - 1 = (d : Int) - 1 from by omega]
    exact ih _ (by simp;omega)
theorem aac (l : List Int) (hl : l.length ≤ 1000) : Ex (fun k=>jA.f k l) (fun r=>r.length = l.length):=by
  unfold jA.f
  rw [df (by omega) (by omega)]
  exact aab l hl l.length [] (by simp)
theorem ae6 {p : Int} (hp : p ≠ 0) (n : Nat) (a b : List Int) (ha : n ≤ a.length) (hb : n ≤ b.length) (hn : n ≤ 1000) (d : Nat) : ∀ (i : Nat) (s : Int),i + d = n → Ex (fun k=>jo.l0 k p (n : Int) a b s (i : Int)) (fun _=>True):=by
  induction d with
  | zero =>
    intro i s hi
    refine Ex.step (fun k=>by rw [jo.l0]) ?_
    exact Ex.neg (by omega) (Ex.now trivial)
  | succ d ih =>
    intro i s hi
    refine Ex.step (fun k=>by rw [jo.l0]) ?_
    refine Ex.pos (by omega) (Ex.pos (by omega) (Ex.pos (by omega) (Ex.pos (by omega) (Ex.neg hp ?_))))
    rw [kS (i:=i) (n:=n) (by omega) (by omega)]
    exact ih (i + 1) _ (by omega)
theorem VM {p : Int} (hp : p ≠ 0) (n : Nat) (a b : List Int) (ha : n ≤ a.length) (hb : n ≤ b.length) (hn : n ≤ 1000) : Ex (fun k=>jo.f k p (n : Int) a b) (fun _=>True):=by
  unfold jo.f
  exact Ex.ite (fun _=>Ex.neg hp (Ex.now trivial)) (fun _=>ae6 hp n a b ha hb hn n 0 0 (by omega))
theorem TF {p : Int} (hp : p ≠ 0) (l : List Int) (hl : l.length ≤ 1000) (d : Nat) : ∀ (i : Nat) (o : List Int),1 ≤ i → i + d = l.length → o.length = i → Ex (fun k=>dY.l0 k p l o (i : Int)) (fun r=>r.length = l.length + 1):=by
  induction d with
  | zero =>
    intro i o h1 hi ho
    refine Ex.step (fun k=>by rw [dY.l0]) ?_
    exact Ex.neg (by omega) (Ex.neg hp (Ex.pos (by omega) (Ex.now (by simp;omega))))
  | succ d ih =>
    intro i o h1 hi ho
    refine Ex.step (fun k=>by rw [dY.l0]) ?_
    rw [EU (i:=i) (by omega) (by omega),kS (i:=i) (n:=l.length) (by omega) (by omega)]
    refine Ex.pos (by omega) (Ex.pos (by omega) (Ex.pos (by omega) (Ex.pos (by omega) (Ex.neg hp (Ex.pos (by omega) ?_)))))
    exact ih (i + 1) _ (by omega) (by omega) (by simp;omega)
theorem TG {p : Int} (hp : p ≠ 0) (l : List Int) (h1 : 1 ≤ l.length) (hl : l.length ≤ 1000) : Ex (fun k=>dY.f k p l) (fun r=>r.length = l.length + 1):=by
  unfold dY.f
  exact Ex.neg hp (TF hp l hl (l.length - 1) 1 _ (by omega) (by omega) rfl)
theorem VN {p : Int} (hp : p ≠ 0) (d : Nat) : ∀ (n a b : Int),n ≤ (d : Int) → d ≤ 100000 → Ex (fun k=>fQ.l0 k p n a b) (fun _=>True):=by
  induction d with
  | zero =>
    intro n a b hn _
    refine Ex.step (fun k=>by rw [fQ.l0]) ?_
    exact Ex.neg (by omega) (Ex.neg hp (Ex.now trivial))
  | succ d ih =>
    intro n a b hn hd
    refine Ex.step (fun k=>by rw [fQ.l0]) ?_
    refine Ex.ite (fun g=>?_) (fun _=>Ex.neg hp (Ex.now trivial))
    have e : wrap64 (Int.tdiv n 2) = n / 2:=by
      rw [Int.tdiv_eq_ediv_of_nonneg (by omega),df (by omega) (by omega)]
    rw [e]
    exact Ex.ite (fun _=>Ex.neg hp (ih _ _ _ (by omega) (by omega))) (fun _=>Ex.neg hp (ih _ _ _ (by omega) (by omega)))
theorem OZ {p : Int} (hp : Pm p) (x : Int) : Ex (fun k=>iO.f k p x) (fun _=>True):=by
  have ht:=hp.top
  have h2:=hp.two
  unfold iO.f fQ.f
  refine Ex.bind (P:=fun _=>True) (Ex.bind (P:=fun _=>True) (Ex.eq (Co hp x) trivial) (fun a _=>?_)) (fun a _=>Ex.now trivial)
  rw [df (by omega) (by omega)]
  exact VN hp.ne 100000 _ _ _ (by omega) (by omega)
def VO (name : ByteArray) : Prop:=name.toList = ([117,110,105,102,111,114,109] : List UInt8) ∨ name.toList = ([108,97,103,117,101,114,114,101] : List UInt8) ∨ name.toList = ([104,101,114,109,105,116,101] : List UInt8) ∨ name.toList = ([99,97,116,97,108,97,110] : List UInt8)
theorem MK {p : Int} (hp : Pm p) (name : ByteArray) (n : Int) (hn : n ≤ 100) (d : Nat) : ∀ (o row : List Int),o.length ≤ 100 → (row.length = max o.length 1 ∨ VO name) → (n ≤ (o.length : Int)∧d = 0 ∨ (o.length : Int) + d = n) →
    Ex (fun k=>eu.l0 k name p n o row (o.length : Int)) (fun r=>r.1.length ≤ 200):=by
  have ht:=hp.top
  have h2:=hp.two
  induction d with
  | zero =>
    intro o row ho hr hi
    refine Ex.step (fun k=>by rw [eu.l0]) ?_
    exact Ex.neg (by omega) (Ex.now (by dsimp only;omega))
  | succ d ih =>
    intro o row ho hr hi
    refine Ex.step (fun k=>by rw [eu.l0]) ?_
    refine Ex.pos (by omega) ?_
    have hw : wrap64 ((o.length : Int) + 1) = ((o.length + 1 : Nat) : Int):=kS (n:=1000) (by omega) (by omega)
    have next : ∀ (x : Int) (row' : List Int),row'.length = o.length + 1 ∨ VO name → Ex (fun k=>eu.l0 k name p n (o ++ [x]) row' (wrap64 ((o.length : Int) + 1))) (fun r=>r.1.length ≤ 200):=by
      intro x row' hr'
      have:=ih (o ++ [x]) row' (by simp;omega) (hr'.imp (fun g=>by simp;omega) id) (by simp;omega)
      simp only [List.length_append,List.length_singleton] at this
      rw [hw]
      exact this
    refine Ex.ite (fun g1=>?_) (fun g1=>?_)
    · refine Ex.neg hp.ne (Ex.ite (fun _=>Ex.now (by dsimp only;simp)) (fun _=>?_))
      exact Ex.bind (OZ hp _) (fun a _=>Ex.pos (by omega) (next _ _ (.inr (.inl g1))))
    refine Ex.ite (fun g2=>?_) (fun g2=>?_)
    · refine Ex.ite (fun g=>?_) (fun _=>Ex.pos (by omega) (next _ _ (.inr (.inr (.inl g2)))))
      rw [df (x:=(o.length : Int) - 1) (by omega) (by omega)]
      exact Ex.pos (by omega) (Ex.pos (by omega) (Ex.neg hp.ne (Ex.pos (by omega) (next _ _ (.inr (.inr (.inl g2)))))))
    refine Ex.ite (fun g3=>?_) (fun g3=>?_)
    · refine Ex.ite (fun _=>Ex.pos (by omega) (next _ _ (.inr (.inr (.inr (.inl g3)))))) (fun g=>?_)
      refine Ex.ite (fun g'=>?_) (fun _=>Ex.pos (by omega) (next _ _ (.inr (.inr (.inr (.inl g3))))))
      rw [lU (by omega)] at g'
      rw [df (x:=(o.length : Int) - 2) (by omega) (by omega)]
      exact Ex.pos (by omega) (Ex.pos (by omega) (Ex.neg hp.ne (Ex.pos (by omega) (next _ _ (.inr (.inr (.inr (.inl g3))))))))
    refine Ex.ite (fun g4=>?_) (fun g4=>?_)
    · refine Ex.bind (aac o (by omega)) (fun a ha=>Ex.bind (VM hp.ne o.length o a (by omega) (by omega) (by omega)) (fun b _=>?_))
      exact Ex.pos (by omega) (next _ _ (.inr (.inr (.inr (.inr g4)))))
    · have hr : row.length = max o.length 1:=hr.resolve_right (by rintro (g | g | g | g) <;> contradiction)
      refine Ex.bind (VM hp.ne o.length o row (by omega) (by omega) (by omega)) (fun b _=>?_)
      refine Ex.ite (fun g=>?_) (fun g=>Ex.pos (by omega) (next _ _ (.inl (by omega))))
      exact Ex.bind (TG hp.ne row (by omega) (by omega)) (fun a ha=>Ex.pos (by omega) (next _ _ (.inl (by omega))))
theorem VP {p : Int} (hp : Pm p) (name : ByteArray) (n : Int) (hn : n ≤ 100) : Ex (fun k=>eu.f k name p n) (fun r=>r.1.length ≤ 200):=by
  unfold eu.f
  by_cases g : n ≤ 0
  · exact MK hp name n hn 0 [] [1] (by simp) (.inl rfl) (.inl ⟨by simpa using g,rfl⟩)
  · exact MK hp name n hn n.toNat [] [1] (by simp) (.inl rfl) (.inr (by simp;omega))
section
variable {c : List Int} {i : Int}
theorem TH (s : St c i) (h p n : Int) (hp : oJ p = true) (hn : n ≤ 100) : Ex (fun k=>mM.f k c i h p n) (fun r=>St c r.2.2.1∧r.2.1.length ≤ 200):=by
  have hm:=oJ.pm hp
  unfold mM.f
  refine Ex.bind (mE s h 4) (fun r hr=>?_)
  refine Ex.ite (fun _=>?_) (fun _=>?_)
  · refine Ex.bind (VL hr.1 _ _) (fun a ha=>Ex.bind (BS ha.1 _ _ _ (by have:=ha.2;omega)) (fun b hb=>Ex.bind (ajK hm.ne a.1 b.1 n (by have:=hb.2;omega) (by have:=ha.2;omega) hn) (fun q hq=>Ex.now ⟨hb.1,by dsimp only;omega⟩)))
  · refine Ex.ite (fun _=>?_) (fun _=>?_)
    · refine Ex.bind (P:=fun y=>y.length = 5) (Ex.now rfl) (fun y hy=>Ex.bind (mE hr.1 _ 5) (fun a ha=>?_))
      have h2:=ha.2.2.1 (by omega)
      refine Ex.pos ha.2.1 (Ex.pos (by omega) (Ex.bind (VP hm _ n hn) (fun b hb=>?_)))
      refine Ex.ite (fun _=>Ex.now ⟨ha.1,hb⟩) (fun _=>?_)
      exact Ex.bind (BS ha.1 _ _ _ hn) (fun q hq=>Ex.now ⟨hq.1,by have:=hq.2;dsimp only;omega⟩)
    · exact Ex.bind (BS hr.1 _ _ _ hn) (fun q hq=>Ex.now ⟨hq.1,by have:=hq.2;dsimp only;omega⟩)
theorem aad (s : St c i) (h : Int) : Ex (fun k=>ou.f k c i h) (fun r=>St c r.2.2.1∧r.2.1.length ≤ 200):=by
  unfold ou.f
  refine Ex.bind (VI s h) (fun a ha=>Ex.bind (Z9 ha.1 _ _) (fun b hb=>Ex.bind (CL hb _ _ (by simp)) (fun q hq=>?_)))
  refine Ex.bind (TH hq.1 _ _ _ ha.2 (by unfold mn;split <;> omega)) (fun r hr=>Ex.now ⟨hr.1,hr.2⟩)
theorem VQ (c : List Int) (j h p : Int) (d : Nat) : ∀ o : List Int,o.length + d = 25 ∨ d = 0∧25 ≤ o.length → o.length ≤ 200 → Ex (fun k=>ig.l0 k c j h p o) (fun r=>r.2.2.1 = j∧r.2.1.length ≤ 201):=by
  induction d with
  | zero =>
    intro o ho hl
    refine Ex.step (fun k=>by rw [ig.l0]) ?_
    exact Ex.neg (by omega) (Ex.now ⟨rfl,by dsimp only;omega⟩)
  | succ d ih =>
    intro o ho hl
    refine Ex.step (fun k=>by rw [ig.l0]) ?_
    refine Ex.pos (by omega) (Ex.bind (P:=fun y=>y = [0]) (Ex.now rfl) (fun y hy=>?_))
    subst hy
    exact Ex.pos (by simp;omega) (ih _ (by simp;omega) (by simp;omega))
theorem ae7 (s : St c i) (h p : Int) (l : List Int) (hl : l.length ≤ 200) : Ex (fun k=>ig.f k c i h p l) (fun r=>St c r.2.2.1∧r.2.1.length ≤ 201):=by
  unfold ig.f
  refine Ex.bind (mE s h 50) (fun r hr=>?_)
  refine Ex.ite (fun _=>?_) (fun _=>?_)
  · exact Ex.bind (CL hr.1 _ _ (by decide)) (fun a ha=>Ex.now ⟨ha.1,by dsimp only;omega⟩)
  refine Ex.ite (fun _=>?_) (fun _=>?_)
  · refine Ex.bind (P:=fun y=>y = l) (Ex.eq (G9 l (by unfold Sm;omega)) rfl) (fun y hy=>Ex.bind (P:=fun y=>y = [p]) (Ex.now rfl) (fun z hz=>?_))
    subst hy hz
    exact Ex.pos (by simp;omega) (Ex.now ⟨hr.1,by simp;omega⟩)
  refine Ex.ite (fun _=>Ex.now ⟨hr.1,by simp⟩) (fun _=>?_)
  refine Ex.ite (fun _=>?_) (fun _=>Ex.now ⟨hr.1,by dsimp only;omega⟩)
  have st:=hr.1
  by_cases g : l.length ≤ 25
  · exact Ex.weak (VQ c _ _ p (25 - l.length) l (by omega) hl) (fun a ha=>⟨by rw [ha.1];exact st,ha.2⟩)
  · exact Ex.weak (VQ c _ _ p 0 l (by omega) hl) (fun a ha=>⟨by rw [ha.1];exact st,ha.2⟩)
theorem VR (s : St c i) (h : Int) : Ex (fun k=>nG.f k c i h) (fun r=>St c r.2.2.1∧r.2.1.length ≤ 201):=by
  unfold nG.f
  exact Ex.bind (aad s h) (fun a ha=>Ex.bind (ae7 ha.1 _ _ _ ha.2) (fun b hb=>Ex.now ⟨hb.1,hb.2⟩))
end
/- The draws of FnMomentExpansions. -/
section
variable {c : List Int} {i : Int}
def Of4 (r : Int × List Int × Int) : Prop:=r.2.1.length ≤ 201∧0 ≤ r.2.2∧r.2.2 ≤ 90
theorem Q3 (s : St c i) (h p : Int) (l : List Int) (hl : l.length ≤ 201) (n : Int) (hn : n ≤ 80) :
    Ex (fun _=>(aY.f c i h n).bind fun a=>(aY.f c a.2.1 a.2.2 24).bind fun b=>some (p,l,wrap64 (a.1 + wrap64 (Int.tdiv b.1 23)))) Of4:=by
  refine Ex.bind (mE s h n) (fun a ha=>Ex.bind (mE ha.1 _ 24) (fun b hb=>Ex.now ⟨hl,?_⟩))
  have a1:=ha.2.1
  have b1:=hb.2.1
  have b2:=hb.2.2.1 (by omega)
  have a2 : a.1 ≤ 80:=by
    by_cases g : 1 ≤ n
    · have:=ha.2.2.1 g;omega
    · have:=ha.2.2.2 (by omega);omega
  dsimp only
  rw [Int.tdiv_eq_ediv_of_nonneg b1,df (x:=b.1 / 23) (by omega) (by omega),df (by omega) (by omega)]
  omega
theorem VS (s : St c i) (h p : Int) (l : List Int) (hl : l.length ≤ 201) (n : Int) (hn : 0 ≤ n∧n ≤ 12) (b : Bool) (hb : b = true → oI p l = true) :
    Ex (fun k=>iw.j0 k n b c i h p l) Of4:=by
  refine Ex.step (fun k=>by rw [iw.j0]) ?_
  refine Ex.ite (fun g=>?_) (fun _=>?_)
  · have hm:=hb g
    obtain ⟨m,ho,hm2⟩:=UU p l
    refine Ex.bind (P:=fun o=>o = En p l) ⟨_,GK (oI.pm hm) (oI.nm hm) (oI.len hm).2,rfl⟩ (fun o e=>?_)
    subst e
    exact Q3 s h p l hl _ (by rw [df (by unfold mn;split <;> omega) (by unfold mn;split <;> omega)];unfold mn;split <;> omega)
  · exact Q3 s h p l hl _ (by rw [df (by omega) (by omega)];omega)
end
theorem ML {c : List Int} (p : Int) (l : List Int) (hll : l.length ≤ 201) (n : Int) (hn : n ≤ 90) (d : Nat) : ∀ (o : List Int) (j h : Int),St c j → (n < (o.length : Int)∧d = 0 ∨ (o.length : Int) + d = n + 1) → o.length ≤ 300 →
    Ex (fun k=>dh.l0 k n o (o.length : Int) c j h p l) (fun r=>Sm r.2.1.length∧Sm r.2.2.length):=by
  induction d with
  | zero =>
    intro o j h s hi ho
    refine Ex.step (fun k=>by rw [dh.l0]) ?_
    exact Ex.neg (by omega) (Ex.now ⟨by dsimp only;unfold Sm;omega,by dsimp only;unfold Sm;omega⟩)
  | succ d ih =>
    intro o j h s hi ho
    refine Ex.step (fun k=>by rw [dh.l0]) ?_
    refine Ex.pos (by omega) (Ex.bind (Q0 _) (fun q _=>Ex.bind (mE s h _) (fun a ha=>Ex.pos (by omega) ?_)))
    rw [kS (i:=o.length) (n:=1000) (by omega) (by omega)]
    have:=ih (o ++ [a.1]) a.2.1 a.2.2 ha.1 (by simp;omega) (by simp;omega)
    simp only [List.length_append,List.length_singleton] at this
    exact this
section
variable {c : List Int} (hb : ∀ x ∈ c,0 ≤ x∧x < 256) (hl : c.length ≤ 4096)
include hb hl
theorem VT : Ex (fun k=>iw.f k c) Of4:=by
  unfold iw.f
  refine Ex.bind (Kq hb hl) (fun a ha=>?_)
  obtain ⟨e,st⟩:=ha
  rw [e]
  refine Ex.bind (VR st _) (fun b hb=>?_)
  have hlen:=hb.2
  have hn : 0 ≤ mn (mx (wrap64 ((b.2.1.length : Int) / 2)) 0) 12∧mn (mx (wrap64 ((b.2.1.length : Int) / 2)) 0) 12 ≤ 12:=by
    rw [df (by omega) (by omega)]
    unfold mn mx
    split <;> split <;> omega
  refine Ex.bind (P:=fun t=>t = oI b.1 b.2.1) ⟨_,BP b.1 b.2.1 (by unfold Sm;omega),rfl⟩ (fun t ht=>?_)
  refine Ex.ite (fun g=>?_) (fun _=>VS hb.1 _ _ _ hlen _ hn _ (fun g=>by cases g))
  exact Ex.bind (mE hb.1 _ 6) (fun d hd=>VS hd.1 _ _ _ hlen _ hn _ (fun _=>by rw [← ht];exact g))
theorem O0 : Ex (fun k=>bY.f k c) (fun r=>Sm r.2.1.length∧Sm r.2.2.length):=by
  unfold bY.f
  refine Ex.bind (Kq hb hl) (fun a ha=>?_)
  obtain ⟨e,st⟩:=ha
  rw [e]
  refine Ex.bind (VT hb hl) (fun b hb=>Ex.bind (Q0 _) (fun q _=>Ex.bind (mE st _ 12) (fun d hd=>?_)))
  obtain ⟨b1,b2,b3⟩:=hb
  have d1:=hd.2.1
  have d2:=hd.2.2.1 (by omega)
  have hn : -1000 ≤ wrap64 (b.2.2 + wrap64 (Int.tdiv d.1 11))∧wrap64 (b.2.2 + wrap64 (Int.tdiv d.1 11)) ≤ 100:=by
    rw [Int.tdiv_eq_ediv_of_nonneg d1,df (x:=d.1 / 11) (by omega) (by omega),df (by omega) (by omega)]
    omega
  exact Ex.bind (MJ hd.1 _ _ _ hn) (fun f hf=>Ex.now ⟨by dsimp only;unfold Sm;omega,by have:=hf.2;dsimp only;unfold Sm;omega⟩)
theorem MM : Ex (fun k=>dh.f k c) (fun r=>Sm r.2.1.length∧Sm r.2.2.length):=by
  unfold dh.f
  refine Ex.bind (Kq hb hl) (fun a ha=>?_)
  obtain ⟨e,st⟩:=ha
  rw [e]
  refine Ex.bind (VT hb hl) (fun b hb'=>?_)
  obtain ⟨b1,b2,b3⟩:=hb'
  exact ML b.1 b.2.1 b1 b.2.2 b3 (b.2.2 + 1).toNat [] _ _ st (.inr (by simp;omega)) (by simp)
end
end Go.Proofs.Ytnpepkpogohcmaa.Pr
namespace Go.Proofs.Ytnpepkpogohcmaa.Pure
/- FnMomentExpansions: for every input the law answers true. No condition. -/
open Go Go.RowKit Go.Proofs.Ytnpepkpogohcmaa.Pr Go.Proofs.YtnpepkpogohcmaaW.PrintWords Go.Proofs.YtnpepkpogohcmaaW.PrintLast
theorem aae {p : Int} {f : List Int} (h : nU p f = true) : ∀ k, f.length = k + 1 → f.getD k 0 ≠ 0 := by
  intro k hk
  simp only [nU, EA, Bool.and_eq_true, Bool.or_eq_true, decide_eq_true_eq] at h
  have h3 := h.2.2.resolve_left (by omega)
  rw [show f.length - 1 = k from by omega] at h3
  simpa using h3
theorem aaf {p : Int} {f : List Int} (nf : Nm p f) (hl : f.length ≤ 25) (h : ∀ k, f.length = k + 1 → f.getD k 0 ≠ 0) : nU p f = true := by
  simp only [nU, EA, Bool.and_eq_true, Bool.or_eq_true, decide_eq_true_eq]
  refine ⟨nf, hl, ?_⟩
  by_cases h0 : f.length = 0
  · exact .inl h0
  · right
    have := h (f.length - 1) (by omega)
    simpa using this
theorem aag {p : Int} (hp : Pm p) (l : List Int) {f : List Int} (nf : Nm p f) : Nm p (tF p (mP p l) f.length f (List.replicate f.length 0)) := by
  have h := (EB hp (mP p l) (BU hp l) f.length f (List.replicate f.length 0) nf (Nat.le_refl _) (by simp) (fun j _ => by rw [List.getD_eq_getElem?_getD, List.getElem?_replicate]; split <;> rfl)).2.2
  have hl : (tF p (mP p l) f.length f (List.replicate f.length 0)).length = f.length := by rw [CU, List.length_replicate]
  intro x hx
  obtain ⟨j, hj, rfl⟩ := List.getElem_of_mem hx
  have := h j (by omega)
  simpa [List.getD, hj] using this
theorem FnMomentExpansions : aA.Pure := by
  intro c _ _ hw
  have hb : ∀ x ∈ c, 0 ≤ x ∧ x < 256 := fun x hx => by
    have h := hw x hx
    have h2 : IntKind.u8.min ≤ x ∧ x ≤ IntKind.u8.max := by simpa [Lit.wf] using h
    have h3 : (0 : Int) ≤ x := h2.1
    have h4 : x ≤ 255 := h2.2
    omega
  have main : Ev (fun k => aA.f k c) true := by
    unfold aA.f
    by_cases hl : c.length ≤ 4096
    case neg => exact Ev.jl (a := true) (by unfold uk.f; rw [decide_eq_true (by omega)]) (Ev.pos rfl (Ev.now _))
    refine Ev.jl (a := false) (by unfold uk.f; rw [decide_eq_false (by omega)]) (Ev.neg (by decide) ?_)
    obtain ⟨⟨p, l, f⟩, d1, s1, s1'⟩ := O0 hb hl
    obtain ⟨⟨q, m, g⟩, d2, s2, s2'⟩ := MM hb hl
    dsimp only at s1 s1' s2 s2'
    obtain ⟨a, ae, ai, al, ay, an⟩ := vV p l f s1 s1'
    obtain ⟨b, be, bi, bl, by', bn⟩ := xw q m g s2 s2'
    have three : Ev (fun k => aA.j3 k f a.1 a.2 p l) true := by
      refine Ev.step (fun k => by rw [aA.j3]) ?_
      by_cases hc : (oI p l && nU p f) = true ∧ f.length ≤ 12 ∧ Tn p l f.length
      · have ha := ay hc
        have hm : oI p l = true := by have := hc.1; simp only [Bool.and_eq_true] at this; exact this.1
        have hf : nU p f = true := by have := hc.1; simp only [Bool.and_eq_true] at this; exact this.2
        have hp := oI.pm hm
        have nf := nU.nm hf
        have hlen : (tF p (mP p l) f.length f (List.replicate f.length 0)).length = f.length := by rw [CU, List.length_replicate]
        obtain ⟨z, _, zi, _, zy, _⟩ := xw p l a.1 s1 al
        rw [ha] at zi zy
        dsimp only at zi zy
        have hz := zy ⟨hm, ⟨by rw [hlen]; exact hc.2.1, aag hp l nf⟩, by rw [hlen]; exact hc.2.2⟩
        rw [hlen, aah hp (mP p l) (BU hp l) nf (O1 (aae hf))] at hz
        subst hz
        rw [ha]
        exact Ev.pos rfl (Ev.bind zi (Ev.pos rfl (Ev.bind (F4 f s1') (Ev.now _))))
      · obtain ⟨h1, h2⟩ := an hc
        refine Ev.neg h1 (Ev.mI ?_)
        rw [h2]; rfl
    have two : ∀ w : Bool, (w = true → b.2 = 0 ∧ ∀ k, g.length = k + 1 → g.getD k 0 ≠ 0) → Ev (fun k => aA.j2 k f a.1 a.2 g b.1 w p l q m) true := by
      intro w hwt
      refine Ev.step (fun k => by rw [aA.j2]) ?_
      by_cases hw2 : w = true
      · obtain ⟨h0, hlast⟩ := hwt hw2
        have hc : oI q m = true ∧ (g.length ≤ 12 ∧ Nm q g) ∧ Tn q m g.length := Classical.byContradiction fun n => bn n h0
        have hbv := by' hc
        have hp := oI.pm hc.1
        have hsl := aai hp (mP q m) (BU hp m) hc.2.1.2 hlast
        have hst : nU q (xS q (mP q m) (fun k => g.getD k 0) g.length) = true := aaf (Cu hp _ _ _) (by rw [hsl]; have := hc.2.1.1; omega) (fun k hk => VU hp (mP q m) (BU hp m) hc.2.1.2 hlast (by rw [hsl] at hk; exact hk))
        obtain ⟨z, _, zi, _, zy, _⟩ := vV q m b.1 s2 bl
        rw [hbv] at zi zy
        dsimp only at zi zy
        have hz := zy ⟨by rw [hc.1, hst]; rfl, by rw [hsl]; exact hc.2.1.1, by rw [hsl]; exact hc.2.2⟩
        rw [aaj hp (mP q m) (BU hp m) hc.2.1.2 hsl rfl (by rw [CU, List.length_replicate])] at hz
        subst hz
        rw [hbv]
        exact Ev.pos hw2 (Ev.bind zi (Ev.pos rfl (Ev.bind (F4 g s2') (Ev.pos rfl three))))
      · exact Ev.neg hw2 three
    have one : Ev (fun k => aA.j1 k f a.1 a.2 g b.1 b.2 false p l q m) true := by
      refine Ev.step (fun k => by rw [aA.j1]) ?_
      refine Ev.neg (by decide) ?_
      by_cases h0 : b.2 = 0
      · refine Ev.pos h0 ?_
        by_cases hg : g.length = 0
        · exact Ev.pos (by omega) (two true (fun _ => ⟨h0, fun k hk => by omega⟩))
        · have hs := s2'
          unfold Sm at hs
          have e : wrap64 ((g.length : Int) - 1) = ((g.length - 1 : Nat) : Int) := EU (by omega) (by omega)
          refine Ev.neg (by omega) ?_
          rw [e, kW]
          refine Ev.pos (by omega) (Ev.pos (by omega) (two _ (fun h => ⟨h0, fun k hk => ?_⟩)))
          rw [show g.length - 1 = k from by omega] at h
          simpa using h
      · exact Ev.neg h0 (two false (fun h => by cases h))
    have nought : Ev (fun k => aA.j0 k c f a.1 a.2 false p l) true := by
      refine Ev.step (fun k => by rw [aA.j0]) ?_
      exact Ev.neg (by decide) (Ev.bind d2 (Ev.bind bi (Ev.bind be (Ev.pos rfl (Ev.bind (F4 _ bl) one)))))
    exact Ev.bind d1 (Ev.bind ai (Ev.bind ae (Ev.pos rfl (Ev.bind (F4 _ al) nought))))
  exact main.rounds
end Go.Proofs.Ytnpepkpogohcmaa.Pure
namespace Go.Proofs.Ytnpepkpogohcmaa.fnMomentExpansions
open Go.ChangeShapes Go.WideShapes Go.ChangeAt Go.RowKit
open Go.ChangeMaps (open_string shut_string)
set_option linter.unusedVariables false
theorem own : ownKnob Try.prog.godebug = none := by kernel_rfl
theorem laidOut : laidOutB Try.prog = true := by kernel_rfl
def ajL (k : IntKind) (w : World) (a : Option Addr) (len cap : Nat) (zs : List Int) : Prop :=
  (a = none ∧ len = 0 ∧ cap = 0 ∧ zs = []) ∨
  ∃ x, a = some x ∧ len ≤ cap ∧ cap ≤ maxLen ∧ zs.length = cap ∧ (∀ i, i < zs.length → w.cell? (x.add i) = some (.int k (zs.getD i 0))) ∧ ∀ n ∈ zs, (Lit.int k n).wf = true
set_option maxRecDepth 100000 in
theorem lifted (os : Os) (started : os.Started) (H : Type) (enc : TypeId × Value → H) :
    ReturnsInHanded {} Try.checked os 4 .any (Rows.fnMomentExpansionsSpec.pre6 enc Try.prog Try.f4 Rows.fnMomentExpansionsRow.domain false) (Rows.fnMomentExpansionsSpec.post enc Try.prog Try.f4 false true false false) := by
  refine returnsInHanded_of_change_sized (C := Try.checked) own started (by kernel_rfl) Try.func4
    (ChangeSpec.witness6 (enc := enc) (C := Try.checked) false ⟨#[], #[.slice none 0 0], []⟩ 8 (by kernel_rfl) (by kernel_rfl) (by kernel_rfl) (by kernel_rfl)) ?_
  intro W base args ds gs before hval0 hW hcnd hsz0 _
  have hsz : (DataW.weightsEach Try.prog (Try.f4.params.toList ++ Rows.fnMomentExpansionsSpec.plain.varTypes Try.prog) (ds ++ gs)).all (· ≤ reachBytes) = true := hsz0
  have hval : ∀ (j : Nat) t v, Try.f4.params[j]? = some t → args[j]? = some v → Value.okWide Try.prog W .any base t v := hval0
  have hW' := hW
  obtain ⟨p, q, hA0, hV, rfl, hfz, hnd⟩ := hW
  have hA : DataW.TrodAll enc Try.prog W 0 (fun _ => true) true Try.f4.params.toList args.toList ds p := hA0
  rw [Try.params4] at hA hval hsz
  obtain ⟨v0, vs0, d0, ds0, p0, q0, hargs, rfl, rfl, h0, r0⟩ := trodAll_cons hA
  obtain ⟨rfl, rfl, rfl⟩ := trodAll_nil r0
  obtain rfl : args = #[v0] := by cases args; simp_all
  obtain ⟨rfl, rfl⟩ := trodVars_none hV
  obtain ⟨a0, MI, cap0, rfl⟩ := okWide_slice Try.underlying22 (hval 0 22 v0 rfl rfl)
  have k0 := h0
  have lt0 : ∀ x ∈ p0, x.block < W.heap.size := by obtain ⟨m, hm⟩ := k0; exact DataW.trod_lt m _ _ _ hm
  obtain ⟨z0, w0⟩ : ∃ zs, ajL .u8 W a0 MI cap0 zs := by
    obtain ⟨fuel, hf⟩ := h0
    rcases open_ints Try.underlying22 Try.underlying5 (by kernel_rfl) hf with ⟨hcs, _⟩ | ⟨x, l, c, zs, hcs, _, hl, hm, hz, _, hcell, hwz⟩
    · simp [Value.cells] at hcs
      obtain ⟨rfl, rfl, rfl⟩ := hcs
      exact ⟨[], .inl ⟨rfl, rfl, rfl, rfl⟩⟩
    · simp [Value.cells] at hcs
      obtain ⟨rfl, rfl, rfl⟩ := hcs
      exact ⟨zs, .inr ⟨_, rfl, hl, hm, by simpa using hz, hcell, hwz⟩⟩
  have y0 : MI * 1 ≤ 140737488351232 := Go.Proofs.YtnpepkpogohcmaaW.PrintWords.OL hsz (j := 0) (t := 22) rfl rfl Try.underlying22 Try.underlying5 (by kernel_rfl) (by kernel_rfl) h0
  clear hA0 hval0 hsz0 hsz
  refine (Pr.aA.walk Pure.FnMomentExpansions a0 MI cap0 z0 W w0 y0).mono fun e W' ⟨he, bel⟩ => ?_
  subst he
  exact ⟨_, rfl, _, _, _, [], _, [], hW', trodAll_mk1 (shut_bool Try.underlying4 _), (trodAll_cons_mk (Below.trod laidOut (by kernel_rfl) (of_decide_eq_true (by kernel_rfl)) k0 bel lt0) trodAll_mk0), rfl, bel.frame _, fun h => by cases h⟩
theorem over : Rows.fnMomentExpansionsRow.holds Try.pinned (OpenSpec.ofChange Rows.fnMomentExpansionsSpec) :=
  OpenClaim.holds_of_wide 4 Try.f4 rfl rfl rfl rfl rfl rfl rfl ⟨rfl, rfl, rfl, rfl, rfl⟩ rfl rfl rfl rfl rfl (by kernel_rfl) Try.func4 (by kernel_rfl)
    (of_decide_eq_true (by kernel_rfl)) (by unfold Func.isWrapper; first | (rw [if_pos (by decide +kernel)]; kernel_rfl) | (rw [if_neg (by decide +kernel)]; exact ⟨rfl, rfl⟩))
    (fun os started H enc _ => lifted os started H enc)
theorem proved : Rows.FnMomentExpansionsSaid := over
#print axioms proved
end Go.Proofs.Ytnpepkpogohcmaa.fnMomentExpansions
namespace Go.Proofs.Ytnpepkpogohcmaa
/-- The row, under a short name, for the claim. -/
theorem fnMomentExpansions_holds : Rows.FnMomentExpansionsSaid := fnMomentExpansions.proved
end Go.Proofs.Ytnpepkpogohcmaa
