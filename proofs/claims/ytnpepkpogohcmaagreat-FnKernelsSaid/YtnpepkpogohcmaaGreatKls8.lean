/- Texts of this session in one: what functions of the program compute, and plain facts of it, under the conditions that each theorem names. -/
import Derived.Test.YtnpepkpogohcmaaGreatKls1
import Derived.Test.YtnpepkpogohcmaaGreatKls2
import Derived.Test.YtnpepkpogohcmaaGreatKls3
import Derived.Test.YtnpepkpogohcmaaGreatKls4
import Derived.Test.YtnpepkpogohcmaaGreatKls5
import Derived.Test.YtnpepkpogohcmaaGreatKls6
import Derived.Test.YtnpepkpogohcmaaGreatKls7
namespace Go.Proofs.YtnpepkpogohcmaaGreat.Pr
/- The reference's Hankel determinant: printed by a program of this session; its last call by hand (the rows are handed over to what sets their slots). -/
open Go.RowKit Go.Proofs.YtnpepkpogohcmaaGreatW.PrintWords Go.Proofs.YtnpepkpogohcmaaGreatW.PrintLast Go.Proofs.YtnpepkpogohcmaaGreatW.PrintMore
attribute [local go_sem] pE pF q8 rf nP nQ pG pI   -- for this text's walks alone
set_option linter.unusedVariables false
set_option linter.unusedSimpArgs false
/-! ### fU: function 74 -/
def fU.l0 : Nat → Int → List (List Int) → Int → Int → List Int → Option (Int)
 | 0,_,_,_,_,_=>none
 | k + 1,x1,x5,x6,VW,Ot=>if x6 < x1 then (if 0 ≤ x6 then (if x6 ≤ (wrap64 (x6 + x1)) then (if (wrap64 (x6 + x1)) ≤ (Ot.length : Int) then ((jS.f ((Ot.take ((wrap64 (x6 + x1)) : Int).toNat).drop (x6 : Int).toNat)).bind fun t138=>(if x5.length < 5864062014805 then (fU.l0 k x1 (x5 ++ [t138]) (wrap64 (x6 + 1)) VW Ot) else (none))) else (none)) else (none)) else (none)) else ((kC.f k VW x5).bind fun afn=>(some afn))
def fU.f (k : Nat) (au : Int) (av : List Int) (a1 : Int) : Option (Int):=fU.l0 k a1 (([] : List (List Int))) 0 au av
set_option maxHeartbeats 8000000 in
set_option maxRecDepth 100000 in
theorem fU.calls (k : Nat) (au : Int) (bE : Option Addr) (bD : Nat) (av : List Int) (a1 : Int) (r : Int) (w : World) (hr0_1 : Kd.C (Kd.int .i64) w bE av.length av) (gY : av.length ≤ bD) (h : fU.f k au av a1 = some r) :
  Calls Tryz.prog 74 #[.agg #[.int .i64 au,.slice bE av.length bD],.int .i64 a1] w fun e w'=>e = .returned (.int .i64 r)∧Below w.heap.size w w':=by
 have aGb:=Tryz.underlying26
 have d9:=zA hr0_1
 have eD:=zA gY
 clear hr0_1 gY
 have HB:=zA (Below.refl w.heap.size w)
 have H : (fU.l0 k a1 (([] : List (List Int))) 0 au av) = some r:=h
 clear h
 obtain ⟨as9,QL⟩ : ∃ y_ : List (List Int),y_ = (([] : List (List Int))):=⟨_,rfl⟩
 replace H : (fU.l0 k a1 as9 0 au av) = some r:=by first | (rw [QL];with_reducible exact H) | (have H2_:=(Option.bind_some _ _).symm.trans H;rw [QL];with_reducible exact H2_) | (have H2_:=(Option.bind_some _ _).symm.trans H;with_reducible exact H2_) | with_reducible exact H | (rw [QL];exact H) | exact H
 have ah3:=zA QL
 clear QL
 have H':=zA H
 clear H
 go_enter Tryz.func74,Tryz.ntmps74
 go_wp2_with (first | ((with_reducible refine bP (N:=2) rfl ?_);refine qV ?hg (N:=2) ?hd (cs:=#[.int .i64 au,.slice bE av.length bD]) (t:=26) ?hr ?_;(case hd=>rfl);(case hg=>rfl);(case hr=>first | (go_simp;done) | (go_simp;rfl));intro GM hg w3 hbox hb;have n0_:=xH HB hb;have n1_:=zA (hbox);have n2_:=zA ((by rw [hg];exact (af (uH HB.out)) : w.heap.size ≤ GM));have n3_:=zA ((by rw [hg];exact (af (uH HB.out)) : w.heap.size ≤ GM));clear HB;have HB:=n0_;have sO:=n1_;have aDW:=n2_;have ata:=n3_;have:=geI ata;clear n0_ n1_ n2_ n3_ hb hbox hg) | ((with_reducible refine bP (N:=7) rfl ?_);refine Kd.am0 (Kd.slice 2 (Kd.int .i64)) _ 24 ?hg (N:=7) ?hd (xs:=([] : List (List Int))) (inner:=[]) (ok:=fun _=>True) (okp:=fun _=>True) ?hr ?hp (fun _ hk=>hk) trivial (Below.refl _ _) (Nat.le_refl _) (by simp) ?_;(case hd=>rfl);(case hg=>rfl);(case hr=>first | (go_simp;done) | (go_simp;rfl));(case hp=>exact (dh.none _ _));intro aGc w4 ho5 hb hg_ hnew_;clear hg_ hnew_;(first | rw [← ah3.out] at ho5 | (simp only [Int.reduceToNat] at ho5;rw [← ah3.out] at ho5));have n0_:=zA (Kd.acN ho5 (af (uH HB.out)));have n1_:=xB sO hb;have n2_:=xH HB hb;clear sO HB;have atb:=n0_;have sO:=n1_;have HB:=n2_;clear n0_ n1_ n2_ hb ho5))
 go_loopg [5,6] k (fun kq v5 v6 w'=>∃ (gu : List (List Int)) (pR : Int),v6 = .int .i64 pR∧aa (fU.l0 kq a1 gu pR au av = some r)∧aa (kq ≤ k)∧aa (Kd.S (Kd.slice 2 (Kd.int .i64)) 24 w' w.heap.size (fun _=>True) v5 gu)∧aa (w'.heap[GM]? = some (.cells #[.int .i64 au,(.slice bE av.length bD)] 26 (0,0)))∧aa (Below w.heap.size w w'))
 case atStart=>exact ⟨(as9),(0),(by first | rfl | (simp;done) | (simp [*];done)),H',⟨Nat.le_refl _⟩,⟨by (with_reducible repeat (first | apply Kd.Hg | apply Kd.Hl | apply Kd.Mg));exact atb.out⟩,⟨uB sO.out⟩,⟨uH HB.out⟩⟩
 case round =>
  clear H'
  try clear c1
  try clear p2
  obtain ⟨gu,pR,rfl,HA,HK1,jJ,sO,HB⟩:=hrel
  cases gk with
  | zero=>exact absurd HA.out (by simp [fU.l0])
  | succ k1 =>
   have H:=HA.out
   clear HA
   simp only [fU.l0] at H
   by_cases c6 : pR < a1
   ·rw [if_pos c6] at H
    have qo : decide (pR < a1) = true:=decide_eq_true c6
    clear c6
    by_cases c7 : 0 ≤ pR
    ·rw [if_pos c7] at H
     have yQ:=eq_true c7
     have Bb : decide (0 ≤ pR) = true:=decide_eq_true c7
     clear c7
     by_cases c8 : pR ≤ (wrap64 (pR + a1))
     ·rw [if_pos c8] at H
      have ym:=eq_true c8
      have KI : decide (pR ≤ (wrap64 (pR + a1))) = true:=decide_eq_true c8
      by_cases c9 : (wrap64 (pR + a1)) ≤ (av.length : Int)
      ·rw [if_pos c9] at H
       have DD:=eq_true c9
       have KO : decide ((wrap64 (pR + a1)) ≤ (av.length : Int)) = true:=decide_eq_true c9
       replace H:=Option.bind_eq_some_iff.mp H
       obtain ⟨t138,atc,H⟩:=H
       replace H : (if gu.length < 5864062014805 then (fU.l0 k1 a1 (gu ++ [t138]) (wrap64 (pR + 1)) au av) else (none)) = some r:=H
       have A10:=zA atc
       clear atc
       by_cases c11 : gu.length < 5864062014805
       ·rw [if_pos c11] at H
        have aaz:=zA c11
        clear c11
        obtain ⟨XA,QM⟩ : ∃ y_ : List (List Int),y_ = (gu ++ [t138]):=⟨_,rfl⟩
        replace H : (fU.l0 k1 a1 XA (wrap64 (pR + 1)) au av) = some r:=by first | (rw [QM];with_reducible exact H) | (have H2_:=(Option.bind_some _ _).symm.trans H;rw [QM];with_reducible exact H2_) | (have H2_:=(Option.bind_some _ _).symm.trans H;with_reducible exact H2_) | with_reducible exact H | (rw [QM];exact H) | exact H
        have VK:=zA QM
        clear QM
        have H':=zA H
        clear H
        have qC : wr.cell? ⟨GM,0,none⟩ = some (.int .i64 au):=(bT sO.out 0).trans rfl
        have qD : wr.cell? ⟨GM,1,none⟩ = some (.slice bE av.length bD):=(bT sO.out 1).trans rfl
        have qE:=dz sO.out 0
        have qF:=dz sO.out 1
        obtain ⟨aGd,ah4,_,ah5,_⟩:=info_parts l6
        obtain ⟨A13,aAX,atd,ate⟩:=Oe (P:=Tryz.prog) (Value.int .i64) 0 24 2 .i64 .i64 Tryz.underlying24 ah4 ah5 bE bD av pR (wrap64 (pR + a1)) (of_decide_eq_true (by first | (with_reducible assumption) | assumption)) (by first | omega | exact of_decide_eq_true (by first | (with_reducible assumption) | assumption)) (of_decide_eq_true (by first | (with_reducible assumption) | assumption)) eD.out
        have atf:=zA (Kd.zS (h1:=fun _=>rfl) (atd _ (Kd.tV d9.out)))
        have atg:=zA ate
        clear atd ate ah4 ah5
        go_wp2_with (first | ((with_reducible refine ae (f:=79) rfl ?_);refine uw (some 21) rfl rfl Tryz.func79 (by kernel_rfl) rfl #[.slice A13 ((av.take ((wrap64 (pR + a1)) : Int).toNat).drop (pR : Int).toNat).length (bD - pR.toNat)] rfl (by (try simp only [la,lb,lc]);first | done | (rw [show ((av.take ((wrap64 (pR + a1)) : Int).toNat).drop (pR : Int).toNat).length = ((wrap64 (pR + a1)).toNat - pR.toNat) from (by rw [List.length_drop,List.length_take];have h_ : ((wrap64 (pR + a1)) : Int) ≤ (av.length : Int):=of_decide_eq_true (by first | (with_reducible assumption) | assumption);omega)] <;> rfl) | rfl | (simp only [ld,le];rfl)) ?_;(with_reducible refine (jS.calls _ _ ((av.take ((wrap64 (pR + a1)) : Int).toNat).drop (pR : Int).toNat) t138 _ ?side1 ?side2 A10.out).mono ?_);(case side1=>exact uC ((Kd.aM atf.out HB.out)));(case side2=>exact atg.out);rintro e w14 ⟨v139,rfl,ho0,hb⟩;refine ⟨_,rfl,?_⟩;have n0_:=zA (Kd.Yg (by (with_reducible repeat (first | apply Kd.Hg | apply Kd.Hl | apply Kd.Mg));exact jJ.out) (Kd.aH ho0) hb);have n1_:=zA (Kd.bu ho0 (af (uH HB.out)));have n2_:=xB sO hb;have n3_:=xH HB hb;clear jJ sO HB;have jJ:=n0_;have J5:=n1_;have sO:=n2_;have HB:=n3_;clear n0_ n1_ n2_ n3_;(try clear hb);(try clear hb2);(try clear hk);(try clear hi);(try clear ho0);obtain ⟨adb,YE,WT⟩:=Kd.aV J5.out;subst WT) | ((with_reducible refine fe (b:=.append) (xs:=#[.tmp 13,.tmp 22]) rfl ?_);at_builtin;refine Kd.Yi (Kd.slice 2 (Kd.int .i64)) (w0:=w) w.heap.size rfl (.tmp 13) (.tmp 22) 64 24 (.slice none 0 0) 24 rfl Tryz.underlying64 Jd rfl (by decide) (by omega) u5 gu t138 [.slice adb t138.length YE] (fun _=>True) (fun k_=>some k_ = (.slice adb t138.length YE : Value).ownBlock) rfl rfl ?aP (fun k_ hk_=>((Kd.ag (ok':=fun k_=>((fun _=>True)) k_∧some k_ ≠ (u5 : Value).ownBlock) (Kd.xM (J5.out) (Kd.TY jJ.out) (by decide)) (fun k_ hk=>⟨trivial,hk.2⟩))).1 k_ hk_.symm) ?aF ?aO ?aB ?aS ?aL ?_;(case aP=>exact Kd.arp (Kd.ag (Kd.uy rfl (Kd.ag (ok':=fun k_=>((fun _=>True)) k_∧some k_ ≠ (u5 : Value).ownBlock) (Kd.xM (J5.out) (Kd.TY jJ.out) (by decide)) (fun k_ hk=>⟨trivial,hk.2⟩))) (fun _ h_=>h_)));(case aB=>exact (uH HB.out));(case aF=>exact (fun _ _=>trivial));(case aO=>exact (by (with_reducible repeat (first | apply Kd.Hg | apply Kd.Hl | apply Kd.Mg));exact Kd.Yf jJ.out (fun k_ hk=>⟨trivial,fun e_=>hk.2 e_⟩)));(case aS=>exact (af (uH HB.out)));(case aL=>have:=aaz.out;omega);intro aAo w15 ho hb hg hat;rw [← VK.out] at ho;have n0_:=zA (xx (g:=GM) (o:=.cells #[.int .i64 au,.slice bE av.length bD] 26 (0,0)) (uB sO.out) hg (Kd.amY jJ.out sO.out (by decide)));have n1_:=zA (hb);have n2_:=zA (ho);clear sO HB jJ J5;have sO:=n0_;have HB:=n1_;have VL:=n2_;clear n0_ n1_ n2_ ho hb hg hat))
        go_roundg k1
        case measure=>have:=HK1.out;omega
        case rel=>exact ⟨(XA),(wrap64 (pR + 1)),(by first | rfl | (simp;done) | (simp [*];done)),H',⟨by have:=HK1.out;omega⟩,⟨by (with_reducible repeat (first | apply Kd.Hg | apply Kd.Hl | apply Kd.Mg));exact VL.out⟩,⟨uB sO.out⟩,⟨uH HB.out⟩⟩
       ·rw [if_neg c11] at H
        exact absurd H (by simp)
      ·rw [if_neg c9] at H
       exact absurd H (by simp)
     ·rw [if_neg c8] at H
      exact absurd H (by simp)
    ·rw [if_neg c7] at H
     exact absurd H (by simp)
   ·rw [if_neg c6] at H
    have qo : decide (pR < a1) = false:=decide_eq_false c6
    clear c6
    replace H:=Option.bind_eq_some_iff.mp H
    obtain ⟨afn,ath,H⟩:=H
    replace H : (some afn) = some r:=H
    have A17:=zA ath
    clear ath
    obtain rfl:=Option.some.inj H
    have Ad : wr.cell? ⟨GM,0,none⟩ = some (.int .i64 au):=(bT sO.out 0).trans rfl
    have CG : wr.cell? ⟨GM,1,none⟩ = some (.slice bE av.length bD):=(bT sO.out 1).trans rfl
    have Ae:=dz sO.out 0
    have CK:=dz sO.out 1
    obtain ⟨EK,DW,Xd⟩:=Kd.acP jJ.out
    subst Xd
    go_wp2_with (first | ((with_reducible refine ae (f:=92) rfl ?_);refine uw (some 27) rfl rfl Tryz.func92 (by kernel_rfl) rfl #[.int .i64 au,.slice EK gu.length DW] rfl (by (try simp only [la,lb,lc]);first | done | rfl | (simp only [ld,le];rfl)) ?_;(with_reducible refine (kC.calls k1 au _ gu afn w _ (fun _=>True) ?side1 ?side2 A17.out).mono ?_);(case side1=>exact (uH HB.out));(case side2=>exact (uR (Kd.S_R jJ.out)));rintro e w20 ⟨rfl,hb⟩;refine ⟨_,rfl,?_⟩;clear jJ sO HB;have HB:=zA hb;clear hb))
    go_ret
    exact ⟨by first | rfl | (simp [eP,eQ] <;> rfl) | (simp [*,eP,eQ] <;> rfl),uH HB.out⟩
set_option maxHeartbeats 8000000
set_option maxRecDepth 100000
/-! ### iq: function 49 -/
def iq.l0 : Nat → Int → Int → List Int → Option (Int)
 | 0,_,_,_=>none
 | k + 1,x3,VX,Ou=>if x3 < (wrap64 (Int.tdiv (wrap64 ((Ou.length : Int) + 1)) 2)) then ((fU.f k VX Ou (wrap64 (x3 + 1))).bind fun afo=>(if afo = 0 then (some x3) else (iq.l0 k (wrap64 (x3 + 1)) VX Ou))) else (some x3)
def iq.f (k : Nat) (au : Int) (av : List Int) : Option (Int):=iq.l0 k 0 au av
theorem iq.calls (k : Nat) (au : Int) (bE : Option Addr) (bD : Nat) (av : List Int) (r : Int) (w : World) (hr0_1 : Kd.C (Kd.int .i64) w bE av.length av) (gY : av.length ≤ bD) (H : iq.f k au av = some r) :
  Calls Tryz.prog 49 #[.agg #[.int .i64 au,.slice bE av.length bD]] w fun e w'=>e = .returned (.int .i64 r)∧Below w.heap.size w w':=by
 have rF:=Tryz.underlying26;have d9:=zA hr0_1;have eD:=zA gY;clear hr0_1 gY;have HB:=zA (Below.refl w.heap.size w);unfold iq.f at H;have H':=zA H;clear H;go_enter Tryz.func49,Tryz.ntmps49;go_wp2_with (first | (refine bX 1 rfl #[.int .i64 au,.slice bE av.length bD] 26 ?_;intro ati w2 hg uY hb;have atj:=gq HB hg;have:=geI atj;replace HB:=xH HB hb;clear hb hg));go_loopg [3] k (fun kq v3 w'=>∃ (lK : Int),v3 = .int .i64 lK∧aa (iq.l0 kq lK au av = some r)∧aa (kq ≤ k)∧aa (w'.heap[ati]? = some (.cells #[.int .i64 au,(.slice bE av.length bD)] 26 (0,0)))∧aa (Below w.heap.size w w'));(case atStart=>exact ⟨(0),eS,H',⟨Nat.le_refl _⟩,⟨uB uY.out⟩,⟨uH HB.out⟩⟩)
 case round =>
  clear H';(try clear p2);obtain ⟨lK,rfl,HA,HK1,uY,HB⟩:=hrel
  cases gk with
  | zero=>exact absurd HA.out (by simp [iq.l0])
  | succ k1 =>
   have H:=HA.out;clear HA;simp only [iq.l0] at H;replace H:=gF H;obtain ⟨vE,H⟩|⟨vE,H⟩:=H
   ·obtain rfl:=Option.some.inj H;have rX:=bc uY 0;have rY:=bc uY 1;have rZ:=bf uY 0;have r9:=bf uY 1;go_wp2;go_ret;exact ⟨eX,uH HB.out⟩
   replace H:=bO H;obtain ⟨afo,A4,H⟩:=H;replace H:=gE H;obtain ⟨c5,ny,vY,H⟩|⟨c5,ny,vY,H⟩:=H
   ·have H':=zA H;clear H;have DF:=bc uY 0;have DI:=bc uY 1;have DJ:=bf uY 0;have DK:=bf uY 1;go_wp2_with (first | (go_at_call 74;(with_reducible refine (fU.calls k1 au _ _ av (wrap64 (lK + 1)) afo _ ?side1 ?side2 A4.out).mono ?_);(case side1=>exact uC ((Kd.aM d9.out HB.out)));(case side2=>exact eD.out);rintro e w9 ⟨rfl,hb⟩;replace uY:=xB uY hb;replace HB:=xH HB hb;(try clear hb)));go_roundg k1;(case measure=>have:=HK1.out;omega);(case rel=>exact ⟨(wrap64 (lK + 1)),eS,H',⟨by have:=HK1.out;omega⟩,⟨uB uY.out⟩,⟨uH HB.out⟩⟩)
   clear c5;obtain rfl:=Option.some.inj H;have R5:=bc uY 0;have R6:=bc uY 1;have R7:=bf uY 0;have R8:=bf uY 1;go_wp2_with (first | (go_at_call 74;(with_reducible refine (fU.calls k1 au _ _ av (wrap64 (lK + 1)) afo _ ?side1 ?side2 A4.out).mono ?_);(case side1=>exact uC ((Kd.aM d9.out HB.out)));(case side2=>exact eD.out);rintro e w7 ⟨rfl,hb⟩;replace uY:=xB uY hb;replace HB:=xH HB hb;(try clear hb)));go_ret;exact ⟨eX,uH HB.out⟩
/-! ### bK: function 24 -/
mutual
def bK.j0 : Nat → Int → Int → Bool → Int → List Int → Option (List Int × Int)
 | 0,_,_,_,_,_=>none
 | k + 1,x1,x2,x17,Ap,C9=>if x17 = true then (some (([] : List Int),2)) else ((iq.f k Ap C9).bind fun afp=>(if afp < (wrap64 (x1 + 1)) then (some (([] : List Int),5)) else ((eB.f k Ap C9 x1).bind fun Aq=>(bK.l0 k x1 x2 (([] : List Int)) Ap Aq 0 Ap C9))))
def bK.l0 : Nat → Int → Int → List Int → Int → List (List Int) → Int → Int → List Int → Option (List Int × Int)
 | 0,_,_,_,_,_,_,_,_=>none
 | k + 1,x1,x2,x8,x9,x10,x11,Ap,C9=>if x11 ≤ x1 then (if 0 ≤ x11 then (if x11 < (x10.length : Int) then ((jN.f k x9 (dQ x10 x11) x2).bind fun aa8=>((gM.f k Ap C9 (dQ x10 x11) 0).bind fun aa9=>((gy.f k x9 aa9).bind fun aba=>(if x9 = 0 then (none) else ((dG.f k x9 x8 (dQ x10 x11) (Int.tmod (wrap64 (aa8 * aba)) x9)).bind fun afq=>(bK.l0 k x1 x2 afq x9 x10 (wrap64 (x11 + 1)) Ap C9)))))) else (none)) else (none)) else (some (x8,0))
end
def bK.f (k : Nat) (au : Int) (av : List Int) (a1 : Int) (a2 : Int) : Option (List Int × Int):=(ll.f k au av).bind fun atl=>(if atl = true then ((jL.f a1 0 11).bind fun atm=>(if atm = true then ((jL.f a2 0 (wrap64 (au - 1))).bind fun afr=>(bK.j0 k a1 a2 (!afr) au av)) else (bK.j0 k a1 a2 true au av))) else (some (([] : List Int),1)))
def bK.T12 : Bool × List (List Nat × List Nat):=(true,[([],[]),([],[]),([],[]),([1,2],[1,2]),([3],[3]),([],[]),([0,4,5],[0,4,5]),([],[]),([],[]),([],[]),([],[]),([9,10],[9,10]),([11],[11]),([8,12,6],[8,12]),([7,13,13],[7,13]),([6,14],[6,14]),([],[]),([15,16],[15,16]),([17,14,0,1,2,3,4,5,6,7,8,9,10,11,12,13,14,15,16,17],[17])])
def bK.B12 : List Nat:=[0,0,0,6,14,0,63,0,0,0,0,1536,3584,8063,16383,32767,0,131071,262143]
theorem bK.Ph : nu .any (opsOf Tryz.f24 12) = bK.T12:=by kernel_rfl
theorem bK.I9 : jO bK.T12.2 bK.B12 = true:=by kernel_rfl
theorem bK.calls (k : Nat) (au : Int) (bE : Option Addr) (bD : Nat) (av : List Int) (a1 : Int) (a2 : Int) (r1 : List Int) (r2 : Int) (w : World) (hr0_1 : Kd.C (Kd.int .i64) w bE av.length av) (gY : av.length ≤ bD) (H : bK.f k au av a1 a2 = some (r1,r2)) :
  Calls Tryz.prog 24 #[.agg #[.int .i64 au,.slice bE av.length bD],.int .i64 a1,.int .i64 a2] w fun e w'=>∃ v0_ : Value,e = .returned (.tuple #[v0_,.int .i64 r2])∧Kd.R (Kd.int .i64) 2 w' w.heap.size (fun _=>True) v0_ r1∧Below w.heap.size w w':=by
 have rF:=Tryz.underlying26;have d9:=zA hr0_1;have eD:=zA gY;clear hr0_1 gY;have HB:=zA (Below.refl w.heap.size w);unfold bK.f at H;replace H:=bO H;obtain ⟨atl,A4,H⟩:=H;replace H:=gB H;obtain ⟨rfl,H⟩|⟨rfl,H⟩:=H
 ·have HC6:=zA H;clear H;go_enter Tryz.func24,Tryz.ntmps24;go_upto_region 3 with (first | ((with_reducible refine bP (N:=3) rfl ?_);refine bx 3 #[.int .i64 au,.slice bE av.length bD] 26 ?_;intro Dw hg w7 hbox hb;have iQ:=zA (hbox);have abb:=gq HB hg;have:=geI abb;replace HB:=xH HB hb;clear hb hbox hg;have DF:=bc iQ 0;have DI:=bc iQ 1;have DJ:=bf iQ 0;have DK:=bf iQ 1) | ((with_reducible refine ae (f:=36) rfl ?_);refine gL (some 15) Tryz.func36 #[.agg #[.int .i64 au,.slice bE av.length bD]] ?_;(with_reducible refine (ll.calls k au _ _ av true _ ?side1 ?side2 A4.out).mono ?_);(case side1=>exact uC ((Kd.aM d9.out HB.out)));(case side2=>exact eD.out);rintro e w9 ⟨rfl,hb⟩;refine ⟨_,rfl,?_⟩;replace iQ:=xB iQ hb;replace HB:=xH HB hb;(try clear hb)));(try simp only [Act.put,ls,lz,ln]);go_cut [17] (fun v17 wc=>∃ (kq : Nat) (abd : Bool),v17 = .bool abd∧aa (bK.j0 kq a1 a2 abd au av = some (r1,r2))∧aa (kq ≤ k)∧aa (wc.heap[Dw]? = some (.cells #[.int .i64 au,(.slice bE av.length bD)] 26 (0,0)))∧aa (Below w.heap.size w wc))
  case first =>
   have H:=HC6.out;clear HC6;replace H:=bO H;obtain ⟨atm,A10,H⟩:=H;replace H:=gB H;obtain ⟨rfl,H⟩|⟨rfl,H⟩:=H
   ·replace H:=bO H;obtain ⟨afr,A12,H⟩:=H;have H':=zA H;clear H;go_wp2_with (first | ((with_reducible refine ae (f:=25) rfl ?_);refine gL (some 19) Tryz.func25 #[.int .i64 a1,.int .i64 0,.int .i64 11] ?_;(with_reducible refine (jL.calls a1 0 11 true _ A10.out).mono ?_);rintro e w' ⟨rfl,⟨nd,rfl⟩⟩;refine ⟨_,rfl,?_⟩;have mD:=bc iQ 0;have mE:=bc iQ 1;have mF:=bf iQ 0;have mG:=bf iQ 1) | (go_at_call 25;(with_reducible refine (jL.calls a2 0 (wrap64 (au - 1)) afr _ A12.out).mono ?_);rintro e w' ⟨rfl,⟨nd,rfl⟩⟩));go_meet;(case rel=>exact ⟨_,(!afr),eS,H',⟨by first | omega | exact Nat.le_refl _⟩,⟨uB iQ.out⟩,⟨uH HB.out⟩⟩)
   ·have H':=zA H;clear H;go_wp2_with (first | ((with_reducible refine ae (f:=25) rfl ?_);refine gL (some 19) Tryz.func25 #[.int .i64 a1,.int .i64 0,.int .i64 11] ?_;(with_reducible refine (jL.calls a1 0 11 false _ A10.out).mono ?_);rintro e w' ⟨rfl,⟨nd,rfl⟩⟩;refine ⟨_,rfl,?_⟩));go_meet;(case rel=>exact ⟨_,(true),eS,H',⟨by first | omega | exact Nat.le_refl _⟩,⟨uB iQ.out⟩,⟨uH HB.out⟩⟩)
  case rest =>
   clear HC6;(try clear c1);(try clear c2);(try clear p2);(try clear c3);(try clear c5);(try clear p6);(try clear c11);(try clear mD);(try clear mE);(try clear DF);(try clear DI);(try clear mF);(try clear mG);(try clear DJ);(try clear DK);obtain ⟨kq,abd,rfl,HA,HJ5,iQ,HB⟩:=hcut
   cases kq with
   | zero=>exact absurd HA.out (by simp [bK.j0])
   | succ kj5 =>
    have H:=HA.out;clear HA;simp only [bK.j0] at H;replace H:=gB H;obtain ⟨rfl,H⟩|⟨rfl,H⟩:=H
    ·simp only [Option.some.injEq,Prod.mk.injEq] at H;obtain ⟨rfl,rfl⟩:=H;go_wp2;go_ret2;exact ⟨_,eX,by first | exact Kd.pq _ _ _ _ _ | exact Kd.Bi _ _ _ _ _ | exact Kd.vz _ _ _ _ _ | exact Kd.vX _ _ _ _ _ | exact Kd.vU _ _ _ _ _,uH HB.out⟩
    ·replace H:=bO H;obtain ⟨afp,A15,H⟩:=H;replace H:=gF H;obtain ⟨Ee,H⟩|⟨Ee,H⟩:=H
     ·obtain ⟨aAY,abe⟩:=eY ([] : List Int);(try rw [←abe.out] at H);replace H:=bO H;obtain ⟨Aq,A19,H⟩:=H;have H':=zA H;clear H;have zY:=bc iQ 0;have zZ:=bc iQ 1;have z8:=bf iQ 0;have Aa:=bf iQ 1;(try go_wp2_with (first | ((with_reducible refine ae (f:=49) rfl ?_);refine gL (some 31) Tryz.func49 #[.agg #[.int .i64 au,.slice bE av.length bD]] ?_;(with_reducible refine (iq.calls kj5 au _ _ av afp _ ?side1 ?side2 A15.out).mono ?_);(case side1=>exact uC ((Kd.aM d9.out HB.out)));(case side2=>exact eD.out);rintro e w21 ⟨rfl,hb⟩;refine ⟨_,rfl,?_⟩;replace iQ:=xB iQ hb;replace HB:=xH HB hb;(try clear hb))));replace iQ:=zA (bI iQ.out);replace HB:=zA (aW HB.out);refine kE (n:=5) (S:=fun w'=>w'.cell? ⟨Dw,0,none⟩ = some (.int .i64 au)∧w'.cell? ⟨Dw,1,none⟩ = some (.slice bE av.length bD)) (ds:=[]) #[false,false,false,false,false] (by kernel_rfl) rfl rfl ⟨bcu iQ 0,bcu iQ 1⟩ (fun hHeld=>?_);generalize w21.drew = w22 at iQ HB hHeld ⊢;refine Aw (i:=1) (N:=some 36) (v:=?_) (a':=?_) (bl 5 2) rfl rfl (by kernel_rfl) (fun _ _ _ h=>h) (Or.inl ⟨by rfl,?_⟩) ?_ ?_;rotate_left
      ·intro w';go_simp;(with_reducible rfl)
      rotate_left
      ·simp only [Act.put,ls,lz,ln,iI,kz];rfl
      refine yY (i:=2) (N:=some 37) (v:=?_) (a':=?_) (bl 5 6) rfl rfl (by kernel_rfl) (fun _ _ _ h=>h) (Or.inl ⟨by rfl,?_⟩) hHeld ?_ ?_;rotate_left
      ·rintro w' ⟨s0,s1⟩;go_simp;(with_reducible rfl)
      rotate_left
      ·simp only [Act.put,ls,lz,ln,iI,kz];rfl
      refine Ky (i:=0) (N:=some 35) (bl 5 7) rfl rfl (by kernel_rfl) (by decide) (fun K hK=>?_);refine Kd.nX (Kd.int .i64) _ 2 ?hg (N:=35) ?hd (xs:=([] : List Int)) (inner:=[]) (ok:=fun _=>True) (okp:=fun _=>True) ?hr ?hp (fun _ hk=>hk) trivial (Below.refl _ _) (Nat.le_refl _) (by simp) ?_;(case hd=>rfl);(case hg=>rfl);(case hr=>first | (go_simp;done) | (go_simp;rfl));(case hp=>exact (dh.none _ _));intro aAZ w23 Hd hb hg_ hnew_;clear hg_ hnew_;(first | rw [← abe.out] at Hd | (simp only [Int.reduceToNat] at Hd;rw [← abe.out] at Hd));have VY:=zA (Kd.bu Hd (af (uH HB.out)));replace iQ:=xB iQ hb;replace HB:=xH HB hb;clear hb Hd;refine hK.out _ _ ⟨bcu iQ 0,bcu iQ 1⟩ (fun hHeld=>?_);clear hK K;refine no_ 35 ?_;refine Aw (i:=3) (N:=some 8) (v:=?_) (a':=?_) (bl 5 15) rfl rfl (by kernel_rfl) (fun _ _ _ h=>h) (Or.inl ⟨by rfl,?_⟩) ?_ ?_;rotate_left
      ·intro w';go_simp;(with_reducible rfl)
      rotate_left
      ·simp only [Act.put,ls,lz,ln,iI,kz];rfl
      refine Aw (i:=4) (N:=some 9) (v:=?_) (a':=?_) (bl 5 31) rfl rfl (by kernel_rfl) (fun _ _ _ h=>h) (Or.inl ⟨by rfl,?_⟩) ?_ ?_;rotate_left
      ·intro w';go_simp;(with_reducible rfl)
      rotate_left
      ·simp only [Act.put,ls,lz,ln,iI,kz];rfl
      refine done_ (by kernel_rfl) ?_;have NK:=bc iQ 0;have VT:=bc iQ 1;have NL:=bf iQ 0;have VU:=bf iQ 1;(try go_wp2_with (first | ((with_reducible refine ae (f:=55) rfl ?_);refine gL (some 40) Tryz.func55 #[.agg #[.int .i64 au,.slice bE av.length bD],.int .i64 a1] ?_;(with_reducible refine (eB.calls kj5 au _ _ av a1 Aq _ ?side1 ?side2 A19.out).mono ?_);(case side1=>exact uC ((Kd.aM d9.out HB.out)));(case side2=>exact eD.out);rintro e w26 ⟨aA0,rfl,ho0,hb⟩;refine ⟨_,rfl,?_⟩;have atn:=zA (Kd.yw (Kd.mU (ok':=fun k_=>ax k_ aAZ∧k_ ≠ Dw) ho0 (fun k_ hk_=>⟨(Kd.fresh' (Kd.jX (uR VY.out)) k_ hk_),(Kd.lI (g:=Dw) (o:=.cells #[.int .i64 au,.slice bE av.length bD] 26 (0,0)) (uB iQ.out) k_ hk_)⟩)) (af (uH HB.out)));replace VY:=xR VY hb;replace iQ:=xB iQ hb;replace HB:=xH HB hb;(try clear hb);(try clear ho0))));go_loopg [8,11] kj5 (fun kq v8 v11 w'=>∃ (si : List Int) (iD : Int),v11 = .int .i64 iD∧aa (bK.l0 kq a1 a2 si au Aq iD au av = some (r1,r2))∧aa (kq ≤ kj5)∧aa (Kd.R (Kd.int .i64) 2 w' w.heap.size (fun _=>True) v8 si)∧aa (Kd.N (Kd.slice 2 (Kd.int .i64)) 24 w' w.heap.size (fun k_=>ax k_ v8∧k_ ≠ Dw) aA0 Aq)∧aa (w'.heap[Dw]? = some (.cells #[.int .i64 au,(.slice bE av.length bD)] 26 (0,0)))∧aa (Below w.heap.size w w'));(case atStart=>exact ⟨(aAY),(0),eS,H',⟨Nat.le_refl _⟩,⟨uR VY.out⟩,⟨uN atn.out⟩,⟨uB iQ.out⟩,⟨uH HB.out⟩⟩)
      case round =>
       clear H';(try clear c1);(try clear c2);(try clear p2);(try clear c3);(try clear c4);(try clear c5);(try clear p6);(try clear c11);(try clear c14);(try clear c16);(try clear Ee);(try clear c24);(try clear c25);(try clear mD);(try clear mE);(try clear CO);(try clear EO);(try clear zY);(try clear zZ);(try clear NK);(try clear VT);(try clear DF);(try clear DI);(try clear mF);(try clear mG);(try clear CR);(try clear EP);(try clear z8);(try clear Aa);(try clear NL);(try clear VU);(try clear DJ);(try clear DK);(try clear p2);(try clear p6);obtain ⟨si,iD,rfl,HA,HK2,gU,jM,iQ,HB⟩:=hrel
       cases gk with
       | zero=>exact absurd HA.out (by simp [bK.l0])
       | succ k2 =>
        have H:=HA.out;clear HA;simp only [bK.l0] at H;replace H:=gF H;obtain ⟨PL,H⟩|⟨PL,H⟩:=H
        ·simp only [Option.some.injEq,Prod.mk.injEq] at H;obtain ⟨rfl,rfl⟩:=H;go_wp2;go_ret2;exact ⟨_,eX,uR gU.out,uH HB.out⟩
        replace H:=gD H;obtain ⟨aoq,H⟩:=H;replace H:=gD H;obtain ⟨AB,H⟩:=H;replace H:=bO H;obtain ⟨aa8,A30,H⟩:=H;replace H:=bO H;obtain ⟨aa9,A31,H⟩:=H;replace H:=bO H;obtain ⟨aba,A32,H⟩:=H;replace H:=gI H;obtain ⟨c33,H⟩|⟨c33,H⟩:=H
        ·have agJ : (au == 0) = false:=beq_eq_false_iff_ne.mpr c33;have aDX : (au != 0) = true:=bne_iff_ne.mpr c33;replace H:=bO H;obtain ⟨afq,A34,H⟩:=H;have H':=zA H;clear H;(try go_wp2);replace gU:=zA (Kd.gz gU.out);replace jM:=zA (Kd.nW jM.out);replace iQ:=zA (bI iQ.out);replace HB:=zA (aW HB.out);obtain ⟨aAK,asN,ato⟩:=Kd.vQ jM.out;(first | subst ato | (injection ato with f1_ f2_ f3_;have f4_:=f1_.symm;have f5_:=f3_.symm;clear f1_ f2_ f3_;subst f4_;subst f5_));have afs : 0 ≤ (iD : Int):=oD;have aft : iD < (Aq.length : Int):=oD;obtain ⟨VZ,Ke,Kg,aA1,IB,V3,V4⟩:=xL (Kd.jb jM.out).2.2 iD afs aft;cases aA1;obtain ⟨aDY,akZ,ak0,abf⟩:=Kd.Dl jM.out [] iD afs (by first | exact aft | exact of_decide_eq_true (by first | (with_reducible assumption) | assumption) | (have e_:=(Kd.jb jM.out).1;omega));obtain ⟨axj,axk,rfl,Ov,Ow⟩:=Kd.lY ak0;have IC:=abf 0 _ rfl;rw [Nat.add_zero,show ((Kd.slice 2 (Kd.int .i64))).sz = 1 from rfl,Nat.mul_one] at IC;replace IC:=Option.some.inj (IC.symm.trans IB);injection IC with hva_ hvn_ hvc_;rw [hva_] at Ow;rw [hvc_] at Ov;have Fb:=zA (show Kd.V (Kd.int .i64) 2 _ w.heap.size _ _ (dQ Aq iD) from Kd.FM Ov Ow);clear hva_ hvn_ hvc_ Ow Ov;clear abf akZ;have uZ:=zA V4;have V5:=zA V3;clear V4 V3;replace afs:=eq_true afs;replace aft:=eq_true aft;have afu : 0 ≤ (iD : Int):=oD;have afv : iD < (Aq.length : Int):=oD;obtain ⟨atp,aA2,aA3,aA4,IE,V6,V7⟩:=xL (Kd.jb jM.out).2.2 iD afu afv;obtain rfl : VZ = atp:=(by injection aA4);obtain ⟨aDZ,ak1,ak2,abg⟩:=Kd.Dl jM.out [] iD afu (by first | exact afv | exact of_decide_eq_true (by first | (with_reducible assumption) | assumption) | (have e_:=(Kd.jb jM.out).1;omega));obtain ⟨axl,axm,rfl,Ox,Oy⟩:=Kd.lY ak2;have IG:=abg 0 _ rfl;rw [Nat.add_zero,show ((Kd.slice 2 (Kd.int .i64))).sz = 1 from rfl,Nat.mul_one] at IG;replace IG:=Option.some.inj (IG.symm.trans IE);injection IG with hva_ hvn_ hvc_;rw [hva_] at Oy;rw [hvc_] at Ox;have Fe:=zA (show Kd.V (Kd.int .i64) 2 _ w.heap.size _ _ (dQ Aq iD) from Kd.FM Ox Oy);clear hva_ hvn_ hvc_ Oy Ox;clear abg ak1;have xu:=zA V7;have afw:=zA V6;clear V7 V6;replace afu:=eq_true afu;replace afv:=eq_true afv;have ea_:=Option.some.inj (IB.symm.trans IE);injection ea_ with ea_ en_ ec_;subst ea_;subst ec_;clear en_;refine kE (n:=19) (S:=fun w'=>w'.cell? ⟨Dw,0,none⟩ = some (.int .i64 au)∧w'.cell? ⟨Dw,1,none⟩ = some (.slice bE av.length bD)∧w'.cell? (VZ.add (iD).toNat) = some (.slice Ke (dQ Aq iD).length Kg)∧w'.cell? (VZ.add (iD).toNat) = some (.slice Ke (dQ Aq iD).length Kg)) (ds:=[]) #[false,false,false,false,false,false,false,false,false,false,false,false,false,false,false,false,false,false,false] (by kernel_rfl) rfl rfl ⟨bcu iQ 0,bcu iQ 1,IB,IE⟩ (fun hHeld=>?_);refine gX bK.Ph bK.I9 (fun HT_ HW_=>?_);generalize wr.drew = w35 at gU jM iQ HB Fb Fe uZ xu IB IE hHeld ⊢;refine pu_ 0 46 (bl 19 1) HT_ ?_;refine pu_ 1 47 (bl 19 3) HT_ ?_;refine pu_ 2 48 (bl 19 7) HT_ ?_;refine pu_ 3 49 (bl 19 15) HT_ ?_;refine pu_ 5 51 (bl 19 47) HT_ ?_;refine pu_ 7 53 (bl 19 175) HT_ ?_;refine pu_ 9 55 (bl 19 687) HT_ ?_;refine pu_ 10 56 (bl 19 1711) HT_ ?_;refine pu_ 11 57 (bl 19 3759) HT_ ?_;refine pu_ 16 62 (bl 19 69295) HT_ ?_;refine ta_ 4 50 (bl 19 69311) HT_ HW_ hHeld ?_;refine ta_ 8 54 (bl 19 69567) HT_ HW_ hHeld ?_;refine ta_ 12 58 (bl 19 73663) HT_ HW_ hHeld ?_;refine on_ 6 (some 52) (bl 19 73727) HT_ (fun K hK=>?_);refine gS Tryz.func26 #[.int .i64 au,.slice Ke (dQ Aq iD).length Kg,.int .i64 a2] ?_;(with_reducible refine (jN.calls k2 au _ _ (dQ Aq iD) a2 aa8 _ ?side1 ?side2 A30.out).mono ?_);(case side1=>repeat (first | exact (by repeat (first | (with_reducible exact uZ.out) | (with_reducible refine Kd.bW ?_ _) | (with_reducible refine Kd.bY ?_ _) | (with_reducible refine Kd.dH ?_) | exact uZ.out)) | (with_reducible refine Kd.bW ?_ _) | (with_reducible refine Kd.bY ?_ _) | (with_reducible refine Kd.dH ?_)));(case side2=>exact V5.out);rintro e w' ⟨rfl,⟨nd,rfl⟩⟩;refine ⟨_,rfl,?_⟩;refine hK.out _ _ ⟨bcu iQ 0,bcu iQ 1,hHeld.2.2.1,hHeld.2.2.2⟩ (fun hHeld=>?_);clear hK K;refine no_ 52 ?_;refine on_ 13 (some 59) (bl 19 81919) HT_ (fun K hK=>?_);refine gS Tryz.func57 #[.agg #[.int .i64 au,.slice bE av.length bD],.slice Ke (dQ Aq iD).length Kg,.int .i64 0] ?_;(with_reducible refine (gM.calls k2 au _ _ av _ _ (dQ Aq iD) 0 aa9 _ ?side1 ?side2 ?side3 ?side4 A31.out).mono ?_);(case side1=>repeat (first | exact (Kd.aM d9.out (uH HB.out)) | (with_reducible refine Kd.bW ?_ _) | (with_reducible refine Kd.bY ?_ _) | (with_reducible refine Kd.dH ?_)));(case side2=>exact eD.out);(case side3=>repeat (first | exact (by repeat (first | (with_reducible exact xu.out) | (with_reducible refine Kd.bW ?_ _) | (with_reducible refine Kd.bY ?_ _) | (with_reducible refine Kd.dH ?_) | exact xu.out)) | (with_reducible refine Kd.bW ?_ _) | (with_reducible refine Kd.bY ?_ _) | (with_reducible refine Kd.dH ?_)));(case side4=>exact afw.out);rintro e w37 ⟨rfl,hb⟩;have aA5:=(hb.cell (World.block_lt_of_cell? _ _ (hHeld.2.2.1))).trans (hHeld.2.2.1);have aA6:=(hb.cell (World.block_lt_of_cell? _ _ (hHeld.2.2.2))).trans (hHeld.2.2.2);refine ⟨_,rfl,?_⟩;replace gU:=xR gU hb;replace jM:=zA (Kd.kT (uN jM.out) hb);replace Fb:=zA (Kd.jd (uV Fb.out) hb);replace Fe:=zA (Kd.jd (uV Fe.out) hb);replace iQ:=xB iQ hb;replace uZ:=zA (Kd.aM (by repeat (first | (with_reducible exact uZ.out) | (with_reducible refine Kd.bW ?_ _) | (with_reducible refine Kd.bY ?_ _) | (with_reducible refine Kd.dH ?_) | exact uZ.out)) hb);replace xu:=zA (Kd.aM (by repeat (first | (with_reducible exact xu.out) | (with_reducible refine Kd.bW ?_ _) | (with_reducible refine Kd.bY ?_ _) | (with_reducible refine Kd.dH ?_) | exact xu.out)) hb);replace HB:=xH HB hb;(try clear hb);refine hK.out _ _ ⟨bcu iQ 0,bcu iQ 1,aA5,aA6⟩ (fun hHeld=>?_);clear hK K;refine no_ 59 ?_;refine on_ 14 (some 60) (bl 19 98303) HT_ (fun K hK=>?_);refine gS Tryz.func56 #[.int .i64 au,.int .i64 aa9] ?_;(with_reducible refine (gy.calls k2 au aa9 aba _ A32.out).mono ?_);rintro e w' ⟨rfl,⟨nd,rfl⟩⟩;refine ⟨_,rfl,?_⟩;refine hK.out _ _ ⟨bcu iQ 0,bcu iQ 1,hHeld.2.2.1,hHeld.2.2.2⟩ (fun hHeld=>?_);clear hK K;refine no_ 60 ?_;refine pu_ 15 61 (bl 19 131071) HT_ ?_;refine pu_ 17 63 (bl 19 262143) HT_ ?_;refine pu_ 18 12 (bl 19 524287) HT_ ?_;refine done_ (done_of HT_.out (by kernel_rfl)) ?_;have afx : 0 ≤ (iD : Int):=oD;have afy : iD < (Aq.length : Int):=oD;obtain ⟨atq,aA7,aA8,aA9,afz,V8,V9⟩:=xL (Kd.jb jM.out).2.2 iD afx afy;obtain rfl : VZ = atq:=(by injection aA9);obtain ⟨aD0,ak3,ak4,abh⟩:=Kd.Dl jM.out [] iD afx (by first | exact afy | exact of_decide_eq_true (by first | (with_reducible assumption) | assumption) | (have e_:=(Kd.jb jM.out).1;omega));obtain ⟨axn,axo,rfl,Oz,OA⟩:=Kd.lY ak4;have II:=abh 0 _ rfl;rw [Nat.add_zero,show ((Kd.slice 2 (Kd.int .i64))).sz = 1 from rfl,Nat.mul_one] at II;replace II:=Option.some.inj (II.symm.trans afz);injection II with hva_ hvn_ hvc_;rw [hva_] at OA;rw [hvc_] at Oz;have Wd:=zA (show Kd.V (Kd.int .i64) 2 _ w.heap.size _ _ (dQ Aq iD) from Kd.FM Oz OA);clear hva_ hvn_ hvc_ OA Oz;clear abh ak3;have OB:=zA V9;have axp:=zA V8;clear V9 V8;replace afx:=eq_true afx;replace afy:=eq_true afy;obtain ⟨JF,JG,rfl⟩:=Kd.aV gU.out;(try go_wp2_with (first | ((with_reducible refine ae (f:=58) rfl ?_);refine gL (some 71) Tryz.func58 #[.int .i64 au,.slice JF si.length JG,.slice Ke (dQ Aq iD).length Kg,.int .i64 (Int.tmod (wrap64 (aa8 * aba)) au)] ?_;(with_reducible refine (dG.calls k2 au _ _ si _ _ (dQ Aq iD) (Int.tmod (wrap64 (aa8 * aba)) au) afq _ ?side1 ?side2 ?side3 ?side4 A34.out).mono ?_);(case side1=>exact uC ((Kd.aC gU.out).2.2));(case side2=>exact (Kd.aC gU.out).2.1);(case side3=>repeat (first | exact (by repeat (first | (with_reducible exact uZ.out) | (with_reducible refine Kd.bW ?_ _) | (with_reducible refine Kd.bY ?_ _) | (with_reducible refine Kd.dH ?_) | exact uZ.out)) | (with_reducible refine Kd.bW ?_ _) | (with_reducible refine Kd.bY ?_ _) | (with_reducible refine Kd.dH ?_)));(case side4=>exact V5.out);rintro e w39 ⟨aGe,rfl,ho0,hb⟩;refine ⟨_,rfl,?_⟩;replace jM:=zA (Kd.nZ (uN jM.out) (Kd.aH ho0) hb);replace Fb:=zA (Kd.fG (uV Fb.out) (Kd.aH ho0) hb);replace Fe:=zA (Kd.fG (uV Fe.out) (Kd.aH ho0) hb);replace Wd:=zA (Kd.fG (uV Wd.out) (Kd.aH ho0) hb);have atr:=zA (Kd.bu (nw ho0 (uR gU.out)) (af (uH HB.out)));replace gU:=zA (Kd.aD (uR gU.out) (Kd.aH ho0) hb);replace iQ:=xB iQ hb;replace uZ:=zA (Kd.aM (by repeat (first | (with_reducible exact uZ.out) | (with_reducible refine Kd.bW ?_ _) | (with_reducible refine Kd.bY ?_ _) | (with_reducible refine Kd.dH ?_) | exact uZ.out)) hb);replace xu:=zA (Kd.aM (by repeat (first | (with_reducible exact xu.out) | (with_reducible refine Kd.bW ?_ _) | (with_reducible refine Kd.bY ?_ _) | (with_reducible refine Kd.dH ?_) | exact xu.out)) hb);replace OB:=zA (Kd.aM (by repeat (first | (with_reducible exact OB.out) | (with_reducible refine Kd.bW ?_ _) | (with_reducible refine Kd.bY ?_ _) | (with_reducible refine Kd.dH ?_) | exact OB.out)) hb);replace HB:=xH HB hb;(try clear hb);(try clear ho0))));go_roundg k2;(case measure=>have:=HJ5.out;have:=HK2.out;omega);(case rel=>exact ⟨(afq),(wrap64 (iD + 1)),eS,H',⟨by have:=HJ5.out;have:=HK2.out;omega⟩,⟨uR (Kd.ag atr.out (fun _ hk=>trivial))⟩,⟨by (with_reducible repeat (first | apply Kd.pu | apply Kd.pz | apply Kd.nW));exact Kd.mU jM.out (fun _ hk=>⟨hk.2,hk.1.2⟩)⟩,⟨uB iQ.out⟩,⟨uH HB.out⟩⟩)
        exact absurd H (by simp)
     simp only [Option.some.injEq,Prod.mk.injEq] at H;obtain ⟨rfl,rfl⟩:=H;have CO:=bc iQ 0;have EO:=bc iQ 1;have CR:=bf iQ 0;have EP:=bf iQ 1;go_wp2_with (first | ((with_reducible refine ae (f:=49) rfl ?_);refine gL (some 31) Tryz.func49 #[.agg #[.int .i64 au,.slice bE av.length bD]] ?_;(with_reducible refine (iq.calls kj5 au _ _ av afp _ ?side1 ?side2 A15.out).mono ?_);(case side1=>exact uC ((Kd.aM d9.out HB.out)));(case side2=>exact eD.out);rintro e w18 ⟨rfl,hb⟩;refine ⟨_,rfl,?_⟩;replace iQ:=xB iQ hb;replace HB:=xH HB hb;(try clear hb)));go_ret2;exact ⟨_,eX,by first | exact Kd.pq _ _ _ _ _ | exact Kd.Bi _ _ _ _ _ | exact Kd.vz _ _ _ _ _ | exact Kd.vX _ _ _ _ _ | exact Kd.vU _ _ _ _ _,uH HB.out⟩
 ·simp only [Option.some.injEq,Prod.mk.injEq] at H;obtain ⟨rfl,rfl⟩:=H;go_enter Tryz.func24,Tryz.ntmps24;go_wp2_with (first | ((with_reducible refine bP (N:=3) rfl ?_);refine bx 3 #[.int .i64 au,.slice bE av.length bD] 26 ?_;intro Dw hg w40 hbox hb;have iQ:=zA (hbox);have abb:=gq HB hg;have:=geI abb;replace HB:=xH HB hb;clear hb hbox hg;have U3:=bc iQ 0;have aed:=bc iQ 1;have U4:=bf iQ 0;have aee:=bf iQ 1) | ((with_reducible refine ae (f:=36) rfl ?_);refine gL (some 15) Tryz.func36 #[.agg #[.int .i64 au,.slice bE av.length bD]] ?_;(with_reducible refine (ll.calls k au _ _ av false _ ?side1 ?side2 A4.out).mono ?_);(case side1=>exact uC ((Kd.aM d9.out HB.out)));(case side2=>exact eD.out);rintro e w42 ⟨rfl,hb⟩;refine ⟨_,rfl,?_⟩;replace iQ:=xB iQ hb;replace HB:=xH HB hb;(try clear hb)));go_ret2;exact ⟨_,eX,by first | exact Kd.pq _ _ _ _ _ | exact Kd.Bi _ _ _ _ _ | exact Kd.vz _ _ _ _ _ | exact Kd.vX _ _ _ _ _ | exact Kd.vU _ _ _ _ _,uH HB.out⟩
/-! ### fI: function 7 -/
def fI.j0 : Nat → Int → List Int → Int → Bool → Int → List Int → Option (Int × Int)
 | 0,_,_,_,_,_,_=>none
 | k + 1,x3,x10,x11,x28,We,axq=>if x28 = true then (if 2 = 0 then ((jN.f k We x10 x3).bind fun aBa=>(some (aBa,0))) else (some (0,2))) else (if x11 = 0 then ((jN.f k We x10 x3).bind fun ak5=>(some (ak5,0))) else (some (0,x11)))
def fI.f (k : Nat) (au : Int) (av : List Int) (a1 : Int) (a2 : Int) (a3 : Int) : Option (Int × Int):=(bK.f k au av a1 a2).bind fun QN=>(if QN.2 = 1 then (fI.j0 k a3 QN.1 QN.2 false au av) else ((jL.f a3 0 (wrap64 (au - 1))).bind fun afA=>(fI.j0 k a3 QN.1 QN.2 (!afA) au av)))
theorem fI.calls (k : Nat) (au : Int) (bE : Option Addr) (bD : Nat) (av : List Int) (a1 : Int) (a2 : Int) (a3 : Int) (r1 : Int) (r2 : Int) (w : World) (hr0_1 : Kd.C (Kd.int .i64) w bE av.length av) (gY : av.length ≤ bD) (H : fI.f k au av a1 a2 a3 = some (r1,r2)) :
  Calls Tryz.prog 7 #[.agg #[.int .i64 au,.slice bE av.length bD],.int .i64 a1,.int .i64 a2,.int .i64 a3] w fun e w'=>e = .returned (.tuple #[.int .i64 r1,.int .i64 r2])∧Below w.heap.size w w':=by
 have rF:=Tryz.underlying26;have d9:=zA hr0_1;have eD:=zA gY;clear hr0_1 gY;have HB:=zA (Below.refl w.heap.size w);unfold fI.f at H;replace H:=bO H;obtain ⟨⟨abj,att⟩,A5,H⟩:=H;(try dsimp only at H);have HC6:=zA H;clear H;go_enter Tryz.func7,Tryz.ntmps7;go_upto_region 2 with (first | ((with_reducible refine bP (N:=4) rfl ?_);refine bx 4 #[.int .i64 au,.slice bE av.length bD] 26 ?_;intro atu hg w7 hbox hb;have wI:=zA (hbox);have atv:=gq HB hg;have:=geI atv;replace HB:=xH HB hb;clear hb hbox hg;have DF:=bc wI 0;have DI:=bc wI 1;have DJ:=bf wI 0;have DK:=bf wI 1) | ((with_reducible refine ae (f:=24) rfl ?_);refine gL (some 16) Tryz.func24 #[.agg #[.int .i64 au,.slice bE av.length bD],.int .i64 a1,.int .i64 a2] ?_;(with_reducible refine (bK.calls k au _ _ av a1 a2 abj att _ ?side1 ?side2 A5.out).mono ?_);(case side1=>exact uC ((Kd.aM d9.out HB.out)));(case side2=>exact eD.out);rintro e w9 ⟨aBb,rfl,ho0,hb⟩;refine ⟨_,rfl,?_⟩;have ah6:=zA (Kd.bu ho0 (af (uH HB.out)));replace wI:=xB wI hb;replace HB:=xH HB hb;(try clear hb);(try clear ho0)));(try simp only [Act.put,ls,lz,ln]);go_cut [28] (fun v28 wc=>∃ (kq : Nat) (abk : Bool),v28 = .bool abk∧aa (fI.j0 kq a3 abj att abk au av = some (r1,r2))∧aa (kq ≤ k)∧aa (Kd.R (Kd.int .i64) 2 wc w.heap.size (fun _=>True) aBb abj)∧aa (wc.heap[atu]? = some (.cells #[.int .i64 au,(.slice bE av.length bD)] 26 (0,0)))∧aa (Below w.heap.size w wc))
 case first =>
  have H:=HC6.out;clear HC6;replace H:=gE H;obtain ⟨c10,tZ,J9,H⟩|⟨c10,tZ,J9,H⟩:=H
  ·(first | rw [tZ] | (simp only [iI,kz];rw [tZ]) | skip);replace H:=bO H;obtain ⟨afA,A11,H⟩:=H;have H':=zA H;clear H;have qC:=bc wI 0;have qD:=bc wI 1;have qE:=bf wI 0;have qF:=bf wI 1;go_wp2_with (first | (go_at_call 25;(with_reducible refine (jL.calls a3 0 (wrap64 (au - 1)) afA _ A11.out).mono ?_);rintro e w' ⟨rfl,⟨nd,rfl⟩⟩));go_meet;(case rel=>exact ⟨_,(!afA),eS,H',⟨by first | omega | exact Nat.le_refl _⟩,⟨uR ah6.out⟩,⟨uB wI.out⟩,⟨uH HB.out⟩⟩)
  clear c10;(first | rw [tZ] | (simp only [iI,kz];rw [tZ]) | skip);have H':=zA H;clear H;go_wp2;go_meet;(case rel=>exact ⟨_,(false),eS,H',⟨by first | omega | exact Nat.le_refl _⟩,⟨uR ah6.out⟩,⟨uB wI.out⟩,⟨uH HB.out⟩⟩)
 case rest =>
  clear HC6;(try clear c1);(try clear c2);(try clear p2);(try clear p6);(try clear c7);(try clear c10);(try clear tZ);(try clear J9);(try clear qC);(try clear qD);(try clear DF);(try clear DI);(try clear qE);(try clear qF);(try clear DJ);(try clear DK);obtain ⟨kq,abk,rfl,HA,HJ5,jM,wI,HB⟩:=hcut
  cases kq with
  | zero=>exact absurd HA.out (by simp [fI.j0])
  | succ kj5 =>
   have H:=HA.out;clear HA;simp only [fI.j0] at H;replace H:=gB H;obtain ⟨rfl,H⟩|⟨rfl,H⟩:=H
   ·by_cases c14 : 2 = 0
    ·exact absurd c14 (by decide)
    ·rw [if_neg c14] at H;have E9 : (2 == 0) = false:=beq_eq_false_iff_ne.mpr c14;have aD1 : (2 != 0) = true:=bne_iff_ne.mpr c14;simp only [Option.some.injEq,Prod.mk.injEq] at H;obtain ⟨rfl,rfl⟩:=H;go_wp2;go_ret2;exact ⟨eX,uH HB.out⟩
   ·replace H:=gE H;obtain ⟨c18,QH,ah0,H⟩|⟨c18,QH,ah0,H⟩:=H
    ·simp only [Option.some.injEq,Prod.mk.injEq] at H;obtain ⟨rfl,rfl⟩:=H;go_wp2;go_ret2;exact ⟨eX,uH HB.out⟩
    clear c18;replace H:=bO H;obtain ⟨ak5,A19,H⟩:=H;simp only [Option.some.injEq,Prod.mk.injEq] at H;obtain ⟨rfl,rfl⟩:=H;have zY:=bc wI 0;have zZ:=bc wI 1;have z8:=bf wI 0;have Aa:=bf wI 1;obtain ⟨mX,mY,rfl⟩:=Kd.aV jM.out;go_wp2_with (first | ((with_reducible refine ae (f:=26) rfl ?_);refine gL (some 36) Tryz.func26 #[.int .i64 au,.slice mX abj.length mY,.int .i64 a3] ?_;(with_reducible refine (jN.calls kj5 au _ _ abj a3 ak5 _ ?side1 ?side2 A19.out).mono ?_);(case side1=>exact uC ((Kd.aC jM.out).2.2));(case side2=>exact (Kd.aC jM.out).2.1);rintro e w' ⟨rfl,⟨nd,rfl⟩⟩;refine ⟨_,rfl,?_⟩));go_ret2;exact ⟨eX,uH HB.out⟩
/-! ### oG: function 10 -/
def oG.f (k : Nat) (au : Int) (av : List Int) (a1 : Int) (a2 : Int) : Option (List Int × Int):=(bK.f k au av a1 a2).bind fun ah7=>(some (ah7.1,ah7.2))
theorem oG.calls (k : Nat) (au : Int) (bE : Option Addr) (bD : Nat) (av : List Int) (a1 : Int) (a2 : Int) (r1 : List Int) (r2 : Int) (w : World) (hr0_1 : Kd.C (Kd.int .i64) w bE av.length av) (gY : av.length ≤ bD) (H : oG.f k au av a1 a2 = some (r1,r2)) :
  Calls Tryz.prog 10 #[.agg #[.int .i64 au,.slice bE av.length bD],.int .i64 a1,.int .i64 a2] w fun e w'=>∃ v0_ : Value,e = .returned (.tuple #[v0_,.int .i64 r2])∧Kd.R (Kd.int .i64) 2 w' w.heap.size (fun _=>True) v0_ r1∧Below w.heap.size w w':=by
 have rF:=Tryz.underlying26;have d9:=zA hr0_1;have eD:=zA gY;clear hr0_1 gY;have HB:=zA (Below.refl w.heap.size w);unfold oG.f at H;replace H:=bO H;obtain ⟨⟨aBc,aBd⟩,A4,H⟩:=H;(try dsimp only at H);simp only [Option.some.injEq,Prod.mk.injEq] at H;obtain ⟨rfl,rfl⟩:=H;go_enter Tryz.func10,Tryz.ntmps10;go_wp2_with (first | ((with_reducible refine bP (N:=3) rfl ?_);refine bx 3 #[.int .i64 au,.slice bE av.length bD] 26 ?_;intro aD2 hg w5 hbox hb;have LM:=zA (hbox);have atw:=gq HB hg;have:=geI atw;replace HB:=xH HB hb;clear hb hbox hg;have R5:=bc LM 0;have R6:=bc LM 1;have R7:=bf LM 0;have R8:=bf LM 1) | ((with_reducible refine ae (f:=24) rfl ?_);refine gL (some 14) Tryz.func24 #[.agg #[.int .i64 au,.slice bE av.length bD],.int .i64 a1,.int .i64 a2] ?_;(with_reducible refine (bK.calls k au _ _ av a1 a2 aBc aBd _ ?side1 ?side2 A4.out).mono ?_);(case side1=>exact uC ((Kd.aM d9.out HB.out)));(case side2=>exact eD.out);rintro e w7 ⟨aGf,rfl,ho0,hb⟩;refine ⟨_,rfl,?_⟩;have atx:=zA (Kd.bu ho0 (af (uH HB.out)));replace LM:=xB LM hb;replace HB:=xH HB hb;(try clear hb);(try clear ho0)));go_ret2;exact ⟨_,eX,uR atx.out,uH HB.out⟩
/-! ### aJ: function 14 -/
mutual
def aJ.j0 : Nat → Int → List Int → Int → Bool → Int → List Int → Option (Int × Int)
 | 0,_,_,_,_,_,_=>none
 | k + 1,x1,x2,x3,x21,xw,yH=>if x21 = true then (some (0,1)) else ((bK.f k xw yH x1 x3).bind fun QO=>(if QO.2 = 1 then (aJ.j1 k x2 QO.1 QO.2 false xw yH) else (aJ.j1 k x2 QO.1 QO.2 (decide ((x2.length : Int) > (wrap64 (x1 + 1)))) xw yH)))
def aJ.j1 : Nat → List Int → List Int → Int → Bool → Int → List Int → Option (Int × Int)
 | 0,_,_,_,_,_,_=>none
 | k + 1,x2,x10,x11,x37,xw,yH=>if x37 = true then (aJ.j2 k x2 x10 2 xw yH) else (aJ.j2 k x2 x10 x11 xw yH)
def aJ.j2 : Nat → List Int → List Int → Int → Int → List Int → Option (Int × Int)
 | 0,_,_,_,_,_=>none
 | k + 1,x2,x10,x11,xw,yH=>if x11 = 0 then ((bB.f k xw x10 x2).bind fun abl=>((iw.f k xw yH abl 0).bind fun ak6=>(some (ak6,0)))) else (some (0,x11))
end
def aJ.f (k : Nat) (au : Int) (av : List Int) (a1 : Int) (l2 : List Int) (a3 : Int) : Option (Int × Int):=(ll.f k au av).bind fun aty=>(if aty = true then ((jh.f k au l2).bind fun afB=>(aJ.j0 k a1 l2 a3 (!afB) au av)) else (aJ.j0 k a1 l2 a3 true au av))
def aJ.T8 : Bool × List (List Nat × List Nat):=(true,[([],[]),([],[]),([1],[1]),([],[]),([],[]),([2,3,4],[2,3,4]),([0,5,5],[0,5]),([6,6,0,1,2,3,4,5,6],[6]),([7,0,1,2,3,4,5,6,7],[])])
def aJ.B8 : List Nat:=[0,0,2,0,0,30,63,127,255]
theorem aJ.aBe : nu .any (opsOf Tryz.f14 8) = aJ.T8:=by kernel_rfl
theorem aJ.atz : jO aJ.T8.2 aJ.B8 = true:=by kernel_rfl
theorem aJ.calls (k : Nat) (au : Int) (bE : Option Addr) (bD : Nat) (av : List Int) (a1 : Int) (A2 : Option Addr) (c2 : Nat) (l2 : List Int) (a3 : Int) (r1 : Int) (r2 : Int) (w : World) (hr0_1 : Kd.C (Kd.int .i64) w bE av.length av) (gY : av.length ≤ bD) (hr2 : Kd.C (Kd.int .i64) w A2 l2.length l2) (hc2 : l2.length ≤ c2) (H : aJ.f k au av a1 l2 a3 = some (r1,r2)) :
  Calls Tryz.prog 14 #[.agg #[.int .i64 au,.slice bE av.length bD],.int .i64 a1,.slice A2 l2.length c2,.int .i64 a3] w fun e w'=>e = .returned (.tuple #[.int .i64 r1,.int .i64 r2])∧Below w.heap.size w w':=by
 have rF:=Tryz.underlying26;have d9:=zA hr0_1;have eD:=zA gY;clear hr0_1 gY;have HR2:=zA hr2;have HC2:=zA hc2;clear hr2 hc2;have HB:=zA (Below.refl w.heap.size w);unfold aJ.f at H;have HC5:=zA H;clear H;go_enter Tryz.func14,Tryz.ntmps14;go_upto_region 1 with (first | ((with_reducible refine bP (N:=4) rfl ?_);(try (refine oN (by rfl) ?_;dsimp only));refine bx 4 #[.int .i64 au,.slice bE av.length bD] 26 ?_;intro QP hg w6 hbox hb;have lm:=zA (hbox);have atA:=gq HB hg;have:=geI atA;replace HB:=xH HB hb;clear hb hbox hg));(try simp only [Act.put,ls,lz,ln]);go_cut [21] (fun v21 wc=>∃ (kq : Nat) (abm : Bool),v21 = .bool abm∧aa (aJ.j0 kq a1 l2 a3 abm au av = some (r1,r2))∧aa (kq ≤ k)∧aa (wc.heap[QP]? = some (.cells #[.int .i64 au,(.slice bE av.length bD)] 26 (0,0)))∧aa (Below w.heap.size w wc))
 case first =>
  have H:=HC5.out;clear HC5;replace H:=bO H;obtain ⟨aty,A7,H⟩:=H;replace H:=gB H;obtain ⟨rfl,H⟩|⟨rfl,H⟩:=H
  ·replace H:=bO H;obtain ⟨afB,A9,H⟩:=H;have H':=zA H;clear H;have rX:=bc lm 0;have rY:=bc lm 1;have rZ:=bf lm 0;have r9:=bf lm 1;go_wp2_with (first | ((with_reducible refine ae (f:=36) rfl ?_);refine gL (some 13) Tryz.func36 #[.agg #[.int .i64 au,.slice bE av.length bD]] ?_;(with_reducible refine (ll.calls k au _ _ av true _ ?side1 ?side2 A7.out).mono ?_);(case side1=>exact uC ((Kd.aM d9.out HB.out)));(case side2=>exact eD.out);rintro e w11 ⟨rfl,hb⟩;refine ⟨_,rfl,?_⟩;replace lm:=xB lm hb;replace HB:=xH HB hb;(try clear hb);have qC:=bc lm 0;have qD:=bc lm 1;have qE:=bf lm 0;have qF:=bf lm 1) | (go_at_call 37;(with_reducible refine (jh.calls k au _ _ l2 afB _ ?side1 ?side2 A9.out).mono ?_);(case side1=>exact uC ((Kd.aM HR2.out HB.out)));(case side2=>exact HC2.out);rintro e w' ⟨rfl,⟨nd,rfl⟩⟩));go_meet;(case rel=>exact ⟨_,(!afB),eS,H',⟨by first | omega | exact Nat.le_refl _⟩,⟨uB lm.out⟩,⟨uH HB.out⟩⟩)
  ·have H':=zA H;clear H;have mD:=bc lm 0;have mE:=bc lm 1;have mF:=bf lm 0;have mG:=bf lm 1;go_wp2_with (first | ((with_reducible refine ae (f:=36) rfl ?_);refine gL (some 13) Tryz.func36 #[.agg #[.int .i64 au,.slice bE av.length bD]] ?_;(with_reducible refine (ll.calls k au _ _ av false _ ?side1 ?side2 A7.out).mono ?_);(case side1=>exact uC ((Kd.aM d9.out HB.out)));(case side2=>exact eD.out);rintro e w14 ⟨rfl,hb⟩;refine ⟨_,rfl,?_⟩;replace lm:=xB lm hb;replace HB:=xH HB hb;(try clear hb)));go_meet;(case rel=>exact ⟨_,(true),eS,H',⟨by first | omega | exact Nat.le_refl _⟩,⟨uB lm.out⟩,⟨uH HB.out⟩⟩)
 case rest =>
  clear HC5;(try clear c1);(try clear c2);(try clear p2);(try clear c3);(try clear c8);(try clear c14);(try clear rX);(try clear rY);(try clear qC);(try clear qD);(try clear mD);(try clear mE);(try clear rZ);(try clear r9);(try clear qE);(try clear qF);(try clear mF);(try clear mG);obtain ⟨kq,abm,rfl,HA,HJ4,lm,HB⟩:=hcut
  cases kq with
  | zero=>exact absurd HA.out (by simp [aJ.j0])
  | succ kj4 =>
   have H:=HA.out;clear HA;simp only [aJ.j0] at H;replace H:=gB H;obtain ⟨rfl,H⟩|⟨rfl,H⟩:=H
   ·simp only [Option.some.injEq,Prod.mk.injEq] at H;obtain ⟨rfl,rfl⟩:=H;go_wp2;go_ret2;exact ⟨eX,uH HB.out⟩
   ·replace H:=bO H;obtain ⟨⟨SV,ak7⟩,A16,H⟩:=H;(try dsimp only at H);have ak8:=zA H;clear H;have Ad:=bc lm 0;have CG:=bc lm 1;have Ae:=bf lm 0;have CK:=bf lm 1;go_upto_region 4 with (first | ((with_reducible refine ae (f:=24) rfl ?_);refine gL (some 26) Tryz.func24 #[.agg #[.int .i64 au,.slice bE av.length bD],.int .i64 a1,.int .i64 a3] ?_;(with_reducible refine (bK.calls kj4 au _ _ av a1 a3 SV ak7 _ ?side1 ?side2 A16.out).mono ?_);(case side1=>exact uC ((Kd.aM d9.out HB.out)));(case side2=>exact eD.out);rintro e w19 ⟨atB,rfl,ho0,hb⟩;refine ⟨_,rfl,?_⟩;have ah8:=zA (Kd.bu ho0 (af (uH HB.out)));replace lm:=xB lm hb;replace HB:=xH HB hb;(try clear hb);(try clear ho0)));(try simp only [Act.put,ls,lz,ln]);go_cut [37] (fun v37 wc=>∃ (kq : Nat) (SX : Bool),v37 = .bool SX∧aa (aJ.j1 kq l2 SV ak7 SX au av = some (r1,r2))∧aa (kq ≤ kj4)∧aa (Kd.R (Kd.int .i64) 2 wc w.heap.size (fun _=>True) atB SV)∧aa (wc.heap[QP]? = some (.cells #[.int .i64 au,(.slice bE av.length bD)] 26 (0,0)))∧aa (Below w.heap.size w wc))
    case first =>
     have H:=ak8.out;clear ak8;replace H:=gE H;obtain ⟨c20,Az,VS,H⟩|⟨c20,Az,VS,H⟩:=H
     ·(first | rw [Az] | (simp only [iI,kz];rw [Az]) | skip);have H':=zA H;clear H;go_wp2;go_meet;(case rel=>exact ⟨_,(decide ((l2.length : Int) > (wrap64 (a1 + 1)))),eS,H',⟨by have:=HJ4.out;first | omega | exact Nat.le_refl _⟩,⟨uR ah8.out⟩,⟨uB lm.out⟩,⟨uH HB.out⟩⟩)
     clear c20;(first | rw [Az] | (simp only [iI,kz];rw [Az]) | skip);have H':=zA H;clear H;go_wp2;go_meet;(case rel=>exact ⟨_,(false),eS,H',⟨by have:=HJ4.out;first | omega | exact Nat.le_refl _⟩,⟨uR ah8.out⟩,⟨uB lm.out⟩,⟨uH HB.out⟩⟩)
    case rest =>
     clear ak8;(try clear c1);(try clear c2);(try clear p2);(try clear c3);(try clear p6);(try clear c8);(try clear c14);(try clear c15);(try clear c20);(try clear Az);(try clear VS);(try clear rX);(try clear rY);(try clear qC);(try clear qD);(try clear mD);(try clear mE);(try clear Ad);(try clear CG);(try clear rZ);(try clear r9);(try clear qE);(try clear qF);(try clear mF);(try clear mG);(try clear Ae);(try clear CK);(try clear p2);obtain ⟨kq,SX,rfl,HA,atC,jM,lm,HB⟩:=hcut
     cases kq with
     | zero=>exact absurd HA.out (by simp [aJ.j1])
     | succ aBf =>
      have H:=HA.out;clear HA;simp only [aJ.j1] at H;have ak9:=zA H;clear H;go_upto_if 37 with (fail);go_cut [11] (fun v11 wc=>∃ (kq : Nat) (SY : Int),v11 = .int .i64 SY∧aa (aJ.j2 kq l2 SV SY au av = some (r1,r2))∧aa (kq ≤ aBf)∧aa (Kd.R (Kd.int .i64) 2 wc w.heap.size (fun _=>True) atB SV)∧aa (wc.heap[QP]? = some (.cells #[.int .i64 au,(.slice bE av.length bD)] 26 (0,0)))∧aa (Below w.heap.size w wc))
      case first =>
       have H:=ak9.out;clear ak9;replace H:=gB H;obtain ⟨rfl,H⟩|⟨rfl,H⟩:=H
       ·have H':=zA H;clear H;go_wp2;go_meet;(case rel=>exact ⟨_,(2),eS,H',⟨by have:=HJ4.out;have:=atC.out;first | omega | exact Nat.le_refl _⟩,⟨uR jM.out⟩,⟨uB lm.out⟩,⟨uH HB.out⟩⟩)
       ·have H':=zA H;clear H;go_wp2;go_meet;(case rel=>exact ⟨_,(ak7),eS,H',⟨by have:=HJ4.out;have:=atC.out;first | omega | exact Nat.le_refl _⟩,⟨uR jM.out⟩,⟨uB lm.out⟩,⟨uH HB.out⟩⟩)
      case rest =>
       clear ak9;(try clear c1);(try clear c2);(try clear p2);(try clear c3);(try clear p6);(try clear c8);(try clear c14);(try clear c15);(try clear c20);(try clear Az);(try clear VS);(try clear c22);(try clear rX);(try clear rY);(try clear qC);(try clear qD);(try clear mD);(try clear mE);(try clear Ad);(try clear CG);(try clear rZ);(try clear r9);(try clear qE);(try clear qF);(try clear mF);(try clear mG);(try clear Ae);(try clear CK);(try clear p2);(try clear p6);obtain ⟨kq,SY,rfl,HA,aGg,jM,lm,HB⟩:=hcut
       cases kq with
       | zero=>exact absurd HA.out (by simp [aJ.j2])
       | succ atD =>
        have H:=HA.out;clear HA;simp only [aJ.j2] at H;replace H:=gE H;obtain ⟨c23,agj,atE,H⟩|⟨c23,agj,atE,H⟩:=H
        ·simp only [Option.some.injEq,Prod.mk.injEq] at H;obtain ⟨rfl,rfl⟩:=H;go_wp2;go_ret2;exact ⟨eX,uH HB.out⟩
        clear c23;replace H:=bO H;obtain ⟨abl,A24,H⟩:=H;replace H:=bO H;obtain ⟨ak6,A25,H⟩:=H;simp only [Option.some.injEq,Prod.mk.injEq] at H;obtain ⟨rfl,rfl⟩:=H;(try go_wp2);replace jM:=zA (Kd.gz jM.out);replace lm:=zA (bI lm.out);replace HB:=zA (aW HB.out);obtain ⟨JQ,JR,afl⟩:=Kd.aV jM.out;(first | subst afl | (injection afl with f1_ f2_ f3_;have f4_:=f1_.symm;have f5_:=f3_.symm;clear f1_ f2_ f3_;subst f4_;subst f5_));refine kE (n:=9) (S:=fun w'=>w'.cell? ⟨QP,0,none⟩ = some (.int .i64 au)∧w'.cell? ⟨QP,1,none⟩ = some (.slice bE av.length bD)) (ds:=[]) #[false,false,false,false,false,false,false,false,false] (by kernel_rfl) rfl rfl ⟨bcu lm 0,bcu lm 1⟩ (fun hHeld=>?_);refine gX aJ.aBe aJ.atz (fun HT_ HW_=>?_);generalize wc.drew = w26 at jM lm HB hHeld ⊢;refine pu_ 1 42 (bl 9 2) HT_ ?_;refine pu_ 3 44 (bl 9 10) HT_ ?_;refine pu_ 4 45 (bl 9 26) HT_ ?_;refine ta_ 0 41 (bl 9 27) HT_ HW_ hHeld ?_;refine ta_ 2 43 (bl 9 31) HT_ HW_ hHeld ?_;refine on_ 5 (some 46) (bl 9 63) HT_ (fun K hK=>?_);refine gS Tryz.func39 #[.int .i64 au,.slice JQ SV.length JR,.slice A2 l2.length c2] ?_;(with_reducible refine (bB.calls atD au _ _ SV _ _ l2 abl _ ?side1 ?side2 ?side3 ?side4 A24.out).mono ?_);(case side1=>exact uC ((Kd.aC jM.out).2.2));(case side2=>exact (Kd.aC jM.out).2.1);(case side3=>exact uC ((Kd.aM HR2.out HB.out)));(case side4=>exact HC2.out);rintro e w28 ⟨aGh,rfl,ho0,hb⟩;refine ⟨_,rfl,?_⟩;have QQ:=zA (Kd.bu (nw ho0 (uR jM.out)) (af (uH HB.out)));replace jM:=zA (Kd.aD (uR jM.out) (Kd.aH ho0) hb);replace lm:=xB lm hb;replace HB:=xH HB hb;(try clear hb);(try clear ho0);obtain ⟨aBg,aBh,atF⟩:=Kd.aV QQ.out;(first | subst atF | (injection atF with f1_ f2_ f3_;have f4_:=f1_.symm;have f5_:=f3_.symm;clear f1_ f2_ f3_;subst f4_;subst f5_));refine hK.out _ _ ⟨bcu lm 0,bcu lm 1⟩ (fun hHeld=>?_);clear hK K;refine no_ 46 ?_;refine on_ 6 (some 47) (bl 9 127) HT_ (fun K hK=>?_);refine gS Tryz.func38 #[.agg #[.int .i64 au,.slice bE av.length bD],.slice aBg abl.length aBh,.int .i64 0] ?_;(with_reducible refine (iw.calls atD au _ _ av _ _ abl 0 ak6 _ ?side1 ?side2 ?side3 ?side4 A25.out).mono ?_);(case side1=>exact uC ((Kd.aM d9.out HB.out)));(case side2=>exact eD.out);(case side3=>exact uC ((Kd.aC QQ.out).2.2));(case side4=>exact (Kd.aC QQ.out).2.1);rintro e w30 ⟨rfl,hb⟩;refine ⟨_,rfl,?_⟩;replace jM:=xR jM hb;replace QQ:=xR QQ hb;replace lm:=xB lm hb;replace HB:=xH HB hb;(try clear hb);refine hK.out _ _ ⟨bcu lm 0,bcu lm 1⟩ (fun hHeld=>?_);clear hK K;refine no_ 47 ?_;refine pu_ 7 8 (bl 9 255) HT_ ?_;refine pu_ 8 9 (bl 9 511) HT_ ?_;refine done_ (done_of HT_.out (by kernel_rfl)) ?_;(try go_wp2);go_ret2;exact ⟨eX,uH HB.out⟩
/- Hankel determinants: both come to one plain function; no condition. -/
/-- The first i rows of the Hankel matrix of k rows. -/
def hrows (l : List Int) (k i : Nat) : List (List Int):=(List.range i).map fun j=>(l.take (j + k)).drop j
def wz (p : Int) (l : List Int) (k : Nat) : Int:=Ps p (hrows l k k)
theorem hrows_len (l : List Int) (k i : Nat) : (hrows l k i).length = i:=by simp [hrows]
theorem hrows_succ (l : List Int) (k i : Nat) : hrows l k (i + 1) = hrows l k i ++ [(l.take (i + k)).drop i]:=by unfold hrows;rw [List.range_succ,List.map_append,List.map_singleton]
theorem hrows_sqr {p : Int} (hp : Pm p) {l : List Int} (hl : Nm p l) {k : Nat} (hk : k ≤ 1000) (h : 2 * k ≤ l.length + 1) : RB p (hrows l k k):=by
  refine ⟨⟨hp.two,hp.top⟩,by rw [hrows_len];exact hk,fun r hr=>?_⟩
  obtain ⟨j,hj,rfl⟩:=List.mem_map.1 hr
  have hj:=List.mem_range.1 hj
  refine ⟨by rw [hrows_len,List.length_drop,List.length_take];omega,(hl.take _).drop _⟩
theorem ala {p : Int} {rows : List (List Int)} (h : RB p rows) (n : Nat) : aG.f n p rows = some (Ps p rows):=by unfold aG.f;rw [if_pos h]
theorem afC {p : Int} {rows : List (List Int)} (h : RB p rows) (n : Nat) : kC.f n p rows = some (Ps p rows):=by unfold kC.f;rw [if_pos h]
section
variable {p : Int} (hp : Pm p) {l : List Int} (nl : Nm p l) (hl : l.length ≤ 24) {k : Nat} (hk : 2 * k ≤ l.length + 1)
include hp nl hl hk
theorem QR (d : Nat) : ∀ i : Nat,i + d = k → Ev (fun n=>fU.l0 n (k : Int) (hrows l k i) (i : Int) p l) (wz p l k):=by
  induction d with
  | zero =>
    intro i hi
    obtain rfl : i = k:=by omega
    refine Ev.step (fun n=>by rw [fU.l0]) ?_
    exact Ev.neg (by omega) (Ev.bind ⟨0,fun n _=>afC (hrows_sqr hp nl (by omega) hk) n⟩ (Ev.now _))
  | succ d ih =>
    intro i hi
    refine Ev.step (fun n=>by rw [fU.l0]) ?_
    rw [Yz (i:=i) (j:=k) (n:=1000) (by omega) (by omega),lC (i:=i) (n:=k) (by omega) (by omega)]
    refine Ev.pos (by omega) (Ev.pos (by omega) (Ev.pos (by omega) (Ev.pos (by omega) ?_)))
    rw [jI,jI]
    refine Ev.iN (Jk _ (by rw [List.length_drop,List.length_take];unfold Sm;omega)) (Ev.pos (by rw [hrows_len];omega) ?_)
    rw [← hrows_succ]
    exact ih (i + 1) (by omega)
theorem QS (d : Nat) : ∀ i : Nat,i + d = k → Ev (fun n=>ed.l0 n (k : Int) (hrows l k i) (k : Int) (i : Int) p l) (wz p l k):=by
  induction d with
  | zero =>
    intro i hi
    obtain rfl : i = k:=by omega
    refine Ev.step (fun n=>by rw [ed.l0]) ?_
    exact Ev.neg (by omega) (Ev.iN (a:=p) rfl (Ev.bind ⟨0,fun n _=>ala (hrows_sqr hp nl (by omega) hk) n⟩ (Ev.now _)))
  | succ d ih =>
    intro i hi
    refine Ev.step (fun n=>by rw [ed.l0]) ?_
    rw [Yz (i:=i) (j:=k) (n:=1000) (by omega) (by omega),lC (i:=i) (n:=k) (by omega) (by omega)]
    refine Ev.pos (by omega) (Ev.pos (by omega) (Ev.pos (by omega) (Ev.pos (by omega) (Ev.pos (by rw [hrows_len];omega) ?_))))
    rw [jI,jI,← hrows_succ]
    exact ih (i + 1) (by omega)
theorem QT : Ev (fun n=>fU.f n p l (k : Int)) (wz p l k):=QR hp nl hl hk k 0 (by omega)
theorem QU : Ev (fun n=>ed.f n p l (k : Int)) (wz p l k):=QS hp nl hl hk k 0 (by omega)
end
theorem OC {l : List Int} (hl : Sm l.length) : wrap64 (Int.tdiv (wrap64 ((l.length : Int) + 1)) 2) = (((l.length + 1) / 2 : Nat) : Int):=by
  unfold Sm at hl
  rw [bJ (x:=(l.length : Int) + 1) (by omega) (by omega),Int.tdiv_eq_ediv_of_nonneg (by omega),bJ (by omega) (by omega)]
  omega
theorem LP (p : Int) {l : List Int} (hl : Sm l.length) (a : Int) : ja.f p l a = some (decide (0 ≤ a∧a ≤ (((l.length + 1) / 2 : Nat) : Int))):=by
  unfold ja.f fO.f
  by_cases h : a ≥ 0
  · rw [if_pos h]
    simp only [Option.bind_some,OC hl]
    congr 2
    simp [h]
  · rw [if_neg h]
    congr 1
    simp [show ¬ 0 ≤ a from h]
/- The order: both come to one plain function; no condition. -/
/-- The first order from i on, d at most, behind which the Hankel determinant is 0. -/
def BP (p : Int) (l : List Int) : Nat → Nat → Int
  | 0,i=>i
  | d + 1,i=>if wz p l (i + 1) = 0 then i else BP p l d (i + 1)
section
variable {p : Int} (hp : Pm p) {l : List Int} (nl : Nm p l) (hl : l.length ≤ 24)
include hp nl hl
theorem S9 (d : Nat) : ∀ i : Nat,i + d = (l.length + 1) / 2 → Ev (fun n=>iq.l0 n (i : Int) p l) (BP p l d i):=by
  induction d with
  | zero =>
    intro i hi
    refine Ev.step (fun n=>by rw [iq.l0]) ?_
    rw [OC (by unfold Sm;omega)]
    exact Ev.neg (by omega) (Ev.now _)
  | succ d ih =>
    intro i hi
    refine Ev.step (fun n=>by rw [iq.l0]) ?_
    rw [OC (by unfold Sm;omega),lC (i:=i) (n:=1000) (by omega) (by omega),BP]
    refine Ev.pos (by omega) (Ev.bind (QT hp nl hl (by omega)) ?_)
    by_cases h : wz p l (i + 1) = 0
    · rw [if_pos h];exact Ev.pos h (Ev.now _)
    · rw [if_neg h];exact Ev.neg h (ih (i + 1) (by omega))
theorem Ta (d : Nat) : ∀ i : Nat,i + d = (l.length + 1) / 2 → Ev (fun n=>dU.l0 n (i : Int) p l) (BP p l d i):=by
  induction d with
  | zero =>
    intro i hi
    refine Ev.step (fun n=>by rw [dU.l0]) ?_
    rw [lC (i:=i) (n:=1000) (by omega) (by omega)]
    exact Ev.iN (LP p (by unfold Sm;omega) _) (Ev.neg (by simp;omega) (Ev.now _))
  | succ d ih =>
    intro i hi
    refine Ev.step (fun n=>by rw [dU.l0]) ?_
    rw [lC (i:=i) (n:=1000) (by omega) (by omega),BP]
    refine Ev.iN (LP p (by unfold Sm;omega) _) (Ev.pos (decide_eq_true (by omega)) (Ev.bind (QU hp nl hl (by omega)) ?_))
    by_cases h : wz p l (i + 1) = 0
    · rw [if_pos h];exact Ev.pos h (Ev.now _)
    · rw [if_neg h];exact Ev.neg h (ih (i + 1) (by omega))
def vD (p : Int) (l : List Int) : Int:=BP p l ((l.length + 1) / 2) 0
theorem JA : Ev (fun n=>iq.f n p l) (vD p l):=S9 hp nl hl _ 0 (by omega)
theorem DT : Ev (fun n=>dU.f n p l) (vD p l):=Ta hp nl hl _ 0 (by omega)
end
/- The orthogonal polynomials of moments: what the program (upTo) and the reference (Zu) come to; no condition. -/
/-- L(f f x^s). -/
def kN (p : Int) (l f : List Int) (s : Nat) : Int:=rP p l (lM p f f) s
def qY (p : Int) (l f : List Int) : Int:=kN p l f 1 * qA p (kN p l f 0) % p
def yA (p : Int) (l b f : List Int) (i : Nat) : Int:=if i = 0 then l.getD 0 0 else kN p l f 0 * qA p (kN p l b 0) % p
/-- P(k - 1) and P(k). -/
def oZ (p : Int) (l : List Int) : Nat → List Int × List Int
  | 0=>([],[1])
  | i + 1=>((oZ p l i).2,zw p (qY p l (oZ p l i).2) (yA p l (oZ p l i).1 (oZ p l i).2 i) (oZ p l i).2 (oZ p l i).1)
def mP (p : Int) (l : List Int) (i : Nat) : List Int:=(oZ p l i).2
theorem EL {p : Int} (hp : Pm p) (l : List Int) (k : Nat) : (Nm p (oZ p l k).1∧Nm p (oZ p l k).2)∧((oZ p l k).1.length ≤ k + 1∧(oZ p l k).2.length ≤ k + 1):=by
  induction k with
  | zero=>exact ⟨⟨Nm.nil p,alb hp⟩,by simp [oZ],by simp [oZ]⟩
  | succ k ih =>
    refine ⟨⟨ih.1.2,abn hp _ _ _ _⟩,by have:=ih.2.2;simp only [oZ];omega,?_⟩
    have:=XE p (qY p l (oZ p l k).2) (yA p l (oZ p l k).1 (oZ p l k).2 k) (oZ p l k).2 (oZ p l k).1
    have h:=ih.2
    simp only [oZ]
    omega
theorem sP {p : Int} (hp : Pm p) (l : List Int) (k : Nat) : (mP p l k).length ≤ k + 1:=(EL hp l k).2.2
theorem Ed {p : Int} (hp : Pm p) (l : List Int) (k : Nat) : Nm p (mP p l k):=(EL hp l k).1.2
/-- L(x f) by the product with x. -/
theorem Zz {p : Int} (hp : Pm p) (l f : List Int) (hf : Nm p f) : rP p l (lM p [0,1] f) 0 = rP p l f 1:=by
  unfold rP
  have hg : ∀ j,(lM p [0,1] f).getD j 0 = sh f 1 j:=fun j=>by
    have hb : 0 ≤ sh f 1 j∧sh f 1 j < p:=by
      unfold sh
      split
      · exact hf.DL hp.pos _
      · exact ⟨Int.le_refl _,hp.pos⟩
    rw [Ff hp.pos]
    show ((0 + 0 * sh f 0 j) + 1 * sh f 1 j) % p = _
    rw [Int.zero_mul,Int.one_mul,Int.zero_add,Int.zero_add,Int.emod_eq_of_lt hb.1 hb.2]
  have h1 : ∀ j,(lM p [0,1] f).length ≤ j → (lM p [0,1] f).getD j 0 * l.getD (j + 0) 0 = 0:=fun j hj=>by rw [BU _ hj,Int.zero_mul]
  have h2 : ∀ j,f.length + 1 ≤ j → (lM p [0,1] f).getD j 0 * l.getD (j + 0) 0 = 0:=fun j hj=>by rw [hg,alc (by omega),Int.zero_mul]
  have h3 : sumTo (fun j=>(lM p [0,1] f).getD j 0 * l.getD (j + 0) 0) (lM p [0,1] f).length = sumTo (fun j=>(lM p [0,1] f).getD j 0 * l.getD (j + 0) 0) (f.length + 1):=by
    rw [← Ar h1 (f.length + 1),← Ar h2 (lM p [0,1] f).length,Nat.add_comm]
  rw [h3,BV]
  have h4 : (lM p [0,1] f).getD 0 0 * l.getD (0 + 0) 0 = 0:=by rw [hg,sh,if_neg (by omega),Int.zero_mul]
  rw [h4,Int.zero_add]
  congr 1
  refine sumTo_congr _ fun t ht=>?_
  rw [hg,sh,if_pos (by omega)]
  rfl
theorem qI {p : Int} (hp : Pm p) (l f : List Int) (s : Nat) : 0 ≤ kN p l f s∧kN p l f s < p:=lv hp.pos _
theorem Lg {p : Int} (hp : Pm p) (l f : List Int) : 0 ≤ qY p l f∧qY p l f < p:=lv hp.pos _
theorem ZA {p : Int} (hp : Pm p) {l : List Int} (hl : Nm p l) (b f : List Int) (i : Nat) : 0 ≤ yA p l b f i∧yA p l b f i < p:=by
  unfold yA
  split
  · exact hl.DL hp.pos 0
  · exact lv hp.pos _
theorem KJ (x p : Int) : (-(x % p)) % p = (-x) % p:=by
  have h:=KV 0 x p
  rwa [Int.zero_sub,Int.zero_sub] at h
/-- The empty list added. -/
theorem Zx {p : Int} (f : List Int) (k : Int) (hf : oU f = f) : Dg p f [] k = f:=by
  unfold Dg
  rw [List.length_nil,wS,Nat.max_zero,u6,Nat.sub_self,List.replicate_zero,List.append_nil,hf]
/- The orthogonal polynomials of moments are monic; expansions in monic polynomials, sums of polynomials: plain; no condition. -/
theorem Yk {p : Int} (hp : Pm p) (l : List Int) (k : Nat) : Mon (mP p l k) k:=by
  induction k with
  | zero=>exact ⟨rfl,rfl⟩
  | succ k ih=>exact XF hp _ _ _ _ k ih (EL hp l k).2.1
/-- The numbers of f in monic polynomials, from the highest on. -/
def aBi (p : Int) (P : Nat → List Int) : Nat → List Int → List Int → List Int
  | 0,_,o=>o
  | d + 1,f,o=>if f.length = 0 then o else aBi p P d (Dg p f (P (f.length - 1)) ((-(f.getD (f.length - 1) 0)) % p)) (o.set (f.length - 1) (f.getD (f.length - 1) 0))
/-- The sum of c 0 P 0 to c (k - 1) P (k - 1). -/
def xc (p : Int) (P : Nat → List Int) (c : Nat → Int) : Nat → List Int
  | 0=>[]
  | k + 1=>Dg p (xc p P c k) (P k) (c k)
theorem Ez {p : Int} (hp : Pm p) (P : Nat → List Int) (c : Nat → Int) (k : Nat) : Nm p (xc p P c k):=by
  induction k with
  | zero=>exact Nm.nil p
  | succ k ih=>exact Wh hp.pos ih _
theorem Jy {p : Int} (P : Nat → List Int) (c : Nat → Int) (hP : ∀ i,(P i).length ≤ i + 1) (k : Nat) : (xc p P c k).length ≤ k:=by
  induction k with
  | zero=>exact Nat.le_refl _
  | succ k ih =>
    have:=QV p (xc p P c k) (P k) (c k)
    have:=hP k
    rw [xc]
    omega
/-- Polynomials up to degree n - 1 are there. -/
def aGi (p : Int) (l : List Int) (n : Nat) : Prop:=n = 0 ∨ ((n : Int) - 1 ≤ vD p l∧2 * (n - 1) ≤ l.length)
/- Powers modulo p are the rests of powers; no condition. -/
theorem Fg {p : Int} (a : Int) (m : Nat) : ∀ o : Int,(o * (a % p) ^ m) % p = (o * a ^ m) % p:=by
  induction m with
  | zero=>intro o;rw [Int.pow_zero,Int.pow_zero]
  | succ m ih =>
    intro o
    rw [Int.pow_succ,Int.pow_succ,Int.mul_comm ((a % p) ^ m),← Int.mul_assoc,ih,Int.mul_assoc,Int.mul_comm (a % p),← Int.mul_assoc,Int.mul_emod,Int.emod_emod,← Int.mul_emod,Int.mul_assoc]
theorem sq_pow (x : Int) (m : Nat) : (x * x) ^ m = x ^ (2 * m):=by
  induction m with
  | zero=>rw [Int.pow_zero,Nat.mul_zero,Int.pow_zero]
  | succ m ih=>rw [Int.pow_succ,ih,show 2 * (m + 1) = 2 * m + 1 + 1 from by omega,Int.pow_succ,Int.pow_succ,Int.mul_assoc]
theorem abo {p : Int} (hp : 0 < p) (d : Nat) : ∀ (x : Int) (k : Nat) (o : Int),k ≤ d → 0 ≤ o∧o < p → Ba p d x k o = (o * x ^ k) % p:=by
  induction d with
  | zero =>
    intro x k o hk ho
    obtain rfl : k = 0:=by omega
    rw [Ba,Int.pow_zero,Int.mul_one,Int.emod_eq_of_lt ho.1 ho.2]
  | succ d ih =>
    intro x k o hk ho
    rw [Ba]
    by_cases h : k = 0
    · subst h;rw [if_pos rfl,Int.pow_zero,Int.mul_one,Int.emod_eq_of_lt ho.1 ho.2]
    · rw [if_neg h]
      by_cases g : k % 2 = 1
      · rw [if_pos g,ih _ _ _ (by omega) (lv hp _),Fg,sq_pow,Int.mul_emod,Int.emod_emod,← Int.mul_emod,Int.mul_assoc,Int.mul_comm x,← Int.pow_succ,show (2 * (k / 2)).succ = k from by omega]
      · rw [if_neg g,ih _ _ _ (by omega) ho,Fg,sq_pow,show 2 * (k / 2) = k from by omega]
theorem afD {p : Int} (hp : Pm p) (x : Int) (k : Nat) : OD p x k = x ^ k % p:=by
  have:=hp.two
  rw [OD,abo hp.pos k x k 1 (Nat.le_refl _) (by omega),Int.one_mul]
/- A source of drawn numbers, what is kept beside it: carried over by instances. -/
open Go Go.RowKit Go.Proofs.YtnpepkpogohcmaaGreatW.PrintWords Go.Proofs.YtnpepkpogohcmaaGreatW.PrintLast Go.Proofs.YtnpepkpogohcmaaGreatW.PrintMore
class NeB (g k : Nat) : Prop where
  ne : g ≠ k
theorem neI {g k : Nat} (h : aa (g ≠ k)) : NeB g k:=⟨h.out⟩
/-- The block g stays as it is. -/
class UpB (g : Nat) (w0 w : World) : Prop where
  up : ∀ {o : Obj},w0.heap[g]? = some o → w.heap[g]? = some o
instance UpB.refl (g : Nat) (w : World) : UpB g w w:=⟨fun h=>h⟩
instance UpB.alloc (g : Nat) (w0 w : World) (o : Obj) [u : UpB g w0 w] : UpB g w0 (w.alloc o):=⟨fun h=>bM (u.up h) (gG (Below.refl _ _) o)⟩
instance UpB.drew (g : Nat) (w0 w : World) [u : UpB g w0 w] : UpB g w0 w.drew:=⟨fun h=>bM (u.up h) (aW (Below.refl _ _))⟩
instance UpB.drewN (g : Nat) (w0 w : World) (n : Nat) [u : UpB g w0 w] : UpB g w0 (w.drewN n):=⟨fun h=>bM (u.up h) (aZ (Below.refl _ _) n)⟩
instance UpB.setCell (g : Nat) (w0 w : World) (k j : Nat) (v : Value) [u : UpB g w0 w] [q : NeB g k] : UpB g w0 (w.setCell ⟨k,j,none⟩ v):=⟨fun h=>(Below.heap_setCell w ⟨k,j,none⟩ v g q.ne).trans (u.up h)⟩
theorem uI {w0 W w : World} {g : Nat} {f0 : List Int} {f1 f2 : Int} (h : ay w0 W g f0 f1 f2) [u : UpB g W w] : ay w0 w g f0 f1 f2:=by
  obtain ⟨A,c,h1,h2⟩:=h
  exact ⟨A,c,u.up h1,h2⟩
/-- All but g, and but what lies behind the border, stays. -/
class UpK (b g : Nat) (w0 w : World) : Prop where
  up : ∀ {w1 : World},b = w1.heap.size → aI w1 w0 g none → aI w1 w g none
instance UpK.refl (b g : Nat) (w : World) : UpK b g w w:=⟨fun _ h=>h⟩
instance UpK.alloc (b g : Nat) (w0 w : World) (o : Obj) [u : UpK b g w0 w] : UpK b g w0 (w.alloc o):=⟨fun e h=>Ao (u.up e h) o⟩
instance UpK.drew (b g : Nat) (w0 w : World) [u : UpK b g w0 w] : UpK b g w0 w.drew:=⟨fun e h=>CY (u.up e h)⟩
instance UpK.drewN (b g : Nat) (w0 w : World) (n : Nat) [u : UpK b g w0 w] : UpK b g w0 (w.drewN n):=⟨fun e h=>Am (u.up e h) n⟩
instance UpK.far (b g : Nat) (w0 w : World) (k j : Nat) (v : Value) [u : UpK b g w0 w] [q : Geq b k] : UpK b g w0 (w.setCell ⟨k,j,none⟩ v):=⟨by rintro w1 rfl h;exact aap (u.up rfl h) q.geq v⟩
instance UpK.own (b g : Nat) (w0 w : World) (j : Nat) (v : Value) [u : UpK b g w0 w] : UpK b g w0 (w.setCell ⟨g,j,none⟩ v):=⟨fun e h=>aI.aai (u.up e h) j v⟩
theorem uK {w W w' : World} {g : Nat} (h : aI w W g none) [u : UpK w.heap.size g W w'] : aI w w' g none:=u.up rfl h
end Go.Proofs.YtnpepkpogohcmaaGreat.Pr
