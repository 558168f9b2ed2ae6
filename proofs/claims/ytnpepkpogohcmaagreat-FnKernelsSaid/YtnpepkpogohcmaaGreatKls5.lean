/- Texts of this session in one: what functions of the program compute, and plain facts of it, under the conditions that each theorem names. -/
import Derived.Test.YtnpepkpogohcmaaGreatKls1
import Derived.Test.YtnpepkpogohcmaaGreatKls2
import Derived.Test.YtnpepkpogohcmaaGreatKls3
import Derived.Test.YtnpepkpogohcmaaGreatKls4
namespace Go.Proofs.YtnpepkpogohcmaaGreat.Pr
open Go.RowKit Go.Proofs.YtnpepkpogohcmaaGreatW.PrintWords Go.Proofs.YtnpepkpogohcmaaGreatW.PrintLast Go.Proofs.YtnpepkpogohcmaaGreatW.PrintMore
attribute [local go_sem] pE pF q8 rf nP nQ pG pI   -- for this text's walks alone
set_option linter.unusedVariables false
set_option maxHeartbeats 8000000
set_option maxRecDepth 100000
set_option linter.unusedSimpArgs false
/-! ### eB: function 55 -/
def eB.l0 : Nat → Int → List (List Int) → Int → Int → Int → Int → List Int → Option ((List (List Int)))
 | 0,_,_,_,_,_,_,_=>none
 | k + 1,x1,x5,x6,x7,x8,Hm,Ho=>if x8 < x1 then (if 0 ≤ x8 then (if x8 < (x5.length : Int) then ((gM.f k Hm Ho (dQ x5 x8) 0).bind fun Dx=>((gy.f k x6 Dx).bind fun Pe=>((gM.f k Hm Ho (dQ x5 x8) 1).bind fun Pf=>(if x6 = 0 then (none) else ((jB.f x6 (wrap64 (-(Int.tmod (wrap64 (Pf * Pe)) x6)))).bind fun FL=>((fV.f k (([FL,1] : List Int))).bind fun zJ=>((bB.f k x6 (dQ x5 x8) zJ).bind fun Bo=>(if x8 > 0 then (if 0 ≤ (wrap64 (x8 - 1)) then (if (wrap64 (x8 - 1)) < (x5.length : Int) then ((gy.f k x6 x7).bind fun Yl=>((jB.f x6 (wrap64 ((wrap64 (-Dx)) * Yl))).bind fun Ym=>((dG.f k x6 Bo (dQ x5 (wrap64 (x8 - 1))) Ym).bind fun Pg=>(if x5.length < 5864062014805 then (eB.l0 k x1 (x5 ++ [Pg]) x6 Dx (wrap64 (x8 + 1)) Hm Ho) else (none))))) else (none)) else (none)) else (if x5.length < 5864062014805 then (eB.l0 k x1 (x5 ++ [Bo]) x6 Dx (wrap64 (x8 + 1)) Hm Ho) else (none)))))))))) else (none)) else (none)) else (some x5)
def eB.f (k : Nat) (au : Int) (av : List Int) (a1 : Int) : Option ((List (List Int))):=eB.l0 k a1 (([(([1] : List Int))] : List (List Int))) au 1 0 au av
def eB.T12 : Bool × List (List Nat × List Nat):=(true,[([],[]),([],[]),([],[]),([],[]),([3],[3]),([2,4],[2,4]),([5],[5]),([],[]),([],[]),([8],[8]),([],[]),([],[]),([10,11],[10,11]),([9,12],[9,12]),([7,13,12],[7,13]),([0,1,6,14,14],[0,1,6,14]),([15,15,0,1,2,3,4,5,6,7,8,9,10,11,12,13,14,15],[1,15])])
def eB.B12 : List Nat:=[0,0,0,0,8,28,60,0,0,256,0,0,3072,7936,16256,32767,65535]
theorem eB.Ph : nu .any (opsOf Tryz.f55 12) = eB.T12:=by kernel_rfl
theorem eB.I9 : jO eB.T12.2 eB.B12 = true:=by kernel_rfl
theorem eB.calls (k : Nat) (au : Int) (bE : Option Addr) (bD : Nat) (av : List Int) (a1 : Int) (r : List (List Int)) (w : World) (hr0_1 : Kd.C (Kd.int .i64) w bE av.length av) (gY : av.length ≤ bD) (H : eB.f k au av a1 = some r) :
  Calls Tryz.prog 55 #[.agg #[.int .i64 au,.slice bE av.length bD],.int .i64 a1] w fun e w'=>∃ v0_ : Value,e = .returned (v0_)∧Kd.N (Kd.slice 2 (Kd.int .i64)) 24 w' w.heap.size (fun k_=>(w.heap.size ≤ k_)) v0_ r∧Below w.heap.size w w':=by
 have rF:=Tryz.underlying26;have d9:=zA hr0_1;have eD:=zA gY;clear hr0_1 gY;have HB:=zA (Below.refl w.heap.size w);unfold eB.f at H;obtain ⟨Yn,Yo⟩:=eY ([1] : List Int);(try rw [←Yo.out] at H);obtain ⟨axE,Yp⟩:=eY ([Yn] : List (List Int));(try rw [←Yp.out] at H);have H':=zA H;clear H;go_enter Tryz.func55,Tryz.ntmps55;(try go_wp2_with (first | (refine bX 2 rfl #[.int .i64 au,.slice bE av.length bD] 26 ?_;intro qJ w3 hg il hb;have am2:=gq HB hg;have:=geI am2;replace HB:=xH HB hb;clear hb hg)));replace il:=zA (bI il.out);replace HB:=zA (aW HB.out);refine kE (n:=6) (S:=fun w'=>w'.cell? ⟨qJ,0,none⟩ = some (.int .i64 au)∧w'.cell? ⟨qJ,1,none⟩ = some (.slice bE av.length bD)) (ds:=[]) #[false,false,false,false,false,false] (by kernel_rfl) rfl rfl ⟨bcu il 0,bcu il 1⟩ (fun hHeld=>?_);generalize w3.drew = w4 at il HB hHeld ⊢;refine Aw (i:=2) (N:=some 16) (v:=?_) (a':=?_) (bl 6 4) rfl rfl (by kernel_rfl) (fun _ _ _ h=>h) (Or.inl ⟨by rfl,?_⟩) ?_ ?_;rotate_left
 ·intro w';go_simp;(with_reducible rfl)
 rotate_left
 ·simp only [Act.put,ls,lz,ln,iI,kz];rfl
 refine yY (i:=3) (N:=some 17) (v:=?_) (a':=?_) (bl 6 12) rfl rfl (by kernel_rfl) (fun _ _ _ h=>h) (Or.inl ⟨by rfl,?_⟩) hHeld ?_ ?_;rotate_left
 ·rintro w' ⟨s0,s1⟩;go_simp;(with_reducible rfl)
 rotate_left
 ·simp only [Act.put,ls,lz,ln,iI,kz];rfl
 refine Ky (i:=0) (N:=some 14) (bl 6 13) rfl rfl (by kernel_rfl) (by decide) (fun K hK=>?_);refine Kd.nX (Kd.int .i64) _ 2 ?hg (N:=14) ?hd (xs:=([1] : List Int)) (inner:=[.int .i64 1]) (ok:=fun _=>True) (okp:=fun _=>True) ?hr ?hp (fun _ hk=>hk) trivial (Below.refl _ _) (Nat.le_refl _) (by simp) ?_;(case hd=>rfl);(case hg=>rfl);(case hr=>first | (go_simp;done) | (go_simp;rfl));(case hp=>exact (dh.one (show Kd.M (Kd.int .i64) _ _ _ 1 [.int .i64 1] from rfl) (dh.none _ _)));intro aEq w5 ho6 hb hg_ hnew_;clear hg_ hnew_;(first | rw [← Yo.out] at ho6 | (simp only [Int.reduceToNat] at ho6;rw [← Yo.out] at ho6));have TZ:=zA (Kd.bu (Kd.kL (M:=fun k_=>(w.heap.size ≤ k_)) ho6 (af (uH HB.out)) (fun k_ h_=>h_)) (af (uH HB.out)));replace il:=xB il hb;replace HB:=xH HB hb;clear hb ho6;obtain ⟨Ao7,co7,eo7⟩:=Kd.aV TZ.out;(first | subst eo7 | (injection eo7 with f1_ f2_ f3_;have f4_:=f1_.symm;have f5_:=f3_.symm;clear f1_ f2_ f3_;subst f4_;subst f5_));refine hK.out _ _ ⟨bcu il 0,bcu il 1⟩ (fun hHeld=>?_);clear hK K;refine no_ 14 ?_;refine Ky (i:=1) (N:=some 15) (bl 6 15) rfl rfl (by kernel_rfl) (by decide) (fun K hK=>?_);refine Kd.Ro (Kd.slice 2 (Kd.int .i64)) _ 24 ?hg (N':=15) ?hd (xs:=([Yn] : List (List Int))) (inner:=[.slice Ao7 Yn.length co7]) (ok:=(fun k_=>(w.heap.size ≤ k_)∧k_ ≠ qJ)) (okp:=(fun k_=>(w.heap.size ≤ k_)∧k_ ≠ qJ)) ?hr ?hp (fun _ hk=>hk) ((show ∀ k_,w5.heap.size ≤ k_ → (fun k_=>(w.heap.size ≤ k_)∧k_ ≠ qJ) k_ from fun k_ hk=>⟨(Nat.le_trans (af (uH HB.out)) hk),Kd.lI (g:=qJ) (o:=.cells #[.int .i64 au,.slice bE av.length bD] 26 (0,0)) (uB il.out) k_ hk⟩) _ (Nat.le_refl _)) (Below.refl _ _) (Nat.le_refl _) (by simp) ?_;(case hd=>rfl);(case hg=>rfl);(case hr=>first | (go_simp;done) | (go_simp;rfl));(case hp=>exact (dh.one (show Kd.FK (Kd.slice 2 (Kd.int .i64)) _ _ Yn [.slice Ao7 Yn.length co7] from (Kd.qw (Kd.aC (Kd.ag (ok':=(fun k_=>(w.heap.size ≤ k_)∧k_ ≠ qJ)) (Kd.bF (TZ.out) il.out (by decide)) (fun k_ hk=>⟨hk.1.1,hk.2⟩))).2.1 (Kd.R_F (Kd.ag (ok':=(fun k_=>(w.heap.size ≤ k_)∧k_ ≠ qJ)) (Kd.bF (TZ.out) il.out (by decide)) (fun k_ hk=>⟨hk.1.1,hk.2⟩))))) (dh.none _ _)));intro aEr w8 ho9 hb hg_ hnew_;clear hg_ hnew_;(first | rw [← Yp.out] at ho9 | (simp only [Int.reduceToNat] at ho9;rw [← Yp.out] at ho9));have am3:=zA (Kd.yw ho9 (af (uH HB.out)));replace il:=xB il hb;replace HB:=xH HB hb;clear TZ;clear hb ho9;refine hK.out _ _ ⟨bcu il 0,bcu il 1⟩ (fun hHeld=>?_);clear hK K;refine no_ 15 ?_;refine Aw (i:=4) (N:=some 5) (v:=?_) (a':=?_) (bl 6 31) rfl rfl (by kernel_rfl) (fun _ _ _ h=>h) (Or.inl ⟨by rfl,?_⟩) ?_ ?_;rotate_left
 ·intro w';go_simp;(with_reducible rfl)
 rotate_left
 ·simp only [Act.put,ls,lz,ln,iI,kz];rfl
 refine Aw (i:=5) (N:=some 6) (v:=?_) (a':=?_) (bl 6 63) rfl rfl (by kernel_rfl) (fun _ _ _ h=>h) (Or.inl ⟨by rfl,?_⟩) ?_ ?_;rotate_left
 ·intro w';go_simp;(with_reducible rfl)
 rotate_left
 ·simp only [Act.put,ls,lz,ln,iI,kz];rfl
 refine done_ (by kernel_rfl) ?_;(try go_wp2);go_loopg [5,7,8] k (fun kq v5 v7 v8 w'=>∃ (gu : List (List Int)) (lF : Int) (dE : Int),v7 = .int .i64 lF∧v8 = .int .i64 dE∧aa (eB.l0 kq a1 gu au lF dE au av = some r)∧aa (kq ≤ k)∧aa (Kd.N (Kd.slice 2 (Kd.int .i64)) 24 w' w.heap.size (fun k_=>(w.heap.size ≤ k_)∧k_ ≠ qJ) v5 gu)∧aa (w'.heap[qJ]? = some (.cells #[.int .i64 au,(.slice bE av.length bD)] 26 (0,0)))∧aa (Below w.heap.size w w'));(case atStart=>exact ⟨(axE),(1),(0),eS,eS,H',⟨Nat.le_refl _⟩,⟨uN am3.out⟩,⟨uB il.out⟩,⟨uH HB.out⟩⟩)
 case round =>
  clear H';(try clear p2);(try clear c5);obtain ⟨gu,lF,dE,rfl,rfl,HA,HK1,jJ,il,HB⟩:=hrel
  cases gk with
  | zero=>exact absurd HA.out (by simp [eB.l0])
  | succ k1 =>
   have H:=HA.out;clear HA;simp only [eB.l0] at H;replace H:=gF H;obtain ⟨tZ,H⟩|⟨tZ,H⟩:=H
   ·obtain rfl:=Option.some.inj H;go_wp2;go_ret;exact ⟨_,eX,by (with_reducible repeat (first | apply Kd.pu | apply Kd.pz | apply Kd.nW));exact Kd.mU jJ.out (fun _ hk=>hk.1),uH HB.out⟩
   replace H:=gD H;obtain ⟨Ay,H⟩:=H;replace H:=gD H;obtain ⟨Ja,H⟩:=H;replace H:=bO H;obtain ⟨Dx,A13,H⟩:=H;replace H:=bO H;obtain ⟨Pe,A14,H⟩:=H;replace H:=bO H;obtain ⟨Pf,A15,H⟩:=H;replace H:=gI H;obtain ⟨c16,H⟩|⟨c16,H⟩:=H
   ·have Ee : (au == 0) = false:=beq_eq_false_iff_ne.mpr c16;have aCv : (au != 0) = true:=bne_iff_ne.mpr c16;replace H:=bO H;obtain ⟨FL,A17,H⟩:=H;obtain ⟨Dy,Pi⟩:=eY ([FL,1] : List Int);(try rw [←Pi.out] at H);replace H:=bO H;obtain ⟨zJ,A18,H⟩:=H;replace H:=bO H;obtain ⟨Bo,A19,H⟩:=H;replace H:=gI H;obtain ⟨c20,H⟩|⟨c20,H⟩:=H
    ·have Az : decide (0 < dE) = false:=decide_eq_false c20;clear c20;replace H:=gZ H;obtain ⟨am4,H⟩:=H;obtain ⟨axF,agi⟩:=eY (gu ++ [Bo] : List (List Int));(try rw [←agi.out] at H);have H':=zA H;clear H;obtain ⟨aEs,acY,rfl⟩:=Kd.vQ jJ.out;have Mq : 0 ≤ (dE : Int):=oD;have Mr : dE < (gu.length : Int):=oD;obtain ⟨Bp,Dz,DC,aix,Mt,Ef,Eg⟩:=xL (Kd.jb jJ.out).2.2 dE Mq Mr;cases aix;obtain ⟨am5,Rp,Rq,Jb⟩:=Kd.Dl jJ.out [] dE Mq (by first | exact Mr | exact of_decide_eq_true (by first | (with_reducible assumption) | assumption) | (have e_:=(Kd.jb jJ.out).1;omega));obtain ⟨acZ,ac0,rfl,zK,zL⟩:=Kd.lY Rq;have wV:=Jb 0 _ rfl;rw [Nat.add_zero,show ((Kd.slice 2 (Kd.int .i64))).sz = 1 from rfl,Nat.mul_one] at wV;replace wV:=Option.some.inj (wV.symm.trans Mt);injection wV with hva_ hvn_ hvc_;rw [hva_] at zL;rw [hvc_] at zK;have j6:=zA (show Kd.V (Kd.int .i64) 2 _ w.heap.size _ _ (dQ gu dE) from Kd.FM zK zL);clear hva_ hvn_ hvc_ zL zK;clear Jb Rp;have fZ:=zA Eg;have zM:=zA Ef;clear Eg Ef;replace Mq:=eq_true Mq;replace Mr:=eq_true Mr;have ac1:=bc il 0;have ac2:=bc il 1;have ac3:=bf il 0;have ac4:=bf il 1;go_wp2_with (first | ((with_reducible refine ae (f:=57) rfl ?_);refine gL (some 29) Tryz.func57 #[.agg #[.int .i64 au,.slice bE av.length bD],.slice Dz (dQ gu dE).length DC,.int .i64 0] ?_;(with_reducible refine (gM.calls k1 au _ _ av _ _ (dQ gu dE) 0 Dx _ ?side1 ?side2 ?side3 ?side4 A13.out).mono ?_);(case side1=>exact uC ((Kd.aM d9.out HB.out)));(case side2=>exact eD.out);(case side3=>repeat (first | exact (by repeat (first | (with_reducible exact fZ.out) | (with_reducible refine Kd.bW ?_ _) | (with_reducible refine Kd.bY ?_ _) | (with_reducible refine Kd.dH ?_) | exact fZ.out)) | (with_reducible refine Kd.bW ?_ _) | (with_reducible refine Kd.bY ?_ _) | (with_reducible refine Kd.dH ?_)));(case side4=>exact zM.out);rintro e w47 ⟨rfl,hb⟩;refine ⟨_,rfl,?_⟩;replace jJ:=zA (Kd.kT (uN jJ.out) hb);replace j6:=zA (Kd.jd (uV j6.out) hb);replace il:=xB il hb;replace fZ:=zA (Kd.aM (by repeat (first | (with_reducible exact fZ.out) | (with_reducible refine Kd.bW ?_ _) | (with_reducible refine Kd.bY ?_ _) | (with_reducible refine Kd.dH ?_) | exact fZ.out)) hb);replace HB:=xH HB hb;(try clear hb);(try clear hk)) | ((with_reducible refine ae (f:=56) rfl ?_);refine gL (some 32) Tryz.func56 #[.int .i64 au,.int .i64 Dx] ?_;(with_reducible refine (gy.calls k1 au Dx Pe _ A14.out).mono ?_);rintro e w' ⟨rfl,⟨nd,rfl⟩⟩;refine ⟨_,rfl,?_⟩;have Cj:=bc il 0;have Ck:=bc il 1;have Cm:=bf il 0;have Cn:=bf il 1) | ((with_reducible refine ae (f:=57) rfl ?_);refine gL (some 35) Tryz.func57 #[.agg #[.int .i64 au,.slice bE av.length bD],.slice Dz (dQ gu dE).length DC,.int .i64 1] ?_;(with_reducible refine (gM.calls k1 au _ _ av _ _ (dQ gu dE) 1 Pf _ ?side1 ?side2 ?side3 ?side4 A15.out).mono ?_);(case side1=>repeat (first | exact (Kd.aM d9.out (uH HB.out)) | (with_reducible refine Kd.bW ?_ _) | (with_reducible refine Kd.bY ?_ _) | (with_reducible refine Kd.dH ?_)));(case side2=>exact eD.out);(case side3=>repeat (first | exact (by repeat (first | (with_reducible exact fZ.out) | (with_reducible refine Kd.bW ?_ _) | (with_reducible refine Kd.bY ?_ _) | (with_reducible refine Kd.dH ?_) | exact fZ.out)) | (with_reducible refine Kd.bW ?_ _) | (with_reducible refine Kd.bY ?_ _) | (with_reducible refine Kd.dH ?_)));(case side4=>exact zM.out);rintro e w49 ⟨rfl,hb⟩;refine ⟨_,rfl,?_⟩;replace jJ:=zA (Kd.kT (uN jJ.out) hb);replace j6:=zA (Kd.jd (uV j6.out) hb);replace il:=xB il hb;replace fZ:=zA (Kd.aM (by repeat (first | (with_reducible exact fZ.out) | (with_reducible refine Kd.bW ?_ _) | (with_reducible refine Kd.bY ?_ _) | (with_reducible refine Kd.dH ?_) | exact fZ.out)) hb);replace HB:=xH HB hb;(try clear hb);(try clear hk)) | ((with_reducible refine ae (f:=77) rfl ?_);refine gL (some 45) Tryz.func77 #[.int .i64 au,.int .i64 (wrap64 (-(Int.tmod (wrap64 (Pf * Pe)) au)))] ?_;(with_reducible refine (jB.calls au (wrap64 (-(Int.tmod (wrap64 (Pf * Pe)) au))) FL _ A17.out).mono ?_);rintro e w' ⟨rfl,⟨nd,rfl⟩⟩;refine ⟨_,rfl,?_⟩) | ((with_reducible refine bP (N:=46) rfl ?_);refine Kd.rE (Kd.int .i64) _ 2 ?hg (N:=46) ?hd (xs:=([FL,1] : List Int)) (inner:=[.int .i64 FL,.int .i64 1]) (ok:=fun _=>True) (okp:=fun _=>True) ?hr ?hp (fun _ hk=>hk) trivial (Below.refl _ _) (Nat.le_refl _) (by simp) ?_;(case hd=>rfl);(case hg=>rfl);(case hr=>first | (go_simp;done) | (go_simp;rfl));(case hp=>exact (dh.one (show Kd.M (Kd.int .i64) _ _ _ FL [.int .i64 FL] from rfl) (dh.one (show Kd.M (Kd.int .i64) _ _ _ 1 [.int .i64 1] from rfl) (dh.none _ _))));intro axG w50 Rs hb hg_ hnew_;clear hg_ hnew_;(first | rw [← Pi.out] at Rs | (simp only [Int.reduceToNat] at Rs;rw [← Pi.out] at Rs));replace jJ:=zA (Kd.nZ (uN jJ.out) (Kd.aH Rs) hb);replace j6:=zA (Kd.fG (uV j6.out) (Kd.aH Rs) hb);have oL:=zA (Kd.bu (Kd.kL (M:=fun k_=>(w.heap.size ≤ k_)) Rs (af (uH HB.out)) (fun k_ h_=>h_)) (af (uH HB.out)));replace il:=xB il hb;replace fZ:=zA (Kd.aM (by repeat (first | (with_reducible exact fZ.out) | (with_reducible refine Kd.bW ?_ _) | (with_reducible refine Kd.bY ?_ _) | (with_reducible refine Kd.dH ?_) | exact fZ.out)) hb);replace HB:=xH HB hb;clear hb Rs;obtain ⟨Mv,Mw,axH⟩:=Kd.aV oL.out;subst axH) | ((with_reducible refine ae (f:=59) rfl ?_);refine gL (some 47) Tryz.func59 #[.slice Mv Dy.length Mw] ?_;(with_reducible refine (fV.calls k1 _ _ Dy zJ _ ?side1 ?side2 A18.out).mono ?_);(case side1=>exact uC ((Kd.aC oL.out).2.2));(case side2=>exact (Kd.aC oL.out).2.1);rintro e w53 ⟨axI,rfl,ho0,hb⟩;refine ⟨_,rfl,?_⟩;replace jJ:=zA (Kd.nZ (uN jJ.out) (Kd.aH ho0) hb);replace j6:=zA (Kd.fG (uV j6.out) (Kd.aH ho0) hb);have qK:=zA (Kd.bu (nw (Kd.kL (M:=fun k_=>(w.heap.size ≤ k_)) ho0 (af (uH HB.out)) (fun k_ h_=>h_)) (uR oL.out)) (af (uH HB.out)));replace oL:=zA (Kd.aD (uR oL.out) (Kd.aH ho0) hb);replace il:=xB il hb;replace fZ:=zA (Kd.aM (by repeat (first | (with_reducible exact fZ.out) | (with_reducible refine Kd.bW ?_ _) | (with_reducible refine Kd.bY ?_ _) | (with_reducible refine Kd.dH ?_) | exact fZ.out)) hb);replace HB:=xH HB hb;(try clear hb);(try clear hk);(try clear ho0);obtain ⟨MB,MC,axJ⟩:=Kd.aV qK.out;subst axJ) | ((with_reducible refine ae (f:=39) rfl ?_);refine gL (some 48) Tryz.func39 #[.int .i64 au,.slice Dz (dQ gu dE).length DC,.slice MB zJ.length MC] ?_;(with_reducible refine (bB.calls k1 au _ _ (dQ gu dE) _ _ zJ Bo _ ?side1 ?side2 ?side3 ?side4 A19.out).mono ?_);(case side1=>repeat (first | exact (by repeat (first | (with_reducible exact fZ.out) | (with_reducible refine Kd.bW ?_ _) | (with_reducible refine Kd.bY ?_ _) | (with_reducible refine Kd.dH ?_) | exact fZ.out)) | (with_reducible refine Kd.bW ?_ _) | (with_reducible refine Kd.bY ?_ _) | (with_reducible refine Kd.dH ?_)));(case side2=>exact zM.out);(case side3=>exact uC ((Kd.aC qK.out).2.2));(case side4=>exact (Kd.aC qK.out).2.1);rintro e w55 ⟨axK,rfl,ho0,hb⟩;refine ⟨_,rfl,?_⟩;replace jJ:=zA (Kd.nZ (uN jJ.out) (Kd.aH ho0) hb);replace j6:=zA (Kd.fG (uV j6.out) (Kd.aH ho0) hb);have vV:=zA (Kd.bu (nw (nw (Kd.kL (M:=fun k_=>(w.heap.size ≤ k_)) ho0 (af (uH HB.out)) (fun k_ h_=>h_)) (uR oL.out)) (uR qK.out)) (af (uH HB.out)));replace oL:=zA (Kd.aD (uR oL.out) (Kd.aH ho0) hb);replace qK:=zA (Kd.aD (uR qK.out) (Kd.aH ho0) hb);replace il:=xB il hb;replace fZ:=zA (Kd.aM (by repeat (first | (with_reducible exact fZ.out) | (with_reducible refine Kd.bW ?_ _) | (with_reducible refine Kd.bY ?_ _) | (with_reducible refine Kd.dH ?_) | exact fZ.out)) hb);replace HB:=xH HB hb;(try clear hb);(try clear hk);(try clear ho0);obtain ⟨Yq,Yr,axL⟩:=Kd.aV vV.out;subst axL) | ((with_reducible refine fe (b:=.append) (xs:=#[.tmp 67,.tmp 69]) rfl ?_);at_builtin;refine Kd.Jc (Kd.slice 2 (Kd.int .i64)) (w0:=w) w.heap.size rfl (.tmp 67) (.tmp 69) 64 24 (.slice none 0 0) 24 rfl Tryz.underlying64 Jd rfl (by decide) (by omega) (.slice (some Bp) gu.length acY) gu Bo [.slice Yq Bo.length Yr] (fun k_=>(w.heap.size ≤ k_)∧ax k_ (.slice Mv Dy.length Mw)∧ax k_ (.slice MB zJ.length MC)∧k_ ≠ qJ) (fun k_=>((fun k_=>(w.heap.size ≤ k_)∧ax k_ (.slice Mv Dy.length Mw)∧ax k_ (.slice MB zJ.length MC)∧k_ ≠ qJ)) k_∧ax k_ (.slice (some Bp) gu.length acY)) rfl rfl ?aP (fun _ hk=>hk) ?aF ?aO ?aB ?aS ?aL ?_;(case aP=>exact (Kd.qw (Kd.aC (Kd.ag (ok':=(fun k_=>((fun k_=>(w.heap.size ≤ k_)∧ax k_ (.slice Mv Dy.length Mw)∧ax k_ (.slice MB zJ.length MC)∧k_ ≠ qJ)) k_∧ax k_ (.slice (some Bp) gu.length acY))) (Kd.bF (Kd.xM (vV.out) (Kd.wU jJ.out) (by decide)) il.out (by decide)) (fun k_ ⟨⟨⟨⟨⟨a,_⟩,b⟩,c⟩,f⟩,d⟩=>⟨⟨a,b,c,d⟩,f⟩))).2.1 (Kd.R_F (Kd.ag (ok':=(fun k_=>((fun k_=>(w.heap.size ≤ k_)∧ax k_ (.slice Mv Dy.length Mw)∧ax k_ (.slice MB zJ.length MC)∧k_ ≠ qJ)) k_∧ax k_ (.slice (some Bp) gu.length acY))) (Kd.bF (Kd.xM (vV.out) (Kd.wU jJ.out) (by decide)) il.out (by decide)) (fun k_ ⟨⟨⟨⟨⟨a,_⟩,b⟩,c⟩,f⟩,d⟩=>⟨⟨a,b,c,d⟩,f⟩)))));(case aB=>exact (uH HB.out));(case aF=>exact (fun k_ hk=>⟨(Nat.le_trans (af (uH HB.out)) hk),Kd.fresh' (Kd.jX (uR oL.out)) k_ hk,Kd.fresh' (Kd.jX (uR qK.out)) k_ hk,Kd.lI (g:=qJ) (o:=.cells #[.int .i64 au,.slice bE av.length bD] 26 (0,0)) (uB il.out) k_ hk⟩));(case aO=>exact (by (with_reducible repeat (first | apply Kd.pu | apply Kd.pz | apply Kd.nW));exact Kd.mU jJ.out (fun _ ⟨⟨⟨⟨a,d⟩,b⟩,c⟩,_⟩=>⟨a,b,c,d⟩)));(case aS=>exact (af (uH HB.out)));(case aL=>have:=am4.out;omega);intro aEt w56 ho hb hg hat;rw [← agi.out] at ho;replace il:=zA (xx (g:=qJ) (o:=.cells #[.int .i64 au,.slice bE av.length bD] 26 (0,0)) (uB il.out) hg (Kd.acS jJ.out il.out (by decide)));replace j6:=zA (Kd.mI (ok:=(fun k_=>(w.heap.size ≤ k_)∧ax k_ (.slice Mv Dy.length Mw)∧ax k_ (.slice MB zJ.length MC)∧ax k_ (.slice Yq Bo.length Yr)∧k_ ≠ qJ)) (by (with_reducible repeat (first | apply Kd.jE | apply Kd.jF | apply Kd.jA));exact Kd.iK j6.out (fun _ ⟨⟨⟨⟨⟨a,f⟩,g⟩,b⟩,c⟩,d⟩=>⟨⟨a,b,c,d,f⟩,g⟩)) hg hat);replace oL:=zA (Kd.uD (uR oL.out) (Kd.wU (uN jJ.out)) (by decide) hg);replace qK:=zA (Kd.uD (uR qK.out) (Kd.wU (uN jJ.out)) (by decide) hg);replace HB:=zA (hb);have am6:=zA (ho);clear jJ vV ho hb hg hat));go_roundg k1;(case measure=>have:=HK1.out;omega);(case rel=>exact ⟨(axF),(Dx),(wrap64 (dE + 1)),eS,eS,H',⟨by have:=HK1.out;omega⟩,⟨by (with_reducible repeat (first | apply Kd.pu | apply Kd.pz | apply Kd.nW));exact Kd.mU am6.out (fun _ hk=>⟨hk.1,hk.2.2.2⟩)⟩,⟨uB il.out⟩,⟨uH HB.out⟩⟩)
    have Az : decide (0 < dE) = true:=decide_eq_true c20;clear c20;obtain ⟨KA,Dm⟩ : ∃ j_ : Int,(wrap64 (dE - 1)) = j_:=⟨_,rfl⟩;(first | rw [Dm] at H | simp only [Dm] at H);(try rw [Dm] at A13);(try rw [Dm] at A14);(try rw [Dm] at A15);(try rw [Dm] at A17);(try rw [Dm] at A18);(try rw [Dm] at A19);have axM : (IntKind.i64.wrap (dE - 1)) = KA:=(iI _).trans Dm;replace H:=gD H;obtain ⟨Yt,H⟩:=H;replace H:=gD H;obtain ⟨agj,H⟩:=H;replace H:=bO H;obtain ⟨Yl,A24,H⟩:=H;replace H:=bO H;obtain ⟨Ym,A25,H⟩:=H;replace H:=bO H;obtain ⟨Pg,A26,H⟩:=H;replace H:=gZ H;obtain ⟨am7,H⟩:=H;obtain ⟨axN,agk⟩:=eY (gu ++ [Pg] : List (List Int));(try rw [←agk.out] at H);have H':=zA H;clear H;obtain ⟨ac5,Pj,rfl⟩:=Kd.vQ jJ.out;have Mq : 0 ≤ (dE : Int):=oD;have Mr : dE < (gu.length : Int):=oD;obtain ⟨Bp,Dz,DC,aix,Mt,Ef,Eg⟩:=xL (Kd.jb jJ.out).2.2 dE Mq Mr;cases aix;obtain ⟨am5,Rp,Rq,Jb⟩:=Kd.Dl jJ.out [] dE Mq (by first | exact Mr | exact of_decide_eq_true (by first | (with_reducible assumption) | assumption) | (have e_:=(Kd.jb jJ.out).1;omega));obtain ⟨acZ,ac0,rfl,zK,zL⟩:=Kd.lY Rq;have wV:=Jb 0 _ rfl;rw [Nat.add_zero,show ((Kd.slice 2 (Kd.int .i64))).sz = 1 from rfl,Nat.mul_one] at wV;replace wV:=Option.some.inj (wV.symm.trans Mt);injection wV with hva_ hvn_ hvc_;rw [hva_] at zL;rw [hvc_] at zK;have j6:=zA (show Kd.V (Kd.int .i64) 2 _ w.heap.size _ _ (dQ gu dE) from Kd.FM zK zL);clear hva_ hvn_ hvc_ zL zK;clear Jb Rp;have fZ:=zA Eg;have zM:=zA Ef;clear Eg Ef;replace Mq:=eq_true Mq;replace Mr:=eq_true Mr;have ME:=bc il 0;have MF:=bc il 1;have MG:=bf il 0;have MH:=bf il 1;(try go_wp2_with (first | ((with_reducible refine ae (f:=57) rfl ?_);refine gL (some 29) Tryz.func57 #[.agg #[.int .i64 au,.slice bE av.length bD],.slice Dz (dQ gu dE).length DC,.int .i64 0] ?_;(with_reducible refine (gM.calls k1 au _ _ av _ _ (dQ gu dE) 0 Dx _ ?side1 ?side2 ?side3 ?side4 A13.out).mono ?_);(case side1=>exact uC ((Kd.aM d9.out HB.out)));(case side2=>exact eD.out);(case side3=>repeat (first | exact (by repeat (first | (with_reducible exact fZ.out) | (with_reducible refine Kd.bW ?_ _) | (with_reducible refine Kd.bY ?_ _) | (with_reducible refine Kd.dH ?_) | exact fZ.out)) | (with_reducible refine Kd.bW ?_ _) | (with_reducible refine Kd.bY ?_ _) | (with_reducible refine Kd.dH ?_)));(case side4=>exact zM.out);rintro e w30 ⟨rfl,hb⟩;refine ⟨_,rfl,?_⟩;replace jJ:=zA (Kd.kT (uN jJ.out) hb);replace j6:=zA (Kd.jd (uV j6.out) hb);replace il:=xB il hb;replace fZ:=zA (Kd.aM (by repeat (first | (with_reducible exact fZ.out) | (with_reducible refine Kd.bW ?_ _) | (with_reducible refine Kd.bY ?_ _) | (with_reducible refine Kd.dH ?_) | exact fZ.out)) hb);replace HB:=xH HB hb;(try clear hb);(try clear hk)) | ((with_reducible refine ae (f:=56) rfl ?_);refine gL (some 32) Tryz.func56 #[.int .i64 au,.int .i64 Dx] ?_;(with_reducible refine (gy.calls k1 au Dx Pe _ A14.out).mono ?_);rintro e w' ⟨rfl,⟨nd,rfl⟩⟩;refine ⟨_,rfl,?_⟩;have Ua:=bc il 0;have Ub:=bc il 1;have Uc:=bf il 0;have Ud:=bf il 1) | ((with_reducible refine ae (f:=57) rfl ?_);refine gL (some 35) Tryz.func57 #[.agg #[.int .i64 au,.slice bE av.length bD],.slice Dz (dQ gu dE).length DC,.int .i64 1] ?_;(with_reducible refine (gM.calls k1 au _ _ av _ _ (dQ gu dE) 1 Pf _ ?side1 ?side2 ?side3 ?side4 A15.out).mono ?_);(case side1=>repeat (first | exact (Kd.aM d9.out (uH HB.out)) | (with_reducible refine Kd.bW ?_ _) | (with_reducible refine Kd.bY ?_ _) | (with_reducible refine Kd.dH ?_)));(case side2=>exact eD.out);(case side3=>repeat (first | exact (by repeat (first | (with_reducible exact fZ.out) | (with_reducible refine Kd.bW ?_ _) | (with_reducible refine Kd.bY ?_ _) | (with_reducible refine Kd.dH ?_) | exact fZ.out)) | (with_reducible refine Kd.bW ?_ _) | (with_reducible refine Kd.bY ?_ _) | (with_reducible refine Kd.dH ?_)));(case side4=>exact zM.out);rintro e w32 ⟨rfl,hb⟩;refine ⟨_,rfl,?_⟩;replace jJ:=zA (Kd.kT (uN jJ.out) hb);replace j6:=zA (Kd.jd (uV j6.out) hb);replace il:=xB il hb;replace fZ:=zA (Kd.aM (by repeat (first | (with_reducible exact fZ.out) | (with_reducible refine Kd.bW ?_ _) | (with_reducible refine Kd.bY ?_ _) | (with_reducible refine Kd.dH ?_) | exact fZ.out)) hb);replace HB:=xH HB hb;(try clear hb);(try clear hk)) | ((with_reducible refine ae (f:=77) rfl ?_);refine gL (some 45) Tryz.func77 #[.int .i64 au,.int .i64 (wrap64 (-(Int.tmod (wrap64 (Pf * Pe)) au)))] ?_;(with_reducible refine (jB.calls au (wrap64 (-(Int.tmod (wrap64 (Pf * Pe)) au))) FL _ A17.out).mono ?_);rintro e w' ⟨rfl,⟨nd,rfl⟩⟩;refine ⟨_,rfl,?_⟩) | ((with_reducible refine bP (N:=46) rfl ?_);refine Kd.rE (Kd.int .i64) _ 2 ?hg (N:=46) ?hd (xs:=([FL,1] : List Int)) (inner:=[.int .i64 FL,.int .i64 1]) (ok:=fun _=>True) (okp:=fun _=>True) ?hr ?hp (fun _ hk=>hk) trivial (Below.refl _ _) (Nat.le_refl _) (by simp) ?_;(case hd=>rfl);(case hg=>rfl);(case hr=>first | (go_simp;done) | (go_simp;rfl));(case hp=>exact (dh.one (show Kd.M (Kd.int .i64) _ _ _ FL [.int .i64 FL] from rfl) (dh.one (show Kd.M (Kd.int .i64) _ _ _ 1 [.int .i64 1] from rfl) (dh.none _ _))));intro axG w33 Rt hb hg_ hnew_;clear hg_ hnew_;(first | rw [← Pi.out] at Rt | (simp only [Int.reduceToNat] at Rt;rw [← Pi.out] at Rt));replace jJ:=zA (Kd.nZ (uN jJ.out) (Kd.aH Rt) hb);replace j6:=zA (Kd.fG (uV j6.out) (Kd.aH Rt) hb);have oL:=zA (Kd.bu (Kd.kL (M:=fun k_=>(w.heap.size ≤ k_)) Rt (af (uH HB.out)) (fun k_ h_=>h_)) (af (uH HB.out)));replace il:=xB il hb;replace fZ:=zA (Kd.aM (by repeat (first | (with_reducible exact fZ.out) | (with_reducible refine Kd.bW ?_ _) | (with_reducible refine Kd.bY ?_ _) | (with_reducible refine Kd.dH ?_) | exact fZ.out)) hb);replace HB:=xH HB hb;clear hb Rt;obtain ⟨Ru,Rv,axO⟩:=Kd.aV oL.out;subst axO) | ((with_reducible refine ae (f:=59) rfl ?_);refine gL (some 47) Tryz.func59 #[.slice Ru Dy.length Rv] ?_;(with_reducible refine (fV.calls k1 _ _ Dy zJ _ ?side1 ?side2 A18.out).mono ?_);(case side1=>exact uC ((Kd.aC oL.out).2.2));(case side2=>exact (Kd.aC oL.out).2.1);rintro e w36 ⟨axI,rfl,ho0,hb⟩;refine ⟨_,rfl,?_⟩;replace jJ:=zA (Kd.nZ (uN jJ.out) (Kd.aH ho0) hb);replace j6:=zA (Kd.fG (uV j6.out) (Kd.aH ho0) hb);have qK:=zA (Kd.bu (nw (Kd.kL (M:=fun k_=>(w.heap.size ≤ k_)) ho0 (af (uH HB.out)) (fun k_ h_=>h_)) (uR oL.out)) (af (uH HB.out)));replace oL:=zA (Kd.aD (uR oL.out) (Kd.aH ho0) hb);replace il:=xB il hb;replace fZ:=zA (Kd.aM (by repeat (first | (with_reducible exact fZ.out) | (with_reducible refine Kd.bW ?_ _) | (with_reducible refine Kd.bY ?_ _) | (with_reducible refine Kd.dH ?_) | exact fZ.out)) hb);replace HB:=xH HB hb;(try clear hb);(try clear hk);(try clear ho0);obtain ⟨Rw,Rx,axP⟩:=Kd.aV qK.out;subst axP) | ((with_reducible refine ae (f:=39) rfl ?_);refine gL (some 48) Tryz.func39 #[.int .i64 au,.slice Dz (dQ gu dE).length DC,.slice Rw zJ.length Rx] ?_;(with_reducible refine (bB.calls k1 au _ _ (dQ gu dE) _ _ zJ Bo _ ?side1 ?side2 ?side3 ?side4 A19.out).mono ?_);(case side1=>repeat (first | exact (by repeat (first | (with_reducible exact fZ.out) | (with_reducible refine Kd.bW ?_ _) | (with_reducible refine Kd.bY ?_ _) | (with_reducible refine Kd.dH ?_) | exact fZ.out)) | (with_reducible refine Kd.bW ?_ _) | (with_reducible refine Kd.bY ?_ _) | (with_reducible refine Kd.dH ?_)));(case side2=>exact zM.out);(case side3=>exact uC ((Kd.aC qK.out).2.2));(case side4=>exact (Kd.aC qK.out).2.1);rintro e w38 ⟨axK,rfl,ho0,hb⟩;refine ⟨_,rfl,?_⟩;replace jJ:=zA (Kd.nZ (uN jJ.out) (Kd.aH ho0) hb);replace j6:=zA (Kd.fG (uV j6.out) (Kd.aH ho0) hb);have vV:=zA (Kd.bu (nw (nw (Kd.kL (M:=fun k_=>(w.heap.size ≤ k_)) ho0 (af (uH HB.out)) (fun k_ h_=>h_)) (uR oL.out)) (uR qK.out)) (af (uH HB.out)));replace oL:=zA (Kd.aD (uR oL.out) (Kd.aH ho0) hb);replace qK:=zA (Kd.aD (uR qK.out) (Kd.aH ho0) hb);replace il:=xB il hb;replace fZ:=zA (Kd.aM (by repeat (first | (with_reducible exact fZ.out) | (with_reducible refine Kd.bW ?_ _) | (with_reducible refine Kd.bY ?_ _) | (with_reducible refine Kd.dH ?_) | exact fZ.out)) hb);replace HB:=xH HB hb;(try clear hb);(try clear hk);(try clear ho0))));replace jJ:=zA (Kd.nW jJ.out);replace j6:=zA (Kd.jA j6.out);replace oL:=zA (Kd.gz oL.out);replace qK:=zA (Kd.gz qK.out);replace vV:=zA (Kd.gz vV.out);replace il:=zA (bI il.out);replace fZ:=zA (Kd.dH fZ.out);replace HB:=zA (aW HB.out);have ac6 : 0 ≤ ((KA) : Int):=oD;have ac7 : (KA) < (gu.length : Int):=oD;obtain ⟨am8,Yu,Yv,axQ,MI,Ue,Uf⟩:=xL (Kd.jb jJ.out).2.2 (KA) ac6 ac7;obtain rfl : Bp = am8:=(by injection axQ);obtain ⟨aCw,aiy,aiz,Yw⟩:=Kd.Dl jJ.out [] (KA) ac6 (by first | exact ac7 | exact of_decide_eq_true (by first | (with_reducible assumption) | assumption) | (have e_:=(Kd.jb jJ.out).1;omega));obtain ⟨au5,au6,rfl,MJ,MK⟩:=Kd.lY aiz;have Hq:=Yw 0 _ rfl;rw [Nat.add_zero,show ((Kd.slice 2 (Kd.int .i64))).sz = 1 from rfl,Nat.mul_one] at Hq;replace Hq:=Option.some.inj (Hq.symm.trans MI);injection Hq with hva_ hvn_ hvc_;rw [hva_] at MK;rw [hvc_] at MJ;have Eh:=zA (show Kd.V (Kd.int .i64) 2 _ w.heap.size _ _ (dQ gu (KA)) from Kd.FM MJ MK);clear hva_ hvn_ hvc_ MK MJ;clear Yw aiy;have Co:=zA Uf;have ac8:=zA Ue;clear Uf Ue;replace ac6:=eq_true ac6;replace ac7:=eq_true ac7;refine kE (n:=17) (S:=fun w'=>w'.cell? (Bp.add ((KA)).toNat) = some (.slice Yu (dQ gu (KA)).length Yv)) (ds:=[]) #[false,false,false,false,false,false,false,false,false,false,false,false,false,false,false,false,false] (by kernel_rfl) rfl rfl (MI) (fun hHeld=>?_);refine gX eB.Ph eB.I9 (fun HT_ HW_=>?_);generalize w38.drew = w39 at jJ j6 oL qK vV il fZ HB Eh Co MI hHeld ⊢;refine pu_ 0 51 (bl 17 1) HT_ ?_;refine pu_ 1 52 (bl 17 3) HT_ ?_;refine pu_ 2 53 (bl 17 7) HT_ ?_;refine pu_ 3 54 (bl 17 15) HT_ ?_;refine pu_ 4 55 (bl 17 31) HT_ ?_;refine pu_ 5 56 (bl 17 63) HT_ ?_;refine pu_ 7 58 (bl 17 191) HT_ ?_;refine pu_ 8 59 (bl 17 447) HT_ ?_;refine pu_ 9 60 (bl 17 959) HT_ ?_;refine pu_ 10 61 (bl 17 1983) HT_ ?_;refine pu_ 11 62 (bl 17 4031) HT_ ?_;refine yY (i:=6) (N:=some 57) (v:=?_) (a':=?_) (bl 17 4095) rfl rfl (I1 HT_.out HW_.out (by kernel_rfl)) (fun _ _ _ h=>h) (Or.inl ⟨by rfl,?_⟩) hHeld ?_ ?_;rotate_left
    ·intro w' s0;go_simp;(with_reducible rfl)
    rotate_left
    ·simp only [Act.put,ls,lz,ln,iI,kz];rfl
    refine on_ 12 (some 63) (bl 17 8191) HT_ (fun K hK=>?_);refine gS Tryz.func56 #[.int .i64 au,.int .i64 lF] ?_;(with_reducible refine (gy.calls k1 au lF Yl _ A24.out).mono ?_);rintro e w' ⟨rfl,⟨nd,rfl⟩⟩;refine ⟨_,rfl,?_⟩;refine hK.out _ _ (hHeld) (fun hHeld=>?_);clear hK K;refine no_ 63 ?_;refine pu_ 13 64 (bl 17 16383) HT_ ?_;refine on_ 14 (some 65) (bl 17 32767) HT_ (fun K hK=>?_);refine gS Tryz.func77 #[.int .i64 au,.int .i64 (wrap64 ((wrap64 (-Dx)) * Yl))] ?_;(with_reducible refine (jB.calls au (wrap64 ((wrap64 (-Dx)) * Yl)) Ym _ A25.out).mono ?_);rintro e w' ⟨rfl,⟨nd,rfl⟩⟩;refine ⟨_,rfl,?_⟩;obtain ⟨Ry,Rz,am9⟩:=Kd.aV vV.out;(first | subst am9 | (injection am9 with f1_ f2_ f3_;have f4_:=f1_.symm;have f5_:=f3_.symm;clear f1_ f2_ f3_;subst f4_;subst f5_));refine hK.out _ _ (hHeld) (fun hHeld=>?_);clear hK K;refine no_ 65 ?_;refine on_ 15 (some 66) (bl 17 65535) HT_ (fun K hK=>?_);refine O9 Tryz.func58 (by kernel_rfl) rfl #[.int .i64 au,.slice Ry Bo.length Rz,.slice Yu (dQ gu (KA)).length Yv,.int .i64 Ym] (by rfl) rfl rfl (by (try simp only [la,lb,lc]);first | done | (simp only [Dm];rfl) | rfl | (simp only [ld,le];rfl)) ?_;(with_reducible refine (dG.calls k1 au _ _ Bo _ _ (dQ gu (KA)) Ym Pg _ ?side1 ?side2 ?side3 ?side4 A26.out).mono ?_);(case side1=>exact uC ((Kd.aC vV.out).2.2));(case side2=>exact (Kd.aC vV.out).2.1);(case side3=>repeat (first | exact (by repeat (first | (with_reducible exact Co.out) | (with_reducible refine Kd.bW ?_ _) | (with_reducible refine Kd.bY ?_ _) | (with_reducible refine Kd.dH ?_) | exact Co.out)) | (with_reducible refine Kd.bW ?_ _) | (with_reducible refine Kd.bY ?_ _) | (with_reducible refine Kd.dH ?_)));(case side4=>exact ac8.out);rintro e w41 ⟨aEu,rfl,ho0,hb⟩;have axR:=(hb.cell (World.block_lt_of_cell? _ _ (hHeld))).trans (hHeld);refine ⟨_,rfl,?_⟩;replace jJ:=zA (Kd.nZ (uN jJ.out) (Kd.aH ho0) hb);replace j6:=zA (Kd.fG (uV j6.out) (Kd.aH ho0) hb);replace Eh:=zA (Kd.fG (uV Eh.out) (Kd.aH ho0) hb);have Ug:=zA (Kd.bu (nw (nw (nw (Kd.kL (M:=fun k_=>(w.heap.size ≤ k_)) ho0 (af (uH HB.out)) (fun k_ h_=>h_)) (uR oL.out)) (uR qK.out)) (uR vV.out)) (af (uH HB.out)));replace oL:=zA (Kd.aD (uR oL.out) (Kd.aH ho0) hb);replace qK:=zA (Kd.aD (uR qK.out) (Kd.aH ho0) hb);replace vV:=zA (Kd.aD (uR vV.out) (Kd.aH ho0) hb);replace il:=xB il hb;replace fZ:=zA (Kd.aM (by repeat (first | (with_reducible exact fZ.out) | (with_reducible refine Kd.bW ?_ _) | (with_reducible refine Kd.bY ?_ _) | (with_reducible refine Kd.dH ?_) | exact fZ.out)) hb);replace Co:=zA (Kd.aM (by repeat (first | (with_reducible exact Co.out) | (with_reducible refine Kd.bW ?_ _) | (with_reducible refine Kd.bY ?_ _) | (with_reducible refine Kd.dH ?_) | exact Co.out)) hb);replace HB:=xH HB hb;(try clear hb);(try clear ho0);refine hK.out _ _ (axR) (fun hHeld=>?_);clear hK K;refine no_ 66 ?_;refine pu_ 16 13 (bl 17 131071) HT_ ?_;refine done_ (done_of HT_.out (by kernel_rfl)) ?_;obtain ⟨qL,qM,rfl⟩:=Kd.aV Ug.out;(try go_wp2_with (first | ((with_reducible refine fe (b:=.append) (xs:=#[.tmp 67,.tmp 69]) rfl ?_);at_builtin;refine Kd.Jc (Kd.slice 2 (Kd.int .i64)) (w0:=w) w.heap.size rfl (.tmp 67) (.tmp 69) 64 24 (.slice none 0 0) 24 rfl Tryz.underlying64 Jd rfl (by decide) (by omega) (.slice (some Bp) gu.length Pj) gu Pg [.slice qL Pg.length qM] (fun k_=>(w.heap.size ≤ k_)∧ax k_ (.slice Ru Dy.length Rv)∧ax k_ (.slice Rw zJ.length Rx)∧ax k_ (.slice Ry Bo.length Rz)∧k_ ≠ qJ) (fun k_=>((fun k_=>(w.heap.size ≤ k_)∧ax k_ (.slice Ru Dy.length Rv)∧ax k_ (.slice Rw zJ.length Rx)∧ax k_ (.slice Ry Bo.length Rz)∧k_ ≠ qJ)) k_∧ax k_ (.slice (some Bp) gu.length Pj)) rfl rfl ?aP (fun _ hk=>hk) ?aF ?aO ?aB ?aS ?aL ?_;(case aP=>exact (Kd.qw (Kd.aC (Kd.ag (ok':=(fun k_=>((fun k_=>(w.heap.size ≤ k_)∧ax k_ (.slice Ru Dy.length Rv)∧ax k_ (.slice Rw zJ.length Rx)∧ax k_ (.slice Ry Bo.length Rz)∧k_ ≠ qJ)) k_∧ax k_ (.slice (some Bp) gu.length Pj))) (Kd.bF (Kd.xM (Ug.out) (Kd.wU jJ.out) (by decide)) il.out (by decide)) (fun k_ ⟨⟨⟨⟨⟨⟨a,_⟩,b⟩,c⟩,d⟩,g⟩,f⟩=>⟨⟨a,b,c,d,f⟩,g⟩))).2.1 (Kd.R_F (Kd.ag (ok':=(fun k_=>((fun k_=>(w.heap.size ≤ k_)∧ax k_ (.slice Ru Dy.length Rv)∧ax k_ (.slice Rw zJ.length Rx)∧ax k_ (.slice Ry Bo.length Rz)∧k_ ≠ qJ)) k_∧ax k_ (.slice (some Bp) gu.length Pj))) (Kd.bF (Kd.xM (Ug.out) (Kd.wU jJ.out) (by decide)) il.out (by decide)) (fun k_ ⟨⟨⟨⟨⟨⟨a,_⟩,b⟩,c⟩,d⟩,g⟩,f⟩=>⟨⟨a,b,c,d,f⟩,g⟩)))));(case aB=>exact (uH HB.out));(case aF=>exact (fun k_ hk=>⟨(Nat.le_trans (af (uH HB.out)) hk),Kd.fresh' (Kd.jX (uR oL.out)) k_ hk,Kd.fresh' (Kd.jX (uR qK.out)) k_ hk,Kd.fresh' (Kd.jX (uR vV.out)) k_ hk,Kd.lI (g:=qJ) (o:=.cells #[.int .i64 au,.slice bE av.length bD] 26 (0,0)) (uB il.out) k_ hk⟩));(case aO=>exact (by (with_reducible repeat (first | apply Kd.pu | apply Kd.pz | apply Kd.nW));exact Kd.mU jJ.out (fun _ ⟨⟨⟨⟨⟨a,f⟩,b⟩,c⟩,d⟩,_⟩=>⟨a,b,c,d,f⟩)));(case aS=>exact (af (uH HB.out)));(case aL=>have:=am7.out;omega);intro aEv w42 ho hb hg hat;rw [← agk.out] at ho;replace il:=zA (xx (g:=qJ) (o:=.cells #[.int .i64 au,.slice bE av.length bD] 26 (0,0)) (uB il.out) hg (Kd.acS jJ.out il.out (by decide)));replace j6:=zA (Kd.mI (ok:=(fun k_=>(w.heap.size ≤ k_)∧ax k_ (.slice Ru Dy.length Rv)∧ax k_ (.slice Rw zJ.length Rx)∧ax k_ (.slice Ry Bo.length Rz)∧ax k_ (.slice qL Pg.length qM)∧k_ ≠ qJ)) (by (with_reducible repeat (first | apply Kd.jE | apply Kd.jF | apply Kd.jA));exact Kd.iK j6.out (fun _ ⟨⟨⟨⟨⟨⟨a,g⟩,h⟩,b⟩,c⟩,d⟩,f⟩=>⟨⟨a,b,c,d,f,g⟩,h⟩)) hg hat);replace oL:=zA (Kd.uD (uR oL.out) (Kd.wU (uN jJ.out)) (by decide) hg);replace qK:=zA (Kd.uD (uR qK.out) (Kd.wU (uN jJ.out)) (by decide) hg);replace vV:=zA (Kd.uD (uR vV.out) (Kd.wU (uN jJ.out)) (by decide) hg);replace Eh:=zA (Kd.mI (ok:=(fun k_=>(w.heap.size ≤ k_)∧ax k_ (.slice Ru Dy.length Rv)∧ax k_ (.slice Rw zJ.length Rx)∧ax k_ (.slice Ry Bo.length Rz)∧ax k_ (.slice qL Pg.length qM)∧k_ ≠ qJ)) (by (with_reducible repeat (first | apply Kd.jE | apply Kd.jF | apply Kd.jA));exact Kd.iK Eh.out (fun _ ⟨⟨⟨⟨⟨⟨a,g⟩,b⟩,c⟩,d⟩,h⟩,f⟩=>⟨⟨a,b,c,d,f,g⟩,h⟩)) hg hat);replace HB:=zA (hb);have ana:=zA (ho);clear jJ Ug ho hb hg hat)));go_roundg k1;(case measure=>have:=HK1.out;omega);(case rel=>exact ⟨(axN),(Dx),(wrap64 (dE + 1)),eS,eS,H',⟨by have:=HK1.out;omega⟩,⟨by (with_reducible repeat (first | apply Kd.pu | apply Kd.pz | apply Kd.nW));exact Kd.mU ana.out (fun _ hk=>⟨hk.1,hk.2.2.2.2⟩)⟩,⟨uB il.out⟩,⟨uH HB.out⟩⟩)
   exact absurd H (by simp)
/- Lists all of whose elements answer yes: the plain function that areAll computes, and its printed loop. -/
/-- Do all elements answer yes? (Asked from the first one on, up to the first no.) -/
def Ei {α : Type} (p : α → Option Bool) : List α → Option Bool
  | []=>some true
  | x :: l=>(p x).bind fun b=>if b = true then Ei p l else some false

def iW.f (l : List Int) (p : Int → Option Bool) : Option Bool:=if l.length < 4611686018427387904 then Ei p l else none

theorem K5 {i : Int} {n : Nat} (h0 : 0 ≤ i) (h1 : i < (n : Int)) (h2 : n < 4611686018427387904) : wrap64 (i + 1) = i + 1:=by
  unfold wrap64;omega

theorem FN {α : Type} (l : List α) (d : α) (i : Nat) (h : i < l.length) : l.drop i = l.getD i d :: l.drop (i + 1):=by
  rw [List.drop_eq_getElem_cons h];simp [List.getD,h]

theorem Je (p : Int → Option Bool) (l : List Int) (hl : l.length < 4611686018427387904) (d : Nat) : ∀ (k i : Nat) (r : Bool),i + d = l.length → d < k → Ei p (l.drop i) = some r →
    ∃ j,dI.l0 k l (fun z_=>iZ.f z_ p) (l.length : Int) (i : Int) = some j∧decide (j ≥ 0) = !r:=by
  induction d with
  | zero =>
    intro k i r hi hk h
    obtain ⟨k,rfl⟩ : ∃ m,k = m + 1:=⟨k - 1,by omega⟩
    simp only [dI.l0]
    rw [if_neg (by omega)]
    rw [List.drop_eq_nil_of_le (by omega)] at h
    simp only [Ei,Option.some.injEq] at h
    subst h
    exact ⟨-1,rfl,rfl⟩
  | succ d ih =>
    intro k i r hi hk h
    obtain ⟨k,rfl⟩ : ∃ m,k = m + 1:=⟨k - 1,by omega⟩
    simp only [dI.l0]
    rw [if_pos (by omega),if_pos (by omega),if_pos (by omega)]
    rw [FN l 0 i (by omega)] at h
    simp only [Ei] at h
    have e : rd l (i : Int) = l.getD i 0:=by simp [rd]
    rw [e]
    obtain ⟨b,hb,h⟩:=Option.bind_eq_some_iff.mp h
    simp only [iZ.f,hb,Option.bind_some]
    cases b with
    | true =>
      rw [if_pos rfl] at h
      simp only [Bool.not_true,Bool.false_eq_true,if_false]
      rw [K5 (n:=l.length) (by omega) (by omega) hl]
      exact ih k (i + 1) r (by omega) (by omega) h
    | false =>
      simp only [Bool.false_eq_true,if_false,Option.some.injEq] at h
      subst h
      simp only [Bool.not_false,if_true]
      exact ⟨i,rfl,by simp⟩

theorem KC {l : List Int} {p : Int → Option Bool} {r : Bool} (h : iW.f l p = some r) : lJ.f (l.length + 1) l p = some r:=by
  unfold iW.f at h
  split at h
  · rename_i hl
    obtain ⟨j,h1,h2⟩:=Je p l hl l.length (l.length + 1) 0 r (by omega) (by omega) (by simpa using h)
    unfold lJ.f jl.f dI.f
    have h1' : dI.l0 (l.length + 1) l (fun z_=>iZ.f z_ p) (l.length : Int) 0 = some j:=h1
    rw [h1']
    simp only [Option.bind_some,h2,Bool.not_not]
  · cases h
theorem iW.calls (A0 : Option Addr) (c0 : Nat) (l0 : List Int) (F1 : Value) (a1 : (Int → Option Bool)) (r : Bool) (w : World) (hr0 : Kd.C (Kd.int .i64) w A0 l0.length l0) (hc0 : l0.length ≤ c0) (hF1 : FnI Tryz.prog w F1 a1) (h : iW.f l0 a1 = some r) :
    Calls Tryz.prog 82 #[.slice A0 l0.length c0,F1] w fun e w'=>e = .returned (.bool r)∧Below w.heap.size w w' :=
  lJ.calls _ A0 c0 l0 F1 a1 r w hr0 hc0 hF1 (KC h)
/-! ### eu: function 68 -/
def eu.f (k : Nat) (au : Int) (av : List Int) : Option (Bool):=(gP.f k au).bind fun anb=>(if anb = true then ((fO.f av).bind fun Pk=>((jC.f Pk 1 24).bind fun anc=>(if anc = true then ((bV.f au av).bind fun RA=>((iW.f av (fun z_=>dK.f RA z_)).bind fun aiA=>(some aiA))) else (some false)))) else (some false))
def eu.T1 : Bool × List (List Nat × List Nat):=(true,[([],[]),([0],[0]),([1],[1]),([2,2],[2]),([3],[3]),([4,3],[3,4]),([5,3,3],[3,5]),([6,6,3],[3,6]),([3,7],[3,7]),([8,7],[8]),([9],[9]),([10,9],[9,10]),([9],[9]),([12,9,9],[9,12]),([13,9],[9,13]),([11,14,13,9],[9,11,14]),([9,15],[9,15]),([16,15,0,1,2,3,4,5,6,7,8,9,10,11,12,13,14,15,16],[16])])
def eu.B1 : List Nat:=[0,1,3,7,15,31,63,127,255,511,1023,2047,1023,5119,13311,32767,65535,131071]
theorem eu.ML : nu .any (opsOf Tryz.f68 1) = eu.T1:=by kernel_rfl
theorem eu.Ej : jO eu.T1.2 eu.B1 = true:=by kernel_rfl
theorem eu.calls (k : Nat) (au : Int) (bE : Option Addr) (bD : Nat) (av : List Int) (r : Bool) (w : World) (hr0_1 : Kd.C (Kd.int .i64) w bE av.length av) (gY : av.length ≤ bD) (H : eu.f k au av = some r) :
  Calls Tryz.prog 68 #[.agg #[.int .i64 au,.slice bE av.length bD]] w fun e w'=>e = .returned (.bool r)∧Below w.heap.size w w':=by
 have rF:=Tryz.underlying26;have hmf : ∀ (fn_ : Fn) (first_ cap_ : Array Value) (w_ : World),(Instr.makeFunc fn_ first_ cap_).run Tryz.prog w_ = .ok (.func fn_ first_ cap_) w_:=fun _ _ _ _=>rfl;have d9:=zA hr0_1;have eD:=zA gY;clear hr0_1 gY;have HB:=zA (Below.refl w.heap.size w);unfold eu.f at H;replace H:=bO H;obtain ⟨anb,A2,H⟩:=H;replace H:=gB H;obtain ⟨rfl,H⟩|⟨rfl,H⟩:=H
 ·replace H:=bO H;obtain ⟨Pk,A4,H⟩:=H;replace H:=bO H;obtain ⟨anc,A5,H⟩:=H;replace H:=gB H;obtain ⟨rfl,H⟩|⟨rfl,H⟩:=H
  ·replace H:=bO H;obtain ⟨RA,A7,H⟩:=H;replace H:=bO H;obtain ⟨aiA,A8,H⟩:=H;obtain rfl:=Option.some.inj H;go_enter Tryz.func68,Tryz.ntmps68;(try go_wp2_with (first | (refine bX 1 rfl #[.int .i64 au,.slice bE av.length bD] 26 ?_;intro Gu w9 hg lZ hb;have Pn:=gq HB hg;have:=geI Pn;replace HB:=xH HB hb;clear hb hg)));replace lZ:=zA (bI lZ.out);replace HB:=zA (aW HB.out);refine kE (n:=18) (S:=fun w'=>w'.cell? ⟨Gu,0,none⟩ = some (.int .i64 au)∧w'.cell? ⟨Gu,1,none⟩ = some (.slice bE av.length bD)) (ds:=[]) #[false,false,false,false,false,false,false,false,false,false,false,false,false,false,false,false,false,false] (by kernel_rfl) rfl rfl ⟨bcu lZ 0,bcu lZ 1⟩ (fun hHeld=>?_);refine gX eu.ML eu.Ej (fun HT_ HW_=>?_);generalize w9.drew = w10 at lZ HB hHeld ⊢;refine pu_ 0 3 (bl 18 1) HT_ ?_;refine ta_ 1 4 (bl 18 3) HT_ HW_ hHeld ?_;refine on_ 2 (some 5) (bl 18 7) HT_ (fun K hK=>?_);refine gS Tryz.func67 #[.int .i64 au] ?_;(with_reducible refine (gP.calls k au true _ A2.out).mono ?_);rintro e w' ⟨rfl,⟨nd,rfl⟩⟩;refine ⟨_,rfl,?_⟩;refine hK.out _ _ ⟨bcu lZ 0,bcu lZ 1⟩ (fun hHeld=>?_);clear hK K;refine no_ 5 ?_;refine pu_ 3 6 (bl 18 15) HT_ ?_;refine pu_ 4 7 (bl 18 31) HT_ ?_;refine ta_ 5 8 (bl 18 63) HT_ HW_ hHeld ?_;refine on_ 6 (some 9) (bl 18 127) HT_ (fun K hK=>?_);refine gS Tryz.func47 #[.slice bE av.length bD] ?_;(with_reducible refine (fO.calls _ _ av Pk _ ?side1 ?side2 A4.out).mono ?_);(case side1=>repeat (first | exact (Kd.aM d9.out (uH HB.out)) | (with_reducible refine Kd.bW ?_ _) | (with_reducible refine Kd.bY ?_ _) | (with_reducible refine Kd.dH ?_)));(case side2=>exact eD.out);rintro e w' ⟨rfl,⟨nd,rfl⟩⟩;refine ⟨_,rfl,?_⟩;refine hK.out _ _ ⟨bcu lZ 0,bcu lZ 1⟩ (fun hHeld=>?_);clear hK K;refine no_ 9 ?_;refine on_ 7 (some 10) (bl 18 255) HT_ (fun K hK=>?_);refine gS Tryz.func51 #[.int .i64 Pk,.int .i64 1,.int .i64 24] ?_;(with_reducible refine (jC.calls Pk 1 24 true _ A5.out).mono ?_);rintro e w' ⟨rfl,⟨nd,rfl⟩⟩;refine ⟨_,rfl,?_⟩;refine hK.out _ _ ⟨bcu lZ 0,bcu lZ 1⟩ (fun hHeld=>?_);clear hK K;refine no_ 10 ?_;refine pu_ 8 11 (bl 18 511) HT_ ?_;refine pu_ 9 12 (bl 18 1023) HT_ ?_;refine pu_ 10 13 (bl 18 2047) HT_ ?_;refine ta_ 11 14 (bl 18 4095) HT_ HW_ hHeld ?_;refine ta_ 12 15 (bl 18 8191) HT_ HW_ hHeld ?_;refine on_ 13 (some 16) (bl 18 16383) HT_ (fun K hK=>?_);refine gS Tryz.func21 #[.agg #[.int .i64 au,.slice bE av.length bD]] ?_;(with_reducible refine (bV.calls au _ _ av RA _ ?side1 ?side2 A7.out).mono ?_);(case side1=>repeat (first | exact (Kd.aM d9.out (uH HB.out)) | (with_reducible refine Kd.bW ?_ _) | (with_reducible refine Kd.bY ?_ _) | (with_reducible refine Kd.dH ?_)));(case side2=>exact eD.out);rintro e w11 ⟨rfl,hb⟩;refine ⟨_,rfl,?_⟩;replace lZ:=xB lZ hb;replace HB:=xH HB hb;(try clear hb);refine hK.out _ _ ⟨bcu lZ 0,bcu lZ 1⟩ (fun hHeld=>?_);clear hK K;refine no_ 16 ?_;refine pu_ 14 17 (bl 18 32767) HT_ ?_;refine on_ 15 (some 18) (bl 18 65535) HT_ (fun K hK=>?_);refine gS Tryz.func82 #[.slice bE av.length bD,(.func (.func 22) #[.int .i64 RA] #[])] ?_;(with_reducible refine (iW.calls _ _ av _ (fun z_=>dK.f RA z_) aiA _ ?side1 ?side2 ?side3 A8.out).mono ?_);(case side1=>exact uC ((Kd.aM d9.out HB.out)));(case side2=>exact eD.out);(case side3=>exact FnI.of Tryz.func22 (by kernel_rfl) rfl (fun z_ r_ hr_ W_ hW_=>cz (args':=#[.int .i64 RA,.int .i64 z_]) (by simp) ((dK.calls RA z_ r_ W_  hr_).mono fun e_ W2_ h_=>⟨h_.1,h_.2.below⟩)));rintro e w12 ⟨rfl,hb⟩;refine ⟨_,rfl,?_⟩;replace lZ:=xB lZ hb;replace HB:=xH HB hb;(try clear hb);refine hK.out _ _ ⟨bcu lZ 0,bcu lZ 1⟩ (fun hHeld=>?_);clear hK K;refine no_ 18 ?_;refine pu_ 16 19 (bl 18 131071) HT_ ?_;refine pu_ 17 2 (bl 18 262143) HT_ ?_;refine done_ (done_of HT_.out (by kernel_rfl)) ?_;(try go_wp2);go_ret;exact ⟨eX,uH HB.out⟩
  ·obtain rfl:=Option.some.inj H;go_enter Tryz.func68,Tryz.ntmps68;(try go_wp2_with (first | (refine bX 1 rfl #[.int .i64 au,.slice bE av.length bD] 26 ?_;intro Gu w13 hg lZ hb;have Pn:=gq HB hg;have:=geI Pn;replace HB:=xH HB hb;clear hb hg)));replace lZ:=zA (bI lZ.out);replace HB:=zA (aW HB.out);refine kE (n:=18) (S:=fun w'=>w'.cell? ⟨Gu,0,none⟩ = some (.int .i64 au)∧w'.cell? ⟨Gu,1,none⟩ = some (.slice bE av.length bD)) (ds:=[]) #[false,false,false,false,false,false,false,false,false,false,false,false,false,false,false,false,false,false] (by kernel_rfl) rfl rfl ⟨bcu lZ 0,bcu lZ 1⟩ (fun hHeld=>?_);refine gX eu.ML eu.Ej (fun HT_ HW_=>?_);generalize w13.drew = w14 at lZ HB hHeld ⊢;refine pu_ 0 3 (bl 18 1) HT_ ?_;refine ta_ 1 4 (bl 18 3) HT_ HW_ hHeld ?_;refine on_ 2 (some 5) (bl 18 7) HT_ (fun K hK=>?_);refine gS Tryz.func67 #[.int .i64 au] ?_;(with_reducible refine (gP.calls k au true _ A2.out).mono ?_);rintro e w' ⟨rfl,⟨nd,rfl⟩⟩;refine ⟨_,rfl,?_⟩;refine hK.out _ _ ⟨bcu lZ 0,bcu lZ 1⟩ (fun hHeld=>?_);clear hK K;refine no_ 5 ?_;refine pu_ 3 6 (bl 18 15) HT_ ?_;refine pu_ 4 7 (bl 18 31) HT_ ?_;refine ta_ 5 8 (bl 18 63) HT_ HW_ hHeld ?_;refine on_ 6 (some 9) (bl 18 127) HT_ (fun K hK=>?_);refine gS Tryz.func47 #[.slice bE av.length bD] ?_;(with_reducible refine (fO.calls _ _ av Pk _ ?side1 ?side2 A4.out).mono ?_);(case side1=>repeat (first | exact (Kd.aM d9.out (uH HB.out)) | (with_reducible refine Kd.bW ?_ _) | (with_reducible refine Kd.bY ?_ _) | (with_reducible refine Kd.dH ?_)));(case side2=>exact eD.out);rintro e w' ⟨rfl,⟨nd,rfl⟩⟩;refine ⟨_,rfl,?_⟩;refine hK.out _ _ ⟨bcu lZ 0,bcu lZ 1⟩ (fun hHeld=>?_);clear hK K;refine no_ 9 ?_;refine on_ 7 (some 10) (bl 18 255) HT_ (fun K hK=>?_);refine gS Tryz.func51 #[.int .i64 Pk,.int .i64 1,.int .i64 24] ?_;(with_reducible refine (jC.calls Pk 1 24 false _ A5.out).mono ?_);rintro e w' ⟨rfl,⟨nd,rfl⟩⟩;refine ⟨_,rfl,?_⟩;refine hK.out _ _ ⟨bcu lZ 0,bcu lZ 1⟩ (fun hHeld=>?_);clear hK K;refine no_ 10 ?_;refine pu_ 8 11 (bl 18 511) HT_ ?_;refine pu_ 9 12 (bl 18 1023) HT_ ?_;refine un_ 10 13 (bl 18 2047) HT_ ?_;refine un_ 11 14 (bl 18 4095) HT_ ?_;refine un_ 12 15 (bl 18 8191) HT_ ?_;refine un_ 13 16 (bl 18 16383) HT_ ?_;refine un_ 14 17 (bl 18 32767) HT_ ?_;refine un_ 15 18 (bl 18 65535) HT_ ?_;refine pu_ 16 19 (bl 18 131071) HT_ ?_;refine pu_ 17 2 (bl 18 262143) HT_ ?_;refine done_ (done_of HT_.out (by kernel_rfl)) ?_;(try go_wp2);go_ret;exact ⟨eX,uH HB.out⟩
 ·obtain rfl:=Option.some.inj H;go_enter Tryz.func68,Tryz.ntmps68;(try go_wp2_with (first | (refine bX 1 rfl #[.int .i64 au,.slice bE av.length bD] 26 ?_;intro Gu w15 hg lZ hb;have Pn:=gq HB hg;have:=geI Pn;replace HB:=xH HB hb;clear hb hg)));replace lZ:=zA (bI lZ.out);replace HB:=zA (aW HB.out);refine kE (n:=18) (S:=fun w'=>w'.cell? ⟨Gu,0,none⟩ = some (.int .i64 au)∧w'.cell? ⟨Gu,1,none⟩ = some (.slice bE av.length bD)) (ds:=[]) #[false,false,false,false,false,false,false,false,false,false,false,false,false,false,false,false,false,false] (by kernel_rfl) rfl rfl ⟨bcu lZ 0,bcu lZ 1⟩ (fun hHeld=>?_);refine gX eu.ML eu.Ej (fun HT_ HW_=>?_);generalize w15.drew = w16 at lZ HB hHeld ⊢;refine pu_ 0 3 (bl 18 1) HT_ ?_;refine ta_ 1 4 (bl 18 3) HT_ HW_ hHeld ?_;refine on_ 2 (some 5) (bl 18 7) HT_ (fun K hK=>?_);refine gS Tryz.func67 #[.int .i64 au] ?_;(with_reducible refine (gP.calls k au false _ A2.out).mono ?_);rintro e w' ⟨rfl,⟨nd,rfl⟩⟩;refine ⟨_,rfl,?_⟩;refine hK.out _ _ ⟨bcu lZ 0,bcu lZ 1⟩ (fun hHeld=>?_);clear hK K;refine no_ 5 ?_;refine pu_ 3 6 (bl 18 15) HT_ ?_;refine un_ 4 7 (bl 18 31) HT_ ?_;refine un_ 5 8 (bl 18 63) HT_ ?_;refine un_ 6 9 (bl 18 127) HT_ ?_;refine un_ 7 10 (bl 18 255) HT_ ?_;refine pu_ 8 11 (bl 18 511) HT_ ?_;refine pu_ 9 12 (bl 18 1023) HT_ ?_;refine un_ 10 13 (bl 18 2047) HT_ ?_;refine un_ 11 14 (bl 18 4095) HT_ ?_;refine un_ 12 15 (bl 18 8191) HT_ ?_;refine un_ 13 16 (bl 18 16383) HT_ ?_;refine un_ 14 17 (bl 18 32767) HT_ ?_;refine un_ 15 18 (bl 18 65535) HT_ ?_;refine pu_ 16 19 (bl 18 131071) HT_ ?_;refine pu_ 17 2 (bl 18 262143) HT_ ?_;refine done_ (done_of HT_.out (by kernel_rfl)) ?_;(try go_wp2);go_ret;exact ⟨eX,uH HB.out⟩
/-! ### qx: function 66 -/
def qx.f (a0 : Int) (l1 : List Int) : Option (Bool):=if (l1.length : Int) ≤ 25 then ((iW.f l1 (fun z_=>dK.f a0 z_)).bind fun ane=>(if ane = true then (if (l1.length : Int) = 0 then (some true) else (if 0 ≤ (wrap64 ((l1.length : Int) - 1)) then (if (wrap64 ((l1.length : Int) - 1)) < (l1.length : Int) then (some ((rd l1 (wrap64 ((l1.length : Int) - 1))) != 0)) else (none)) else (none))) else (some false))) else (some false)
theorem qx.calls (a0 : Int) (A1 : Option Addr) (c1 : Nat) (l1 : List Int) (r : Bool) (w : World) (hr1 : Kd.C (Kd.int .i64) w A1 l1.length l1) (hc1 : l1.length ≤ c1) (H : qx.f a0 l1 = some r) :
  Calls Tryz.prog 66 #[.int .i64 a0,.slice A1 l1.length c1] w fun e w'=>e = .returned (.bool r)∧Below w.heap.size w w':=by
 have hmf : ∀ (fn_ : Fn) (first_ cap_ : Array Value) (w_ : World),(Instr.makeFunc fn_ first_ cap_).run Tryz.prog w_ = .ok (.func fn_ first_ cap_) w_:=fun _ _ _ _=>rfl;have HR1:=zA hr1;have HC1:=zA hc1;clear hr1 hc1;have HB:=zA (Below.refl w.heap.size w);unfold qx.f at H;replace H:=gI H;obtain ⟨c3,H⟩|⟨c3,H⟩:=H
 ·have vE : decide ((l1.length : Int) ≤ 25) = false:=decide_eq_false c3;have Po : decide (l1.length ≤ 25) = false:=decide_eq_false (by omega);clear c3;obtain rfl:=Option.some.inj H;go_enter Tryz.func66,Tryz.ntmps66;go_wp2;go_ret;exact ⟨eX,uH HB.out⟩
 have vE : decide ((l1.length : Int) ≤ 25) = true:=decide_eq_true c3;have Po : decide (l1.length ≤ 25) = true:=decide_eq_true (by omega);clear c3;replace H:=bO H;obtain ⟨ane,A4,H⟩:=H;replace H:=gB H;obtain ⟨rfl,H⟩|⟨rfl,H⟩:=H
 ·replace H:=gE H;obtain ⟨c6,qo,vW,H⟩|⟨c6,qo,vW,H⟩:=H
  ·have aEw : ¬ (l1 = []):=fun h_=>c6 (by rw [h_];rfl);obtain ⟨ji8,Yx⟩ : ∃ j_ : Int,(wrap64 ((l1.length : Int) - 1)) = j_:=⟨_,rfl⟩;(first | rw [Yx] at H | simp only [Yx] at H);(try rw [Yx] at A4);have aCx : (IntKind.i64.wrap ((l1.length : Int) - 1)) = ji8:=(iI _).trans Yx;replace H:=gD H;obtain ⟨DD,H⟩:=H;replace H:=gD H;obtain ⟨tZ,H⟩:=H;obtain rfl:=Option.some.inj H;go_enter Tryz.func66,Tryz.ntmps66;go_wp2_with (first | (go_at_call 82;(with_reducible refine (iW.calls _ _ l1 _ (fun z_=>dK.f a0 z_) true _ ?side1 ?side2 ?side3 A4.out).mono ?_);(case side1=>exact uC HR1.out);(case side2=>exact HC1.out);(case side3=>exact FnI.of Tryz.func22 (by kernel_rfl) rfl (fun z_ r_ hr_ W_ hW_=>cz (args':=#[.int .i64 a0,.int .i64 z_]) (by simp) ((dK.calls a0 z_ r_ W_  hr_).mono fun e_ W2_ h_=>⟨h_.1,h_.2.below⟩)));rintro e w11 ⟨rfl,hb⟩;replace HB:=xH HB hb;(try clear hb);have aiB : 0 ≤ ((ji8) : Int):=of_decide_eq_true (by first | (with_reducible assumption) | assumption);have aiC : (ji8) < (l1.length : Int):=of_decide_eq_true (by first | (with_reducible assumption) | assumption);obtain ⟨aCy,axS,Uh⟩:=Kd.ik HR1.out (ji8) aiB aiC;cases axS;replace Uh:=hc HB Uh;replace aiB:=eq_true aiB;replace aiC:=eq_true aiC));go_ret;exact ⟨by first | rfl | (simp [eP,eQ] <;> rfl) | (simp only [← Yx];first | rfl | (simp [eP,eQ] <;> rfl)) | (simp [*,eP,eQ] <;> rfl),uH HB.out⟩
  clear c6;obtain rfl:=Option.some.inj H;go_enter Tryz.func66,Tryz.ntmps66;go_wp2_with (first | (go_at_call 82;(with_reducible refine (iW.calls _ _ l1 _ (fun z_=>dK.f a0 z_) true _ ?side1 ?side2 ?side3 A4.out).mono ?_);(case side1=>exact uC HR1.out);(case side2=>exact HC1.out);(case side3=>exact FnI.of Tryz.func22 (by kernel_rfl) rfl (fun z_ r_ hr_ W_ hW_=>cz (args':=#[.int .i64 a0,.int .i64 z_]) (by simp) ((dK.calls a0 z_ r_ W_  hr_).mono fun e_ W2_ h_=>⟨h_.1,h_.2.below⟩)));rintro e w7 ⟨rfl,hb⟩;replace HB:=xH HB hb;(try clear hb)));go_ret;exact ⟨eX,uH HB.out⟩
 ·obtain rfl:=Option.some.inj H;go_enter Tryz.func66,Tryz.ntmps66;go_wp2_with (first | (go_at_call 82;(with_reducible refine (iW.calls _ _ l1 _ (fun z_=>dK.f a0 z_) false _ ?side1 ?side2 ?side3 A4.out).mono ?_);(case side1=>exact uC HR1.out);(case side2=>exact HC1.out);(case side3=>exact FnI.of Tryz.func22 (by kernel_rfl) rfl (fun z_ r_ hr_ W_ hW_=>cz (args':=#[.int .i64 a0,.int .i64 z_]) (by simp) ((dK.calls a0 z_ r_ W_  hr_).mono fun e_ W2_ h_=>⟨h_.1,h_.2.below⟩)));rintro e w12 ⟨rfl,hb⟩;replace HB:=xH HB hb;(try clear hb)));go_ret;exact ⟨eX,uH HB.out⟩
/-! ### gV: function 65 -/
def gV.f (l0 : List Int) (iR : Int) : Option (Bool):=(qx.f iR l0).bind fun aiD=>(some aiD)
theorem gV.calls (A0 : Option Addr) (c0 : Nat) (l0 : List Int) (gc1 : Nat) (iR : Int) (r : Bool) (w : World) (hr0 : Kd.C (Kd.int .i64) w A0 l0.length l0) (hc0 : l0.length ≤ c0) (hb1 : w.heap[gc1]? = some (.cells #[.int .i64 iR] 2 (0,0))) (H : gV.f l0 iR = some r) :
  Calls Tryz.prog 65 #[.slice A0 l0.length c0,.pointer (some ⟨gc1,0,none⟩)] w fun e w'=>e = .returned (.bool r)∧Below w.heap.size w w':=by
 have HR0:=zA hr0;have HC0:=zA hc0;clear hr0 hc0;have BK1:=zA hb1;clear hb1;have HB:=zA (Below.refl w.heap.size w);unfold gV.f at H;replace H:=bO H;obtain ⟨aiD,A3,H⟩:=H;obtain rfl:=Option.some.inj H;have MM:=bc BK1 0;have MN:=bf BK1 0;go_enter Tryz.func65,Tryz.ntmps65;go_wp2_with (first | ((with_reducible refine ae (f:=66) rfl ?_);refine gL (some 6) Tryz.func66 #[.int .i64 iR,.slice A0 l0.length c0] ?_;(with_reducible refine (qx.calls iR _ _ l0 aiD _ ?side1 ?side2 A3.out).mono ?_);(case side1=>exact uC HR0.out);(case side2=>exact HC0.out);rintro e w5 ⟨rfl,hb⟩;refine ⟨_,rfl,?_⟩;replace BK1:=xB BK1 hb;replace HB:=xH HB hb;(try clear hb)));go_ret;exact ⟨eX,uH HB.out⟩
/- Lists of lists all of whose elements answer yes: what areAll computes. -/
def jK.f (l : List (List Int)) (p : List Int → Option Bool) : Option Bool:=if l.length < 4611686018427387904 then Ei p l else none
theorem Jf (p : List Int → Option Bool) (l : List (List Int)) (hl : l.length < 4611686018427387904) (d : Nat) : ∀ (k i : Nat) (r : Bool),i + d = l.length → d < k → Ei p (l.drop i) = some r →
    ∃ j,bQ.l0 k l (fun z_=>jm.f z_ p) (l.length : Int) (i : Int) = some j∧decide (j ≥ 0) = !r:=by
  induction d with
  | zero =>
    intro k i r hi hk h
    obtain ⟨k,rfl⟩ : ∃ m,k = m + 1:=⟨k - 1,by omega⟩
    simp only [bQ.l0]
    rw [if_neg (by omega)]
    rw [List.drop_eq_nil_of_le (by omega)] at h
    simp only [Ei,Option.some.injEq] at h
    subst h
    exact ⟨-1,rfl,rfl⟩
  | succ d ih =>
    intro k i r hi hk h
    obtain ⟨k,rfl⟩ : ∃ m,k = m + 1:=⟨k - 1,by omega⟩
    simp only [bQ.l0]
    rw [if_pos (by omega),if_pos (by omega),if_pos (by omega)]
    rw [FN l [] i (by omega)] at h
    simp only [Ei] at h
    have e : dQ l (i : Int) = l.getD i []:=by simp [dQ]
    rw [e]
    obtain ⟨b,hb,h⟩:=Option.bind_eq_some_iff.mp h
    simp only [jm.f,hb,Option.bind_some]
    cases b with
    | true =>
      rw [if_pos rfl] at h
      simp only [Bool.not_true,Bool.false_eq_true,if_false]
      rw [K5 (n:=l.length) (by omega) (by omega) hl]
      exact ih k (i + 1) r (by omega) (by omega) h
    | false =>
      simp only [Bool.false_eq_true,if_false,Option.some.injEq] at h
      subst h
      simp only [Bool.not_false,if_true]
      exact ⟨i,rfl,by simp⟩

theorem MO {l : List (List Int)} {p : List Int → Option Bool} {r : Bool} (h : jK.f l p = some r) : l5.f (l.length + 1) l p = some r:=by
  unfold jK.f at h
  split at h
  · rename_i hl
    obtain ⟨j,h1,h2⟩:=Jf p l hl l.length (l.length + 1) 0 r (by omega) (by omega) (by simpa using h)
    unfold l5.f jo.f bQ.f
    have h1' : bQ.l0 (l.length + 1) l (fun z_=>jm.f z_ p) (l.length : Int) 0 = some j:=h1
    rw [h1']
    simp only [Option.bind_some,h2,Bool.not_not]
  · cases h

theorem jK.calls (A0 : Option Addr) (c0 : Nat) (l0 : List (List Int)) (F1 : Value) (a1 : (List Int → Option Bool)) (r : Bool) (w : World) (hr0 : Kd.C (Kd.slice 2 (Kd.int .i64)) w A0 l0.length l0) (hc0 : l0.length ≤ c0) (hF1 : FnL Tryz.prog w F1 a1) (h : jK.f l0 a1 = some r) :
    Calls Tryz.prog 64 #[.slice A0 l0.length c0,F1] w fun e w'=>e = .returned (.bool r)∧Below w.heap.size w w' :=
  l5.calls _ A0 c0 l0 F1 a1 r w hr0 hc0 hF1 (MO h)
/-! ### lw: function 40 -/
def lw.f (k : Nat) (a0 : Int) (a1 : Bool) (l2 : List (List Int)) : Option (Int):=(jK.f l2 (fun z_=>gV.f z_ a0)).bind fun anf=>(if anf = true then ((gP.f k a0).bind fun ang=>(if ang = true then (if a1 = true then (some 0) else (some 2)) else (some 2))) else (some 1))
theorem lw.calls (k : Nat) (a0 : Int) (F1 : Value) (a1 : Bool) (A2 : Option Addr) (c2 : Nat) (l2 : List (List Int)) (r : Int) (w : World) (hF1 : FnB Tryz.prog w F1 a1) (hr2 : Kd.C (Kd.slice 2 (Kd.int .i64)) w A2 l2.length l2) (hc2 : l2.length ≤ c2) (H : lw.f k a0 a1 l2 = some r) :
  Calls Tryz.prog 40 #[.int .i64 a0,F1,.slice A2 l2.length c2] w fun e w'=>e = .returned (.int .i64 r)∧Below w.heap.size w w':=by
 have hmf : ∀ (fn_ : Fn) (first_ cap_ : Array Value) (w_ : World),(Instr.makeFunc fn_ first_ cap_).run Tryz.prog w_ = .ok (.func fn_ first_ cap_) w_:=fun _ _ _ _=>rfl;obtain ⟨G1,fi1,ca1,rfl,vv,hF1⟩:=hF1;have vv : ∀ (args_ : Array Value) (w_ : World),(callFunc G1 args_).run Tryz.prog w_ = .ok (.enter G1 args_) w_:=vv;have HF1:=zA hF1;clear hF1;have HR2:=zA hr2;have HC2:=zA hc2;clear hr2 hc2;have HB:=zA (Below.refl w.heap.size w);unfold lw.f at H;replace H:=bO H;obtain ⟨anf,A4,H⟩:=H;replace H:=gB H;obtain ⟨rfl,H⟩|⟨rfl,H⟩:=H
 ·replace H:=bO H;obtain ⟨ang,A6,H⟩:=H;replace H:=gB H;obtain ⟨rfl,H⟩|⟨rfl,H⟩:=H
  ·replace H:=gB H;obtain ⟨rfl,H⟩|⟨rfl,H⟩:=H
   ·obtain rfl:=Option.some.inj H;go_enter Tryz.func40,Tryz.ntmps40;go_wp2_with (first | (refine bX 3 rfl #[.int .i64 a0] 2 ?_;intro xN w9 hg qN hb;have Jg:=gq HB hg;have:=geI Jg;replace HB:=xH HB hb;clear hb hg) | ((with_reducible refine ae (f:=64) rfl ?_);refine gL (some 10) Tryz.func64 #[.slice A2 l2.length c2,(.func (.func 65) #[] #[.pointer (some ⟨xN,0,none⟩)])] ?_;(with_reducible refine (jK.calls _ _ l2 _ (fun z_=>gV.f z_ a0) true _ ?side1 ?side2 ?side3 A4.out).mono ?_);(case side1=>exact uC ((Kd.aM HR2.out HB.out)));(case side2=>exact HC2.out);(case side3=>exact FnL.of Tryz.func65 (by kernel_rfl) rfl (fun z_ r_ A_ c_ hr_ W_ hW_ hC_ hc_=>cz (args':=#[.slice A_ z_.length c_,.pointer (some ⟨xN,0,none⟩)]) (by simp) ((gV.calls A_ c_ z_ _ a0 r_ W_ hC_ hc_ (bM (g:=xN) (o:=.cells #[.int .i64 a0] 2 (0,0)) (uB qN.out) hW_) hr_).mono fun e_ W2_ h_=>⟨h_.1,h_.2⟩)));rintro e w10 ⟨rfl,hb⟩;refine ⟨_,rfl,?_⟩;replace qN:=xB qN hb;replace HB:=xH HB hb;(try clear hb);have Em:=bc qN 0;have En:=bf qN 0) | ((with_reducible refine ae (f:=67) rfl ?_);refine gL (some 14) Tryz.func67 #[.int .i64 a0] ?_;(with_reducible refine (gP.calls k a0 true _ A6.out).mono ?_);rintro e w' ⟨rfl,⟨nd,rfl⟩⟩;refine ⟨_,rfl,?_⟩) | (go_at_fn G1;refine cz (args':=fi1 ++ ca1) (by simp) ?_;refine (HF1.out _ (uH HB.out)).mono ?_;rintro e w12 ⟨rfl,hb⟩;replace qN:=xB qN hb;replace HB:=xH HB hb;(try clear hb)));go_ret;exact ⟨eX,uH HB.out⟩
   ·obtain rfl:=Option.some.inj H;go_enter Tryz.func40,Tryz.ntmps40;go_wp2_with (first | (refine bX 3 rfl #[.int .i64 a0] 2 ?_;intro xN w13 hg qN hb;have Jg:=gq HB hg;have:=geI Jg;replace HB:=xH HB hb;clear hb hg) | ((with_reducible refine ae (f:=64) rfl ?_);refine gL (some 10) Tryz.func64 #[.slice A2 l2.length c2,(.func (.func 65) #[] #[.pointer (some ⟨xN,0,none⟩)])] ?_;(with_reducible refine (jK.calls _ _ l2 _ (fun z_=>gV.f z_ a0) true _ ?side1 ?side2 ?side3 A4.out).mono ?_);(case side1=>exact uC ((Kd.aM HR2.out HB.out)));(case side2=>exact HC2.out);(case side3=>exact FnL.of Tryz.func65 (by kernel_rfl) rfl (fun z_ r_ A_ c_ hr_ W_ hW_ hC_ hc_=>cz (args':=#[.slice A_ z_.length c_,.pointer (some ⟨xN,0,none⟩)]) (by simp) ((gV.calls A_ c_ z_ _ a0 r_ W_ hC_ hc_ (bM (g:=xN) (o:=.cells #[.int .i64 a0] 2 (0,0)) (uB qN.out) hW_) hr_).mono fun e_ W2_ h_=>⟨h_.1,h_.2⟩)));rintro e w14 ⟨rfl,hb⟩;refine ⟨_,rfl,?_⟩;replace qN:=xB qN hb;replace HB:=xH HB hb;(try clear hb);have Ui:=bc qN 0;have Uj:=bf qN 0) | ((with_reducible refine ae (f:=67) rfl ?_);refine gL (some 14) Tryz.func67 #[.int .i64 a0] ?_;(with_reducible refine (gP.calls k a0 true _ A6.out).mono ?_);rintro e w' ⟨rfl,⟨nd,rfl⟩⟩;refine ⟨_,rfl,?_⟩) | (go_at_fn G1;refine cz (args':=fi1 ++ ca1) (by simp) ?_;refine (HF1.out _ (uH HB.out)).mono ?_;rintro e w16 ⟨rfl,hb⟩;replace qN:=xB qN hb;replace HB:=xH HB hb;(try clear hb)));go_ret;exact ⟨eX,uH HB.out⟩
  ·obtain rfl:=Option.some.inj H;go_enter Tryz.func40,Tryz.ntmps40;go_wp2_with (first | (refine bX 3 rfl #[.int .i64 a0] 2 ?_;intro xN w17 hg qN hb;have Jg:=gq HB hg;have:=geI Jg;replace HB:=xH HB hb;clear hb hg) | ((with_reducible refine ae (f:=64) rfl ?_);refine gL (some 10) Tryz.func64 #[.slice A2 l2.length c2,(.func (.func 65) #[] #[.pointer (some ⟨xN,0,none⟩)])] ?_;(with_reducible refine (jK.calls _ _ l2 _ (fun z_=>gV.f z_ a0) true _ ?side1 ?side2 ?side3 A4.out).mono ?_);(case side1=>exact uC ((Kd.aM HR2.out HB.out)));(case side2=>exact HC2.out);(case side3=>exact FnL.of Tryz.func65 (by kernel_rfl) rfl (fun z_ r_ A_ c_ hr_ W_ hW_ hC_ hc_=>cz (args':=#[.slice A_ z_.length c_,.pointer (some ⟨xN,0,none⟩)]) (by simp) ((gV.calls A_ c_ z_ _ a0 r_ W_ hC_ hc_ (bM (g:=xN) (o:=.cells #[.int .i64 a0] 2 (0,0)) (uB qN.out) hW_) hr_).mono fun e_ W2_ h_=>⟨h_.1,h_.2⟩)));rintro e w18 ⟨rfl,hb⟩;refine ⟨_,rfl,?_⟩;replace qN:=xB qN hb;replace HB:=xH HB hb;(try clear hb);have Hr:=bc qN 0;have Ht:=bf qN 0) | ((with_reducible refine ae (f:=67) rfl ?_);refine gL (some 14) Tryz.func67 #[.int .i64 a0] ?_;(with_reducible refine (gP.calls k a0 false _ A6.out).mono ?_);rintro e w' ⟨rfl,⟨nd,rfl⟩⟩;refine ⟨_,rfl,?_⟩));go_ret;exact ⟨eX,uH HB.out⟩
 ·obtain rfl:=Option.some.inj H;go_enter Tryz.func40,Tryz.ntmps40;go_wp2_with (first | (refine bX 3 rfl #[.int .i64 a0] 2 ?_;intro xN w20 hg qN hb;have Jg:=gq HB hg;have:=geI Jg;replace HB:=xH HB hb;clear hb hg) | ((with_reducible refine ae (f:=64) rfl ?_);refine gL (some 10) Tryz.func64 #[.slice A2 l2.length c2,(.func (.func 65) #[] #[.pointer (some ⟨xN,0,none⟩)])] ?_;(with_reducible refine (jK.calls _ _ l2 _ (fun z_=>gV.f z_ a0) false _ ?side1 ?side2 ?side3 A4.out).mono ?_);(case side1=>exact uC ((Kd.aM HR2.out HB.out)));(case side2=>exact HC2.out);(case side3=>exact FnL.of Tryz.func65 (by kernel_rfl) rfl (fun z_ r_ A_ c_ hr_ W_ hW_ hC_ hc_=>cz (args':=#[.slice A_ z_.length c_,.pointer (some ⟨xN,0,none⟩)]) (by simp) ((gV.calls A_ c_ z_ _ a0 r_ W_ hC_ hc_ (bM (g:=xN) (o:=.cells #[.int .i64 a0] 2 (0,0)) (uB qN.out) hW_) hr_).mono fun e_ W2_ h_=>⟨h_.1,h_.2⟩)));rintro e w21 ⟨rfl,hb⟩;refine ⟨_,rfl,?_⟩;replace qN:=xB qN hb;replace HB:=xH HB hb;(try clear hb)));go_ret;exact ⟨eX,uH HB.out⟩
/-! ### fo: function 42 -/
def fo.f (k : Nat) (au : Int) (av : List Int) (a1 : Bool) (l2 : List (List Int)) : Option (Int):=(eu.f k au av).bind fun anh=>(if anh = true then ((lw.f k au a1 l2).bind fun aiE=>(some aiE)) else (some 1))
theorem fo.calls (k : Nat) (au : Int) (bE : Option Addr) (bD : Nat) (av : List Int) (F1 : Value) (a1 : Bool) (A2 : Option Addr) (c2 : Nat) (l2 : List (List Int)) (r : Int) (w : World) (hr0_1 : Kd.C (Kd.int .i64) w bE av.length av) (gY : av.length ≤ bD) (hF1 : FnB Tryz.prog w F1 a1) (hr2 : Kd.C (Kd.slice 2 (Kd.int .i64)) w A2 l2.length l2) (hc2 : l2.length ≤ c2) (H : fo.f k au av a1 l2 = some r) :
  Calls Tryz.prog 42 #[.agg #[.int .i64 au,.slice bE av.length bD],F1,.slice A2 l2.length c2] w fun e w'=>e = .returned (.int .i64 r)∧Below w.heap.size w w':=by
 have rF:=Tryz.underlying26;have d9:=zA hr0_1;have eD:=zA gY;clear hr0_1 gY;obtain ⟨G1,fi1,ca1,rfl,vv,hF1⟩:=hF1;have vv : ∀ (args_ : Array Value) (w_ : World),(callFunc G1 args_).run Tryz.prog w_ = .ok (.enter G1 args_) w_:=vv;have HF1:=zA hF1;clear hF1;have HR2:=zA hr2;have HC2:=zA hc2;clear hr2 hc2;have HB:=zA (Below.refl w.heap.size w);unfold fo.f at H;replace H:=bO H;obtain ⟨anh,A4,H⟩:=H;replace H:=gB H;obtain ⟨rfl,H⟩|⟨rfl,H⟩:=H
 ·replace H:=bO H;obtain ⟨aiE,A6,H⟩:=H;obtain rfl:=Option.some.inj H;go_enter Tryz.func42,Tryz.ntmps42;go_wp2_with (first | ((with_reducible refine bP (N:=3) rfl ?_);refine bx 3 #[.int .i64 au,.slice bE av.length bD] 26 ?_;intro ani hg w7 hbox hb;have uE:=zA (hbox);have Yy:=gq HB hg;have:=geI Yy;replace HB:=xH HB hb;clear hb hbox hg;have DF:=bc uE 0;have DI:=bc uE 1;have DJ:=bf uE 0;have DK:=bf uE 1) | ((with_reducible refine ae (f:=68) rfl ?_);refine gL (some 8) Tryz.func68 #[.agg #[.int .i64 au,.slice bE av.length bD]] ?_;(with_reducible refine (eu.calls k au _ _ av true _ ?side1 ?side2 A4.out).mono ?_);(case side1=>exact uC ((Kd.aM d9.out HB.out)));(case side2=>exact eD.out);rintro e w9 ⟨rfl,hb⟩;refine ⟨_,rfl,?_⟩;replace uE:=xB uE hb;replace HB:=xH HB hb;(try clear hb);have rX:=bc uE 0;have rY:=bc uE 1;have rZ:=bf uE 0;have r9:=bf uE 1) | ((with_reducible refine ae (f:=40) rfl ?_);refine gL (some 14) Tryz.func40 #[.int .i64 au,(.func (.func G1) fi1 ca1),.slice A2 l2.length c2] ?_;(with_reducible refine (lw.calls k au _ a1 _ _ l2 aiE _ ?side1 ?side2 ?side3 A6.out).mono ?_);(case side1=>exact FnB.later (uH HB.out) (show FnB Tryz.prog w (.func (.func G1) fi1 ca1) a1 from ⟨_,_,_,rfl,vv,HF1.out⟩));(case side2=>exact uC ((Kd.aM HR2.out HB.out)));(case side3=>exact HC2.out);rintro e w11 ⟨rfl,hb⟩;refine ⟨_,rfl,?_⟩;replace uE:=xB uE hb;replace HB:=xH HB hb;(try clear hb)));go_ret;exact ⟨eX,uH HB.out⟩
 ·obtain rfl:=Option.some.inj H;go_enter Tryz.func42,Tryz.ntmps42;go_wp2_with (first | ((with_reducible refine bP (N:=3) rfl ?_);refine bx 3 #[.int .i64 au,.slice bE av.length bD] 26 ?_;intro ani hg w12 hbox hb;have uE:=zA (hbox);have Yy:=gq HB hg;have:=geI Yy;replace HB:=xH HB hb;clear hb hbox hg;have mD:=bc uE 0;have mE:=bc uE 1;have mF:=bf uE 0;have mG:=bf uE 1) | ((with_reducible refine ae (f:=68) rfl ?_);refine gL (some 8) Tryz.func68 #[.agg #[.int .i64 au,.slice bE av.length bD]] ?_;(with_reducible refine (eu.calls k au _ _ av false _ ?side1 ?side2 A4.out).mono ?_);(case side1=>exact uC ((Kd.aM d9.out HB.out)));(case side2=>exact eD.out);rintro e w14 ⟨rfl,hb⟩;refine ⟨_,rfl,?_⟩;replace uE:=xB uE hb;replace HB:=xH HB hb;(try clear hb)));go_ret;exact ⟨eX,uH HB.out⟩
/- Plain lemmas: rounds (Ev), wrapped sums, rests modulo p, lists read and written at an index. No program is in sight. -/
section
variable {α β : Type}
theorem Ev.pos {c : Prop} [Decidable c] {X Y : Nat → Option α} {r : α} (h : c) (e : Ev X r) : Ev (fun k=>if c then X k else Y k) r:=by
  simpa only [if_pos h] using e
theorem Ev.neg {c : Prop} [Decidable c] {X Y : Nat → Option α} {r : α} (h : ¬ c) (e : Ev Y r) : Ev (fun k=>if c then X k else Y k) r:=by
  simpa only [if_neg h] using e
theorem Ev.eq {x : Option α} {r : α} (h : x = some r) : Ev (fun _=>x) r:=⟨0,fun _ _=>h⟩
theorem Ev.oh {r s : α} (h : r = s) : Ev (fun _=>some r) s:=⟨0,fun _ _=>by rw [h]⟩
theorem Ev.iN {x : Option α} {f : Nat → α → Option β} {a : α} {r : β} (h : x = some a) (e : Ev (fun n=>f n a) r) : Ev (fun n=>x.bind (f n)) r:=by
  subst h;simpa using e
theorem Ev.cast {g : Nat → Option α} {r s : α} (h : Ev g r) (e : r = s) : Ev g s:=e ▸ h
theorem Ev.fn {g : Nat → Option α} {r s : α} (h : Ev g r) (h' : Ev g s) : r = s:=by
  obtain ⟨K,h⟩:=h
  obtain ⟨K',h'⟩:=h'
  have a:=h (max K K') (by omega)
  have b:=h' (max K K') (by omega)
  rw [a] at b
  exact Option.some.inj b
end

theorem bJ {x : Int} (h0 : -9223372036854775808 ≤ x) (h1 : x < 9223372036854775808) : wrap64 x = x:=by unfold wrap64;omega
theorem lC {i n : Nat} (h : i < n) (hn : n < 4611686018427387904) : wrap64 ((i : Int) + 1) = ((i + 1 : Nat) : Int):=by unfold wrap64;omega
theorem Yz {i j n : Nat} (h : i + j < n) (hn : n < 4611686018427387904) : wrap64 ((i : Int) + (j : Int)) = ((i + j : Nat) : Int):=by unfold wrap64;omega
theorem Uk {i : Nat} (h : 0 < i) (hn : i < 4611686018427387904) : wrap64 ((i : Int) - 1) = ((i - 1 : Nat) : Int):=by unfold wrap64;omega

theorem mV (l : List Int) (i : Nat) : rd l (i : Int) = l.getD i 0:=by simp [rd]
theorem uF (l : List (List Int)) (i : Nat) : dQ l (i : Int) = l.getD i []:=by simp [dQ]
theorem xO {α : Type} {l : List α} {i : Nat} {d : α} (h : i < l.length) : l.getD i d ∈ l:=by
  simp only [List.getD_eq_getElem?_getD,List.getElem?_eq_getElem h,Option.getD_some];exact List.getElem_mem h
theorem jI (i : Nat) : ((i : Int)).toNat = i:=rfl

/-- A length that is small. -/
abbrev Sm (n : Nat) : Prop:=n ≤ 1048576

/-- Numbers modulo p. -/
def Nm (p : Int) (l : List Int) : Prop:=∀ x ∈ l,0 ≤ x∧x < p
theorem Nm.nil (p : Int) : Nm p []:=fun x h=>by cases h
theorem Nm.cons {p x : Int} {l : List Int} (h0 : 0 ≤ x) (h1 : x < p) (h : Nm p l) : Nm p (x :: l):=fun y hy=>by
  rcases List.mem_cons.1 hy with rfl | hy
  · exact ⟨h0,h1⟩
  · exact h y hy
theorem Nm.append {p : Int} {l m : List Int} (h : Nm p l) (h' : Nm p m) : Nm p (l ++ m):=fun y hy=>by
  rcases List.mem_append.1 hy with hy | hy
  · exact h y hy
  · exact h' y hy
theorem Nm.get {p : Int} {l : List Int} (h : Nm p l) {i : Nat} (hi : i < l.length) : 0 ≤ l.getD i 0∧l.getD i 0 < p:=h _ (xO hi)
theorem Nm.DL {p : Int} {l : List Int} (h : Nm p l) (hp : 0 < p) (i : Nat) : 0 ≤ l.getD i 0∧l.getD i 0 < p:=by
  by_cases hi : i < l.length
  · exact h.get hi
  · rw [List.getD_eq_getElem?_getD,List.getElem?_eq_none (by omega)];exact ⟨Int.le_refl _,hp⟩
theorem Nm.take {p : Int} {l : List Int} (h : Nm p l) (n : Nat) : Nm p (l.take n):=fun x hx=>h x (List.mem_of_mem_take hx)
theorem Nm.drop {p : Int} {l : List Int} (h : Nm p l) (n : Nat) : Nm p (l.drop n):=fun x hx=>h x (List.mem_of_mem_drop hx)
theorem Nm.set {p x : Int} {l : List Int} (h : Nm p l) (h0 : 0 ≤ x) (h1 : x < p) (i : Nat) : Nm p (l.set i x):=fun y hy=>by
  rcases List.mem_or_eq_of_mem_set hy with hy | rfl
  · exact h y hy
  · exact ⟨h0,h1⟩
theorem Nm.zeros {p : Int} (hp : 0 < p) (n : Nat) : Nm p (List.replicate n 0):=fun x hx=>by
  rw [(List.mem_replicate.1 hx).2];exact ⟨Int.le_refl _,hp⟩
instance (p : Int) (l : List Int) : Decidable (Nm p l):=by unfold Nm;infer_instance

/-- A modulus that the program may have (in its range; a Bl or not). -/
structure Pm (p : Int) : Prop where
  two : 2 ≤ p
  top : p ≤ 10007
theorem Pm.pos {p : Int} (h : Pm p) : 0 < p:=by have:=h.two;omega
theorem Pm.ne {p : Int} (h : Pm p) : p ≠ 0:=by have:=h.two;omega

theorem Yj {a b m n : Int} (ha : 0 ≤ a) (ha' : a ≤ m) (hb : 0 ≤ b) (hb' : b ≤ n) : 0 ≤ a * b∧a * b ≤ m * n :=
  ⟨Int.mul_nonneg ha hb,Int.mul_le_mul ha' hb' hb (by omega)⟩
/-- A product of two numbers modulo p. -/
theorem yO {p a b : Int} (hp : Pm p) (ha : 0 ≤ a) (ha' : a < p) (hb : 0 ≤ b) (hb' : b < p) : 0 ≤ a * b∧a * b ≤ 100140049:=by
  have h1:=hp.top
  have h:=Yj (m:=10007) (n:=10007) ha (by omega) hb (by omega)
  exact ⟨h.1,by omega⟩
theorem jY {a b : Int} (h : 0 ≤ a) : Int.tmod a b = a % b:=Int.tmod_eq_emod_of_nonneg h
theorem lv {p : Int} (hp : 0 < p) (x : Int) : 0 ≤ x % p∧x % p < p:=⟨Int.emod_nonneg _ (by omega),Int.emod_lt_of_pos _ hp⟩
/-- Go's '(x % p + p) % p' is the rest of x. -/
theorem Jh {p x : Int} (hp : Pm p) : Int.tmod (wrap64 (Int.tmod x p + p)) p = x % p:=by
  have h2:=hp.two
  have ht:=hp.top
  have h:=Int.tmod_eq_emod (a:=x) (b:=p)
  have hb:=lv hp.pos x
  have hn : ((p.natAbs : Nat) : Int) = p:=by omega
  split at h
  · rw [h,Int.natCast_zero,bJ (by omega) (by omega),jY (by omega),show x % p - 0 + p = x % p + p from by omega,Int.add_emod_right,Int.emod_emod]
  · rw [h,hn,bJ (by omega) (by omega),jY (by omega),show x % p - p + p = x % p from by omega,Int.emod_emod]

/-- A list without noughts at its end. -/
def oU (l : List Int) : List Int:=(l.reverse.dropWhile (· == 0)).reverse
theorem Ji : oU [] = []:=rfl
theorem uG (l : List Int) : oU (l ++ [0]) = oU l:=by simp [oU]
theorem xz (l : List Int) {x : Int} (h : x ≠ 0) : oU (l ++ [x]) = l ++ [x]:=by simp [oU,h]
theorem MP {α : Type} {P : List α → Prop} (h0 : P []) (h1 : ∀ l x,P l → P (l ++ [x])) (l : List α) : P l:=by
  have h : ∀ l : List α,P l.reverse:=by
    intro l
    induction l with
    | nil=>exact h0
    | cons x l ih=>rw [List.reverse_cons];exact h1 _ _ ih
  simpa using h l.reverse
theorem Jj (l : List Int) : ∃ n,l = oU l ++ List.replicate n 0:=by
  induction l using MP with
  | h0=>exact ⟨0,rfl⟩
  | h1 l x ih =>
    by_cases h : x = 0
    · subst h
      obtain ⟨n,hn⟩:=ih
      refine ⟨n + 1,?_⟩
      rw [uG,List.replicate_succ',← List.append_assoc,← hn]
    · exact ⟨0,by rw [xz l h];simp⟩
/- The great laws' comparisons of lists and moments. -/
open Go Go.RowKit Go.Proofs.YtnpepkpogohcmaaGreatW.PrintWords Go.Proofs.YtnpepkpogohcmaaGreatW.PrintLast Go.Proofs.YtnpepkpogohcmaaGreatW.PrintMore
theorem ac9 (l : List Int) (hl : Sm l.length) (d : Nat) : ∀ i : Nat,i + d = l.length → Ev (fun k=>iU.l0 k l l (i : Int)) true:=by
  unfold Sm at hl
  induction d with
  | zero =>
    intro i hi
    refine Ev.step (fun k=>by rw [iU.l0]) ?_
    exact Ev.neg (by omega) (Ev.now _)
  | succ d ih =>
    intro i hi
    refine Ev.step (fun k=>by rw [iU.l0]) ?_
    refine Ev.pos (by omega) (Ev.pos (by omega) (Ev.pos (by omega) (Ev.pos rfl ?_)))
    rw [lC (i:=i) (n:=l.length) (by omega) (by omega)]
    exact ih (i + 1) (by omega)
theorem acX (l : List Int) (hl : Sm l.length) : Ev (fun k=>iU.f k l l) true:=by
  unfold iU.f
  exact Ev.pos rfl (ac9 l hl l.length 0 (by omega))
/- Copies of lists; no condition. -/
theorem Sm.take {l : List Int} (h : Sm l.length) (n : Nat) : Sm (l.take n).length:=by unfold Sm at h ⊢;rw [List.length_take];omega
theorem Sm.drop {l : List Int} (h : Sm l.length) (n : Nat) : Sm (l.drop n).length:=by unfold Sm at h ⊢;rw [List.length_drop];omega
theorem Jk (l : List Int) (hl : Sm l.length) : jS.f l = some l:=by
  unfold jS.f
  simp only [Option.bind_some,List.length_nil,List.nil_append]
  rw [if_pos (by unfold Sm at hl;omega)]
/- Primes and numbers modulo p: what the program and the reference compute of them. -/
theorem Pp (a b c : Int) : jL.f a b c = some (decide (b ≤ a∧a ≤ c)):=by
  unfold jL.f
  by_cases h : b ≤ a
  · rw [if_pos h];simp [h]
  · rw [if_neg h];simp [h]
theorem Cq (a b c : Int) : jC.f a b c = some (decide (b ≤ a∧a ≤ c)):=by
  unfold jC.f
  by_cases h : b ≤ a
  · rw [if_pos h];simp [h]
  · rw [if_neg h];simp [h]
theorem has_eq (p x : Int) : dK.f p x = some (decide (0 ≤ x∧x < p)):=by
  unfold dK.f
  by_cases h : 0 ≤ x
  · rw [if_pos h];simp [h]
  · rw [if_neg h];simp [h]
theorem Bq {p : Int} (hp : Pm p) (x : Int) : dX.f p x = some (x % p):=by
  unfold dX.f
  rw [if_neg hp.ne,Jh hp]

/-! ### primes -/
def Gv (p : Int) (i : Nat) : Prop:=∀ j,j < 101 → i ≤ j → (j : Int) * (j : Int) ≤ p → p % (j : Int) ≠ 0
instance (p : Int) (i : Nat) : Decidable (Gv p i):=by unfold Gv;infer_instance
def gQ (p : Int) : Bool:=decide (2 ≤ p∧p ≤ 10007) && decide (Gv p 2)
theorem gQ.pm {p : Int} (h : gQ p = true) : Pm p:=by
  simp only [gQ,Bool.and_eq_true,decide_eq_true_eq] at h
  exact ⟨h.1.1,h.1.2⟩
theorem Jl {p : Int} {i : Nat} (h : p % (i : Int) ≠ 0) : decide (Gv p i) = decide (Gv p (i + 1)):=by
  apply decide_eq_decide.2
  constructor
  · exact fun g j h1 h2 h3=>g j h1 (by omega) h3
  · intro g j h1 h2 h3
    by_cases e : j = i
    · subst e;exact h
    · exact g j h1 (by omega) h3
theorem Cr {p : Int} {i : Nat} (h : p < (i : Int) * (i : Int)) : Gv p i:=by
  intro j h1 h2 h3
  have:=Yj (a:=(i : Int)) (b:=(i : Int)) (m:=(j : Int)) (n:=(j : Int)) (by omega) (by omega) (by omega) (by omega)
  omega
theorem sqB {i : Nat} (h : i ≤ 101) : 0 ≤ (i : Int) * (i : Int)∧(i : Int) * (i : Int) ≤ 10201:=by
  have:=Yj (a:=(i : Int)) (b:=(i : Int)) (m:=101) (n:=101) (by omega) (by omega) (by omega) (by omega)
  omega
theorem MQ {p : Int} (h2 : 2 ≤ p) (ht : p ≤ 10007) (d : Nat) : ∀ i,2 ≤ i → i + d = 101 → Ev (fun k=>fH.l0 k p (i : Int)) (decide (Gv p i)):=by
  induction d with
  | zero =>
    intro i hi hd
    obtain rfl : i = 101:=by omega
    refine Ev.step (fun k=>by rw [fH.l0]) ?_
    refine Ev.neg (by rw [bJ (by omega) (by omega)];omega) (Ev.oh ?_)
    exact (decide_eq_true (Cr (by omega))).symm
  | succ d ih =>
    intro i hi hd
    have hb:=sqB (i:=i) (by omega)
    refine Ev.step (fun k=>by rw [fH.l0]) ?_
    rw [bJ (x:=(i : Int) * (i : Int)) (by omega) (by omega),jY (by omega)]
    by_cases h : (i : Int) * (i : Int) ≤ p
    · refine Ev.pos h (Ev.neg (by omega) ?_)
      by_cases h3 : p % (i : Int) = 0
      · exact Ev.pos h3 (Ev.oh (decide_eq_false (fun g=>g i (by omega) (by omega) h h3)).symm)
      · refine Ev.neg h3 ?_
        rw [Jl h3,lC (i:=i) (n:=101) (by omega) (by omega)]
        exact ih (i + 1) (by omega) (by omega)
    · exact Ev.neg h (Ev.oh (decide_eq_true (Cr (by omega))).symm)
theorem MR {p : Int} (h2 : 2 ≤ p) (ht : p ≤ 10007) (d : Nat) : ∀ i,2 ≤ i → i + d = 101 → Ev (fun k=>gP.l0 k p (i : Int)) (decide (Gv p i)):=by
  induction d with
  | zero =>
    intro i hi hd
    obtain rfl : i = 101:=by omega
    refine Ev.step (fun k=>by rw [gP.l0]) ?_
    refine Ev.neg (by rw [bJ (by omega) (by omega)];omega) (Ev.oh ?_)
    exact (decide_eq_true (Cr (by omega))).symm
  | succ d ih =>
    intro i hi hd
    have hb:=sqB (i:=i) (by omega)
    refine Ev.step (fun k=>by rw [gP.l0]) ?_
    rw [bJ (x:=(i : Int) * (i : Int)) (by omega) (by omega),jY (by omega)]
    by_cases h : (i : Int) * (i : Int) ≤ p
    · refine Ev.pos h (Ev.neg (by omega) ?_)
      by_cases h3 : p % (i : Int) = 0
      · exact Ev.pos h3 (Ev.oh (decide_eq_false (fun g=>g i (by omega) (by omega) h h3)).symm)
      · refine Ev.neg h3 ?_
        rw [Jl h3,lC (i:=i) (n:=101) (by omega) (by omega)]
        exact ih (i + 1) (by omega) (by omega)
    · exact Ev.neg h (Ev.oh (decide_eq_true (Cr (by omega))).symm)
theorem Eo (p : Int) : Ev (fun k=>fH.f k p) (gQ p):=by
  unfold fH.f gQ
  refine Ev.iN (Pp _ _ _) ?_
  by_cases h : 2 ≤ p∧p ≤ 10007
  · refine Ev.pos (decide_eq_true h) ?_
    rw [decide_eq_true h,Bool.true_and]
    exact MQ h.1 h.2 99 2 (by omega) (by omega)
  · refine Ev.neg (by simp [h]) (Ev.oh ?_)
    rw [decide_eq_false h,Bool.false_and]
theorem Ep (p : Int) : Ev (fun k=>gP.f k p) (gQ p):=by
  unfold gP.f gQ
  refine Ev.iN (Cq _ _ _) ?_
  by_cases h : 2 ≤ p∧p ≤ 10007
  · refine Ev.pos (decide_eq_true h) ?_
    rw [decide_eq_true h,Bool.true_and]
    exact MR h.1 h.2 99 2 (by omega) (by omega)
  · refine Ev.neg (by simp [h]) (Ev.oh ?_)
    rw [decide_eq_false h,Bool.false_and]

/-! ### numbers modulo p -/
theorem MS (p x : Int) (l : List Int) : Nm p (x :: l) ↔ (0 ≤ x∧x < p)∧Nm p l:=by
  constructor
  · exact fun h=>⟨h x (List.mem_cons_self ..),fun y hy=>h y (List.mem_cons_of_mem _ hy)⟩
  · exact fun h=>Nm.cons h.1.1 h.1.2 h.2
theorem YA (p : Int) (l : List Int) : Ei (fun z_=>dK.f p z_) l = some (decide (Nm p l)):=by
  induction l with
  | nil=>simp only [Ei];rw [decide_eq_true (Nm.nil p)]
  | cons x l ih =>
    simp only [has_eq] at ih
    simp only [Ei,has_eq,Option.bind_some]
    by_cases h : 0 ≤ x∧x < p
    · rw [if_pos (decide_eq_true h),ih]
      congr 1
      apply decide_eq_decide.2
      rw [MS]
      exact ⟨fun g=>⟨h,g⟩,fun g=>g.2⟩
    · rw [if_neg (by simp [h])]
      congr 1
      exact (decide_eq_false (fun g=>h ((MS p x l).1 g).1)).symm
theorem Jm (p : Int) (l : List Int) (hl : l.length < 4611686018427387904) : iW.f l (fun z_=>dK.f p z_) = some (decide (Nm p l)):=by
  unfold iW.f
  rw [if_pos hl,YA]
theorem Er {p : Int} {l : List Int} {i : Nat} (h : i < l.length) : Nm p (l.drop i) ↔ (0 ≤ l.getD i 0∧l.getD i 0 < p)∧Nm p (l.drop (i + 1)):=by
  rw [FN l 0 i h,MS]
/-! ### sums -/
def sumTo (g : Nat → Int) : Nat → Int
  | 0=>0
  | n + 1=>sumTo g n + g n
end Go.Proofs.YtnpepkpogohcmaaGreat.Pr
