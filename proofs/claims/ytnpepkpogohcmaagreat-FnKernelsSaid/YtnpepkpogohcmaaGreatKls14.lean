/- Texts of this session in one: what functions of the program compute, and plain facts of it, under the conditions that each theorem names. -/
import Derived.Test.YtnpepkpogohcmaaGreatKFimplMomentsupTo
import Derived.Test.YtnpepkpogohcmaaGreatKls1
import Derived.Test.YtnpepkpogohcmaaGreatKls10
import Derived.Test.YtnpepkpogohcmaaGreatKls11
import Derived.Test.YtnpepkpogohcmaaGreatKls13
import Derived.Test.YtnpepkpogohcmaaGreatKls2
import Derived.Test.YtnpepkpogohcmaaGreatKls3
import Derived.Test.YtnpepkpogohcmaaGreatKls5
import Derived.Test.YtnpepkpogohcmaaGreatKls8
namespace Go.Proofs.YtnpepkpogohcmaaGreat.Pr
open Go.RowKit Go.Proofs.YtnpepkpogohcmaaGreatW.PrintWords Go.Proofs.YtnpepkpogohcmaaGreatW.PrintLast Go.Proofs.YtnpepkpogohcmaaGreatW.PrintMore
attribute [local go_sem] pE pF q8 rf nP nQ pG pI   -- for this text's walks alone
set_option linter.unusedVariables false
set_option maxHeartbeats 8000000
set_option maxRecDepth 100000
set_option linter.unusedSimpArgs false
/-! ### jP: function 6 -/
def jP.f (k : Nat) (au : Int) (av : List Int) (a1 : Int) (a2 : Int) (a3 : Int) : Option (Int × Int):=(lG.f au av a3).bind fun adY=>((jr.f k au av a1 a2 adY ([] : List (List Int))).bind fun Zd=>(if Zd.2 = 0 then ((bV.f au av).bind fun Ze=>((iV.f Ze Zd.1 a3).bind fun aji=>(some (aji,0)))) else (some (0,Zd.2))))
theorem jP.calls (k : Nat) (au : Int) (bE : Option Addr) (bD : Nat) (av : List Int) (a1 : Int) (a2 : Int) (a3 : Int) (r1 : Int) (r2 : Int) (w : World) (hr0_1 : Kd.C (Kd.int .i64) w bE av.length av) (gY : av.length ≤ bD) (H : jP.f k au av a1 a2 a3 = some (r1,r2)) :
  Calls Tryz.prog 6 #[.agg #[.int .i64 au,.slice bE av.length bD],.int .i64 a1,.int .i64 a2,.int .i64 a3] w fun e w'=>e = .returned (.tuple #[.int .i64 r1,.int .i64 r2])∧Below w.heap.size w w':=by
 have rF:=Tryz.underlying26;have hmf : ∀ (fn_ : Fn) (first_ cap_ : Array Value) (w_ : World),(Instr.makeFunc fn_ first_ cap_).run Tryz.prog w_ = .ok (.func fn_ first_ cap_) w_:=fun _ _ _ _=>rfl;have d9:=zA hr0_1;have eD:=zA gY;clear hr0_1 gY;have HB:=zA (Below.refl w.heap.size w);unfold jP.f at H;replace H:=bO H;obtain ⟨adY,A5,H⟩:=H;replace H:=bO H;obtain ⟨⟨adZ,aoO⟩,A6,H⟩:=H;(try dsimp only at H);replace H:=gE H;obtain ⟨c7,yQ,Bb,H⟩|⟨c7,yQ,Bb,H⟩:=H
 ·simp only [Option.some.injEq,Prod.mk.injEq] at H;obtain ⟨rfl,rfl⟩:=H;go_enter Tryz.func6,Tryz.ntmps6;go_wp2_with (first | (refine bX 4 rfl #[.int .i64 au,.slice bE av.length bD] 26 ?_;intro EE w19 hg nk hb;have Zf:=gq HB hg;have:=geI Zf;replace HB:=xH HB hb;clear hb hg) | ((with_reducible refine bP (N:=7) rfl ?_);refine bx 7 #[.int .i64 a3] 2 ?_;intro Dt hg w20 hbox hb;have uS:=zA (hbox);have Zg:=gq HB hg;have:=geI Zg;have Zh:=gq HB hg;replace HB:=xH HB hb;have FR:=nL nk hg;have FT:=nG nk hg;replace nk:=xB nk hb;have:=geI Zh;clear hb hbox hg;have UX:=FR.out;have UY:=FT.out;have EF:=bc nk 0;have Im:=bc nk 1;have EG:=bf nk 0;have Io:=bf nk 1) | ((with_reducible refine ae (f:=19) rfl ?_);refine gL (some 17) Tryz.func19 #[.agg #[.int .i64 au,.slice bE av.length bD],.int .i64 a1,.int .i64 a2,(.func (.func 20) #[] #[.pointer (some ⟨EE,0,none⟩),.pointer (some ⟨Dt,0,none⟩)]),.slice none 0 0] ?_;(refine (jr.calls k au _ _ av a1 a2 _ adY _ _ ([] : List (List Int)) adZ aoO _ ?side1 ?side2 ?side3 ?side4 ?side5 A6.out).mono ?_);(case side1=>exact uC ((Kd.aM d9.out HB.out)));(case side2=>exact eD.out);(case side3=>exact FnB.of Tryz.func20 (by kernel_rfl) rfl (fun W_ hW_=>cz (args':=#[.pointer (some ⟨EE,0,none⟩),.pointer (some ⟨Dt,0,none⟩)]) (by simp) ((lG.calls _ au _ _ av _ a3 _ W_ (bM (g:=EE) (o:=.cells #[.int .i64 au,.slice bE av.length bD] 26 (0,0)) (uB nk.out) hW_) (Kd.aM (by exact uC ((Kd.aM d9.out HB.out))) hW_) (by exact eD.out) (bM (g:=Dt) (o:=.cells #[.int .i64 a3] 2 (0,0)) (uB uS.out) hW_) A5.out).mono fun e_ W2_ h_=>⟨h_.1,h_.2⟩)));(case side4=>exact Kd.ED _ _);(case side5=>exact Nat.le_refl _);rintro e w23 ⟨ayL,rfl,ho0,hb⟩;refine ⟨_,rfl,?_⟩;have BM:=zA (Kd.bu (Kd.qG ho0 (g:=Dt) (o:=.cells #[.int .i64 a3] 2 (0,0)) (uB uS.out)) (af (uH HB.out)));replace nk:=xB nk hb;replace uS:=xB uS hb;replace HB:=xH HB hb;(try clear hb);(try clear ho0)));go_ret2;exact ⟨eX,uH HB.out⟩
 clear c7;replace H:=bO H;obtain ⟨Ze,A8,H⟩:=H;replace H:=bO H;obtain ⟨aji,A9,H⟩:=H;simp only [Option.some.injEq,Prod.mk.injEq] at H;obtain ⟨rfl,rfl⟩:=H;go_enter Tryz.func6,Tryz.ntmps6;(try go_wp2_with (first | (refine bX 4 rfl #[.int .i64 au,.slice bE av.length bD] 26 ?_;intro EE w10 hg nk hb;have Zf:=gq HB hg;have:=geI Zf;replace HB:=xH HB hb;clear hb hg) | ((with_reducible refine bP (N:=7) rfl ?_);refine bx 7 #[.int .i64 a3] 2 ?_;intro Dt hg w11 hbox hb;have uS:=zA (hbox);have Zg:=gq HB hg;have:=geI Zg;have Zh:=gq HB hg;replace HB:=xH HB hb;have FR:=nL nk hg;have FT:=nG nk hg;replace nk:=xB nk hb;have:=geI Zh;clear hb hbox hg;have Zi:=FR.out;have Zj:=FT.out;have mD:=bc nk 0;have mE:=bc nk 1;have mF:=bf nk 0;have mG:=bf nk 1) | ((with_reducible refine ae (f:=19) rfl ?_);refine gL (some 17) Tryz.func19 #[.agg #[.int .i64 au,.slice bE av.length bD],.int .i64 a1,.int .i64 a2,(.func (.func 20) #[] #[.pointer (some ⟨EE,0,none⟩),.pointer (some ⟨Dt,0,none⟩)]),.slice none 0 0] ?_;(refine (jr.calls k au _ _ av a1 a2 _ adY _ _ ([] : List (List Int)) adZ aoO _ ?side1 ?side2 ?side3 ?side4 ?side5 A6.out).mono ?_);(case side1=>exact uC ((Kd.aM d9.out HB.out)));(case side2=>exact eD.out);(case side3=>exact FnB.of Tryz.func20 (by kernel_rfl) rfl (fun W_ hW_=>cz (args':=#[.pointer (some ⟨EE,0,none⟩),.pointer (some ⟨Dt,0,none⟩)]) (by simp) ((lG.calls _ au _ _ av _ a3 _ W_ (bM (g:=EE) (o:=.cells #[.int .i64 au,.slice bE av.length bD] 26 (0,0)) (uB nk.out) hW_) (Kd.aM (by exact uC ((Kd.aM d9.out HB.out))) hW_) (by exact eD.out) (bM (g:=Dt) (o:=.cells #[.int .i64 a3] 2 (0,0)) (uB uS.out) hW_) A5.out).mono fun e_ W2_ h_=>⟨h_.1,h_.2⟩)));(case side4=>exact Kd.ED _ _);(case side5=>exact Nat.le_refl _);rintro e w14 ⟨ayL,rfl,ho0,hb⟩;refine ⟨_,rfl,?_⟩;have BM:=zA (Kd.bu (Kd.qG ho0 (g:=Dt) (o:=.cells #[.int .i64 a3] 2 (0,0)) (uB uS.out)) (af (uH HB.out)));replace nk:=xB nk hb;replace uS:=xB uS hb;replace HB:=xH HB hb;(try clear hb);(try clear ho0))));replace BM:=zA (Kd.gz BM.out);replace nk:=zA (bI nk.out);replace uS:=zA (bI uS.out);replace HB:=zA (aW HB.out);refine kE (n:=7) (S:=fun w'=>w'.cell? ⟨EE,0,none⟩ = some (.int .i64 au)∧w'.cell? ⟨EE,1,none⟩ = some (.slice bE av.length bD)∧w'.cell? ⟨Dt,0,none⟩ = some (.int .i64 a3)) (ds:=[]) #[false,false,false,false,false,false,false] (by kernel_rfl) rfl rfl ⟨bcu nk 0,bcu nk 1,bcu uS 0⟩ (fun hHeld=>?_);generalize w14.drew = w15 at BM nk uS HB hHeld ⊢;refine Aw (i:=2) (N:=some 25) (v:=?_) (a':=?_) (bl 7 4) rfl rfl (by kernel_rfl) (fun _ _ _ h=>h) (Or.inl ⟨by rfl,?_⟩) ?_ ?_;rotate_left
 ·intro w';go_simp;(with_reducible rfl)
 rotate_left
 ·simp only [Act.put,ls,lz,ln,iI,kz];rfl
 refine yY (i:=0) (N:=some 23) (v:=?_) (a':=?_) (bl 7 5) rfl rfl (by kernel_rfl) (fun _ _ _ h=>h) (Or.inl ⟨by rfl,?_⟩) hHeld ?_ ?_;rotate_left
 ·rintro w' ⟨s0,s1,s2⟩;go_simp;(with_reducible rfl)
 rotate_left
 ·simp only [Act.put,ls,lz,ln,iI,kz];rfl
 refine yY (i:=3) (N:=some 26) (v:=?_) (a':=?_) (bl 7 13) rfl rfl (by kernel_rfl) (fun _ _ _ h=>h) (Or.inl ⟨by rfl,?_⟩) hHeld ?_ ?_;rotate_left
 ·rintro w' ⟨s0,s1,s2⟩;go_simp;(with_reducible rfl)
 rotate_left
 ·simp only [Act.put,ls,lz,ln,iI,kz];rfl
 refine Ky (i:=1) (N:=some 24) (bl 7 15) rfl rfl (by kernel_rfl) (by decide) (fun K hK=>?_);refine gS Tryz.func21 #[.agg #[.int .i64 au,.slice bE av.length bD]] ?_;(with_reducible refine (bV.calls au _ _ av Ze _ ?side1 ?side2 A8.out).mono ?_);(case side1=>exact uC ((Kd.aM d9.out HB.out)));(case side2=>exact eD.out);rintro e w16 ⟨rfl,hb⟩;refine ⟨_,rfl,?_⟩;replace BM:=xR BM hb;replace nk:=xB nk hb;replace uS:=xB uS hb;replace HB:=xH HB hb;(try clear hb);obtain ⟨oJ,nY,PN⟩:=Kd.aV BM.out;(first | subst PN | (injection PN with f1_ f2_ f3_;have f4_:=f1_.symm;have f5_:=f3_.symm;clear f1_ f2_ f3_;subst f4_;subst f5_));refine hK.out _ _ ⟨bcu nk 0,bcu nk 1,bcu uS 0⟩ (fun hHeld=>?_);clear hK K;refine no_ 24 ?_;refine Ky (i:=4) (N:=some 27) (bl 7 31) rfl rfl (by kernel_rfl) (by decide) (fun K hK=>?_);refine gS Tryz.func23 #[.int .i64 Ze,.slice oJ adZ.length nY,.int .i64 a3] ?_;(with_reducible refine (iV.calls Ze _ _ adZ a3 aji _ ?side1 ?side2 A9.out).mono ?_);(case side1=>exact uC ((Kd.aC BM.out).2.2));(case side2=>exact (Kd.aC BM.out).2.1);rintro e w18 ⟨rfl,hb⟩;refine ⟨_,rfl,?_⟩;replace BM:=xR BM hb;replace nk:=xB nk hb;replace uS:=xB uS hb;replace HB:=xH HB hb;(try clear hb);refine hK.out _ _ ⟨bcu nk 0,bcu nk 1,bcu uS 0⟩ (fun hHeld=>?_);clear hK K;refine no_ 27 ?_;refine Aw (i:=5) (N:=some 8) (v:=?_) (a':=?_) (bl 7 63) rfl rfl (by kernel_rfl) (fun _ _ _ h=>h) (Or.inl ⟨by rfl,?_⟩) ?_ ?_;rotate_left
 ·intro w';go_simp;(with_reducible rfl)
 rotate_left
 ·simp only [Act.put,ls,lz,ln,iI,kz];rfl
 refine Aw (i:=6) (N:=some 9) (v:=?_) (a':=?_) (bl 7 127) rfl rfl (by kernel_rfl) (fun _ _ _ h=>h) (Or.inl ⟨by rfl,?_⟩) ?_ ?_;rotate_left
 ·intro w';go_simp;(with_reducible rfl)
 rotate_left
 ·simp only [Act.put,ls,lz,ln,iI,kz];rfl
 refine done_ (by kernel_rfl) ?_;(try go_wp2);go_ret2;exact ⟨eX,uH HB.out⟩
/-! ### oF: function 9 -/
def oF.f (k : Nat) (au : Int) (av : List Int) (a1 : Int) (a2 : Int) : Option (List Int × Int):=(jr.f k au av a1 a2 (rR.f.getD false) ([] : List (List Int))).bind fun agW=>(some (agW.1,agW.2))
theorem oF.calls (k : Nat) (au : Int) (bE : Option Addr) (bD : Nat) (av : List Int) (a1 : Int) (a2 : Int) (r1 : List Int) (r2 : Int) (w : World) (hr0_1 : Kd.C (Kd.int .i64) w bE av.length av) (gY : av.length ≤ bD) (H : oF.f k au av a1 a2 = some (r1,r2)) :
  Calls Tryz.prog 9 #[.agg #[.int .i64 au,.slice bE av.length bD],.int .i64 a1,.int .i64 a2] w fun e w'=>∃ v0_ : Value,e = .returned (.tuple #[v0_,.int .i64 r2])∧Kd.R (Kd.int .i64) 2 w' w.heap.size (fun _=>True) v0_ r1∧Below w.heap.size w w':=by
 have rF:=Tryz.underlying26;have d9:=zA hr0_1;have eD:=zA gY;clear hr0_1 gY;have HB:=zA (Below.refl w.heap.size w);unfold oF.f at H;replace H:=bO H;obtain ⟨⟨ayM,ayN⟩,A4,H⟩:=H;(try dsimp only at H);simp only [Option.some.injEq,Prod.mk.injEq] at H;obtain ⟨rfl,rfl⟩:=H;go_enter Tryz.func9,Tryz.ntmps9;go_wp2_with (first | ((with_reducible refine bP (N:=3) rfl ?_);refine bx 3 #[.int .i64 au,.slice bE av.length bD] 26 ?_;intro aCZ hg w5 hbox hb;have Le:=zA (hbox);have aoP:=gq HB hg;have:=geI aoP;replace HB:=xH HB hb;clear hb hbox hg;have R5:=bc Le 0;have R6:=bc Le 1;have R7:=bf Le 0;have R8:=bf Le 1) | ((with_reducible refine ae (f:=19) rfl ?_);refine gL (some 11) Tryz.func19 #[.agg #[.int .i64 au,.slice bE av.length bD],.int .i64 a1,.int .i64 a2,(.func (.func 27) #[] #[]),.slice none 0 0] ?_;(refine (jr.calls k au _ _ av a1 a2 _ (rR.f.getD false) _ _ ([] : List (List Int)) ayM ayN _ ?side1 ?side2 ?side3 ?side4 ?side5 A4.out).mono ?_);(case side1=>exact uC ((Kd.aM d9.out HB.out)));(case side2=>exact eD.out);(case side3=>exact FnB.of Tryz.func27 (by kernel_rfl) rfl (fun W_ hW_=>cz (args':=#[]) (by simp) ((rR.calls  _ W_  rfl).mono fun e_ W2_ h_=>⟨h_.1,h_.2.below⟩)));(case side4=>exact Kd.ED _ _);(case side5=>exact Nat.le_refl _);rintro e w7 ⟨aEV,rfl,ho0,hb⟩;refine ⟨_,rfl,?_⟩;have aoQ:=zA (Kd.bu ho0 (af (uH HB.out)));replace Le:=xB Le hb;replace HB:=xH HB hb;(try clear hb);(try clear ho0)));go_ret2;exact ⟨_,eX,uR aoQ.out,uH HB.out⟩
/-! ### dZ: function 13 -/
def dZ.f (k : Nat) (au : Int) (av : List Int) (a1 : Int) (l2 : List Int) (a3 : Int) : Option (Int × Int):=(jT.f l2 a1).bind fun ad1=>((jr.f k au av a1 a3 ad1 (([l2] : List (List Int)))).bind fun Zk=>(if Zk.2 = 0 then ((bV.f au av).bind fun Zl=>((aN.f k Zl Zk.1 l2).bind fun Zm=>((bv.f k au av Zm).bind fun ajj=>(some (ajj,0))))) else (some (0,Zk.2))))
def dZ.T4 : Bool × List (List Nat × List Nat):=(true,[([],[]),([],[]),([1],[1]),([],[]),([],[]),([2,3,4,2],[2,3,4]),([0,5,5],[0,5]),([6,6,0,1,2,3,4,5,6],[6]),([7,0,1,2,3,4,5,6,7],[])])
def dZ.B4 : List Nat:=[0,0,2,0,0,30,63,127,255]
theorem dZ.ayO : nu .any (opsOf Tryz.f13 4) = dZ.T4:=by kernel_rfl
theorem dZ.aoR : jO dZ.T4.2 dZ.B4 = true:=by kernel_rfl
theorem dZ.calls (k : Nat) (au : Int) (bE : Option Addr) (bD : Nat) (av : List Int) (a1 : Int) (P2_ : Nat → Prop) (A2 : Option Addr) (c2 : Nat) (l2 : List Int) (a3 : Int) (r1 : Int) (r2 : Int) (w : World) (hr0_1 : Kd.C (Kd.int .i64) w bE av.length av) (gY : av.length ≤ bD) (hs2 : Kd.V (Kd.int .i64) 2 w w.heap.size (fun k_=>P2_ k_) (.slice A2 l2.length c2) l2) (H : dZ.f k au av a1 l2 a3 = some (r1,r2)) :
  Calls Tryz.prog 13 #[.agg #[.int .i64 au,.slice bE av.length bD],.int .i64 a1,.slice A2 l2.length c2,.int .i64 a3] w fun e w'=>e = .returned (.tuple #[.int .i64 r1,.int .i64 r2])∧Below w.heap.size w w':=by
 have rF:=Tryz.underlying26;have hmf : ∀ (fn_ : Fn) (first_ cap_ : Array Value) (w_ : World),(Instr.makeFunc fn_ first_ cap_).run Tryz.prog w_ = .ok (.func fn_ first_ cap_) w_:=fun _ _ _ _=>rfl;have d9:=zA hr0_1;have eD:=zA gY;clear hr0_1 gY;have HO2:=zA (show Kd.V (Kd.int .i64) 2 w w.heap.size (fun k_=>(P2_ k_ ∨ w.heap.size ≤ k_)) (.slice A2 l2.length c2) l2 from Kd.iK hs2 (fun k_ hk=>.inl hk));have HB:=zA (Below.refl w.heap.size w);unfold dZ.f at H;replace H:=bO H;obtain ⟨ad1,A5,H⟩:=H;obtain ⟨ad2,PW⟩:=eY ([l2] : List (List Int));(try rw [←PW.out] at H);replace H:=bO H;obtain ⟨⟨ad3,aoS⟩,A6,H⟩:=H;(try dsimp only at H);replace H:=gE H;obtain ⟨c7,yQ,Bb,H⟩|⟨c7,yQ,Bb,H⟩:=H
 ·simp only [Option.some.injEq,Prod.mk.injEq] at H;obtain ⟨rfl,rfl⟩:=H;go_enter Tryz.func13,Tryz.ntmps13;go_wp2_with (first | (refine bX 4 rfl #[.int .i64 au,.slice bE av.length bD] 26 ?_;intro wy w30 hg jV hb;replace HO2:=zA (Kd.jd (Kd.rH (uV HO2.out) wy (Nat.le_of_eq hg.symm)) hb);have Zn:=gq HB hg;have:=geI Zn;replace HB:=xH HB hb;clear hb hg) | (refine bX 5 rfl #[.int .i64 a1] 2 ?_;intro ry w31 hg mM hb;replace HO2:=zA (Kd.jd (Kd.rH (uV HO2.out) ry (Nat.le_of_eq hg.symm)) hb);have Zo:=gq HB hg;have:=geI Zo;have Zp:=gq HB hg;replace HB:=xH HB hb;have FU:=nL jV hg;have FV:=nG jV hg;replace jV:=xB jV hb;have:=geI Zp;clear hb hg) | ((with_reducible refine bP (N:=6) rfl ?_);refine bx 6 #[.slice A2 l2.length c2] 24 ?_;intro sN hg w32 hbox hb;replace HO2:=zA (Kd.jd (Kd.rH (uV HO2.out) sN (Nat.le_of_eq hg.symm)) hb);have oW:=zA (hbox);have Zq:=gq HB hg;have:=geI Zq;have Zr:=gq HB hg;replace HB:=xH HB hb;have FW:=nL jV hg;have FX:=nG jV hg;replace jV:=xB jV hb;have FY:=nL mM hg;have FZ:=nG mM hg;replace mM:=xB mM hb;have:=geI Zr;clear hb hbox hg;have agS:=FU.out;have agT:=FV.out;have aoT:=FW.out;have aoU:=FX.out;have NM:=bc jV 0;have U5:=bc jV 1;have NN:=bf jV 0;have U6:=bf jV 1;have aoV:=FY.out;have aoW:=FZ.out;have U7:=bc mM 0;have U8:=bf mM 0;have avS:=bc oW 0;have avT:=bf oW 0) | ((with_reducible refine bP (N:=18) rfl ?_);refine Kd.U9 (Kd.slice 2 (Kd.int .i64)) _ 24 ?hg (N':=18) ?hd (xs:=([l2] : List (List Int))) (inner:=[.slice A2 l2.length c2]) (ok:=(fun k_=>(P2_ k_ ∨ w.heap.size ≤ k_)∧k_ ≠ wy∧k_ ≠ ry∧k_ ≠ sN)) (okp:=(fun k_=>(P2_ k_ ∨ w.heap.size ≤ k_)∧k_ ≠ wy∧k_ ≠ ry∧k_ ≠ sN)) ?hr ?hp (fun _ hk=>hk) ((show ∀ k_,w32.heap.size ≤ k_ → (fun k_=>(P2_ k_ ∨ w.heap.size ≤ k_)∧k_ ≠ wy∧k_ ≠ ry∧k_ ≠ sN) k_ from fun k_ hk=>⟨(.inr (Nat.le_trans (af (uH HB.out)) hk)),Kd.lI (g:=wy) (o:=.cells #[.int .i64 au,.slice bE av.length bD] 26 (0,0)) (uB jV.out) k_ hk,Kd.lI (g:=ry) (o:=.cells #[.int .i64 a1] 2 (0,0)) (uB mM.out) k_ hk,Kd.lI (g:=sN) (o:=.cells #[.slice A2 l2.length c2] 24 (0,0)) (uB oW.out) k_ hk⟩) _ (Nat.le_refl _)) (Below.refl _ _) (Nat.le_refl _) (by simp) ?_;(case hd=>rfl);(case hg=>rfl);(case hr=>first | (go_simp;done) | (go_simp;rfl));(case hp=>exact (dh.one (show Kd.FK (Kd.slice 2 (Kd.int .i64)) _ _ l2 [.slice A2 l2.length c2] from (Kd.qw (Kd.mJ (Kd.iK (ok':=(fun k_=>(P2_ k_ ∨ w.heap.size ≤ k_)∧k_ ≠ wy∧k_ ≠ ry∧k_ ≠ sN)) (HO2.out) (fun k_ ⟨⟨⟨a,b⟩,c⟩,d⟩=>⟨a,b,c,d⟩))).2.1 (Kd.V_F (Kd.iK (ok':=(fun k_=>(P2_ k_ ∨ w.heap.size ≤ k_)∧k_ ≠ wy∧k_ ≠ ry∧k_ ≠ sN)) (HO2.out) (fun k_ ⟨⟨⟨a,b⟩,c⟩,d⟩=>⟨a,b,c,d⟩))))) (dh.none _ _)));intro ayP w39 Xb hb hg_ hnew_;clear hg_ hnew_;(first | rw [← PW.out] at Xb | (simp only [Int.reduceToNat] at Xb;rw [← PW.out] at Xb));replace HO2:=zA (Kd.fG (uV HO2.out) (Kd.Mh Xb) hb);have uh:=zA (Kd.yw Xb (af (uH HB.out)));replace jV:=xB jV hb;replace mM:=xB mM hb;replace oW:=xB oW hb;replace HB:=xH HB hb;clear hb Xb;obtain ⟨ad4,ad5,ajk⟩:=Kd.vQ uh.out;subst ajk) | ((with_reducible refine ae (f:=19) rfl ?_);refine gL (some 19) Tryz.func19 #[.agg #[.int .i64 au,.slice bE av.length bD],.int .i64 a1,.int .i64 a3,(.func (.func 32) #[] #[.pointer (some ⟨sN,0,none⟩),.pointer (some ⟨ry,0,none⟩)]),.slice ad4 ad2.length ad5] ?_;(with_reducible refine (jr.calls k au _ _ av a1 a3 _ ad1 _ _ ad2 ad3 aoS _ ?side1 ?side2 ?side3 ?side4 ?side5 A6.out).mono ?_);(case side1=>exact uC ((Kd.aM d9.out HB.out)));(case side2=>exact eD.out);(case side3=>exact FnB.of Tryz.func32 (by kernel_rfl) rfl (fun W_ hW_=>cz (args':=#[.pointer (some ⟨sN,0,none⟩),.pointer (some ⟨ry,0,none⟩)]) (by simp) ((jT.calls _ _ _ l2 _ a1 _ W_ (bM (g:=sN) (o:=.cells #[.slice A2 l2.length c2] 24 (0,0)) (uB oW.out) hW_) (Kd.aM (by exact uC ((Kd.mJ HO2.out).2.2)) hW_) (by exact (Kd.mJ HO2.out).2.1) (bM (g:=ry) (o:=.cells #[.int .i64 a1] 2 (0,0)) (uB mM.out) hW_) A5.out).mono fun e_ W2_ h_=>⟨h_.1,h_.2.below⟩)));(case side4=>exact uC ((Kd.jb uh.out).2.2));(case side5=>exact (Kd.jb uh.out).2.1);rintro e w42 ⟨ayQ,rfl,ho0,hb⟩;refine ⟨_,rfl,?_⟩;replace HO2:=zA (Kd.fG (uV HO2.out) (Kd.aH ho0) hb);replace uh:=zA (Kd.nZ (uN uh.out) (Kd.aH ho0) hb);have yx:=zA (Kd.bu (Kd.qG (Kd.kL (M:=fun k_=>(w.heap.size ≤ k_)) ho0 (af (uH HB.out)) (fun k_ h_=>h_)) (g:=ry) (o:=.cells #[.int .i64 a1] 2 (0,0)) (uB mM.out)) (af (uH HB.out)));replace jV:=xB jV hb;replace mM:=xB mM hb;replace oW:=xB oW hb;replace HB:=xH HB hb;(try clear hb);(try clear hk);(try clear ho0)));go_ret2;exact ⟨eX,uH HB.out⟩
 clear c7;replace H:=bO H;obtain ⟨Zl,A8,H⟩:=H;replace H:=bO H;obtain ⟨Zm,A9,H⟩:=H;replace H:=bO H;obtain ⟨ajj,A10,H⟩:=H;simp only [Option.some.injEq,Prod.mk.injEq] at H;obtain ⟨rfl,rfl⟩:=H;go_enter Tryz.func13,Tryz.ntmps13;(try go_wp2_with (first | (refine bX 4 rfl #[.int .i64 au,.slice bE av.length bD] 26 ?_;intro wy w11 hg jV hb;replace HO2:=zA (Kd.jd (Kd.rH (uV HO2.out) wy (Nat.le_of_eq hg.symm)) hb);have Zn:=gq HB hg;have:=geI Zn;replace HB:=xH HB hb;clear hb hg) | (refine bX 5 rfl #[.int .i64 a1] 2 ?_;intro ry w12 hg mM hb;replace HO2:=zA (Kd.jd (Kd.rH (uV HO2.out) ry (Nat.le_of_eq hg.symm)) hb);have Zo:=gq HB hg;have:=geI Zo;have Zp:=gq HB hg;replace HB:=xH HB hb;have FU:=nL jV hg;have FV:=nG jV hg;replace jV:=xB jV hb;have:=geI Zp;clear hb hg) | ((with_reducible refine bP (N:=6) rfl ?_);refine bx 6 #[.slice A2 l2.length c2] 24 ?_;intro sN hg w13 hbox hb;replace HO2:=zA (Kd.jd (Kd.rH (uV HO2.out) sN (Nat.le_of_eq hg.symm)) hb);have oW:=zA (hbox);have Zq:=gq HB hg;have:=geI Zq;have Zr:=gq HB hg;replace HB:=xH HB hb;have FW:=nL jV hg;have FX:=nG jV hg;replace jV:=xB jV hb;have FY:=nL mM hg;have FZ:=nG mM hg;replace mM:=xB mM hb;have:=geI Zr;clear hb hbox hg;have aoX:=FU.out;have aoY:=FV.out;have UV:=FW.out;have UW:=FX.out;have EH:=bc jV 0;have NP:=bc jV 1;have EI:=bf jV 0;have NQ:=bf jV 1;have agN:=FY.out;have agO:=FZ.out;have Ad:=bc mM 0;have Ae:=bf mM 0;have Hr:=bc oW 0;have Ht:=bf oW 0) | ((with_reducible refine bP (N:=18) rfl ?_);refine Kd.U9 (Kd.slice 2 (Kd.int .i64)) _ 24 ?hg (N':=18) ?hd (xs:=([l2] : List (List Int))) (inner:=[.slice A2 l2.length c2]) (ok:=(fun k_=>(P2_ k_ ∨ w.heap.size ≤ k_)∧k_ ≠ wy∧k_ ≠ ry∧k_ ≠ sN)) (okp:=(fun k_=>(P2_ k_ ∨ w.heap.size ≤ k_)∧k_ ≠ wy∧k_ ≠ ry∧k_ ≠ sN)) ?hr ?hp (fun _ hk=>hk) ((show ∀ k_,w13.heap.size ≤ k_ → (fun k_=>(P2_ k_ ∨ w.heap.size ≤ k_)∧k_ ≠ wy∧k_ ≠ ry∧k_ ≠ sN) k_ from fun k_ hk=>⟨(.inr (Nat.le_trans (af (uH HB.out)) hk)),Kd.lI (g:=wy) (o:=.cells #[.int .i64 au,.slice bE av.length bD] 26 (0,0)) (uB jV.out) k_ hk,Kd.lI (g:=ry) (o:=.cells #[.int .i64 a1] 2 (0,0)) (uB mM.out) k_ hk,Kd.lI (g:=sN) (o:=.cells #[.slice A2 l2.length c2] 24 (0,0)) (uB oW.out) k_ hk⟩) _ (Nat.le_refl _)) (Below.refl _ _) (Nat.le_refl _) (by simp) ?_;(case hd=>rfl);(case hg=>rfl);(case hr=>first | (go_simp;done) | (go_simp;rfl));(case hp=>exact (dh.one (show Kd.FK (Kd.slice 2 (Kd.int .i64)) _ _ l2 [.slice A2 l2.length c2] from (Kd.qw (Kd.mJ (Kd.iK (ok':=(fun k_=>(P2_ k_ ∨ w.heap.size ≤ k_)∧k_ ≠ wy∧k_ ≠ ry∧k_ ≠ sN)) (HO2.out) (fun k_ ⟨⟨⟨a,b⟩,c⟩,d⟩=>⟨a,b,c,d⟩))).2.1 (Kd.V_F (Kd.iK (ok':=(fun k_=>(P2_ k_ ∨ w.heap.size ≤ k_)∧k_ ≠ wy∧k_ ≠ ry∧k_ ≠ sN)) (HO2.out) (fun k_ ⟨⟨⟨a,b⟩,c⟩,d⟩=>⟨a,b,c,d⟩))))) (dh.none _ _)));intro ayP w20 Xc hb hg_ hnew_;clear hg_ hnew_;(first | rw [← PW.out] at Xc | (simp only [Int.reduceToNat] at Xc;rw [← PW.out] at Xc));replace HO2:=zA (Kd.fG (uV HO2.out) (Kd.Mh Xc) hb);have uh:=zA (Kd.yw Xc (af (uH HB.out)));replace jV:=xB jV hb;replace mM:=xB mM hb;replace oW:=xB oW hb;replace HB:=xH HB hb;clear hb Xc;obtain ⟨lq,kV,ND⟩:=Kd.vQ uh.out;subst ND) | ((with_reducible refine ae (f:=19) rfl ?_);refine gL (some 19) Tryz.func19 #[.agg #[.int .i64 au,.slice bE av.length bD],.int .i64 a1,.int .i64 a3,(.func (.func 32) #[] #[.pointer (some ⟨sN,0,none⟩),.pointer (some ⟨ry,0,none⟩)]),.slice lq ad2.length kV] ?_;(with_reducible refine (jr.calls k au _ _ av a1 a3 _ ad1 _ _ ad2 ad3 aoS _ ?side1 ?side2 ?side3 ?side4 ?side5 A6.out).mono ?_);(case side1=>exact uC ((Kd.aM d9.out HB.out)));(case side2=>exact eD.out);(case side3=>exact FnB.of Tryz.func32 (by kernel_rfl) rfl (fun W_ hW_=>cz (args':=#[.pointer (some ⟨sN,0,none⟩),.pointer (some ⟨ry,0,none⟩)]) (by simp) ((jT.calls _ _ _ l2 _ a1 _ W_ (bM (g:=sN) (o:=.cells #[.slice A2 l2.length c2] 24 (0,0)) (uB oW.out) hW_) (Kd.aM (by exact uC ((Kd.mJ HO2.out).2.2)) hW_) (by exact (Kd.mJ HO2.out).2.1) (bM (g:=ry) (o:=.cells #[.int .i64 a1] 2 (0,0)) (uB mM.out) hW_) A5.out).mono fun e_ W2_ h_=>⟨h_.1,h_.2.below⟩)));(case side4=>exact uC ((Kd.jb uh.out).2.2));(case side5=>exact (Kd.jb uh.out).2.1);rintro e w23 ⟨ayQ,rfl,ho0,hb⟩;refine ⟨_,rfl,?_⟩;replace HO2:=zA (Kd.fG (uV HO2.out) (Kd.aH ho0) hb);replace uh:=zA (Kd.nZ (uN uh.out) (Kd.aH ho0) hb);have yx:=zA (Kd.bu (Kd.qG (Kd.kL (M:=fun k_=>(w.heap.size ≤ k_)) ho0 (af (uH HB.out)) (fun k_ h_=>h_)) (g:=ry) (o:=.cells #[.int .i64 a1] 2 (0,0)) (uB mM.out)) (af (uH HB.out)));replace jV:=xB jV hb;replace mM:=xB mM hb;replace oW:=xB oW hb;replace HB:=xH HB hb;(try clear hb);(try clear hk);(try clear ho0))));replace HO2:=zA (Kd.jA HO2.out);replace uh:=zA (Kd.nW uh.out);replace yx:=zA (Kd.gz yx.out);replace jV:=zA (bI jV.out);replace mM:=zA (bI mM.out);replace oW:=zA (bI oW.out);replace HB:=zA (aW HB.out);refine kE (n:=9) (S:=fun w'=>w'.cell? ⟨wy,0,none⟩ = some (.int .i64 au)∧w'.cell? ⟨wy,1,none⟩ = some (.slice bE av.length bD)∧w'.cell? ⟨sN,0,none⟩ = some (.slice A2 l2.length c2)) (ds:=[]) #[false,false,false,false,false,false,false,false,false] (by kernel_rfl) rfl rfl ⟨bcu jV 0,bcu jV 1,bcu oW 0⟩ (fun hHeld=>?_);refine gX dZ.ayO dZ.aoR (fun HT_ HW_=>?_);generalize w23.drew = w24 at HO2 uh yx jV mM oW HB hHeld ⊢;refine pu_ 3 28 (bl 9 8) HT_ ?_;refine ta_ 0 25 (bl 9 9) HT_ HW_ hHeld ?_;refine ta_ 1 26 (bl 9 11) HT_ HW_ hHeld ?_;refine ta_ 4 29 (bl 9 27) HT_ HW_ hHeld ?_;refine on_ 2 (some 27) (bl 9 31) HT_ (fun K hK=>?_);refine gS Tryz.func21 #[.agg #[.int .i64 au,.slice bE av.length bD]] ?_;(with_reducible refine (bV.calls au _ _ av Zl _ ?side1 ?side2 A8.out).mono ?_);(case side1=>exact uC ((Kd.aM d9.out HB.out)));(case side2=>exact eD.out);rintro e w25 ⟨rfl,hb⟩;refine ⟨_,rfl,?_⟩;replace HO2:=zA (Kd.jd (uV HO2.out) hb);replace uh:=zA (Kd.kT (uN uh.out) hb);replace yx:=xR yx hb;replace jV:=xB jV hb;replace mM:=xB mM hb;replace oW:=xB oW hb;replace HB:=xH HB hb;(try clear hb);obtain ⟨ayR,ayS,aoZ⟩:=Kd.aV yx.out;(first | subst aoZ | (injection aoZ with f1_ f2_ f3_;have f4_:=f1_.symm;have f5_:=f3_.symm;clear f1_ f2_ f3_;subst f4_;subst f5_));refine hK.out _ _ ⟨bcu jV 0,bcu jV 1,bcu oW 0⟩ (fun hHeld=>?_);clear hK K;refine no_ 27 ?_;refine on_ 5 (some 30) (bl 9 63) HT_ (fun K hK=>?_);refine gS Tryz.func35 #[.int .i64 Zl,.slice ayR ad3.length ayS,.slice A2 l2.length c2] ?_;(with_reducible refine (aN.calls k Zl _ _ ad3 _ _ l2 Zm _ ?side1 ?side2 ?side3 ?side4 A9.out).mono ?_);(case side1=>exact uC ((Kd.aC yx.out).2.2));(case side2=>exact (Kd.aC yx.out).2.1);(case side3=>exact uC ((Kd.mJ HO2.out).2.2));(case side4=>exact (Kd.mJ HO2.out).2.1);rintro e w27 ⟨aEW,rfl,ho0,hb⟩;refine ⟨_,rfl,?_⟩;replace HO2:=zA (Kd.fG (uV HO2.out) (Kd.aH ho0) hb);replace uh:=zA (Kd.nZ (uN uh.out) (Kd.aH ho0) hb);have PX:=zA (Kd.bu (Kd.qG (nw (Kd.kL (M:=fun k_=>(w.heap.size ≤ k_)) ho0 (af (uH HB.out)) (fun k_ h_=>h_)) (uR yx.out)) (g:=ry) (o:=.cells #[.int .i64 a1] 2 (0,0)) (uB mM.out)) (af (uH HB.out)));replace yx:=zA (Kd.aD (uR yx.out) (Kd.aH ho0) hb);replace jV:=xB jV hb;replace mM:=xB mM hb;replace oW:=xB oW hb;replace HB:=xH HB hb;(try clear hb);(try clear ho0);obtain ⟨ac5,Pj,ao0⟩:=Kd.aV PX.out;(first | subst ao0 | (injection ao0 with f1_ f2_ f3_;have f4_:=f1_.symm;have f5_:=f3_.symm;clear f1_ f2_ f3_;subst f4_;subst f5_));refine hK.out _ _ ⟨bcu jV 0,bcu jV 1,bcu oW 0⟩ (fun hHeld=>?_);clear hK K;refine no_ 30 ?_;refine on_ 6 (some 31) (bl 9 127) HT_ (fun K hK=>?_);refine gS Tryz.func34 #[.agg #[.int .i64 au,.slice bE av.length bD],.slice ac5 Zm.length Pj] ?_;(with_reducible refine (bv.calls k au _ _ av _ _ Zm ajj _ ?side1 ?side2 ?side3 ?side4 A10.out).mono ?_);(case side1=>exact uC ((Kd.aM d9.out HB.out)));(case side2=>exact eD.out);(case side3=>exact uC ((Kd.aC PX.out).2.2));(case side4=>exact (Kd.aC PX.out).2.1);rintro e w29 ⟨rfl,hb⟩;refine ⟨_,rfl,?_⟩;replace HO2:=zA (Kd.jd (uV HO2.out) hb);replace uh:=zA (Kd.kT (uN uh.out) hb);replace yx:=xR yx hb;replace PX:=xR PX hb;replace jV:=xB jV hb;replace mM:=xB mM hb;replace oW:=xB oW hb;replace HB:=xH HB hb;(try clear hb);refine hK.out _ _ ⟨bcu jV 0,bcu jV 1,bcu oW 0⟩ (fun hHeld=>?_);clear hK K;refine no_ 31 ?_;refine pu_ 7 8 (bl 9 255) HT_ ?_;refine pu_ 8 9 (bl 9 511) HT_ ?_;refine done_ (done_of HT_.out (by kernel_rfl)) ?_;(try go_wp2);go_ret2;exact ⟨eX,uH HB.out⟩
/-! ### fA: function 16 -/
def fA.f (k : Nat) (au : Int) (av : List Int) (a1 : Int) : Option (List Int × Int):=(ek.f a1).bind fun PY=>((fo.f k au av PY ([] : List (List Int))).bind fun Af=>(if Af = 0 then ((aA.f k au av a1).bind fun xW=>(if xW.2.2.2.2.2 = true then (if 0 ≤ a1 then (if a1 < (xW.1.length : Int) then (some (dQ xW.1 a1,0)) else (none)) else (none)) else (some (([] : List Int),5)))) else (some (([] : List Int),Af))))
set_option maxHeartbeats 8000000 in
set_option maxRecDepth 100000 in
theorem fA.calls (k : Nat) (au : Int) (bE : Option Addr) (bD : Nat) (av : List Int) (a1 : Int) (r1 : List Int) (r2 : Int) (w : World) (hr0_1 : Kd.C (Kd.int .i64) w bE av.length av) (gY : av.length ≤ bD) (h : fA.f k au av a1 = some (r1,r2)) :
  Calls Tryz.prog 16 #[.agg #[.int .i64 au,.slice bE av.length bD],.int .i64 a1] w fun e w'=>∃ v0_ : Value,e = .returned (.tuple #[v0_,.int .i64 r2])∧Kd.R (Kd.int .i64) 2 w' w.heap.size (fun _=>True) v0_ r1∧Below w.heap.size w w':=by
 have rF:=Tryz.underlying26
 have ai1:=Tryz.underlying68
 have hmf : ∀ (fn_ : Fn) (first_ cap_ : Array Value) (w_ : World),(Instr.makeFunc fn_ first_ cap_).run Tryz.prog w_ = .ok (.func fn_ first_ cap_) w_:=fun _ _ _ _=>rfl
 have d9:=zA hr0_1
 have eD:=zA gY
 clear hr0_1 gY
 have HB:=zA (Below.refl w.heap.size w)
 have H : ((ek.f a1).bind fun PY=>((fo.f k au av PY ([] : List (List Int))).bind fun Af=>(if Af = 0 then ((aA.f k au av a1).bind fun xW=>(if xW.2.2.2.2.2 = true then (if 0 ≤ a1 then (if a1 < (xW.1.length : Int) then (some (dQ xW.1 a1,0)) else (none)) else (none)) else (some (([] : List Int),5)))) else (some (([] : List Int),Af))))) = some (r1,r2):=h
 clear h
 replace H:=Option.bind_eq_some_iff.mp H
 obtain ⟨PY,A30,H⟩:=H
 replace H : ((fo.f k au av PY ([] : List (List Int))).bind fun Af=>(if Af = 0 then ((aA.f k au av a1).bind fun xW=>(if xW.2.2.2.2.2 = true then (if 0 ≤ a1 then (if a1 < (xW.1.length : Int) then (some (dQ xW.1 a1,0)) else (none)) else (none)) else (some (([] : List Int),5)))) else (some (([] : List Int),Af)))) = some (r1,r2):=H
 have A3:=zA A30
 clear A30
 replace H:=Option.bind_eq_some_iff.mp H
 obtain ⟨Af,A40,H⟩:=H
 replace H : (if Af = 0 then ((aA.f k au av a1).bind fun xW=>(if xW.2.2.2.2.2 = true then (if 0 ≤ a1 then (if a1 < (xW.1.length : Int) then (some (dQ xW.1 a1,0)) else (none)) else (none)) else (some (([] : List Int),5)))) else (some (([] : List Int),Af))) = some (r1,r2):=H
 have A4:=zA A40
 clear A40
 by_cases c5 : Af = 0
 ·rw [if_pos c5] at H
  have ny : (Af == 0) = true:=beq_iff_eq.mpr c5
  have vY : (Af != 0) = false:=bne_eq_false_iff_eq.mpr c5
  clear c5
  replace H:=Option.bind_eq_some_iff.mp H
  obtain ⟨⟨yn,BN,JH,DV,EJ,ao1⟩,A60,H⟩:=H
  replace H : (if ao1 = true then (if 0 ≤ a1 then (if a1 < (yn.length : Int) then (some (dQ yn a1,0)) else (none)) else (none)) else (some (([] : List Int),5))) = some (r1,r2):=H
  have A6:=zA A60
  clear A60
  by_cases c7 : ao1 = true
  ·subst c7
   have H1 : (if 0 ≤ a1 then (if a1 < (yn.length : Int) then (some (dQ yn a1,0)) else (none)) else (none)) = some (r1,r2):=by rw [if_pos rfl] at H;exact H
   clear H
   have H:=H1
   clear H1
   by_cases c8 : 0 ≤ a1
   ·rw [if_pos c8] at H
    have ym : decide (0 ≤ a1) = true:=decide_eq_true c8
    clear c8
    by_cases c9 : a1 < (yn.length : Int)
    ·rw [if_pos c9] at H
     have DD : decide (a1 < (yn.length : Int)) = true:=decide_eq_true c9
     clear c9
     simp only [Option.some.injEq,Prod.mk.injEq] at H
     obtain ⟨rfl,rfl⟩:=H
     go_enter Tryz.func16,Tryz.ntmps16
     go_wp2_with (first | ((with_reducible refine bP (N:=2) rfl ?_);refine qV ?hg (N:=2) ?hd (cs:=#[.int .i64 au,.slice bE av.length bD]) (t:=26) ?hr ?_;(case hd=>rfl);(case hg=>rfl);(case hr=>first | (go_simp;done) | (go_simp;rfl));intro nT hg w10 hbox hb;have n0_:=xH HB hb;have n1_:=zA (hbox);have n2_:=zA ((by rw [hg];exact (af (uH HB.out)) : w.heap.size ≤ nT));have n3_:=zA ((by rw [hg];exact (af (uH HB.out)) : w.heap.size ≤ nT));clear HB;have HB:=n0_;have iO:=n1_;have agX:=n2_;have PZ:=n3_;have:=geI PZ;clear n0_ n1_ n2_ n3_ hb hbox hg) | ((with_reducible refine bP (N:=3) rfl ?_);refine qV ?hg (N:=3) ?hd (cs:=#[.int .i64 a1]) (t:=2) ?hr ?_;(case hd=>rfl);(case hg=>rfl);(case hr=>first | (go_simp;done) | (go_simp;rfl));intro kX hg w11 hbox hb;have n0_:=xB iO hb;have n1_:=xH HB hb;have n2_:=zA (hbox);have n3_:=zA ((by rw [hg];exact (af (uH HB.out)) : w.heap.size ≤ kX));have n4_:=zA ((by rw [hg];exact (af (uH HB.out)) : w.heap.size ≤ kX));have n5_:=zA ((by rw [hg];exact neL iO : nT ≠ kX));have n6_:=zA ((by rw [hg];exact neG iO : kX ≠ nT));clear iO HB;have iO:=n0_;have HB:=n1_;have kQ:=n2_;have agY:=n3_;have P5:=n4_;have:=geI P5;have zt:=n5_;have zu:=n6_;clear n0_ n1_ n2_ n3_ n4_ n5_ n6_ hb hbox hg;have Zi:=zt.out;have Zj:=zu.out;have mD : w11.cell? ⟨nT,0,none⟩ = some (.int .i64 au):=(bT iO.out 0).trans rfl;have mE : w11.cell? ⟨nT,1,none⟩ = some (.slice bE av.length bD):=(bT iO.out 1).trans rfl;have mF:=dz iO.out 0;have mG:=dz iO.out 1) | ((with_reducible refine ae (f:=42) rfl ?_);refine uw (some 11) rfl rfl Tryz.func42 (by kernel_rfl) rfl #[.agg #[.int .i64 au,.slice bE av.length bD],(.func (.func 43) #[] #[.pointer (some ⟨kX,0,none⟩)]),.slice none 0 0] rfl (by (try simp only [la,lb,lc]);first | done | rfl | (simp only [ld,le];rfl)) ?_;(refine (fo.calls k au _ _ av _ PY _ _ ([] : List (List Int)) Af _ ?side1 ?side2 ?side3 ?side4 ?side5 A4.out).mono ?_);(case side1=>exact uC ((Kd.aM d9.out HB.out)));(case side2=>exact eD.out);(case side3=>exact FnB.of Tryz.func43 (by kernel_rfl) rfl (fun W_ hW_=>cz (args':=#[.pointer (some ⟨kX,0,none⟩)]) (by simp) ((ek.calls _ a1 _ W_ (bM (g:=kX) (o:=.cells #[.int .i64 a1] 2 (0,0)) (uB kQ.out) hW_) A3.out).mono fun e_ W2_ h_=>⟨h_.1,h_.2.below⟩)));(case side4=>exact Kd.ED _ _);(case side5=>exact Nat.le_refl _);rintro e w14 ⟨rfl,hb⟩;refine ⟨_,rfl,?_⟩;have n0_:=xB iO hb;have n1_:=xB kQ hb;have n2_:=xH HB hb;clear iO kQ HB;have iO:=n0_;have kQ:=n1_;have HB:=n2_;clear n0_ n1_ n2_;(try clear hb);(try clear hb2);(try clear hk);(try clear hi);have Ui : w14.cell? ⟨nT,0,none⟩ = some (.int .i64 au):=(bT iO.out 0).trans rfl;have adg : w14.cell? ⟨nT,1,none⟩ = some (.slice bE av.length bD):=(bT iO.out 1).trans rfl;have Uj:=dz iO.out 0;have adh:=dz iO.out 1;have EH : w14.cell? ⟨kX,0,none⟩ = some (.int .i64 a1):=(bT kQ.out 0).trans rfl;have EI:=dz kQ.out 0) | ((with_reducible refine ae (f:=45) rfl ?_);refine uw (some 18) rfl rfl Tryz.func45 (by kernel_rfl) rfl #[.agg #[.int .i64 au,.slice bE av.length bD],.int .i64 a1] rfl (by (try simp only [la,lb,lc]);first | done | rfl | (simp only [ld,le];rfl)) ?_;(with_reducible refine (aA.R9 k au _ _ av a1 yn BN JH DV EJ true _ ?side1 ?side2 A6.out).mono ?_);(case side1=>exact uC ((Kd.aM d9.out HB.out)));(case side2=>exact eD.out);rintro e w17 ⟨ayT,Sa,Sb,Sd,rfl,ho0,ho1,ho2,ho3,hb⟩;refine ⟨_,rfl,?_⟩;have n0_:=zA (Kd.bu (Kd.ag (ok':=fun k_=>(w.heap.size ≤ k_)∧some k_ ≠ (Sa : Value).ownBlock∧some k_ ≠ (Sb : Value).ownBlock∧some k_ ≠ (Sd : Value).ownBlock∧k_ ≠ nT∧k_ ≠ kX) ho0 (fun k_ hk_=>⟨(Nat.le_trans (af (uH HB.out)) hk_.1),hk_.2.1,hk_.2.2.1,hk_.2.2.2,(Kd.lI (g:=nT) (o:=.cells #[.int .i64 au,.slice bE av.length bD] 26 (0,0)) (uB iO.out) k_ hk_.1),(Kd.lI (g:=kX) (o:=.cells #[.int .i64 a1] 2 (0,0)) (uB kQ.out) k_ hk_.1)⟩)) (af (uH HB.out)));have n1_:=zA (Kd.bu (Kd.qG (Kd.kL (M:=fun k_=>(w.heap.size ≤ k_)) (Kd.ag (ok':=fun k_=>some k_ ≠ (Sb : Value).ownBlock∧some k_ ≠ (Sd : Value).ownBlock) ho1 (fun _ hk_=>hk_.2)) (af (uH HB.out)) (fun k_ h_=>h_)) (g:=kX) (o:=.cells #[.int .i64 a1] 2 (0,0)) (uB kQ.out)) (af (uH HB.out)));have n2_:=zA (Kd.bu (Kd.qG (Kd.kL (M:=fun k_=>(w.heap.size ≤ k_)) (Kd.ag (ok':=fun k_=>some k_ ≠ (Sa : Value).ownBlock∧some k_ ≠ (Sd : Value).ownBlock) ho2 (fun _ hk_=>hk_.2)) (af (uH HB.out)) (fun k_ h_=>h_)) (g:=kX) (o:=.cells #[.int .i64 a1] 2 (0,0)) (uB kQ.out)) (af (uH HB.out)));have n3_:=zA (Kd.bu (Kd.qG (Kd.kL (M:=fun k_=>(w.heap.size ≤ k_)) (Kd.ag (ok':=fun k_=>some k_ ≠ (Sa : Value).ownBlock∧some k_ ≠ (Sb : Value).ownBlock) ho3 (fun _ hk_=>hk_.2)) (af (uH HB.out)) (fun k_ h_=>h_)) (g:=kX) (o:=.cells #[.int .i64 a1] 2 (0,0)) (uB kQ.out)) (af (uH HB.out)));have n4_:=xB iO hb;have n5_:=xB kQ hb;have n6_:=xH HB hb;clear iO kQ HB;have yz:=n0_;have AJ:=n1_;have AL:=n2_;have AO:=n3_;have iO:=n4_;have kQ:=n5_;have HB:=n6_;clear n0_ n1_ n2_ n3_ n4_ n5_ n6_;(try clear hb);(try clear hb2);(try clear hk);(try clear hi);(try clear ho0);(try clear ho1);(try clear ho2);(try clear ho3)) | ((with_reducible refine bP (N:=7) rfl ?_);refine qV ?hg (N:=7) ?hd (cs:=#[.slice none 0 0,.slice none 0 0,.int .i64 0,.slice none 0 0,.slice none 0 0]) (t:=68) ?hr ?_;(case hd=>rfl);(case hg=>rfl);(case hr=>first | (go_simp;done) | (go_simp;rfl));intro jk hg w18 hbox hb;have n0_:=zA (Kd.nR (Kd.JI (uR yz.out) jk (Nat.le_of_eq hg.symm)) hb);have n1_:=xR AJ hb;have n2_:=xR AL hb;have n3_:=xR AO hb;have n4_:=xB iO hb;have n5_:=xB kQ hb;have n6_:=xH HB hb;have n7_:=zA (hbox);have n8_:=zA ((by rw [hg];exact (af (uH HB.out)) : w.heap.size ≤ jk));have n9_:=zA ((by rw [hg];exact (af (uH HB.out)) : w.heap.size ≤ jk));have Bd:=zA ((by rw [hg];exact neL iO : nT ≠ jk));have Be:=zA ((by rw [hg];exact neG iO : jk ≠ nT));have Bf:=zA ((by rw [hg];exact neL kQ : kX ≠ jk));have Bg:=zA ((by rw [hg];exact neG kQ : jk ≠ kX));clear yz AJ AL AO iO kQ HB;have yz:=n0_;have AJ:=n1_;have AL:=n2_;have AO:=n3_;have iO:=n4_;have kQ:=n5_;have HB:=n6_;have mO:=n7_;have ao2:=n8_;have Zt:=n9_;have:=geI Zt;have ui:=Bd;have F4:=Be;have uj:=Bf;have F5:=Bg;clear n0_ n1_ n2_ n3_ n4_ n5_ n6_ n7_ n8_ n9_ Bd Be Bf Bg hb hbox hg;obtain ⟨EK,DW,Xd⟩:=Kd.aV yz.out;subst Xd;have ao3:=F4.out;have ao4:=ui.out;have UX:=F5.out;have UY:=uj.out;have EF : w18.cell? ⟨jk,0,none⟩ = some (.slice none 0 0):=(bT mO.out 0).trans rfl;have Im : w18.cell? ⟨jk,1,none⟩ = some (.slice none 0 0):=(bT mO.out 1).trans rfl;have avU : w18.cell? ⟨jk,2,none⟩ = some (.int .i64 0):=(bT mO.out 2).trans rfl;have avV : w18.cell? ⟨jk,3,none⟩ = some (.slice none 0 0):=(bT mO.out 3).trans rfl;have avW : w18.cell? ⟨jk,4,none⟩ = some (.slice none 0 0):=(bT mO.out 4).trans rfl;have EG:=dz mO.out 0;have Io:=dz mO.out 1;have avX:=dz mO.out 2;have avY:=dz mO.out 3;have avZ:=dz mO.out 4;obtain ⟨l7,lQ,W9⟩:=Kd.aV AJ.out;subst W9;obtain ⟨GZ,G5,ayU⟩:=Kd.aV AL.out;subst ayU;obtain ⟨nz,nA,PD⟩:=Kd.aV AO.out;subst PD) | ((with_reducible refine tN (t:=68) (p:=7) rfl ?_);refine rG (t:=68) (p:=7) (v:=?ayV) (w1:=(((((w18.setCell ⟨jk,0,none⟩ (.slice EK yn.length DW)).setCell ⟨jk,1,none⟩ (.slice l7 BN.length lQ)).setCell ⟨jk,2,none⟩ (.int .i64 JH)).setCell ⟨jk,3,none⟩ (.slice GZ DV.length G5)).setCell ⟨jk,4,none⟩ (.slice nz EJ.length nA))) ?hg ?ho ?hn ?hr ?_;(case ho=>rfl);(case hg=>rfl);(case hn=>rfl);(case hr=>first | (go_simp;done) | (go_simp;rfl));intro w26 hw;have n0_ : aa (Kd.R (Kd.slice 2 (Kd.int .i64)) 24 w26 w.heap.size (fun k_=>(w.heap.size ≤ k_)∧some k_ ≠ (.slice l7 BN.length lQ : Value).ownBlock∧some k_ ≠ (.slice GZ DV.length G5 : Value).ownBlock∧some k_ ≠ (.slice nz EJ.length nA : Value).ownBlock∧k_ ≠ nT∧k_ ≠ kX∧k_ ≠ jk) (.slice EK yn.length DW) yn):=⟨(by rw [hw];exact (uR (Kd.ag (Kd.bn (p:=⟨jk,4,none⟩) (Kd.bn (p:=⟨jk,3,none⟩) (Kd.bn (p:=⟨jk,2,none⟩) (Kd.bn (p:=⟨jk,1,none⟩) (Kd.bn (p:=⟨jk,0,none⟩) (Kd.ag yz.out (fun k_ hk=>(⟨hk,hk.2⟩ : _∧k_ ≠ jk))) (fun _ hk=>hk.2) (.slice EK yn.length DW)) (fun _ hk=>hk.2) (.slice l7 BN.length lQ)) (fun _ hk=>hk.2) (.int .i64 JH)) (fun _ hk=>hk.2) (.slice GZ DV.length G5)) (fun _ hk=>hk.2) (.slice nz EJ.length nA)) (fun _ hk=>⟨hk.1.1.1,⟨hk.1.1.2.1,⟨hk.1.1.2.2.1,⟨hk.1.1.2.2.2.1,⟨hk.1.1.2.2.2.2.1,⟨hk.1.1.2.2.2.2.2,hk.1.2⟩⟩⟩⟩⟩⟩))))⟩;have n1_ : aa (Kd.R (Kd.int .i64) 2 w26 w.heap.size (fun k_=>(w.heap.size ≤ k_)∧some k_ ≠ (.slice GZ DV.length G5 : Value).ownBlock∧some k_ ≠ (.slice nz EJ.length nA : Value).ownBlock∧k_ ≠ kX) (.slice l7 BN.length lQ) BN):=⟨(by rw [hw];exact (uR (Kd.ag (Kd.bn (p:=⟨jk,4,none⟩) (Kd.bn (p:=⟨jk,3,none⟩) (Kd.bn (p:=⟨jk,2,none⟩) (Kd.bn (p:=⟨jk,1,none⟩) (Kd.bn (p:=⟨jk,0,none⟩) (Kd.bF AJ.out mO.out (by decide)) (fun _ hk=>hk.2) (.slice EK yn.length DW)) (fun _ hk=>hk.2) (.slice l7 BN.length lQ)) (fun _ hk=>hk.2) (.int .i64 JH)) (fun _ hk=>hk.2) (.slice GZ DV.length G5)) (fun _ hk=>hk.2) (.slice nz EJ.length nA)) (fun _ hk=>⟨hk.1.1.1,⟨hk.1.1.2.1,⟨hk.1.1.2.2,hk.1.2⟩⟩⟩))))⟩;have n2_ : aa (Kd.R (Kd.int .i64) 2 w26 w.heap.size (fun k_=>(w.heap.size ≤ k_)∧some k_ ≠ (.slice l7 BN.length lQ : Value).ownBlock∧some k_ ≠ (.slice nz EJ.length nA : Value).ownBlock∧k_ ≠ kX) (.slice GZ DV.length G5) DV):=⟨(by rw [hw];exact (uR (Kd.ag (Kd.bn (p:=⟨jk,4,none⟩) (Kd.bn (p:=⟨jk,3,none⟩) (Kd.bn (p:=⟨jk,2,none⟩) (Kd.bn (p:=⟨jk,1,none⟩) (Kd.bn (p:=⟨jk,0,none⟩) (Kd.bF AL.out mO.out (by decide)) (fun _ hk=>hk.2) (.slice EK yn.length DW)) (fun _ hk=>hk.2) (.slice l7 BN.length lQ)) (fun _ hk=>hk.2) (.int .i64 JH)) (fun _ hk=>hk.2) (.slice GZ DV.length G5)) (fun _ hk=>hk.2) (.slice nz EJ.length nA)) (fun _ hk=>⟨hk.1.1.1,⟨hk.1.1.2.1,⟨hk.1.1.2.2,hk.1.2⟩⟩⟩))))⟩;have n3_ : aa (Kd.R (Kd.int .i64) 2 w26 w.heap.size (fun k_=>(w.heap.size ≤ k_)∧some k_ ≠ (.slice l7 BN.length lQ : Value).ownBlock∧some k_ ≠ (.slice GZ DV.length G5 : Value).ownBlock∧k_ ≠ kX) (.slice nz EJ.length nA) EJ):=⟨(by rw [hw];exact (uR (Kd.ag (Kd.bn (p:=⟨jk,4,none⟩) (Kd.bn (p:=⟨jk,3,none⟩) (Kd.bn (p:=⟨jk,2,none⟩) (Kd.bn (p:=⟨jk,1,none⟩) (Kd.bn (p:=⟨jk,0,none⟩) (Kd.bF AO.out mO.out (by decide)) (fun _ hk=>hk.2) (.slice EK yn.length DW)) (fun _ hk=>hk.2) (.slice l7 BN.length lQ)) (fun _ hk=>hk.2) (.int .i64 JH)) (fun _ hk=>hk.2) (.slice GZ DV.length G5)) (fun _ hk=>hk.2) (.slice nz EJ.length nA)) (fun _ hk=>⟨hk.1.1.1,⟨hk.1.1.2.1,⟨hk.1.1.2.2,hk.1.2⟩⟩⟩))))⟩;have n4_ : aa (w26.heap[nT]? = some (.cells #[.int .i64 au,.slice bE av.length bD] 26 (0,0))):=⟨(by rw [hw];exact (by (with_reducible repeat (first | refine ko ?_ _ | refine bI ?_ | refine kI ?_ _));refine bL ?_ ui.out _;(with_reducible repeat (first | refine ko ?_ _ | refine bI ?_ | refine kI ?_ _));refine bL ?_ ui.out _;(with_reducible repeat (first | refine ko ?_ _ | refine bI ?_ | refine kI ?_ _));refine bL ?_ ui.out _;(with_reducible repeat (first | refine ko ?_ _ | refine bI ?_ | refine kI ?_ _));refine bL ?_ ui.out _;(with_reducible repeat (first | refine ko ?_ _ | refine bI ?_ | refine kI ?_ _));refine bL ?_ ui.out _;(with_reducible repeat (first | refine ko ?_ _ | refine bI ?_ | refine kI ?_ _));exact iO.out))⟩;have n5_ : aa (w26.heap[kX]? = some (.cells #[.int .i64 a1] 2 (0,0))):=⟨(by rw [hw];exact (by (with_reducible repeat (first | refine ko ?_ _ | refine bI ?_ | refine kI ?_ _));refine bL ?_ uj.out _;(with_reducible repeat (first | refine ko ?_ _ | refine bI ?_ | refine kI ?_ _));refine bL ?_ uj.out _;(with_reducible repeat (first | refine ko ?_ _ | refine bI ?_ | refine kI ?_ _));refine bL ?_ uj.out _;(with_reducible repeat (first | refine ko ?_ _ | refine bI ?_ | refine kI ?_ _));refine bL ?_ uj.out _;(with_reducible repeat (first | refine ko ?_ _ | refine bI ?_ | refine kI ?_ _));refine bL ?_ uj.out _;(with_reducible repeat (first | refine ko ?_ _ | refine bI ?_ | refine kI ?_ _));exact kQ.out))⟩;have n6_ : aa (w26.heap[jk]? = some (.cells #[.slice EK yn.length DW,.slice l7 BN.length lQ,.int .i64 JH,.slice GZ DV.length G5,.slice nz EJ.length nA] 68 (0,0))):=⟨(by rw [hw];exact (by (with_reducible repeat (first | refine ko ?_ _ | refine bI ?_ | refine kI ?_ _));refine bH (cs:=#[.slice EK yn.length DW,.slice l7 BN.length lQ,.int .i64 JH,.slice GZ DV.length G5,.slice none 0 0]) ?_ 4 _ rfl;(with_reducible repeat (first | refine ko ?_ _ | refine bI ?_ | refine kI ?_ _));refine bH (cs:=#[.slice EK yn.length DW,.slice l7 BN.length lQ,.int .i64 JH,.slice none 0 0,.slice none 0 0]) ?_ 3 _ rfl;(with_reducible repeat (first | refine ko ?_ _ | refine bI ?_ | refine kI ?_ _));refine bH (cs:=#[.slice EK yn.length DW,.slice l7 BN.length lQ,.int .i64 0,.slice none 0 0,.slice none 0 0]) ?_ 2 _ rfl;(with_reducible repeat (first | refine ko ?_ _ | refine bI ?_ | refine kI ?_ _));refine bH (cs:=#[.slice EK yn.length DW,.slice none 0 0,.int .i64 0,.slice none 0 0,.slice none 0 0]) ?_ 1 _ rfl;(with_reducible repeat (first | refine ko ?_ _ | refine bI ?_ | refine kI ?_ _));refine bH (cs:=#[.slice none 0 0,.slice none 0 0,.int .i64 0,.slice none 0 0,.slice none 0 0]) ?_ 0 _ rfl;(with_reducible repeat (first | refine ko ?_ _ | refine bI ?_ | refine kI ?_ _));exact mO.out))⟩;have n7_ : aa (Below w.heap.size w w26):=⟨(by rw [hw];exact (uH HB.out))⟩;clear hw yz AJ AL AO iO kQ mO HB;have yz:=n0_;have AJ:=n1_;have AL:=n2_;have AO:=n3_;have iO:=n4_;have kQ:=n5_;have mO:=n6_;have HB:=n7_;clear n0_ n1_ n2_ n3_ n4_ n5_ n6_ n7_;have wW : w26.cell? ⟨jk,0,none⟩ = some (.slice EK yn.length DW):=(bT mO.out 0).trans rfl;have wX : w26.cell? ⟨jk,1,none⟩ = some (.slice l7 BN.length lQ):=(bT mO.out 1).trans rfl;have av0 : w26.cell? ⟨jk,2,none⟩ = some (.int .i64 JH):=(bT mO.out 2).trans rfl;have av1 : w26.cell? ⟨jk,3,none⟩ = some (.slice GZ DV.length G5):=(bT mO.out 3).trans rfl;have av2 : w26.cell? ⟨jk,4,none⟩ = some (.slice nz EJ.length nA):=(bT mO.out 4).trans rfl;have wY:=dz mO.out 0;have wZ:=dz mO.out 1;have av3:=dz mO.out 2;have av4:=dz mO.out 3;have av5:=dz mO.out 4;have ad6 : w26.cell? ⟨kX,0,none⟩ = some (.int .i64 a1):=(bT kQ.out 0).trans rfl;have ad7:=dz kQ.out 0;have ad8 : 0 ≤ (a1 : Int):=of_decide_eq_true (by first | (with_reducible assumption) | assumption);have ad9 : a1 < (yn.length : Int):=of_decide_eq_true (by first | (with_reducible assumption) | assumption);obtain ⟨aC0,ayW,ayX,ayY,aea,Va,Vb⟩:=xL (Kd.aC yz.out).2.2 a1 ad8 ad9;cases ayY;have aeb:=zA (aec yz.out a1 ad8 ad9 aea);have av6:=zA Vb;have av7:=zA Va;clear Vb Va;replace ad8:=eq_true ad8;replace ad9:=eq_true ad9))
     go_ret2
     exact ⟨_,by first | rfl | (simp [eP,eQ] <;> rfl) | (simp [*,eP,eQ] <;> rfl),uR (Kd.ag aeb.out (fun _ _=>trivial)),uH HB.out⟩
    ·rw [if_neg c9] at H
     exact absurd H (by simp)
   ·rw [if_neg c8] at H
    exact absurd H (by simp)
  ·replace c7:=Bool.eq_false_iff.mpr c7
   subst c7
   have H1 : (some (([] : List Int),5)) = some (r1,r2):=by rw [if_neg (show ¬ (false = true) by decide)] at H;exact H
   clear H
   have H:=H1
   clear H1
   simp only [Option.some.injEq,Prod.mk.injEq] at H
   obtain ⟨rfl,rfl⟩:=H
   go_enter Tryz.func16,Tryz.ntmps16
   go_wp2_with (first | ((with_reducible refine bP (N:=2) rfl ?_);refine qV ?hg (N:=2) ?hd (cs:=#[.int .i64 au,.slice bE av.length bD]) (t:=26) ?hr ?_;(case hd=>rfl);(case hg=>rfl);(case hr=>first | (go_simp;done) | (go_simp;rfl));intro nT hg w29 hbox hb;have n0_:=xH HB hb;have n1_:=zA (hbox);have n2_:=zA ((by rw [hg];exact (af (uH HB.out)) : w.heap.size ≤ nT));have n3_:=zA ((by rw [hg];exact (af (uH HB.out)) : w.heap.size ≤ nT));clear HB;have HB:=n0_;have iO:=n1_;have agX:=n2_;have PZ:=n3_;have:=geI PZ;clear n0_ n1_ n2_ n3_ hb hbox hg) | ((with_reducible refine bP (N:=3) rfl ?_);refine qV ?hg (N:=3) ?hd (cs:=#[.int .i64 a1]) (t:=2) ?hr ?_;(case hd=>rfl);(case hg=>rfl);(case hr=>first | (go_simp;done) | (go_simp;rfl));intro kX hg w30 hbox hb;have n0_:=xB iO hb;have n1_:=xH HB hb;have n2_:=zA (hbox);have n3_:=zA ((by rw [hg];exact (af (uH HB.out)) : w.heap.size ≤ kX));have n4_:=zA ((by rw [hg];exact (af (uH HB.out)) : w.heap.size ≤ kX));have n5_:=zA ((by rw [hg];exact neL iO : nT ≠ kX));have n6_:=zA ((by rw [hg];exact neG iO : kX ≠ nT));clear iO HB;have iO:=n0_;have HB:=n1_;have kQ:=n2_;have agY:=n3_;have P5:=n4_;have:=geI P5;have zt:=n5_;have zu:=n6_;clear n0_ n1_ n2_ n3_ n4_ n5_ n6_ hb hbox hg;have agQ:=zt.out;have agR:=zu.out;have av8 : w30.cell? ⟨nT,0,none⟩ = some (.int .i64 au):=(bT iO.out 0).trans rfl;have av9 : w30.cell? ⟨nT,1,none⟩ = some (.slice bE av.length bD):=(bT iO.out 1).trans rfl;have awc:=dz iO.out 0;have awd:=dz iO.out 1) | ((with_reducible refine ae (f:=42) rfl ?_);refine uw (some 11) rfl rfl Tryz.func42 (by kernel_rfl) rfl #[.agg #[.int .i64 au,.slice bE av.length bD],(.func (.func 43) #[] #[.pointer (some ⟨kX,0,none⟩)]),.slice none 0 0] rfl (by (try simp only [la,lb,lc]);first | done | rfl | (simp only [ld,le];rfl)) ?_;(refine (fo.calls k au _ _ av _ PY _ _ ([] : List (List Int)) Af _ ?side1 ?side2 ?side3 ?side4 ?side5 A4.out).mono ?_);(case side1=>exact uC ((Kd.aM d9.out HB.out)));(case side2=>exact eD.out);(case side3=>exact FnB.of Tryz.func43 (by kernel_rfl) rfl (fun W_ hW_=>cz (args':=#[.pointer (some ⟨kX,0,none⟩)]) (by simp) ((ek.calls _ a1 _ W_ (bM (g:=kX) (o:=.cells #[.int .i64 a1] 2 (0,0)) (uB kQ.out) hW_) A3.out).mono fun e_ W2_ h_=>⟨h_.1,h_.2.below⟩)));(case side4=>exact Kd.ED _ _);(case side5=>exact Nat.le_refl _);rintro e w33 ⟨rfl,hb⟩;refine ⟨_,rfl,?_⟩;have n0_:=xB iO hb;have n1_:=xB kQ hb;have n2_:=xH HB hb;clear iO kQ HB;have iO:=n0_;have kQ:=n1_;have HB:=n2_;clear n0_ n1_ n2_;(try clear hb);(try clear hb2);(try clear hk);(try clear hi);have UZ : w33.cell? ⟨nT,0,none⟩ = some (.int .i64 au):=(bT iO.out 0).trans rfl;have U0 : w33.cell? ⟨nT,1,none⟩ = some (.slice bE av.length bD):=(bT iO.out 1).trans rfl;have U1:=dz iO.out 0;have U2:=dz iO.out 1;have NM : w33.cell? ⟨kX,0,none⟩ = some (.int .i64 a1):=(bT kQ.out 0).trans rfl;have NN:=dz kQ.out 0) | ((with_reducible refine ae (f:=45) rfl ?_);refine uw (some 18) rfl rfl Tryz.func45 (by kernel_rfl) rfl #[.agg #[.int .i64 au,.slice bE av.length bD],.int .i64 a1] rfl (by (try simp only [la,lb,lc]);first | done | rfl | (simp only [ld,le];rfl)) ?_;(with_reducible refine (aA.R9 k au _ _ av a1 yn BN JH DV EJ false _ ?side1 ?side2 A6.out).mono ?_);(case side1=>exact uC ((Kd.aM d9.out HB.out)));(case side2=>exact eD.out);rintro e w36 ⟨ayT,Sa,Sb,Sd,rfl,ho0,ho1,ho2,ho3,hb⟩;refine ⟨_,rfl,?_⟩;have n0_:=zA (Kd.bu (Kd.ag (ok':=fun k_=>(w.heap.size ≤ k_)∧some k_ ≠ (Sa : Value).ownBlock∧some k_ ≠ (Sb : Value).ownBlock∧some k_ ≠ (Sd : Value).ownBlock∧k_ ≠ nT∧k_ ≠ kX) ho0 (fun k_ hk_=>⟨(Nat.le_trans (af (uH HB.out)) hk_.1),hk_.2.1,hk_.2.2.1,hk_.2.2.2,(Kd.lI (g:=nT) (o:=.cells #[.int .i64 au,.slice bE av.length bD] 26 (0,0)) (uB iO.out) k_ hk_.1),(Kd.lI (g:=kX) (o:=.cells #[.int .i64 a1] 2 (0,0)) (uB kQ.out) k_ hk_.1)⟩)) (af (uH HB.out)));have n1_:=zA (Kd.bu (Kd.qG (Kd.kL (M:=fun k_=>(w.heap.size ≤ k_)) (Kd.ag (ok':=fun k_=>some k_ ≠ (Sb : Value).ownBlock∧some k_ ≠ (Sd : Value).ownBlock) ho1 (fun _ hk_=>hk_.2)) (af (uH HB.out)) (fun k_ h_=>h_)) (g:=kX) (o:=.cells #[.int .i64 a1] 2 (0,0)) (uB kQ.out)) (af (uH HB.out)));have n2_:=zA (Kd.bu (Kd.qG (Kd.kL (M:=fun k_=>(w.heap.size ≤ k_)) (Kd.ag (ok':=fun k_=>some k_ ≠ (Sa : Value).ownBlock∧some k_ ≠ (Sd : Value).ownBlock) ho2 (fun _ hk_=>hk_.2)) (af (uH HB.out)) (fun k_ h_=>h_)) (g:=kX) (o:=.cells #[.int .i64 a1] 2 (0,0)) (uB kQ.out)) (af (uH HB.out)));have n3_:=zA (Kd.bu (Kd.qG (Kd.kL (M:=fun k_=>(w.heap.size ≤ k_)) (Kd.ag (ok':=fun k_=>some k_ ≠ (Sa : Value).ownBlock∧some k_ ≠ (Sb : Value).ownBlock) ho3 (fun _ hk_=>hk_.2)) (af (uH HB.out)) (fun k_ h_=>h_)) (g:=kX) (o:=.cells #[.int .i64 a1] 2 (0,0)) (uB kQ.out)) (af (uH HB.out)));have n4_:=xB iO hb;have n5_:=xB kQ hb;have n6_:=xH HB hb;clear iO kQ HB;have yz:=n0_;have AJ:=n1_;have AL:=n2_;have AO:=n3_;have iO:=n4_;have kQ:=n5_;have HB:=n6_;clear n0_ n1_ n2_ n3_ n4_ n5_ n6_;(try clear hb);(try clear hb2);(try clear hk);(try clear hi);(try clear ho0);(try clear ho1);(try clear ho2);(try clear ho3)) | ((with_reducible refine bP (N:=7) rfl ?_);refine qV ?hg (N:=7) ?hd (cs:=#[.slice none 0 0,.slice none 0 0,.int .i64 0,.slice none 0 0,.slice none 0 0]) (t:=68) ?hr ?_;(case hd=>rfl);(case hg=>rfl);(case hr=>first | (go_simp;done) | (go_simp;rfl));intro jk hg w37 hbox hb;have n0_:=zA (Kd.nR (Kd.JI (uR yz.out) jk (Nat.le_of_eq hg.symm)) hb);have n1_:=xR AJ hb;have n2_:=xR AL hb;have n3_:=xR AO hb;have n4_:=xB iO hb;have n5_:=xB kQ hb;have n6_:=xH HB hb;have n7_:=zA (hbox);have n8_:=zA ((by rw [hg];exact (af (uH HB.out)) : w.heap.size ≤ jk));have n9_:=zA ((by rw [hg];exact (af (uH HB.out)) : w.heap.size ≤ jk));have Bd:=zA ((by rw [hg];exact neL iO : nT ≠ jk));have Be:=zA ((by rw [hg];exact neG iO : jk ≠ nT));have Bf:=zA ((by rw [hg];exact neL kQ : kX ≠ jk));have Bg:=zA ((by rw [hg];exact neG kQ : jk ≠ kX));clear yz AJ AL AO iO kQ HB;have yz:=n0_;have AJ:=n1_;have AL:=n2_;have AO:=n3_;have iO:=n4_;have kQ:=n5_;have HB:=n6_;have mO:=n7_;have ao2:=n8_;have Zt:=n9_;have:=geI Zt;have ui:=Bd;have F4:=Be;have uj:=Bf;have F5:=Bg;clear n0_ n1_ n2_ n3_ n4_ n5_ n6_ n7_ n8_ n9_ Bd Be Bf Bg hb hbox hg;obtain ⟨JF,JG,adJ⟩:=Kd.aV yz.out;subst adJ;have aC1:=F4.out;have aC2:=ui.out;have agx:=F5.out;have agy:=uj.out;have U3 : w37.cell? ⟨jk,0,none⟩ = some (.slice none 0 0):=(bT mO.out 0).trans rfl;have aed : w37.cell? ⟨jk,1,none⟩ = some (.slice none 0 0):=(bT mO.out 1).trans rfl;have awe : w37.cell? ⟨jk,2,none⟩ = some (.int .i64 0):=(bT mO.out 2).trans rfl;have awf : w37.cell? ⟨jk,3,none⟩ = some (.slice none 0 0):=(bT mO.out 3).trans rfl;have awg : w37.cell? ⟨jk,4,none⟩ = some (.slice none 0 0):=(bT mO.out 4).trans rfl;have U4:=dz mO.out 0;have aee:=dz mO.out 1;have awh:=dz mO.out 2;have awi:=dz mO.out 3;have awj:=dz mO.out 4;obtain ⟨aEX,aEY,ayZ⟩:=Kd.aV AJ.out;subst ayZ;obtain ⟨qL,qM,aiR⟩:=Kd.aV AL.out;subst aiR;obtain ⟨Nw,Ny,ajl⟩:=Kd.aV AO.out;subst ajl))
   go_ret2
   exact ⟨_,by first | rfl | (simp [eP,eQ] <;> rfl) | (simp [*,eP,eQ] <;> rfl),Kd.pq _ _ _ _ _,uH HB.out⟩
 ·rw [if_neg c5] at H
  have ny : (Af == 0) = false:=beq_eq_false_iff_ne.mpr c5
  have vY : (Af != 0) = true:=bne_iff_ne.mpr c5
  simp only [Option.some.injEq,Prod.mk.injEq] at H
  obtain ⟨rfl,rfl⟩:=H
  go_enter Tryz.func16,Tryz.ntmps16
  go_wp2_with (first | ((with_reducible refine bP (N:=2) rfl ?_);refine qV ?hg (N:=2) ?hd (cs:=#[.int .i64 au,.slice bE av.length bD]) (t:=26) ?hr ?_;(case hd=>rfl);(case hg=>rfl);(case hr=>first | (go_simp;done) | (go_simp;rfl));intro nT hg w45 hbox hb;have n0_:=xH HB hb;have n1_:=zA (hbox);have n2_:=zA ((by rw [hg];exact (af (uH HB.out)) : w.heap.size ≤ nT));have n3_:=zA ((by rw [hg];exact (af (uH HB.out)) : w.heap.size ≤ nT));clear HB;have HB:=n0_;have iO:=n1_;have agX:=n2_;have PZ:=n3_;have:=geI PZ;clear n0_ n1_ n2_ n3_ hb hbox hg) | ((with_reducible refine bP (N:=3) rfl ?_);refine qV ?hg (N:=3) ?hd (cs:=#[.int .i64 a1]) (t:=2) ?hr ?_;(case hd=>rfl);(case hg=>rfl);(case hr=>first | (go_simp;done) | (go_simp;rfl));intro kX hg w46 hbox hb;have n0_:=xB iO hb;have n1_:=xH HB hb;have n2_:=zA (hbox);have n3_:=zA ((by rw [hg];exact (af (uH HB.out)) : w.heap.size ≤ kX));have n4_:=zA ((by rw [hg];exact (af (uH HB.out)) : w.heap.size ≤ kX));have n5_:=zA ((by rw [hg];exact neL iO : nT ≠ kX));have n6_:=zA ((by rw [hg];exact neG iO : kX ≠ nT));clear iO HB;have iO:=n0_;have HB:=n1_;have kQ:=n2_;have agY:=n3_;have P5:=n4_;have:=geI P5;have zt:=n5_;have zu:=n6_;clear n0_ n1_ n2_ n3_ n4_ n5_ n6_ hb hbox hg;have aoB:=zt.out;have aoC:=zu.out;have Cj : w46.cell? ⟨nT,0,none⟩ = some (.int .i64 au):=(bT iO.out 0).trans rfl;have Ck : w46.cell? ⟨nT,1,none⟩ = some (.slice bE av.length bD):=(bT iO.out 1).trans rfl;have Cm:=dz iO.out 0;have Cn:=dz iO.out 1) | ((with_reducible refine ae (f:=42) rfl ?_);refine uw (some 11) rfl rfl Tryz.func42 (by kernel_rfl) rfl #[.agg #[.int .i64 au,.slice bE av.length bD],(.func (.func 43) #[] #[.pointer (some ⟨kX,0,none⟩)]),.slice none 0 0] rfl (by (try simp only [la,lb,lc]);first | done | rfl | (simp only [ld,le];rfl)) ?_;(refine (fo.calls k au _ _ av _ PY _ _ ([] : List (List Int)) Af _ ?side1 ?side2 ?side3 ?side4 ?side5 A4.out).mono ?_);(case side1=>exact uC ((Kd.aM d9.out HB.out)));(case side2=>exact eD.out);(case side3=>exact FnB.of Tryz.func43 (by kernel_rfl) rfl (fun W_ hW_=>cz (args':=#[.pointer (some ⟨kX,0,none⟩)]) (by simp) ((ek.calls _ a1 _ W_ (bM (g:=kX) (o:=.cells #[.int .i64 a1] 2 (0,0)) (uB kQ.out) hW_) A3.out).mono fun e_ W2_ h_=>⟨h_.1,h_.2.below⟩)));(case side4=>exact Kd.ED _ _);(case side5=>exact Nat.le_refl _);rintro e w49 ⟨rfl,hb⟩;refine ⟨_,rfl,?_⟩;have n0_:=xB iO hb;have n1_:=xB kQ hb;have n2_:=xH HB hb;clear iO kQ HB;have iO:=n0_;have kQ:=n1_;have HB:=n2_;clear n0_ n1_ n2_;(try clear hb);(try clear hb2);(try clear hk);(try clear hi)))
  go_ret2
  exact ⟨_,by first | rfl | (simp [eP,eQ] <;> rfl) | (simp [*,eP,eQ] <;> rfl),Kd.pq _ _ _ _ _,uH HB.out⟩
/- The orthogonal polynomials of moments: the program's upTo and the reference's Zu come to them; no condition. -/
def rJ (p : Int) (l : List Int) (i : Nat) : List (List Int):=(List.range (i + 1)).map (mP p l)
def xX (p : Int) (l : List Int) (i : Nat) : List Int:=(List.range i).map fun j=>kN p l (mP p l j) 0
def mAl (p : Int) (l : List Int) (i : Nat) : List Int:=(List.range i).map fun j=>qY p l (mP p l j)
def mBe (p : Int) (l : List Int) (i : Nat) : List Int:=(List.range i).map fun j=>yA p l (oZ p l j).1 (mP p l j) j
theorem rO (p : Int) (l : List Int) (i : Nat) : (rJ p l i).length = i + 1:=by simp [rJ]
theorem rM (p : Int) (l : List Int) {i j : Nat} (h : j ≤ i) : (rJ p l i).getD j [] = mP p l j:=by
  rw [rJ,List.getD_eq_getElem?_getD,List.getElem?_map,List.getElem?_range (by omega)];rfl
theorem Sg (p : Int) (l : List Int) {i j : Nat} (h : j < i) : (xX p l i).getD j 0 = kN p l (mP p l j) 0:=by
  rw [xX,List.getD_eq_getElem?_getD,List.getElem?_map,List.getElem?_range h];rfl
theorem BO (p : Int) (l : List Int) (i : Nat) : rJ p l (i + 1) = rJ p l i ++ [mP p l (i + 1)]:=by unfold rJ;rw [List.range_succ,List.map_append,List.map_singleton]
theorem P6 (p : Int) (l : List Int) (i : Nat) : xX p l (i + 1) = xX p l i ++ [kN p l (mP p l i) 0]:=by unfold xX;rw [List.range_succ,List.map_append,List.map_singleton]
theorem Zv (p : Int) (l : List Int) (i : Nat) : mAl p l (i + 1) = mAl p l i ++ [qY p l (mP p l i)]:=by unfold mAl;rw [List.range_succ,List.map_append,List.map_singleton]
theorem Zw (p : Int) (l : List Int) (i : Nat) : mBe p l (i + 1) = mBe p l i ++ [yA p l (oZ p l i).1 (mP p l i) i]:=by unfold mBe;rw [List.range_succ,List.map_append,List.map_singleton]
theorem aef {p : Int} (hp : Pm p) (l : List Int) : mP p l 1 = lM p (mP p l 0) [(-(qY p l (mP p l 0))) % p,1]:=by
  show zw p (qY p l [1]) (yA p l [] [1] 0) [1] [] = _
  unfold zw
  rw [Zx _ _ (F6 p _ _),Lf hp.pos]
  rfl
theorem aeg {p : Int} (hp : Pm p) (l : List Int) (i : Nat) : mP p l (i + 2) = Dg p (lM p (mP p l (i + 1)) [(-(qY p l (mP p l (i + 1)))) % p,1]) (mP p l i) ((-(kN p l (mP p l (i + 1)) 0) * qA p (kN p l (mP p l i) 0)) % p):=by
  show zw p (qY p l (mP p l (i + 1))) (yA p l (mP p l i) (mP p l (i + 1)) (i + 1)) (mP p l (i + 1)) (mP p l i) = _
  unfold zw yA
  rw [if_neg (by omega),KJ,Lf hp.pos,Int.neg_mul]
theorem ao5 {p : Int} (hp : Pm p) : Nm p [0,1]:=by
  have:=hp.two
  exact Nm.cons (Int.le_refl _) hp.pos (Nm.cons (by omega) (by omega) (Nm.nil p))
section
variable {p : Int} (hp : Pm p) {l : List Int} (nl : Nm p l) (hl : l.length ≤ 24)
include hp nl hl
theorem BF {f : List Int} (hf : Nm p f) (s : Nat) (h : 2 * f.length + s ≤ l.length + 1) : Ev (fun n=>gM.f n p l f (s : Int)) (kN p l f s):=by
  unfold gM.f kN
  have h2:=sS p f f
  refine Ev.bind (DU hp f f hf hf (by unfold Sm;omega) (by unfold Sm;omega) (by unfold Sm;omega)) (Ev.bind (EA hp l _ nl (uP hp.pos _ _) s ?_ (by unfold Sm;omega) (by unfold Sm;omega)) (Ev.now _))
  by_cases h0 : f = []
  · right;rw [h0];rfl
  · left
    have : f.length ≠ 0:=fun e=>h0 (List.length_eq_zero_iff.1 e)
    omega
theorem NR {k : Nat} (hk : 2 * k ≤ l.length) (d : Nat) : ∀ (i : Nat) (last : Int),i + d = k → (0 < i → last = kN p l (mP p l (i - 1)) 0) →
    Ev (fun n=>eB.l0 n (k : Int) (rJ p l i) p last (i : Int) p l) (rJ p l k):=by
  induction d with
  | zero =>
    intro i last hi _
    obtain rfl : i = k:=by omega
    refine Ev.step (fun n=>by rw [eB.l0]) ?_
    exact Ev.neg (by omega) (Ev.now _)
  | succ d ih =>
    intro i last hi hlast
    have ho:=Ed hp l i
    have hol:=sP hp l i
    have hn0:=qI hp l (mP p l i) 0
    have hn1:=qI hp l (mP p l i) 1
    have hiv:=Et hp (kN p l (mP p l i) 0)
    have hm:=yO hp hn1.1 hn1.2 hiv.1 hiv.2
    have ha:=Lg hp l (mP p l i)
    have ht:=hp.top
    have e1 : wrap64 (-(Int.tmod (wrap64 (kN p l (mP p l i) 1 * qA p (kN p l (mP p l i) 0))) p)) = -(qY p l (mP p l i)):=by
      rw [bJ (x:=kN p l (mP p l i) 1 * qA p (kN p l (mP p l i) 0)) (by omega) (by omega),jY hm.1]
      show wrap64 (-(qY p l (mP p l i))) = _
      rw [bJ (by omega) (by omega)]
    refine Ev.step (fun n=>by rw [eB.l0]) ?_
    rw [uF,rM p l (Nat.le_refl i),rO,lC (i:=i) (n:=1000) (by omega) (by omega)]
    refine Ev.pos (by omega) (Ev.pos (by omega) (Ev.pos (by omega) (Ev.bind (BF hp nl hl ho 0 (by omega)) (Ev.bind (zN hp hn0) (Ev.bind (BF hp nl hl ho 1 (by omega)) (Ev.neg hp.ne ?_))))))
    rw [e1]
    have tr : oU [(-(qY p l (mP p l i))) % p,1] = [(-(qY p l (mP p l i))) % p,1]:=xz [(-(qY p l (mP p l i))) % p] (by omega)
    refine Ev.iN (Ip hp _) (Ev.bind (yB _ (by simp [Sm])) ?_)
    rw [tr]
    refine Ev.bind (DU hp _ _ ho (Zy hp _) (by unfold Sm;omega) (by simp [Sm]) (by simp only [List.length_cons,List.length_nil];unfold Sm;omega)) ?_
    rcases i with _ | i
    · refine Ev.neg (by omega) (Ev.pos (by omega) ?_)
      rw [← aef hp,← BO]
      exact ih 1 _ (by omega) (fun _=>rfl)
    · have hb:=Ed hp l i
      have hbl:=sP hp l i
      have hlast:=hlast (by omega)
      rw [Nat.add_sub_cancel] at hlast
      have hnb:=qI hp l (mP p l i) 0
      have hivb:=Et hp (kN p l (mP p l i) 0)
      have hm2:=yO hp hn0.1 hn0.2 hivb.1 hivb.2
      have e2 : wrap64 (wrap64 (-(kN p l (mP p l (i + 1)) 0)) * qA p (kN p l (mP p l i) 0)) = -(kN p l (mP p l (i + 1)) 0) * qA p (kN p l (mP p l i) 0):=by
        rw [bJ (x:=-(kN p l (mP p l (i + 1)) 0)) (by omega) (by omega),Int.neg_mul,bJ (by omega) (by omega)]
      have hpl:=sS p (mP p l (i + 1)) [(-(qY p l (mP p l (i + 1)))) % p,1]
      simp only [List.length_cons,List.length_nil] at hpl
      rw [Uk (i:=i + 1) (by omega) (by omega),Nat.add_sub_cancel,uF,rM p l (by omega),hlast]
      refine Ev.pos (by omega) (Ev.pos (by omega) (Ev.pos (by omega) (Ev.bind (zN hp hnb) ?_)))
      rw [e2]
      refine Ev.iN (Ip hp _) (Ev.bind (Jz hp (lv hp.pos _) _ _ (uP hp.pos _ _) hb (by unfold Sm;omega) (by unfold Sm;omega)) (Ev.pos (by omega) ?_))
      rw [← aeg hp,← BO]
      exact ih (i + 2) _ (by omega) (fun _=>rfl)
theorem Nq {k : Nat} (hk : 2 * k ≤ l.length) : Ev (fun n=>eB.f n p l (k : Int)) (rJ p l k):=NR hp nl hl hk k 0 1 (by omega) (fun h=>absurd h (by omega))
theorem zU {f : List Int} (h : 2 * f.length ≤ l.length + 1) : Ev (fun n=>bv.f n p l (lM p f f)) (kN p l f 0):=by
  have h2:=sS p f f
  refine zX hp l _ nl (uP hp.pos _ _) ?_ (by unfold Sm;omega)
  omega
theorem P7 {f : List Int} (h : 2 * f.length + 1 ≤ l.length + 1) : Ev (fun n=>bv.f n p l (lM p [0,1] (lM p f f))) (kN p l f 1):=by
  have h2:=sS p f f
  have h3:=sS p [0,1] (lM p f f)
  simp only [List.length_cons,List.length_nil] at h3
  have e : kN p l f 1 = rP p l (lM p [0,1] (lM p f f)) 0:=by rw [Zz hp l _ (uP hp.pos _ _)];rfl
  rw [e]
  refine zX hp l _ nl (uP hp.pos _ _) ?_ (by unfold Sm;omega)
  by_cases h0 : (lM p f f).length = 0
  · have h4 : lM p [0,1] (lM p f f) = []:=by
      have : lM p f f = []:=List.length_eq_zero_iff.1 h0
      rw [this]
      simp [lM]
    rw [h4];exact Nat.zero_le _
  · omega
theorem P8 (h1 : 1 ≤ l.length) {k : Nat} (hk : 2 * k ≤ l.length) (d : Nat) : ∀ i : Nat,i + d = k →
    Ev (fun n=>aA.l0 n p (oZ p l i).1 (k : Int) (i : Int) p l (rJ p l i) (xX p l i) p (mAl p l i) (mBe p l i)) (rJ p l k,xX p l k,p,mAl p l k,mBe p l k,true):=by
  induction d with
  | zero =>
    intro i hi
    obtain rfl : i = k:=by omega
    refine Ev.step (fun n=>by rw [aA.l0]) ?_
    exact Ev.neg (by omega) (Ev.now _)
  | succ d ih =>
    intro i hi
    have ho:=Ed hp l i
    have hol:=sP hp l i
    have hok:=EL hp l i
    have hn0:=qI hp l (mP p l i) 0
    have hn1:=qI hp l (mP p l i) 1
    have h2:=sS p (mP p l i) (mP p l i)
    have lN : (xX p l i).length = i:=by simp [xX]
    have lA : (mAl p l i).length = i:=by simp [mAl]
    have lB : (mBe p l i).length = i:=by simp [mBe]
    refine Ev.step (fun n=>by rw [aA.l0]) ?_
    rw [uF,rM p l (Nat.le_refl i),rO,lC (i:=i) (n:=1000) (by omega) (by omega),lN,lA,lB]
    have hb : Ev (fun n=>if (i : Int) > 0 then (if 0 ≤ wrap64 ((i : Int) - 1) then (if wrap64 ((i : Int) - 1) < (i : Int) then (je.f n p (kN p l (mP p l i) 0) (rd (xX p l i) (wrap64 ((i : Int) - 1)))) else none) else none) else (some (rd l 0))) (yA p l (oZ p l i).1 (mP p l i) i):=by
      rcases i with _ | i
      · exact Ev.neg (by omega) (Ev.now _)
      · have hnb:=qI hp l (mP p l i) 0
        rw [Uk (i:=i + 1) (by omega) (by omega),Nat.add_sub_cancel,mV,Sg p l (by omega)]
        exact Ev.pos (by omega) (Ev.pos (by omega) (Ev.pos (by omega) (zV hp hn0 hnb)))
    refine Ev.pos (by omega) (Ev.pos (by omega) (Ev.pos (by omega) (Ev.bind (vG hp _ _ ho ho (by unfold Sm;omega) (by unfold Sm;omega) (by unfold Sm;omega)) (Ev.bind (zU hp nl hl (by omega)) (Ev.bind (vG hp [0,1] _ (ao5 hp) (uP hp.pos _ _) (by simp [Sm]) (by unfold Sm;omega) (by simp only [List.length_cons,List.length_nil];unfold Sm;omega)) (Ev.bind (P7 hp nl hl (by omega)) (Ev.bind (zV hp hn1 hn0) (Ev.pos (by omega) (Ev.bind hb ?_)))))))))
    refine Ev.bind (P9 hp (Lg hp l _) (ZA hp nl _ _ _) _ _ ho hok.1.1 (by omega) (by omega)) ?_
    refine Ev.iN rfl (Ev.pos (by simp only [List.length_cons,List.length_nil];omega) (Ev.iN rfl (Ev.pos (by simp only [List.length_cons,List.length_nil];omega) (Ev.iN rfl (Ev.pos (by simp only [List.length_cons,List.length_nil];omega) (Ev.iN rfl (Ev.pos (by simp only [List.length_cons,List.length_nil];omega) ?_)))))))
    have:=ih (i + 1) (by omega)
    rw [BO,P6,Zv,Zw] at this
    exact this
end
/- Orders, ranges and errors of moments: the program's upTo and the reference's awk; no condition. -/
theorem Vd (a b : Int) : nD.f a b = some (decide (b ≤ a∧a ≤ 12)):=by
  unfold nD.f
  rw [Cq];rfl
section
variable {p : Int} (hp : Pm p) {l : List Int} (nl : Nm p l) (hl : l.length ≤ 24)
include hp nl hl
theorem BG (h1 : 1 ≤ l.length) (k : Nat) (hk : k ≤ 12) :
    Ev (fun n=>aA.f n p l (k : Int)) (if (k : Int) ≤ vD p l∧2 * k ≤ l.length then (rJ p l k,xX p l k,p,mAl p l k,mBe p l k,true) else ([[1]],[],p,[],[],false)):=by
  unfold aA.f
  refine Ev.iN (a:=[[1]]) rfl (Ev.bind (DT hp nl hl) ?_)
  by_cases c1 : vD p l < (k : Int)
  · rw [if_neg (by omega)]
    refine Ev.pos c1 (Ev.step (fun n=>by rw [aA.j0]) ?_)
    exact Ev.pos rfl (Ev.now _)
  · refine Ev.neg c1 (Ev.iN (a:=(l.length : Int)) rfl (Ev.step (fun n=>by rw [aA.j0]) ?_))
    have e : wrap64 (2 * (k : Int)) = 2 * (k : Int):=bJ (by omega) (by omega)
    rw [e]
    by_cases c2 : 2 * k ≤ l.length
    · rw [if_pos ⟨by omega,c2⟩,decide_eq_false (by omega)]
      exact Ev.neg (by decide) (Ev.iN (a:=p) rfl (P8 hp nl hl h1 c2 k 0 (by omega)))
    · rw [if_neg (fun g=>c2 g.2),decide_eq_true (by omega)]
      exact Ev.pos rfl (Ev.now _)
end
theorem Xe (p : Int) (l : List Int) (d : Nat) : ∀ i : Nat,∃ m : Nat,BP p l d i = (m : Int)∧m ≤ i + d:=by
  induction d with
  | zero=>intro i;exact ⟨i,rfl,Nat.le_refl _⟩
  | succ d ih =>
    intro i
    rw [BP]
    by_cases h : wz p l (i + 1) = 0
    · exact ⟨i,if_pos h,by omega⟩
    · obtain ⟨m,h1,h2⟩:=ih (i + 1)
      exact ⟨m,by rw [if_neg h,h1],by omega⟩
theorem Bn (p : Int) (l : List Int) : ∃ m : Nat,vD p l = (m : Int)∧2 * m ≤ l.length + 1:=by
  obtain ⟨m,h1,h2⟩:=Xe p l ((l.length + 1) / 2) 0
  exact ⟨m,h1,by omega⟩
/- The draws of FnKernels. -/
open Go Go.RowKit Go.Proofs.YtnpepkpogohcmaaGreatW.PrintWords Go.Proofs.YtnpepkpogohcmaaGreatW.PrintLast Go.Proofs.YtnpepkpogohcmaaGreatW.PrintMore
section
variable {c : List Int} {i : Int}
def Pt4 (r : Int × List Int × Int × Int × Int) : Prop:=r.2.1.length ≤ 201∧0 ≤ r.2.2.1∧r.2.2.1 ≤ 90
theorem Qa (s : St c i) (h p : Int) (l : List Int) (hl : l.length ≤ 201) (m : Int) (hm : 0 ≤ m∧m ≤ 1000) : Ex (fun k=>dO.j0 k m c i h p l) Pt4:=by
  refine Ex.step (fun k=>by rw [dO.j0]) ?_
  refine Ex.bind (Ve _) (fun q _=>Ex.bind (mH s h _) (fun a ha=>Ex.bind (mH ha.1 _ 16) (fun b hb=>Ex.bind (mH hb.1 _ q) (fun d hd=>Ex.bind (mH hd.1 _ 24) (fun e he=>Ex.bind (mH he.1 _ _) (fun f _=>Ex.now ⟨hl,?_⟩))))))
  have a1:=ha.2.1
  have b1:=hb.2.1
  have b2:=hb.2.2.1 (by omega)
  have hw : wrap64 (mn m 11 + 1) = mn m 11 + 1∧mn m 11 ≤ 11∧0 ≤ mn m 11:=by
    unfold mn
    split
    · exact ⟨bJ (by omega) (by omega),by omega,by omega⟩
    · exact ⟨bJ (by omega) (by omega),by omega,by omega⟩
  have a2:=ha.2.2.1 (by rw [hw.1];omega)
  rw [hw.1] at a2
  dsimp only
  rw [Int.tdiv_eq_ediv_of_nonneg b1,bJ (x:=b.1 / 15) (by omega) (by omega),bJ (by omega) (by omega)]
  omega
end
section
variable {c : List Int} (hb : ∀ x ∈ c,0 ≤ x∧x < 256) (hl : c.length ≤ 4096)
include hb hl
theorem JJ : Ex (fun k=>dO.f k c) Pt4:=by
  unfold dO.f
  refine Ex.bind (Vf hb hl) (fun a ha=>?_)
  obtain ⟨e,st⟩:=ha
  rw [e]
  refine Ex.bind (ZB st _) (fun b hb=>?_)
  have hlen:=hb.2
  refine Ex.bind (P:=fun t=>t = kS b.1 b.2.1) ⟨_,zW b.1 b.2.1 (by unfold Sm;omega),rfl⟩ (fun t ht=>?_)
  refine Ex.ite (fun g=>?_) (fun _=>Qa hb.1 _ _ _ hlen _ (by omega))
  rw [ht] at g
  obtain ⟨m,ho,hm2⟩:=Bn b.1 b.2.1
  refine Ex.bind (P:=fun o=>o = vD b.1 b.2.1) ⟨_,JA (kS.pm g) (kS.nm g) (kS.len g).2,rfl⟩ (fun o e=>?_)
  subst e
  refine Qa hb.1 _ _ _ hlen _ ?_
  have h24:=(kS.len g).2
  rw [ho,bJ (by omega) (by omega)]
  unfold mx
  split <;> omega
theorem Ml : Ex (fun k=>lg.f k c) (fun r=>Sm r.2.1.length):=by
  unfold lg.f
  exact Ex.bind (JJ hb hl) (fun b hb=>Ex.now (by have:=hb.1;dsimp only;unfold Sm;omega))
theorem Mm : Ex (fun k=>kZ.f k c) (fun r=>Sm r.2.1.length):=by
  unfold kZ.f
  exact Ex.bind (JJ hb hl) (fun b hb=>Ex.now (by have:=hb.1;dsimp only;unfold Sm;omega))
theorem Rm : Ex (fun k=>dR.f k c) (fun r=>Sm r.2.1.length∧Sm r.2.2.2.1.length):=by
  unfold dR.f
  refine Ex.bind (Vf hb hl) (fun a ha=>?_)
  obtain ⟨e,st⟩:=ha
  rw [e]
  refine Ex.bind (JJ hb hl) (fun b hb=>Ex.bind (Ve _) (fun q _=>Ex.bind (mH st _ 12) (fun d hd=>?_)))
  obtain ⟨b1,b2,b3⟩:=hb
  have d1:=hd.2.1
  have d2:=hd.2.2.1 (by omega)
  have hn : -1000 ≤ wrap64 (mn b.2.2.1 12 + wrap64 (Int.tdiv d.1 11))∧wrap64 (mn b.2.2.1 12 + wrap64 (Int.tdiv d.1 11)) ≤ 100:=by
    have h1 : 0 ≤ mn b.2.2.1 12∧mn b.2.2.1 12 ≤ 12:=by
      unfold mn
      split <;> omega
    rw [Int.tdiv_eq_ediv_of_nonneg d1,bJ (x:=d.1 / 11) (by omega) (by omega),bJ (by omega) (by omega)]
    omega
  exact Ex.bind (Qc hd.1 _ _ _ hn) (fun f hf=>Ex.now ⟨by dsimp only;unfold Sm;omega,by have:=hf.2;dsimp only;unfold Sm;omega⟩)
end
/- The program's NormOf where the norm is told; no condition. -/
theorem Kz {p : Int} {l : List Int} (h : kS p l = true) (hl : Sm l.length) {k : Nat} (hk : (k : Int) ≤ vD p l) (c3 : 2 * k + 1 ≤ l.length) : Ev (fun n=>dM.f n p l (k : Int)) (kN p l (mP p l k) 0,0):=by
  have hp:=kS.pm h
  have nl:=kS.nm h
  have hlen:=kS.len h
  have hc:=xS p l hl true [] (by simp [Sm]) (fun l h=>by cases h)
  rw [h] at hc
  have h1 : nC.f (k : Int) = some true:=by
    unfold nC.f
    rw [Vd,decide_eq_true (by omega)];rfl
  have hu:=BG hp nl hlen.2 hlen.1 k (by omega)
  rw [if_pos ⟨hk,by omega⟩] at hu
  have e1 : wrap64 (2 * (k : Int)) = 2 * (k : Int):=bJ (by omega) (by omega)
  have e2 : wrap64 (2 * (k : Int) + 1) = 2 * (k : Int) + 1:=bJ (by omega) (by omega)
  have hol:=sP hp l k
  have h2:=Ed hp l k
  unfold dM.f
  refine Ev.iN h1 (Ev.bind hc (Ev.pos rfl (Ev.bind hu (Ev.pos rfl (Ev.iN (a:=(l.length : Int)) rfl (Ev.step (fun k=>by rw [dM.j0]) ?_))))))
  rw [e1,e2,decide_eq_false (by omega)]
  refine Ev.neg (by decide) (Ev.iN (a:=p) rfl ?_)
  simp only [rO]
  rw [uF,rM p l (Nat.le_refl k)]
  exact Ev.pos (by omega) (Ev.pos (by omega) (Ev.bind (vG hp _ _ h2 h2 (by unfold Sm;omega) (by unfold Sm;omega) (by unfold Sm;omega)) (Ev.bind (zU hp nl hlen.2 (by omega)) (Ev.now _))))
/- The program's OrthogonalPolynomial at good moments and a number at most 12; no further condition. -/
theorem Ec {p : Int} {l : List Int} (h : kS p l = true) (hl : Sm l.length) {k : Nat} (hk : k ≤ 12) : Ev (fun n=>fA.f n p l (k : Int)) (if (k : Int) ≤ vD p l∧2 * k ≤ l.length then (mP p l k,0) else ([],5)):=by
  have hc:=xS p l hl true [] (by simp [Sm]) (fun l h=>by cases h)
  rw [h] at hc
  have h1 : ek.f (k : Int) = some true:=by
    unfold ek.f
    rw [Vd,decide_eq_true (by omega)];rfl
  have hp:=kS.pm h
  have nl:=kS.nm h
  have hlen:=kS.len h
  have hu:=BG hp nl hlen.2 hlen.1 k hk
  unfold fA.f
  by_cases c : (k : Int) ≤ vD p l∧2 * k ≤ l.length
  · rw [if_pos c] at hu
    rw [if_pos c]
    refine Ev.iN h1 (Ev.bind hc (Ev.pos rfl (Ev.bind hu (Ev.pos rfl ?_))))
    simp only [rO]
    rw [uF,rM p l (Nat.le_refl k)]
    exact Ev.pos (by omega) (Ev.pos (by omega) (Ev.now _))
  · rw [if_neg c] at hu
    rw [if_neg c]
    exact Ev.iN h1 (Ev.bind hc (Ev.pos rfl (Ev.bind hu (Ev.neg (by simp) (Ev.now _)))))
/- The program's sum of numbers times polynomials; no condition. -/
theorem Si {p : Int} (hp : Pm p) (c : List Int) (nc : Nm p c) (P : Nat → List Int) (hP : ∀ i,(P i).length ≤ i + 1) (hPn : ∀ i,Nm p (P i)) (L : List (List Int)) (hL : ∀ i,i < c.length → L.getD i [] = P i) (hLl : c.length ≤ L.length) (hs : c.length ≤ 1000) (d : Nat) : ∀ i,i + d = c.length →
    Ev (fun n=>iC.l0 n p L (xc p P (fun k=>c.getD k 0) i) c (c.length : Int) (i : Int)) (xc p P (fun k=>c.getD k 0) c.length):=by
  induction d with
  | zero =>
    intro i hi
    refine Ev.step (fun n=>by rw [iC.l0]) ?_
    refine Ev.neg (by omega) (Ev.oh ?_)
    rw [show i = c.length by omega]
  | succ d ih =>
    intro i hi
    have h1:=hP i
    have h2:=Jy (p:=p) P (fun k=>c.getD k 0) hP i
    have hc:=nc.get (i:=i) (by omega)
    refine Ev.step (fun n=>by rw [iC.l0]) ?_
    rw [uF,mV,hL i (by omega),lC (i:=i) (n:=1000) (by omega) (by omega)]
    refine Ev.pos (by omega) (Ev.pos (by omega) (Ev.pos (by omega) (Ev.pos (by omega) (Ev.bind (JK hp hc _ _ (Ez hp _ _ _) (hPn i) (by unfold Sm;omega) (by unfold Sm;omega)) ?_))))
    exact ih (i + 1) (by omega)
theorem RX {p : Int} (hp : Pm p) (c : List Int) (nc : Nm p c) (P : Nat → List Int) (hP : ∀ i,(P i).length ≤ i + 1) (hPn : ∀ i,Nm p (P i)) (L : List (List Int)) (hL : ∀ i,i < c.length → L.getD i [] = P i) (hLl : c.length ≤ L.length) (hs : c.length ≤ 1000) :
    Ev (fun n=>iC.f n p c L) (xc p P (fun k=>c.getD k 0) c.length):=by
  unfold iC.f
  exact Si hp c nc P hP hPn L hL hLl hs c.length 0 (by omega)
end Go.Proofs.YtnpepkpogohcmaaGreat.Pr
