/- Texts of this session in one: what functions of the program compute, and plain facts of it, under the conditions that each theorem names. -/
import Derived.Test.YtilbjbahmilhkaaKgonals1
import Derived.Test.YtilbjbahmilhkaaKgonals10
import Derived.Test.YtilbjbahmilhkaaKgonals11
import Derived.Test.YtilbjbahmilhkaaKgonals2
import Derived.Test.YtilbjbahmilhkaaKgonals3
import Derived.Test.YtilbjbahmilhkaaKgonals4
import Derived.Test.YtilbjbahmilhkaaKgonals6
import Derived.Test.YtilbjbahmilhkaaKgonals7
import Derived.Test.YtilbjbahmilhkaaKgonals8
import Derived.Test.YtilbjbahmilhkaaKgonals9
namespace Go.Proofs.Ytilbjbahmilhkaa.Pr
open Go.RowKit Go.Proofs.YtilbjbahmilhkaaW.PrintWords Go.Proofs.YtilbjbahmilhkaaW.PrintLast Go.Proofs.YtilbjbahmilhkaaW.PrintMore
attribute [local go_sem] o9 pg qX qY nM nN pq pu   -- for this text's walks alone
set_option linter.unusedVariables false
set_option maxHeartbeats 8000000
set_option maxRecDepth 100000
set_option linter.unusedSimpArgs false
/-! ### kL: function 33 -/
def kL.f (k : Nat) (av : Int) (ah : List Int) (a1 : Int) (a2 : Int) : Option (Int):=(jg.f k av ah).bind fun asY=>(if asY = true then ((jk.f a1 a2 12).bind fun asZ=>(if asZ = true then ((lh.f k av ah a1).bind fun as0=>(if as0 = true then (some 0) else (some 5))) else (some 2))) else (some 1))
theorem kL.calls (k : Nat) (av : Int) (bz : Option Addr) (bu : Nat) (ah : List Int) (a1 : Int) (a2 : Int) (r : Int) (w : World) (hr0_1 : Kd.C (Kd.int .i64) w bz ah.length ah) (gy : ah.length ≤ bu) (H : kL.f k av ah a1 a2 = some r) :
  Calls Try.prog 33 #[.agg #[.int .i64 av,.slice bz ah.length bu],.int .i64 a1,.int .i64 a2] w fun e w'=>e = .returned (.int .i64 r)∧Below w.heap.size w w':=by
 have qV:=Try.underlying26;have dS:=zA hr0_1;have dY:=zA gy;clear hr0_1 gy;have HB:=zA (Below.refl w.heap.size w);unfold kL.f at H;replace H:=bO H;obtain ⟨asY,A4,H⟩:=H;replace H:=gB H;obtain ⟨rfl,H⟩|⟨rfl,H⟩:=H
 ·replace H:=bO H;obtain ⟨asZ,A6,H⟩:=H;replace H:=gB H;obtain ⟨rfl,H⟩|⟨rfl,H⟩:=H
  ·replace H:=bO H;obtain ⟨as0,A8,H⟩:=H;replace H:=gB H;obtain ⟨rfl,H⟩|⟨rfl,H⟩:=H
   ·obtain rfl:=Option.some.inj H;go_enter Try.func33,Try.ntmps33;go_wp2_with (first | ((with_reducible refine bI (N:=3) rfl ?_);refine bx 3 #[.int .i64 av,.slice bz ah.length bu] 26 ?_;intro aa7 hg w10 hbox hb;have l7:=zA (hbox);have Jr:=gq HB hg;have:=geI Jr;replace HB:=xH HB hb;clear hb hbox hg;have wZ:=bc l7 0;have yj:=bc l7 1;have xc:=bf l7 0;have yl:=bf l7 1) | ((with_reducible refine ae (f:=45) rfl ?_);refine gL (some 9) Try.func45 #[.agg #[.int .i64 av,.slice bz ah.length bu]] ?_;(with_reducible refine (jg.calls k av _ _ ah true _ ?side1 ?side2 A4.out).mono ?_);(case side1=>exact uC ((Kd.aQ dS.out HB.out)));(case side2=>exact dY.out);rintro e w12 ⟨rfl,hb⟩;refine ⟨_,rfl,?_⟩;replace l7:=xB l7 hb;replace HB:=xH HB hb;(try clear hb)) | ((with_reducible refine ae (f:=53) rfl ?_);refine gL (some 14) Try.func53 #[.int .i64 a1,.int .i64 a2,.int .i64 12] ?_;(with_reducible refine (jk.calls a1 a2 12 true _ A6.out).mono ?_);rintro e w' ⟨rfl,⟨nd,rfl⟩⟩;refine ⟨_,rfl,?_⟩;have lI:=bc l7 0;have lU:=bc l7 1;have lJ:=bf l7 0;have lV:=bf l7 1) | ((with_reducible refine ae (f:=74) rfl ?_);refine gL (some 19) Try.func74 #[.agg #[.int .i64 av,.slice bz ah.length bu],.int .i64 a1] ?_;(with_reducible refine (lh.calls k av _ _ ah a1 true _ ?side1 ?side2 A8.out).mono ?_);(case side1=>repeat (first | exact (Kd.aQ dS.out (uH HB.out)) | (with_reducible refine Kd.dE ?_ _) | (with_reducible refine Kd.dF ?_ _) | (with_reducible refine Kd.eQ ?_)));(case side2=>exact dY.out);rintro e w14 ⟨rfl,hb⟩;refine ⟨_,rfl,?_⟩;replace l7:=xB l7 hb;replace HB:=xH HB hb;(try clear hb)));go_ret;exact ⟨eX,uH HB.out⟩
   ·obtain rfl:=Option.some.inj H;go_enter Try.func33,Try.ntmps33;go_wp2_with (first | ((with_reducible refine bI (N:=3) rfl ?_);refine bx 3 #[.int .i64 av,.slice bz ah.length bu] 26 ?_;intro aa7 hg w15 hbox hb;have l7:=zA (hbox);have Jr:=gq HB hg;have:=geI Jr;replace HB:=xH HB hb;clear hb hbox hg;have GU:=bc l7 0;have MU:=bc l7 1;have GV:=bf l7 0;have MV:=bf l7 1) | ((with_reducible refine ae (f:=45) rfl ?_);refine gL (some 9) Try.func45 #[.agg #[.int .i64 av,.slice bz ah.length bu]] ?_;(with_reducible refine (jg.calls k av _ _ ah true _ ?side1 ?side2 A4.out).mono ?_);(case side1=>exact uC ((Kd.aQ dS.out HB.out)));(case side2=>exact dY.out);rintro e w17 ⟨rfl,hb⟩;refine ⟨_,rfl,?_⟩;replace l7:=xB l7 hb;replace HB:=xH HB hb;(try clear hb)) | ((with_reducible refine ae (f:=53) rfl ?_);refine gL (some 14) Try.func53 #[.int .i64 a1,.int .i64 a2,.int .i64 12] ?_;(with_reducible refine (jk.calls a1 a2 12 true _ A6.out).mono ?_);rintro e w' ⟨rfl,⟨nd,rfl⟩⟩;refine ⟨_,rfl,?_⟩;have DV:=bc l7 0;have DW:=bc l7 1;have DX:=bf l7 0;have DY:=bf l7 1) | ((with_reducible refine ae (f:=74) rfl ?_);refine gL (some 19) Try.func74 #[.agg #[.int .i64 av,.slice bz ah.length bu],.int .i64 a1] ?_;(with_reducible refine (lh.calls k av _ _ ah a1 false _ ?side1 ?side2 A8.out).mono ?_);(case side1=>repeat (first | exact (Kd.aQ dS.out (uH HB.out)) | (with_reducible refine Kd.dE ?_ _) | (with_reducible refine Kd.dF ?_ _) | (with_reducible refine Kd.eQ ?_)));(case side2=>exact dY.out);rintro e w19 ⟨rfl,hb⟩;refine ⟨_,rfl,?_⟩;replace l7:=xB l7 hb;replace HB:=xH HB hb;(try clear hb)));go_ret;exact ⟨eX,uH HB.out⟩
  ·obtain rfl:=Option.some.inj H;go_enter Try.func33,Try.ntmps33;go_wp2_with (first | ((with_reducible refine bI (N:=3) rfl ?_);refine bx 3 #[.int .i64 av,.slice bz ah.length bu] 26 ?_;intro aa7 hg w20 hbox hb;have l7:=zA (hbox);have Jr:=gq HB hg;have:=geI Jr;replace HB:=xH HB hb;clear hb hbox hg;have Hg:=bc l7 0;have Hl:=bc l7 1;have Hm:=bf l7 0;have Ho:=bf l7 1) | ((with_reducible refine ae (f:=45) rfl ?_);refine gL (some 9) Try.func45 #[.agg #[.int .i64 av,.slice bz ah.length bu]] ?_;(with_reducible refine (jg.calls k av _ _ ah true _ ?side1 ?side2 A4.out).mono ?_);(case side1=>exact uC ((Kd.aQ dS.out HB.out)));(case side2=>exact dY.out);rintro e w22 ⟨rfl,hb⟩;refine ⟨_,rfl,?_⟩;replace l7:=xB l7 hb;replace HB:=xH HB hb;(try clear hb)) | ((with_reducible refine ae (f:=53) rfl ?_);refine gL (some 14) Try.func53 #[.int .i64 a1,.int .i64 a2,.int .i64 12] ?_;(with_reducible refine (jk.calls a1 a2 12 false _ A6.out).mono ?_);rintro e w' ⟨rfl,⟨nd,rfl⟩⟩;refine ⟨_,rfl,?_⟩));go_ret;exact ⟨eX,uH HB.out⟩
 ·obtain rfl:=Option.some.inj H;go_enter Try.func33,Try.ntmps33;go_wp2_with (first | ((with_reducible refine bI (N:=3) rfl ?_);refine bx 3 #[.int .i64 av,.slice bz ah.length bu] 26 ?_;intro aa7 hg w23 hbox hb;have l7:=zA (hbox);have Jr:=gq HB hg;have:=geI Jr;replace HB:=xH HB hb;clear hb hbox hg;have acQ:=bc l7 0;have acR:=bc l7 1;have acS:=bf l7 0;have acT:=bf l7 1) | ((with_reducible refine ae (f:=45) rfl ?_);refine gL (some 9) Try.func45 #[.agg #[.int .i64 av,.slice bz ah.length bu]] ?_;(with_reducible refine (jg.calls k av _ _ ah false _ ?side1 ?side2 A4.out).mono ?_);(case side1=>exact uC ((Kd.aQ dS.out HB.out)));(case side2=>exact dY.out);rintro e w25 ⟨rfl,hb⟩;refine ⟨_,rfl,?_⟩;replace l7:=xB l7 hb;replace HB:=xH HB hb;(try clear hb)));go_ret;exact ⟨eX,uH HB.out⟩
/-! ### dB: function 12 -/
mutual
def dB.j0 : Nat → Int → Int → Bool → Int → List Int → Option (Int × Int)
 | 0,_,_,_,_,_=>none
 | k + 1,x1,x6,x20,Ew,Ey=>if x20 = true then (dB.j1 k x1 5 Ew Ey) else (dB.j1 k x1 x6 Ew Ey)
def dB.j1 : Nat → Int → Int → Int → List Int → Option (Int × Int)
 | 0,_,_,_,_=>none
 | k + 1,x1,x6,Ew,Ey=>if x6 = 0 then ((dH.f k Ew Ey x1).bind fun PU=>(if 0 ≤ x1 then (if x1 < (PU.length : Int) then ((fJ.f k Ew Ey (fw PU x1) 0).bind fun akT=>(some (akT,0))) else (none)) else (none))) else (some (0,x6))
end
def dB.f (k : Nat) (av : Int) (ah : List Int) (a1 : Int) : Option (Int × Int):=(kL.f k av ah a1 0).bind fun Sr=>(if Sr = 0 then (dB.j0 k a1 Sr (decide ((ah.length : Int) < (wrap64 ((wrap64 (2 * a1)) + 1)))) av ah) else (dB.j0 k a1 Sr false av ah))
def dB.T6 : Bool × List (List Nat × List Nat):=(true,[([],[]),([],[]),([],[]),([1,2],[1,2]),([],[]),([3,4],[3,4]),([5],[5]),([0,6,3],[0,6]),([7,7,0,1,2,3,4,5,6,7],[7]),([8,0,1,2,3,4,5,6,7,8],[])])
def dB.B6 : List Nat:=[0,0,0,6,0,30,62,127,255,511]
theorem dB.acZ : nI .any (opsOf Try.f12 6) = dB.T6:=by kernel_rfl
theorem dB.Ub : jT dB.T6.2 dB.B6 = true:=by kernel_rfl
theorem dB.calls (k : Nat) (av : Int) (bz : Option Addr) (bu : Nat) (ah : List Int) (a1 : Int) (r1 : Int) (r2 : Int) (w : World) (hr0_1 : Kd.C (Kd.int .i64) w bz ah.length ah) (gy : ah.length ≤ bu) (H : dB.f k av ah a1 = some (r1,r2)) :
  Calls Try.prog 12 #[.agg #[.int .i64 av,.slice bz ah.length bu],.int .i64 a1] w fun e w'=>e = .returned (.tuple #[.int .i64 r1,.int .i64 r2])∧Below w.heap.size w w':=by
 have qV:=Try.underlying26;have dS:=zA hr0_1;have dY:=zA gy;clear hr0_1 gy;have HB:=zA (Below.refl w.heap.size w);unfold dB.f at H;replace H:=bO H;obtain ⟨Sr,A3,H⟩:=H;have HC4:=zA H;clear H;go_enter Try.func12,Try.ntmps12;go_upto_region 2 with (first | ((with_reducible refine bI (N:=2) rfl ?_);(try (refine qw (by rfl) ?_;dsimp only));refine bx 2 #[.int .i64 av,.slice bz ah.length bu] 26 ?_;intro KN hg w5 hbox hb;have o6:=zA (hbox);have as1:=gq HB hg;have:=geI as1;replace HB:=xH HB hb;clear hb hbox hg;have IP:=bc o6 0;have IQ:=bc o6 1;have IR:=bf o6 0;have IU:=bf o6 1) | ((with_reducible refine ae (f:=33) rfl ?_);refine gL (some 9) Try.func33 #[.agg #[.int .i64 av,.slice bz ah.length bu],.int .i64 a1,.int .i64 0] ?_;(with_reducible refine (kL.calls k av _ _ ah a1 0 Sr _ ?side1 ?side2 A3.out).mono ?_);(case side1=>exact uC ((Kd.aQ dS.out HB.out)));(case side2=>exact dY.out);rintro e w7 ⟨rfl,hb⟩;refine ⟨_,rfl,?_⟩;replace o6:=xB o6 hb;replace HB:=xH HB hb;(try clear hb)));(try simp only [Act.put,ls,lz,ln]);go_cut [20] (fun v20 wc=>∃ (kq : Nat) (aa8 : Bool),v20 = .bool aa8∧aa (dB.j0 kq a1 Sr aa8 av ah = some (r1,r2))∧aa (kq ≤ k)∧aa (wc.heap[KN]? = some (.cells #[.int .i64 av,(.slice bz ah.length bu)] 26 (0,0)))∧aa (Below w.heap.size w wc))
 case first =>
  have H:=HC4.out;clear HC4;replace H:=gE H;obtain ⟨c8,uT,Gc,H⟩|⟨c8,uT,Gc,H⟩:=H
  ·(first | rw [uT] | (simp only [jd,kQ];rw [uT]) | skip);have H':=zA H;clear H;go_wp2;go_meet;(case rel=>exact ⟨_,(false),eS,H',⟨by first | omega | exact Nat.le_refl _⟩,⟨uB o6.out⟩,⟨uH HB.out⟩⟩)
  clear c8;(first | rw [uT] | (simp only [jd,kQ];rw [uT]) | skip);have H':=zA H;clear H;have vJ:=bc o6 0;have vK:=bc o6 1;have wP:=bf o6 0;have vL:=bf o6 1;go_wp2;go_meet;(case rel=>exact ⟨_,(decide ((ah.length : Int) < (wrap64 ((wrap64 (2 * a1)) + 1)))),eS,H',⟨by first | omega | exact Nat.le_refl _⟩,⟨uB o6.out⟩,⟨uH HB.out⟩⟩)
 case rest =>
  clear HC4;(try clear c1);(try clear p2);(try clear c3);(try clear p6);(try clear c8);(try clear uT);(try clear Gc);(try clear IP);(try clear IQ);(try clear vJ);(try clear vK);(try clear IR);(try clear IU);(try clear wP);(try clear vL);obtain ⟨kq,aa8,rfl,HA,HJ3,o6,HB⟩:=hcut
  cases kq with
  | zero=>exact absurd HA.out (by simp [dB.j0])
  | succ kj3 =>
   have H:=HA.out;clear HA;simp only [dB.j0] at H;have akU:=zA H;clear H;go_upto_if 20 with (fail);go_cut [6] (fun v6 wc=>∃ (kq : Nat) (akV : Int),v6 = .int .i64 akV∧aa (dB.j1 kq a1 akV av ah = some (r1,r2))∧aa (kq ≤ kj3)∧aa (wc.heap[KN]? = some (.cells #[.int .i64 av,(.slice bz ah.length bu)] 26 (0,0)))∧aa (Below w.heap.size w wc))
   case first =>
    have H:=akU.out;clear akU;replace H:=gB H;obtain ⟨rfl,H⟩|⟨rfl,H⟩:=H
    ·have H':=zA H;clear H;go_wp2;go_meet;(case rel=>exact ⟨_,(5),eS,H',⟨by have:=HJ3.out;first | omega | exact Nat.le_refl _⟩,⟨uB o6.out⟩,⟨uH HB.out⟩⟩)
    ·have H':=zA H;clear H;go_wp2;go_meet;(case rel=>exact ⟨_,(Sr),eS,H',⟨by have:=HJ3.out;first | omega | exact Nat.le_refl _⟩,⟨uB o6.out⟩,⟨uH HB.out⟩⟩)
   case rest =>
    clear akU;(try clear c1);(try clear p2);(try clear c3);(try clear p6);(try clear c8);(try clear uT);(try clear Gc);(try clear c11);(try clear IP);(try clear IQ);(try clear vJ);(try clear vK);(try clear IR);(try clear IU);(try clear wP);(try clear vL);(try clear p2);(try clear p6);obtain ⟨kq,akV,rfl,HA,HJ9,o6,HB⟩:=hcut
    cases kq with
    | zero=>exact absurd HA.out (by simp [dB.j1])
    | succ kj9 =>
     have H:=HA.out;clear HA;simp only [dB.j1] at H;replace H:=gE H;obtain ⟨c12,Dv,agf,H⟩|⟨c12,Dv,agf,H⟩:=H
     ·simp only [Option.some.injEq,Prod.mk.injEq] at H;obtain ⟨rfl,rfl⟩:=H;go_wp2;go_ret2;exact ⟨eX,uH HB.out⟩
     clear c12;replace H:=bO H;obtain ⟨PU,A13,H⟩:=H;replace H:=gD H;obtain ⟨Cn,H⟩:=H;replace H:=gD H;obtain ⟨oU,H⟩:=H;replace H:=bO H;obtain ⟨akT,A16,H⟩:=H;simp only [Option.some.injEq,Prod.mk.injEq] at H;obtain ⟨rfl,rfl⟩:=H;(try go_wp2);replace o6:=zA (bN o6.out);replace HB:=zA (aW HB.out);refine ky (n:=10) (S:=fun w'=>w'.cell? ⟨KN,0,none⟩ = some (.int .i64 av)∧w'.cell? ⟨KN,1,none⟩ = some (.slice bz ah.length bu)) (ds:=[]) #[false,false,false,false,false,false,false,false,false,false] (by kernel_rfl) rfl rfl ⟨bcu o6 0,bcu o6 1⟩ (fun hHeld=>?_);refine gV dB.acZ dB.Ub (fun HT_ HW_=>?_);generalize wc.drew = w17 at o6 HB hHeld ⊢;refine pu_ 2 26 (bl 10 4) HT_ ?_;refine pu_ 4 28 (bl 10 20) HT_ ?_;refine ta_ 0 24 (bl 10 21) HT_ HW_ hHeld ?_;refine ta_ 1 25 (bl 10 23) HT_ HW_ hHeld ?_;refine on_ 3 (some 27) (bl 10 31) HT_ (fun K hK=>?_);refine gS Try.func34 #[.agg #[.int .i64 av,.slice bz ah.length bu],.int .i64 a1] ?_;(with_reducible refine (dH.calls kj9 av _ _ ah a1 PU _ ?side1 ?side2 A13.out).mono ?_);(case side1=>exact uC ((Kd.aQ dS.out HB.out)));(case side2=>exact dY.out);rintro e w18 ⟨aEo,rfl,ho0,hb⟩;refine ⟨_,rfl,?_⟩;have KO:=zA (Kd.zt (Kd.rM (ok':=fun k_=>k_ ≠ KN) ho0 (fun k_ hk_=>(Kd.kX (g:=KN) (o:=.cells #[.int .i64 av,.slice bz ah.length bu] 26 (0,0)) (uB o6.out) k_ hk_))) (af (uH HB.out)));replace o6:=xB o6 hb;replace HB:=xH HB hb;(try clear hb);(try clear ho0);obtain ⟨CR,Cg,LQ⟩:=Kd.wY KO.out;(first | subst LQ | (injection LQ with f1_ f2_ f3_;have f4_:=f1_.symm;have f5_:=f3_.symm;clear f1_ f2_ f3_;subst f4_;subst f5_));have aep : 0 ≤ (a1 : Int):=oD;have aeq : a1 < (PU.length : Int):=oD;obtain ⟨aB1,akW,akX,azw,aer,Vn,Vo⟩:=y7 (Kd.kN KO.out).2.2 a1 aep aeq;cases azw;obtain ⟨aB2,akY,akZ,aa9⟩:=Kd.DT KO.out [] a1 aep (by first | exact aeq | exact of_decide_eq_true (by first | (with_reducible assumption) | assumption) | (have e_:=(Kd.kN KO.out).1;omega));obtain ⟨avj,avk,rfl,NK,NL⟩:=Kd.mY akZ;have H5:=aa9 0 _ rfl;rw [Nat.add_zero,show ((Kd.slice 2 (Kd.int .i64))).sz = 1 from rfl,Nat.mul_one] at H5;replace H5:=Option.some.inj (H5.symm.trans aer);injection H5 with hva_ hvn_ hvc_;rw [hva_] at NL;rw [hvc_] at NK;have Vp:=zA (show Kd.V (Kd.int .i64) 2 _ w.heap.size _ _ (fw PU a1) from Kd.EF NK NL);clear hva_ hvn_ hvc_ NL NK;clear aa9 akY;have Ez:=zA Vo;have aes:=zA Vn;clear Vo Vn;replace aep:=eq_true aep;replace aeq:=eq_true aeq;refine hK.out _ _ ⟨bcu o6 0,bcu o6 1⟩ (fun hHeld=>?_);clear hK K;refine no_ 27 ?_;refine pu_ 5 29 (bl 10 63) HT_ ?_;refine lo_ 6 30 (bl 10 127) HT_ hHeld ?_;refine on_ 7 (some 31) (bl 10 255) HT_ (fun K hK=>?_);refine gS Try.func40 #[.agg #[.int .i64 av,.slice bz ah.length bu],.slice akW (fw PU a1).length akX,.int .i64 0] ?_;(with_reducible refine (fJ.calls kj9 av _ _ ah _ _ (fw PU a1) 0 akT _ ?side1 ?side2 ?side3 ?side4 A16.out).mono ?_);(case side1=>exact uC ((Kd.aQ dS.out HB.out)));(case side2=>exact dY.out);(case side3=>repeat (first | exact (by repeat (first | (with_reducible exact Ez.out) | (with_reducible refine Kd.dE ?_ _) | (with_reducible refine Kd.dF ?_ _) | (with_reducible refine Kd.eQ ?_) | exact Ez.out)) | (with_reducible refine Kd.dE ?_ _) | (with_reducible refine Kd.dF ?_ _) | (with_reducible refine Kd.eQ ?_)));(case side4=>exact aes.out);rintro e w20 ⟨rfl,hb⟩;refine ⟨_,rfl,?_⟩;replace KO:=zA (Kd.oO (uN KO.out) hb);replace Vp:=zA (Kd.jZ (uV Vp.out) hb);replace o6:=xB o6 hb;replace Ez:=zA (Kd.aQ (by repeat (first | (with_reducible exact Ez.out) | (with_reducible refine Kd.dE ?_ _) | (with_reducible refine Kd.dF ?_ _) | (with_reducible refine Kd.eQ ?_) | exact Ez.out)) hb);replace HB:=xH HB hb;(try clear hb);refine hK.out _ _ ⟨bcu o6 0,bcu o6 1⟩ (fun hHeld=>?_);clear hK K;refine no_ 31 ?_;refine pu_ 8 4 (bl 10 511) HT_ ?_;refine pu_ 9 5 (bl 10 1023) HT_ ?_;refine done_ (done_of HT_.out (by kernel_rfl)) ?_;(try go_wp2);go_ret2;exact ⟨eX,uH HB.out⟩
/-! ### eD: function 8 -/
def eD.f (k : Nat) (av : Int) (ah : List Int) (a1 : Int) : Option (List Int × Int):=(kL.f k av ah a1 0).bind fun aba=>(if aba = 0 then ((dH.f k av ah a1).bind fun WS=>(if 0 ≤ a1 then (if a1 < (WS.length : Int) then (some (fw WS a1,0)) else (none)) else (none))) else (some (([] : List Int),aba)))
theorem eD.calls (k : Nat) (av : Int) (bz : Option Addr) (bu : Nat) (ah : List Int) (a1 : Int) (r1 : List Int) (r2 : Int) (w : World) (hr0_1 : Kd.C (Kd.int .i64) w bz ah.length ah) (gy : ah.length ≤ bu) (H : eD.f k av ah a1 = some (r1,r2)) :
  Calls Try.prog 8 #[.agg #[.int .i64 av,.slice bz ah.length bu],.int .i64 a1] w fun e w'=>∃ v0_ : Value,e = .returned (.tuple #[v0_,.int .i64 r2])∧Kd.V (Kd.int .i64) 2 w' w.heap.size (fun k_=>(w.heap.size ≤ k_)) v0_ r1∧Below w.heap.size w w':=by
 have qV:=Try.underlying26;have dS:=zA hr0_1;have dY:=zA gy;clear hr0_1 gy;have HB:=zA (Below.refl w.heap.size w);unfold eD.f at H;replace H:=bO H;obtain ⟨aba,A3,H⟩:=H;replace H:=gE H;obtain ⟨c4,rz,Pb,H⟩|⟨c4,rz,Pb,H⟩:=H
 ·simp only [Option.some.injEq,Prod.mk.injEq] at H;obtain ⟨rfl,rfl⟩:=H;go_enter Try.func8,Try.ntmps8;go_wp2_with (first | ((with_reducible refine bI (N:=2) rfl ?_);refine bx 2 #[.int .i64 av,.slice bz ah.length bu] 26 ?_;intro abb hg w14 hbox hb;have uh:=zA (hbox);have abd:=gq HB hg;have:=geI abd;replace HB:=xH HB hb;clear hb hbox hg;have Mv:=bc uh 0;have Uv:=bc uh 1;have Mw:=bf uh 0;have Uw:=bf uh 1) | ((with_reducible refine ae (f:=33) rfl ?_);refine gL (some 9) Try.func33 #[.agg #[.int .i64 av,.slice bz ah.length bu],.int .i64 a1,.int .i64 0] ?_;(with_reducible refine (kL.calls k av _ _ ah a1 0 aba _ ?side1 ?side2 A3.out).mono ?_);(case side1=>exact uC ((Kd.aQ dS.out HB.out)));(case side2=>exact dY.out);rintro e w16 ⟨rfl,hb⟩;refine ⟨_,rfl,?_⟩;replace uh:=xB uh hb;replace HB:=xH HB hb;(try clear hb)));go_ret2;exact ⟨_,eX,Kd.yf _ _ _ _ _,uH HB.out⟩
 clear c4;replace H:=bO H;obtain ⟨WS,A5,H⟩:=H;replace H:=gD H;obtain ⟨pU,H⟩:=H;replace H:=gD H;obtain ⟨Ce,H⟩:=H;simp only [Option.some.injEq,Prod.mk.injEq] at H;obtain ⟨rfl,rfl⟩:=H;go_enter Try.func8,Try.ntmps8;go_wp2_with (first | ((with_reducible refine bI (N:=2) rfl ?_);refine bx 2 #[.int .i64 av,.slice bz ah.length bu] 26 ?_;intro abb hg w8 hbox hb;have uh:=zA (hbox);have abd:=gq HB hg;have:=geI abd;replace HB:=xH HB hb;clear hb hbox hg;have vJ:=bc uh 0;have vK:=bc uh 1;have wP:=bf uh 0;have vL:=bf uh 1) | ((with_reducible refine ae (f:=33) rfl ?_);refine gL (some 9) Try.func33 #[.agg #[.int .i64 av,.slice bz ah.length bu],.int .i64 a1,.int .i64 0] ?_;(with_reducible refine (kL.calls k av _ _ ah a1 0 aba _ ?side1 ?side2 A3.out).mono ?_);(case side1=>exact uC ((Kd.aQ dS.out HB.out)));(case side2=>exact dY.out);rintro e w10 ⟨rfl,hb⟩;refine ⟨_,rfl,?_⟩;replace uh:=xB uh hb;replace HB:=xH HB hb;(try clear hb);have wZ:=bc uh 0;have yj:=bc uh 1;have xc:=bf uh 0;have yl:=bf uh 1) | ((with_reducible refine ae (f:=34) rfl ?_);refine gL (some 15) Try.func34 #[.agg #[.int .i64 av,.slice bz ah.length bu],.int .i64 a1] ?_;(with_reducible refine (dH.calls k av _ _ ah a1 WS _ ?side1 ?side2 A5.out).mono ?_);(case side1=>exact uC ((Kd.aQ dS.out HB.out)));(case side2=>exact dY.out);rintro e w12 ⟨aEp,rfl,ho0,hb⟩;refine ⟨_,rfl,?_⟩;have Vq:=zA (Kd.zt (Kd.rM (ok':=fun k_=>(w.heap.size ≤ k_)∧k_ ≠ abb) ho0 (fun k_ hk_=>⟨(Nat.le_trans (af (uH HB.out)) hk_),(Kd.kX (g:=abb) (o:=.cells #[.int .i64 av,.slice bz ah.length bu] 26 (0,0)) (uB uh.out) k_ hk_)⟩)) (af (uH HB.out)));replace uh:=xB uh hb;replace HB:=xH HB hb;(try clear hb);(try clear ho0);obtain ⟨oQ,oz,OQ⟩:=Kd.wY Vq.out;subst OQ;have aet : 0 ≤ (a1 : Int):=of_decide_eq_true (by first | (with_reducible assumption) | assumption);have aeu : a1 < (WS.length : Int):=of_decide_eq_true (by first | (with_reducible assumption) | assumption);obtain ⟨aB3,azx,azy,azz,aev,Vr,Vs⟩:=y7 (Kd.kN Vq.out).2.2 a1 aet aeu;cases azz;obtain ⟨aB4,ak0,ak1,abe⟩:=Kd.DT Vq.out [] a1 aet (by first | exact aeu | exact of_decide_eq_true (by first | (with_reducible assumption) | assumption) | (have e_:=(Kd.kN Vq.out).1;omega));obtain ⟨avl,avm,rfl,NM,NN⟩:=Kd.mY ak1;have H6:=abe 0 _ rfl;rw [Nat.add_zero,show ((Kd.slice 2 (Kd.int .i64))).sz = 1 from rfl,Nat.mul_one] at H6;replace H6:=Option.some.inj (H6.symm.trans aev);injection H6 with hva_ hvn_ hvc_;rw [hva_] at NN;rw [hvc_] at NM;have aew:=zA (show Kd.V (Kd.int .i64) 2 _ w.heap.size _ _ (fw WS a1) from Kd.EF NM NN);clear hva_ hvn_ hvc_ NN NM abe ak0;have avn:=zA Vs;have avo:=zA Vr;clear Vs Vr;replace aet:=eq_true aet;replace aeu:=eq_true aeu));go_ret2;exact ⟨_,eX,by (with_reducible repeat (first | apply Kd.iN | apply Kd.iO | apply Kd.iC));exact Kd.fM aew.out (fun _ hk=>hk.1.1),uH HB.out⟩
/-! ### dV: function 16 -/
def dV.j0 : Nat → Int → List Int → Bool → List Int → Int → Int → Int → List Int → Option (Int × List Int × List Int × Int)
 | 0,_,_,_,_,_,_,_,_=>none
 | k + 1,x7,x8,x29,abf,abg,abh,Js,PV=>if x29 = true then ((pF.f k Js).bind fun PW=>((lF.f k abf abg abh PW 4).bind fun ak2=>(some (Js,PV,ak2.1,x7)))) else (some (Js,PV,x8,x7))
def dV.f (k : Nat) (l0 : List Int) : Option (Int × List Int × List Int × Int):=(ed.f k l0).bind fun CX=>((fO.f k l0).bind fun zU=>((eD.f k zU.1 zU.2.1 zU.2.2).bind fun Su=>(if Su.2 = 0 then ((aX.f CX.1 CX.2.1 CX.2.2 3).bind fun Sv=>(dV.j0 k zU.2.2 Su.1 (Sv.1 == 0) CX.1 Sv.2.1 Sv.2.2 zU.1 zU.2.1)) else (dV.j0 k zU.2.2 Su.1 true CX.1 CX.2.1 CX.2.2 zU.1 zU.2.1))))
theorem dV.calls (k : Nat) (A0 : Option Addr) (c0 : Nat) (l0 : List Int) (r1 : Int) (r2 : List Int) (r3 : List Int) (r4 : Int) (w : World) (hr0 : Kd.C (Kd.int .u8) w A0 l0.length l0) (hc0 : l0.length ≤ c0) (H : dV.f k l0 = some (r1,r2,r3,r4)) :
  Calls Try.prog 16 #[.slice A0 l0.length c0] w fun e w'=>∃ v1_ v2_ : Value,e = .returned (.tuple #[.agg #[.int .i64 r1,v1_],v2_,.int .i64 r4])∧Kd.R (Kd.int .i64) 2 w' w.heap.size (fun k_=>(w.heap.size ≤ k_)) v1_ r2∧Kd.V (Kd.int .i64) 2 w' w.heap.size (fun k_=>(w.heap.size ≤ k_)∧ax k_ v1_) v2_ r3∧Below w.heap.size w w':=by
 have qV:=Try.underlying26;have HR0:=zA hr0;have HC0:=zA hc0;clear hr0 hc0;have HB:=zA (Below.refl w.heap.size w);unfold dV.f at H;replace H:=bO H;obtain ⟨⟨BD,Jt,Ju⟩,A2,H⟩:=H;(try dsimp only at H);replace H:=bO H;obtain ⟨⟨qJ,pR,Vt⟩,A3,H⟩:=H;(try dsimp only at H);replace H:=bO H;obtain ⟨⟨Vu,as2⟩,A4,H⟩:=H;(try dsimp only at H);have HC5:=zA H;clear H;go_enter Try.func16,Try.ntmps16;go_upto_region 4 with (first | (refine bX 2 rfl #[.int .i64 0,.slice none 0 0] 26 ?_;intro qf w6 hg kg hb;have ak3:=gq HB hg;have:=geI ak3;replace HB:=xH HB hb;clear hb hg) | ((with_reducible refine ae (f:=42) rfl ?_);refine gL (some 11) Try.func42 #[.slice A0 l0.length c0] ?_;(with_reducible refine (ed.calls k _ _ l0 BD Jt Ju w _ ?side1 ?side2 ?side3 A2.out).mono ?_);(case side1=>exact uH HB.out);(case side2=>exact HR0.out);(case side3=>exact HC0.out);rintro e w7 ⟨uM,rfl,hi,hb,hb2⟩;refine ⟨_,rfl,?_⟩;replace HB:=zA (hb);have pO:=zA (hi);have BF:=zA (aA.EY hi (bW (g:=qf) (o:=.cells #[.int .i64 0,.slice none 0 0] 26 (0,0)) (uB kg.out) hb2) (by decide));have:=neI BF;have wK:=zA (Ne.symm (aA.EY hi (bW (g:=qf) (o:=.cells #[.int .i64 0,.slice none 0 0] 26 (0,0)) (uB kg.out) hb2) (by decide)));have:=neI wK;replace kg:=xB kg hb2;(try clear hb);(try clear hb2);(try clear hi)) | ((with_reducible refine ae (f:=28) rfl ?_);refine gL (some 14) Try.func28 #[.slice A0 l0.length c0] ?_;(with_reducible refine (fO.calls k _ _ l0 qJ pR Vt _ ?side1 ?side2 A3.out).mono ?_);(case side1=>exact uC ((Kd.aQ HR0.out HB.out)));(case side2=>exact HC0.out);rintro e w8 ⟨aB5,rfl,ho0,hb⟩;refine ⟨_,rfl,?_⟩;have wT:=zA (Kd.bD (Kd.kK (M:=fun k_=>(w.heap.size ≤ k_)) ho0 (af (uH HB.out)) (fun k_ h_=>h_)) (af (uH HB.out)));replace kg:=xB kg hb;replace HB:=zA (cz (uH HB.out) hb);replace pO:=zA (aA.below (uI pO.out) hb);(try clear hb);(try clear hb2);(try clear hi);(try clear ho0)) | ((with_reducible refine bI (N:=6) rfl ?_);refine bx 6 #[.int .i64 0,.slice none 0 0] 26 ?_;intro rR hg w9 hbox hb;replace wT:=xR wT hb;have kM:=zA (hbox);have ak4:=zA ((by rw [hg];exact (af (uH HB.out)) : w.heap.size ≤ rR));have:=geI ak4;have ak5:=zA ((by rw [hg];exact (af (uH HB.out)) : w.heap.size ≤ rR));replace HB:=zA (cz (uH HB.out) hb);have qm:=nL kg hg;have:=neI qm;have yM:=nG kg hg;have:=neI yM;replace kg:=xB kg hb;have yN:=zA ((by rw [hg];exact Nat.ne_of_lt (aA.lt (show aA w _ uM BD Jt Ju from uI pO.out)) : uM ≠ rR));have:=neI yN;have ui:=zA ((by rw [hg];exact Nat.ne_of_gt (aA.lt (show aA w _ uM BD Jt Ju from uI pO.out)) : rR ≠ uM));have:=neI ui;replace pO:=zA (aA.below (uI pO.out) hb);have:=geI ak5;clear hb hbox hg;have aeM:=yM.out;have aeN:=qm.out;have ae6:=ui.out;have ae7:=yN.out;have sV:=bc kM 0;have sW:=bc kM 1;have sZ:=bf kM 0;have tq:=bf kM 1;obtain ⟨oQ,oz,OQ⟩:=Kd.aY wT.out;subst OQ) | ((with_reducible refine ae (f:=8) rfl ?_);refine gL (some 20) Try.func8 #[.agg #[.int .i64 qJ,.slice oQ pR.length oz],.int .i64 Vt] ?_;(with_reducible refine (eD.calls k qJ _ _ pR Vt Vu as2 _ ?side1 ?side2 A4.out).mono ?_);(case side1=>exact rc (uR ((rf2 wT kM (by decide) (.int .i64 qJ) (.slice oQ pR.length oz)))));(case side2=>exact (Kd.aH wT.out).2.1);rintro e w14 ⟨agZ,rfl,ho0,hb⟩;refine ⟨_,rfl,?_⟩;have NP:=zA (Kd.KV (Kd.fM (ok':=fun k_=>(w.heap.size ≤ k_)∧ax k_ (.slice oQ pR.length oz)∧k_ ≠ qf∧k_ ≠ rR∧k_ ≠ uM) ho0 (fun k_ hk_=>⟨(Nat.le_trans (af (uH HB.out)) hk_),(Kd.fresh' (Kd.jN (uR ((rf2 wT kM (by decide) (.int .i64 qJ) (.slice oQ pR.length oz))))) k_ hk_),(Kd.kX (g:=qf) (o:=.cells #[.int .i64 0,.slice none 0 0] 26 (0,0)) (by (repeat refine up1 ?_);refine bG ?_ qm.out _;(repeat refine up1 ?_);refine bG ?_ qm.out _;(repeat refine up1 ?_);exact kg.out) k_ hk_),(Kd.kX (g:=rR) (o:=.cells #[.int .i64 qJ,.slice oQ pR.length oz] 26 (0,0)) (by (repeat refine up1 ?_);refine bE (cs:=#[.int .i64 qJ,.slice none 0 0]) ?_ 1 _ rfl;(repeat refine up1 ?_);refine bE (cs:=#[.int .i64 0,.slice none 0 0]) ?_ 0 _ rfl;(repeat refine up1 ?_);exact kM.out) k_ hk_),(aA.fresh (uI pO.out) k_ hk_)⟩)) (af (uH HB.out)));replace wT:=zA (Kd.nP (uR ((rf2 wT kM (by decide) (.int .i64 qJ) (.slice oQ pR.length oz)))) hb);replace kg:=zA (bW (g:=qf) (o:=.cells #[.int .i64 0,.slice none 0 0] 26 (0,0)) (by (repeat refine up1 ?_);refine bG ?_ qm.out _;(repeat refine up1 ?_);refine bG ?_ qm.out _;(repeat refine up1 ?_);exact kg.out) hb);replace kM:=zA (bW (g:=rR) (o:=.cells #[.int .i64 qJ,.slice oQ pR.length oz] 26 (0,0)) (by (repeat refine up1 ?_);refine bE (cs:=#[.int .i64 qJ,.slice none 0 0]) ?_ 1 _ rfl;(repeat refine up1 ?_);refine bE (cs:=#[.int .i64 0,.slice none 0 0]) ?_ 0 _ rfl;(repeat refine up1 ?_);exact kM.out) hb);replace HB:=zA (cz (uH HB.out) hb);replace pO:=zA (aA.below (show aA w ((w9.setCell ⟨rR,0,none⟩ (.int .i64 qJ)).setCell ⟨rR,1,none⟩ (.slice oQ pR.length oz)) uM BD Jt Ju from uI pO.out) hb);(try clear hb);(try clear hb2);(try clear hi);(try clear ho0)));(try simp only [Act.put,ls,lz,ln]);go_cut [29] (fun v29 wc=>∃ (kq : Nat) (abj : Bool) (vP : Int) (vQ : Int),v29 = .bool abj∧aa (dV.j0 kq Vt Vu abj BD vP vQ qJ pR = some (r1,r2,r3,r4))∧aa (kq ≤ k)∧aa (Kd.V (Kd.int .i64) 2 wc w.heap.size (fun k_=>(w.heap.size ≤ k_)∧ax k_ (.slice oQ pR.length oz)∧k_ ≠ qf∧k_ ≠ rR∧k_ ≠ uM) agZ Vu)∧aa (Kd.R (Kd.int .i64) 2 wc w.heap.size (fun k_=>(w.heap.size ≤ k_)) (.slice oQ pR.length oz) pR)∧aa (wc.heap[qf]? = some (.cells #[.int .i64 0,(.slice none 0 0)] 26 (0,0)))∧aa (wc.heap[rR]? = some (.cells #[.int .i64 qJ,(.slice oQ pR.length oz)] 26 (0,0)))∧aa (aA w wc uM BD vP vQ)∧aa (Below w.heap.size w wc))
 case first =>
  have H:=HC5.out;clear HC5;replace H:=gE H;obtain ⟨c15,oU,zk,H⟩|⟨c15,oU,zk,H⟩:=H
  ·(first | rw [oU] | (simp only [jd,kQ];rw [oU]) | skip);have H':=zA H;clear H;go_wp2;go_meet;(case rel=>exact ⟨_,(true),(Jt),(Ju),eS,H',⟨by first | omega | exact Nat.le_refl _⟩,⟨uV NP.out⟩,⟨uR (Kd.ag wT.out (fun _ hk=>hk.1))⟩,⟨uB kg.out⟩,⟨uB kM.out⟩,⟨uI pO.out⟩,⟨uH HB.out⟩⟩)
  clear c15;(first | rw [oU] | (simp only [jd,kQ];rw [oU]) | skip);replace H:=bO H;obtain ⟨⟨ag0,ag1,ag2⟩,A16,H⟩:=H;(try dsimp only at H);have H':=zA H;clear H;go_wp2_with (first | (go_at_call 47;(with_reducible refine (aX.calls uM BD Jt Ju 3 ag0 ag1 ag2 w _ ?side1 ?side2 A16.out).mono ?_);(case side1=>exact uI pO.out);(case side2=>exact uH HB.out);rintro e w17 ⟨rfl,hi,hb,hk⟩;replace kg:=kB hk kg wK;replace wT:=zA (Kd.ag (Kd.kJ (aA.apart (show aA w _ uM BD Jt Ju from uI pO.out) (uR wT.out) (by decide)) hk (fun _ h=>h.2)) (fun _ h=>h.1));replace kM:=kB hk kM ui;replace NP:=zA (Kd.fM (Kd.ag8 (Kd.fM (ok:=fun k_=>(((w.heap.size ≤ k_))∧(ax k_ (.slice oQ pR.length oz)∧(k_ ≠ qf∧(k_ ≠ rR∧k_ ≠ uM))))) (uV NP.out) (fun k_ hk_=>(⟨hk_,hk_.2.2.2.2⟩ : _∧k_ ≠ uM))) hk (fun _ h=>h.2)) (fun _ h=>h.1));replace HB:=zA (hb);replace pO:=zA (hi);(try clear hb);(try clear hk);(try clear hi)));go_meet;(case rel=>exact ⟨_,((ag0 == 0)),(ag1),(ag2),eS,H',⟨by first | omega | exact Nat.le_refl _⟩,⟨uV NP.out⟩,⟨uR (Kd.ag wT.out (fun _ hk=>hk.1))⟩,⟨uB kg.out⟩,⟨uB kM.out⟩,⟨uI pO.out⟩,⟨uH HB.out⟩⟩)
 case rest =>
  clear HC5;(try clear c1);(try clear c2);(try clear p2);(try clear c4);(try clear c8);(try clear c10);(try clear c11);(try clear c15);(try clear oU);(try clear zk);(try clear c16);(try clear sV);(try clear sW);(try clear sZ);(try clear tq);obtain ⟨kq,abj,vP,vQ,rfl,HA,HJ4,ik,rT,kg,kM,pO,HB⟩:=hcut
  cases kq with
  | zero=>exact absurd HA.out (by simp [dV.j0])
  | succ kj4 =>
   have H:=HA.out;clear HA;simp only [dV.j0] at H;replace H:=gB H;obtain ⟨rfl,H⟩|⟨rfl,H⟩:=H
   ·replace H:=bO H;obtain ⟨PW,A19,H⟩:=H;replace H:=bO H;obtain ⟨⟨as3,as4,as5⟩,A20,H⟩:=H;(try dsimp only at H);simp only [Option.some.injEq,Prod.mk.injEq] at H;obtain ⟨rfl,rfl,rfl,rfl⟩:=H;have afa:=yM.out;have afb:=qm.out;have aB6:=ui.out;have aB7:=yN.out;have avp:=bc kM 0;have avq:=bc kM 1;have avr:=bf kM 0;have avs:=bf kM 1;go_wp2_with (first | ((with_reducible refine ae (f:=49) rfl ?_);refine gL (some 33) Try.func49 #[.int .i64 qJ] ?_;(with_reducible refine (pF.calls kj4 qJ PW _ A19.out).mono ?_);rintro e w' ⟨rfl,⟨nd,rfl⟩⟩;refine ⟨_,rfl,?_⟩;(try (rw [uY wc];generalize hq_ : World.drewN wc _ = wc;have n0_ : aa (Kd.R (Kd.int .i64) 2 wc w.heap.size (fun k_=>(w.heap.size ≤ k_)) (.slice oQ pR.length oz) pR):=⟨by rw [← hq_];exact (uR rT.out)⟩;have n1_ : aa (Kd.V (Kd.int .i64) 2 wc w.heap.size (fun k_=>(w.heap.size ≤ k_)∧ax k_ (.slice oQ pR.length oz)∧k_ ≠ qf∧k_ ≠ uM∧k_ ≠ rR) agZ Vu):=⟨by rw [← hq_];exact (by (with_reducible repeat (first | apply Kd.iN | apply Kd.iO | apply Kd.iC));exact Kd.fM ik.out (fun _ ⟨a,b,c,f,d⟩=>⟨a,b,c,d,f⟩))⟩;have n2_ : aa (wc.heap[qf]? = some (.cells #[.int .i64 0,.slice none 0 0] 26 (0,0))):=⟨by rw [← hq_];exact (uB kg.out)⟩;have n3_ : aa (wc.heap[rR]? = some (.cells #[.int .i64 qJ,.slice oQ pR.length oz] 26 (0,0))):=⟨by rw [← hq_];exact (uB kM.out)⟩;have n4_ : aa (aA w wc uM BD vP vQ):=⟨by rw [← hq_];exact (uI pO.out)⟩;have n5_ : aa (Below w.heap.size w wc):=⟨by rw [← hq_];exact (uH HB.out)⟩;clear rT ik kg kM pO HB hq_;have rT:=n0_;have ik:=n1_;have kg:=n2_;have kM:=n3_;have pO:=n4_;have HB:=n5_;clear n0_ n1_ n2_ n3_ n4_ n5_));(try have as6 : wc.cell? ⟨rR,0,none⟩ = some (.int .i64 qJ):=(bR kM.out 0).trans rfl);(try have as7 : wc.cell? ⟨rR,1,none⟩ = some (.slice oQ pR.length oz):=(bR kM.out 1).trans rfl)) | ((with_reducible refine ae (f:=48) rfl ?_);refine gL (some 34) Try.func48 #[.pointer (some ⟨uM,0,none⟩),.int .i64 PW,.int .i64 4] ?_;(with_reducible refine (lF.calls kj4 uM BD vP vQ PW 4 as3 as4 as5 w _ ?side1 ?side2 A20.out).mono ?_);(case side1=>exact uI pO.out);(case side2=>exact uH HB.out);rintro e w25 ⟨aB8,rfl,ho0,hi,hb,hk⟩;(try refine ⟨_,rfl,?_⟩);replace ik:=zA (Kd.fM (Kd.ahb (Kd.ag9 (Kd.fM (ok:=fun k_=>(((w.heap.size ≤ k_))∧(ax k_ (.slice oQ pR.length oz)∧(k_ ≠ qf∧(k_ ≠ rR∧k_ ≠ uM))))) (by (with_reducible repeat (first | apply Kd.iN | apply Kd.iO | apply Kd.iC));exact Kd.fM ik.out (fun _ ⟨a,b,c,f,d⟩=>⟨a,b,c,d,f⟩)) (fun k_ hk_=>(⟨hk_,hk_.2.2.2.2⟩ : _∧k_ ≠ uM))) hk) (Kd.aN ho0)) (fun _ h_=>h_.1));replace kg:=kB hk kg wK;replace kM:=kB hk kM ui;have ak6:=zA (Kd.bD (nw (Kd.kK (M:=fun k_=>(w.heap.size ≤ k_)) ho0 (af (uH HB.out)) (fun k_ h_=>h_)) (uR rT.out)) (af (uH HB.out)));replace rT:=zA (Kd.ag (Kd.KT (Kd.KS (aA.apart (show aA w _ uM BD vP vQ from uI pO.out) (uR rT.out) (by decide)) hk) (Kd.aN ho0)) (fun _ h_=>h_.1));replace HB:=zA (hb);replace pO:=zA (hi);(try clear hb);(try clear hk);(try clear hi);(try clear ho0);have avt:=bc kM 0;have avu:=bc kM 1;have avv:=bf kM 0;have avw:=bf kM 1;have aB9:=wK.out;have aCa:=BF.out;have MB:=bc kg 0;have UW:=bc kg 1;have MC:=bf kg 0;have UX:=bf kg 1));refine bodyPost_ret (F7 rfl _ _ qf 26 #[.int .i64 qJ,.slice oQ pR.length oz] (0,0) _ rfl (by (repeat refine up1 ?_);refine bE (cs:=#[.int .i64 qJ,.slice none 0 0]) ?_ 1 _ rfl;(repeat refine up1 ?_);refine bE (cs:=#[.int .i64 0,.slice none 0 0]) ?_ 0 _ rfl;(repeat refine up1 ?_);exact kg.out) Try.underlying26 rfl (by kernel_rfl)) rfl ?_;exact ⟨_,_,eX,uR (Kd.ag (Kd.bA (p:=⟨qf,1,none⟩) (Kd.bA (p:=⟨qf,0,none⟩) (Kd.bL rT.out kg.out (by decide)) (fun _ hk=>hk.2) (.int .i64 qJ)) (fun _ hk=>hk.2) (.slice oQ pR.length oz)) (fun _ hk=>hk.1.1)),Kd.R_V (uR (Kd.ag (Kd.bA (p:=⟨qf,1,none⟩) (Kd.bA (p:=⟨qf,0,none⟩) (Kd.bL ak6.out kg.out (by decide)) (fun _ hk=>hk.2) (.int .i64 qJ)) (fun _ hk=>hk.2) (.slice oQ pR.length oz)) (fun _ hk=>⟨hk.1.1.1,hk.1.2⟩))),uH HB.out⟩
   ·simp only [Option.some.injEq,Prod.mk.injEq] at H;obtain ⟨rfl,rfl,rfl,rfl⟩:=H;have asq:=yM.out;have asr:=qm.out;have aCb:=ui.out;have aCc:=yN.out;have U8:=bc kM 0;have U9:=bc kM 1;have Va:=bf kM 0;have Vb:=bf kM 1;have afc:=wK.out;have afd:=BF.out;have TG:=bc kg 0;have TH:=bc kg 1;have TI:=bf kg 0;have TJ:=bf kg 1;go_wp2;refine bodyPost_ret (F7 rfl _ _ qf 26 #[.int .i64 qJ,.slice oQ pR.length oz] (0,0) _ rfl (by (repeat refine up1 ?_);refine bE (cs:=#[.int .i64 qJ,.slice none 0 0]) ?_ 1 _ rfl;(repeat refine up1 ?_);refine bE (cs:=#[.int .i64 0,.slice none 0 0]) ?_ 0 _ rfl;(repeat refine up1 ?_);exact kg.out) Try.underlying26 rfl (by kernel_rfl)) rfl ?_;exact ⟨_,_,eX,uR (rf2 rT kg (by decide) (.int .i64 qJ) (.slice oQ pR.length oz)),by (with_reducible repeat (first | apply Kd.iN | apply Kd.iO | apply Kd.iC));exact Kd.fM (Kd.Ci (p:=⟨qf,1,none⟩) (Kd.Ci (p:=⟨qf,0,none⟩) (Kd.fM ik.out (fun k_ hk=>(⟨hk,hk.2.2.1⟩ : _∧k_ ≠ qf))) (fun _ hk=>hk.2) (.int .i64 qJ)) (fun _ hk=>hk.2) (.slice oQ pR.length oz)) (fun _ hk=>⟨hk.1.1,hk.1.2.1⟩),uH HB.out⟩
/- Hankel determinants: both come to one plain function; no condition. -/
/-- The first i rows of the Hankel matrix of k rows. -/
def hrows (l : List Int) (k i : Nat) : List (List Int):=(List.range i).map fun j=>(l.take (j + k)).drop j
def sH (p : Int) (l : List Int) (k : Nat) : Int:=OC p (hrows l k k)
theorem hrows_len (l : List Int) (k i : Nat) : (hrows l k i).length = i:=by simp [hrows]
theorem hrows_succ (l : List Int) (k i : Nat) : hrows l k (i + 1) = hrows l k i ++ [(l.take (i + k)).drop i]:=by unfold hrows;rw [List.range_succ,List.map_append,List.map_singleton]
theorem hrows_sqr {p : Int} (hp : Pm p) {l : List Int} (hl : Nm p l) {k : Nat} (hk : k ≤ 1000) (h : 2 * k ≤ l.length + 1) : QN p (hrows l k k):=by
  refine ⟨⟨hp.two,hp.top⟩,by rw [hrows_len];exact hk,fun r hr=>?_⟩
  obtain ⟨j,hj,rfl⟩:=List.mem_map.1 hr
  have hj:=List.mem_range.1 hj
  refine ⟨by rw [hrows_len,List.length_drop,List.length_take];omega,(hl.take _).drop _⟩
theorem ak7 {p : Int} {rows : List (List Int)} (h : QN p rows) (n : Nat) : aG.f n p rows = some (OC p rows):=by unfold aG.f;rw [if_pos h]
theorem aex {p : Int} {rows : List (List Int)} (h : QN p rows) (n : Nat) : jX.f n p rows = some (OC p rows):=by unfold jX.f;rw [if_pos h]
section
variable {p : Int} (hp : Pm p) {l : List Int} (nl : Nm p l) (hl : l.length ≤ 24) {k : Nat} (hk : 2 * k ≤ l.length + 1)
include hp nl hl hk
theorem PX (d : Nat) : ∀ i : Nat,i + d = k → Ev (fun n=>fV.l0 n (k : Int) (hrows l k i) (i : Int) p l) (sH p l k):=by
  induction d with
  | zero =>
    intro i hi
    obtain rfl : i = k:=by omega
    refine Ev.step (fun n=>by rw [fV.l0]) ?_
    exact Ev.neg (by omega) (Ev.bind ⟨0,fun n _=>aex (hrows_sqr hp nl (by omega) hk) n⟩ (Ev.now _))
  | succ d ih =>
    intro i hi
    refine Ev.step (fun n=>by rw [fV.l0]) ?_
    rw [Xk (i:=i) (j:=k) (n:=1000) (by omega) (by omega),kz (i:=i) (n:=k) (by omega) (by omega)]
    refine Ev.pos (by omega) (Ev.pos (by omega) (Ev.pos (by omega) (Ev.pos (by omega) ?_)))
    rw [kU,kU]
    refine Ev.iL (Il _ (by rw [List.length_drop,List.length_take];unfold Sm;omega)) (Ev.pos (by rw [hrows_len];omega) ?_)
    rw [← hrows_succ]
    exact ih (i + 1) (by omega)
theorem PY (d : Nat) : ∀ i : Nat,i + d = k → Ev (fun n=>dI.l0 n (k : Int) (hrows l k i) (k : Int) (i : Int) p l) (sH p l k):=by
  induction d with
  | zero =>
    intro i hi
    obtain rfl : i = k:=by omega
    refine Ev.step (fun n=>by rw [dI.l0]) ?_
    exact Ev.neg (by omega) (Ev.iL (a:=p) rfl (Ev.bind ⟨0,fun n _=>ak7 (hrows_sqr hp nl (by omega) hk) n⟩ (Ev.now _)))
  | succ d ih =>
    intro i hi
    refine Ev.step (fun n=>by rw [dI.l0]) ?_
    rw [Xk (i:=i) (j:=k) (n:=1000) (by omega) (by omega),kz (i:=i) (n:=k) (by omega) (by omega)]
    refine Ev.pos (by omega) (Ev.pos (by omega) (Ev.pos (by omega) (Ev.pos (by omega) (Ev.pos (by rw [hrows_len];omega) ?_))))
    rw [kU,kU,← hrows_succ]
    exact ih (i + 1) (by omega)
theorem PZ : Ev (fun n=>fV.f n p l (k : Int)) (sH p l k):=PX hp nl hl hk k 0 (by omega)
theorem F9 : Ev (fun n=>dI.f n p l (k : Int)) (sH p l k):=PY hp nl hl hk k 0 (by omega)
end
theorem NQ {l : List Int} (hl : Sm l.length) : wrap64 (Int.tdiv (wrap64 ((l.length : Int) + 1)) 2) = (((l.length + 1) / 2 : Nat) : Int):=by
  unfold Sm at hl
  rw [bM (x:=(l.length : Int) + 1) (by omega) (by omega),Int.tdiv_eq_ediv_of_nonneg (by omega),bM (by omega) (by omega)]
  omega
theorem Fw (p : Int) {l : List Int} (hl : Sm l.length) (a : Int) : iB.f p l a = some (decide (0 ≤ a∧a ≤ (((l.length + 1) / 2 : Nat) : Int))):=by
  unfold iB.f dO.f
  by_cases h : a ≥ 0
  · rw [if_pos h]
    simp only [Option.bind_some,NQ hl]
    congr 2
    simp [h]
  · rw [if_neg h]
    congr 1
    simp [show ¬ 0 ≤ a from h]
/- The program's HankelDeterminant at good moments and a told number; no further condition. -/
theorem D6 {p : Int} {l : List Int} (hm : jP p l = true) (hl : Sm l.length) {n : Nat} (hn : 2 * n ≤ l.length + 1) : Ev (fun k=>iE.f k p l (n : Int)) (sH p l n,0):=by
  have hc:=oG p l hl true [] (by simp [Sm]) (fun l h=>by cases h)
  rw [hm] at hc
  have h1 : iD.f p l (n : Int) = some true:=by
    unfold iD.f
    rw [Fw p hl,decide_eq_true (by omega)];rfl
  unfold iE.f
  exact Ev.iL h1 (Ev.bind hc (Ev.pos rfl (Ev.bind (F9 (jP.pm hm) (jP.nm hm) (jP.len hm).2 hn) (Ev.now _))))
/- The order: both come to one plain function; no condition. -/
/-- The first order from i on, d at most, behind which the Hankel determinant is 0. -/
def Be (p : Int) (l : List Int) : Nat → Nat → Int
  | 0,i=>i
  | d + 1,i=>if sH p l (i + 1) = 0 then i else Be p l d (i + 1)
section
variable {p : Int} (hp : Pm p) {l : List Int} (nl : Nm p l) (hl : l.length ≤ 24)
include hp nl hl
theorem Sw (d : Nat) : ∀ i : Nat,i + d = (l.length + 1) / 2 → Ev (fun n=>gQ.l0 n (i : Int) p l) (Be p l d i):=by
  induction d with
  | zero =>
    intro i hi
    refine Ev.step (fun n=>by rw [gQ.l0]) ?_
    rw [NQ (by unfold Sm;omega)]
    exact Ev.neg (by omega) (Ev.now _)
  | succ d ih =>
    intro i hi
    refine Ev.step (fun n=>by rw [gQ.l0]) ?_
    rw [NQ (by unfold Sm;omega),kz (i:=i) (n:=1000) (by omega) (by omega),Be]
    refine Ev.pos (by omega) (Ev.bind (PZ hp nl hl (by omega)) ?_)
    by_cases h : sH p l (i + 1) = 0
    · rw [if_pos h];exact Ev.pos h (Ev.now _)
    · rw [if_neg h];exact Ev.neg h (ih (i + 1) (by omega))
theorem Sy (d : Nat) : ∀ i : Nat,i + d = (l.length + 1) / 2 → Ev (fun n=>dW.l0 n (i : Int) p l) (Be p l d i):=by
  induction d with
  | zero =>
    intro i hi
    refine Ev.step (fun n=>by rw [dW.l0]) ?_
    rw [kz (i:=i) (n:=1000) (by omega) (by omega)]
    exact Ev.iL (Fw p (by unfold Sm;omega) _) (Ev.neg (by simp;omega) (Ev.now _))
  | succ d ih =>
    intro i hi
    refine Ev.step (fun n=>by rw [dW.l0]) ?_
    rw [kz (i:=i) (n:=1000) (by omega) (by omega),Be]
    refine Ev.iL (Fw p (by unfold Sm;omega) _) (Ev.pos (decide_eq_true (by omega)) (Ev.bind (F9 hp nl hl (by omega)) ?_))
    by_cases h : sH p l (i + 1) = 0
    · rw [if_pos h];exact Ev.pos h (Ev.now _)
    · rw [if_neg h];exact Ev.neg h (ih (i + 1) (by omega))
def xm (p : Int) (l : List Int) : Int:=Be p l ((l.length + 1) / 2) 0
theorem CO : Ev (fun n=>gQ.f n p l) (xm p l):=Sw hp nl hl _ 0 (by omega)
theorem IE : Ev (fun n=>dW.f n p l) (xm p l):=Sy hp nl hl _ 0 (by omega)
end
/- The orthogonal polynomials of moments: what the program (upTo) and the reference (X4) come to; no condition. -/
/-- L(f f x^s). -/
def lq (p : Int) (l f : List Int) (s : Nat) : Int:=oH p l (mg p f f) s
def qW (p : Int) (l f : List Int) : Int:=lq p l f 1 * si p (lq p l f 0) % p
def yx (p : Int) (l b f : List Int) (i : Nat) : Int:=if i = 0 then l.getD 0 0 else lq p l f 0 * si p (lq p l b 0) % p
/-- P(k - 1) and P(k). -/
def oV (p : Int) (l : List Int) : Nat → List Int × List Int
  | 0=>([],[1])
  | i + 1=>((oV p l i).2,y8 p (qW p l (oV p l i).2) (yx p l (oV p l i).1 (oV p l i).2 i) (oV p l i).2 (oV p l i).1)
def mP (p : Int) (l : List Int) (i : Nat) : List Int:=(oV p l i).2
theorem DF {p : Int} (hp : Pm p) (l : List Int) (k : Nat) : (Nm p (oV p l k).1∧Nm p (oV p l k).2)∧((oV p l k).1.length ≤ k + 1∧(oV p l k).2.length ≤ k + 1):=by
  induction k with
  | zero=>exact ⟨⟨Nm.nil p,ahN hp⟩,by simp [oV],by simp [oV]⟩
  | succ k ih =>
    refine ⟨⟨ih.1.2,XU hp _ _ _ _⟩,by have:=ih.2.2;simp only [oV];omega,?_⟩
    have:=VV p (qW p l (oV p l k).2) (yx p l (oV p l k).1 (oV p l k).2 k) (oV p l k).2 (oV p l k).1
    have h:=ih.2
    simp only [oV]
    omega
theorem zx {p : Int} (hp : Pm p) (l : List Int) (k : Nat) : (mP p l k).length ≤ k + 1:=(DF hp l k).2.2
theorem FO {p : Int} (hp : Pm p) (l : List Int) (k : Nat) : Nm p (mP p l k):=(DF hp l k).1.2
/-- L(x f) by the product with x. -/
theorem X8 {p : Int} (hp : Pm p) (l f : List Int) (hf : Nm p f) : oH p l (mg p [0,1] f) 0 = oH p l f 1:=by
  unfold oH
  have hg : ∀ j,(mg p [0,1] f).getD j 0 = sh f 1 j:=fun j=>by
    have hb : 0 ≤ sh f 1 j∧sh f 1 j < p:=by
      unfold sh
      split
      · exact hf.Cx hp.pos _
      · exact ⟨Int.le_refl _,hp.pos⟩
    rw [Dy hp.pos]
    show ((0 + 0 * sh f 0 j) + 1 * sh f 1 j) % p = _
    rw [Int.zero_mul,Int.one_mul,Int.zero_add,Int.zero_add,Int.emod_eq_of_lt hb.1 hb.2]
  have h1 : ∀ j,(mg p [0,1] f).length ≤ j → (mg p [0,1] f).getD j 0 * l.getD (j + 0) 0 = 0:=fun j hj=>by rw [AV _ hj,Int.zero_mul]
  have h2 : ∀ j,f.length + 1 ≤ j → (mg p [0,1] f).getD j 0 * l.getD (j + 0) 0 = 0:=fun j hj=>by rw [hg,ahO (by omega),Int.zero_mul]
  have h3 : sumTo (fun j=>(mg p [0,1] f).getD j 0 * l.getD (j + 0) 0) (mg p [0,1] f).length = sumTo (fun j=>(mg p [0,1] f).getD j 0 * l.getD (j + 0) 0) (f.length + 1):=by
    rw [← zw h1 (f.length + 1),← zw h2 (mg p [0,1] f).length,Nat.add_comm]
  rw [h3,AX]
  have h4 : (mg p [0,1] f).getD 0 0 * l.getD (0 + 0) 0 = 0:=by rw [hg,sh,if_neg (by omega),Int.zero_mul]
  rw [h4,Int.zero_add]
  congr 1
  refine sumTo_congr _ fun t ht=>?_
  rw [hg,sh,if_pos (by omega)]
  rfl
theorem uz {p : Int} (hp : Pm p) (l f : List Int) (s : Nat) : 0 ≤ lq p l f s∧lq p l f s < p:=lQ hp.pos _
theorem J9 {p : Int} (hp : Pm p) (l f : List Int) : 0 ≤ qW p l f∧qW p l f < p:=lQ hp.pos _
theorem X9 {p : Int} (hp : Pm p) {l : List Int} (hl : Nm p l) (b f : List Int) (i : Nat) : 0 ≤ yx p l b f i∧yx p l b f i < p:=by
  unfold yx
  split
  · exact hl.Cx hp.pos 0
  · exact lQ hp.pos _
theorem JK (x p : Int) : (-(x % p)) % p = (-x) % p:=by
  have h:=JJ 0 x p
  rwa [Int.zero_sub,Int.zero_sub] at h
/-- The empty list added. -/
theorem X7 {p : Int} (f : List Int) (k : Int) (hf : oP f = f) : Dq p f [] k = f:=by
  unfold Dq
  rw [List.length_nil,wU,Nat.max_zero,ul,Nat.sub_self,List.replicate_zero,List.append_nil,hf]
/- The orthogonal polynomials of moments are monic; expansions in monic polynomials, sums of polynomials: plain; no condition. -/
theorem ail {p : Int} (hp : Pm p) (l : List Int) (k : Nat) : Mon (mP p l k) k:=by
  induction k with
  | zero=>exact ⟨rfl,rfl⟩
  | succ k ih=>exact VY hp _ _ _ _ k ih (DF hp l k).2.1
/-- The numbers of f in monic polynomials, from the highest on. -/
def azA (p : Int) (P : Nat → List Int) : Nat → List Int → List Int → List Int
  | 0,_,o=>o
  | d + 1,f,o=>if f.length = 0 then o else azA p P d (Dq p f (P (f.length - 1)) ((-(f.getD (f.length - 1) 0)) % p)) (o.set (f.length - 1) (f.getD (f.length - 1) 0))
/-- The sum of c 0 P 0 to c (k - 1) P (k - 1). -/
def azB (p : Int) (P : Nat → List Int) (c : Nat → Int) : Nat → List Int
  | 0=>[]
  | k + 1=>Dq p (azB p P c k) (P k) (c k)
/-- Polynomials up to degree n - 1 are there. -/
def aEq (p : Int) (l : List Int) (n : Nat) : Prop:=n = 0 ∨ ((n : Int) - 1 ≤ xm p l∧2 * (n - 1) ≤ l.length)
/- Powers modulo p are the rests of powers; no condition. -/
theorem EA {p : Int} (a : Int) (m : Nat) : ∀ o : Int,(o * (a % p) ^ m) % p = (o * a ^ m) % p:=by
  induction m with
  | zero=>intro o;rw [Int.pow_zero,Int.pow_zero]
  | succ m ih =>
    intro o
    rw [Int.pow_succ,Int.pow_succ,Int.mul_comm ((a % p) ^ m),← Int.mul_assoc,ih,Int.mul_assoc,Int.mul_comm (a % p),← Int.mul_assoc,Int.mul_emod,Int.emod_emod,← Int.mul_emod,Int.mul_assoc]
theorem sq_pow (x : Int) (m : Nat) : (x * x) ^ m = x ^ (2 * m):=by
  induction m with
  | zero=>rw [Int.pow_zero,Nat.mul_zero,Int.pow_zero]
  | succ m ih=>rw [Int.pow_succ,ih,show 2 * (m + 1) = 2 * m + 1 + 1 from by omega,Int.pow_succ,Int.pow_succ,Int.mul_assoc]
theorem abk {p : Int} (hp : 0 < p) (d : Nat) : ∀ (x : Int) (k : Nat) (o : Int),k ≤ d → 0 ≤ o∧o < p → Ac p d x k o = (o * x ^ k) % p:=by
  induction d with
  | zero =>
    intro x k o hk ho
    obtain rfl : k = 0:=by omega
    rw [Ac,Int.pow_zero,Int.mul_one,Int.emod_eq_of_lt ho.1 ho.2]
  | succ d ih =>
    intro x k o hk ho
    rw [Ac]
    by_cases h : k = 0
    · subst h;rw [if_pos rfl,Int.pow_zero,Int.mul_one,Int.emod_eq_of_lt ho.1 ho.2]
    · rw [if_neg h]
      by_cases g : k % 2 = 1
      · rw [if_pos g,ih _ _ _ (by omega) (lQ hp _),EA,sq_pow,Int.mul_emod,Int.emod_emod,← Int.mul_emod,Int.mul_assoc,Int.mul_comm x,← Int.pow_succ,show (2 * (k / 2)).succ = k from by omega]
      · rw [if_neg g,ih _ _ _ (by omega) ho,EA,sq_pow,show 2 * (k / 2) = k from by omega]
theorem aey {p : Int} (hp : Pm p) (x : Int) (k : Nat) : Lh p x k = x ^ k % p:=by
  have:=hp.two
  rw [Lh,abk hp.pos k x k 1 (Nat.le_refl _) (by omega),Int.one_mul]
/- A Ck divides a product only with one of its factors. -/
theorem iw.div {p : Int} (h : iw p = true) {j : Nat} (h2 : 2 ≤ j) (hj : (j : Int) * (j : Int) ≤ p) : ¬ (j : Int) ∣ p:=by
  intro hd
  simp only [iw,Bool.and_eq_true,decide_eq_true_eq] at h
  have hj1 : j < 101:=by
    apply Decidable.byContradiction
    intro g
    have:=abT (a:=(101 : Int)) (b:=(101 : Int)) (m:=(j : Int)) (n:=(j : Int)) (by omega) (by omega) (by omega) (by omega)
    omega
  exact h.2 j hj1 h2 hj (Int.emod_eq_zero_of_dvd hd)
theorem iw.gcd {p : Nat} (h : iw (p : Int) = true) {a : Nat} (h1 : 1 ≤ a) (ha : a < p) : Nat.gcd p a = 1:=by
  obtain ⟨g,hg⟩ : ∃ g,Nat.gcd p a = g:=⟨_,rfl⟩
  have hp:=(iw.pm h).two
  have d1 : g ∣ p:=hg ▸ Nat.gcd_dvd_left p a
  have d2 : g ∣ a:=hg ▸ Nat.gcd_dvd_right p a
  have l1 : g ≤ a:=Nat.le_of_dvd (by omega) d2
  have l0 : 0 < g:=hg ▸ Nat.gcd_pos_of_pos_right p (by omega)
  rw [hg]
  apply Decidable.byContradiction
  intro hne
  obtain ⟨q,hq⟩:=d1
  have hq2 : 2 ≤ q:=by
    rcases Nat.lt_or_ge q 2 with g2 | g2
    · exfalso
      have : q = 0 ∨ q = 1:=by omega
      rcases this with rfl | rfl
      · omega
      · omega
    · exact g2
  rcases Nat.le_total g q with hle | hle
  · refine iw.div h (j:=g) (by omega) ?_ ⟨(q : Int),by rw [hq];simp⟩
    have:=Nat.mul_le_mul_left g hle
    rw [← hq] at this
    exact_mod_cast this
  · refine iw.div h (j:=q) hq2 ?_ ⟨(g : Int),by rw [hq,Int.natCast_mul];exact Int.mul_comm _ _⟩
    have:=Nat.mul_le_mul_right q hle
    rw [← hq] at this
    exact_mod_cast this
/-- A number that p does not divide may be left out. -/
theorem iw.cancel {p a d : Int} (h : iw p = true) (ha : 1 ≤ a∧a < p) (hd : p ∣ a * d) : p ∣ d:=by
  obtain ⟨P,rfl⟩ : ∃ P : Nat,p = (P : Int):=⟨p.toNat,by omega⟩
  obtain ⟨A,rfl⟩ : ∃ A : Nat,a = (A : Int):=⟨a.toNat,by omega⟩
  have hg:=iw.gcd h (a:=A) (by omega) (by omega)
  have h1:=Int.natAbs_dvd_natAbs.2 hd
  rw [Int.natAbs_mul] at h1
  have h2 : P ∣ d.natAbs:=Nat.Coprime.dvd_of_dvd_mul_left (k:=P) (m:=A) (n:=d.natAbs) hg h1
  exact Int.natAbs_dvd_natAbs.1 h2
/- Monic polynomials are polynomials. -/
theorem Wq {p : Int} {f : List Int} {k : Nat} (nf : Nm p f) (h : Mon f k) (hk : k ≤ 24) : oo p f = true:=by
  simp only [oo,Ip,Bool.and_eq_true,Bool.or_eq_true,decide_eq_true_eq]
  refine ⟨nf,by have:=h.1;omega,.inr ?_⟩
  rw [h.1,Nat.add_sub_cancel,h.2]
  decide
/- Numbers modulo P as a ring of their own; sums there: plain; no condition. -/
section
variable {P : Nat} [NeZero P]
/-- A whole number's rest modulo P. -/
def fz (P : Nat) [NeZero P] (x : Int) : Fin P:=⟨(x % (P : Int)).toNat,by
  have:=Nat.pos_of_neZero P
  have:=Int.emod_nonneg x (show (P : Int) ≠ 0 by omega)
  have:=Int.emod_lt_of_pos x (show 0 < (P : Int) by omega)
  omega⟩
theorem xW (x : Int) : ((fz P x).val : Int) = x % (P : Int):=by
  have:=Nat.pos_of_neZero P
  have:=Int.emod_nonneg x (show (P : Int) ≠ 0 by omega)
  show (((x % (P : Int)).toNat : Nat) : Int) = _
  omega
theorem Jv {x y : Int} : fz P x = fz P y ↔ x % (P : Int) = y % (P : Int):=by
  constructor
  · intro h
    rw [← xW,← xW,h]
  · intro h
    apply Fin.ext
    have h1:=xW (P:=P) x
    have h2:=xW (P:=P) y
    omega
theorem ak8 (x : Int) : fz P (x % (P : Int)) = fz P x:=Jv.2 (Int.emod_emod _ _)
theorem CY (x y : Int) : fz P (x + y) = fz P x + fz P y:=by
  apply Fin.ext
  apply Int.ofNat.inj
  show (((fz P (x + y)).val : Nat) : Int) = (((fz P x + fz P y).val : Nat) : Int)
  rw [Fin.val_add,Int.natCast_emod,Int.natCast_add,xW,xW,xW,← Int.add_emod]
theorem vv (x y : Int) : fz P (x * y) = fz P x * fz P y:=by
  apply Fin.ext
  apply Int.ofNat.inj
  show (((fz P (x * y)).val : Nat) : Int) = (((fz P x * fz P y).val : Nat) : Int)
  rw [Fin.val_mul,Int.natCast_emod,Int.natCast_mul,xW,xW,xW,← Int.mul_emod]
theorem sU : fz P 0 = 0:=by
  apply Fin.ext
  show ((0 : Int) % (P : Int)).toNat = (0 : Fin P).val
  simp
theorem xU : fz P 1 = 1:=by
  apply Fin.ext
  apply Int.ofNat.inj
  show (((fz P 1).val : Nat) : Int) = (((1 : Fin P).val : Nat) : Int)
  rw [xW]
  show (1 : Int) % (P : Int) = ((1 % P : Nat) : Int)
  simp
theorem Sz (x : Int) : fz P (-x) = -fz P x:=by
  have h : fz P (-x) + fz P x = 0:=by rw [← CY,Int.add_left_neg,sU]
  grind
theorem akK (x y : Int) : fz P (x - y) = fz P x - fz P y:=by
  rw [Int.sub_eq_add_neg,CY,Sz]
  grind
theorem KP {x : Int} : fz P x = 0 ↔ x % (P : Int) = 0:=by
  rw [← sU,Jv,Int.zero_emod]
/-- Sums. -/
def sF (g : Nat → Fin P) : Nat → Fin P
  | 0=>0
  | n + 1=>sF g n + g n
theorem Q0 (g : Nat → Int) (n : Nat) : fz P (sumTo g n) = sF (fun i=>fz P (g i)) n:=by
  induction n with
  | zero=>exact sU
  | succ n ih=>rw [sumTo,CY,ih];rfl
theorem j6 {g h : Nat → Fin P} (n : Nat) (e : ∀ i,i < n → g i = h i) : sF g n = sF h n:=by
  induction n with
  | zero=>rfl
  | succ n ih=>rw [sF,sF,ih (fun i hi=>e i (by omega)),e n (by omega)]
theorem NR {g : Nat → Fin P} (n : Nat) (e : ∀ i,i < n → g i = 0) : sF g n = 0:=by
  induction n with
  | zero=>rfl
  | succ n ih=>rw [sF,ih (fun i hi=>e i (by omega)),e n (by omega)];grind
theorem Jw (g h : Nat → Fin P) (n : Nat) : sF (fun i=>g i + h i) n = sF g n + sF h n:=by
  induction n with
  | zero=>simp only [sF];grind
  | succ n ih=>simp only [sF];rw [ih];grind
theorem CZ (c : Fin P) (g : Nat → Fin P) (n : Nat) : sF (fun i=>c * g i) n = c * sF g n:=by
  induction n with
  | zero=>simp only [sF];grind
  | succ n ih=>simp only [sF];rw [ih];grind
theorem Vv (c : Fin P) (g : Nat → Fin P) (n : Nat) : sF (fun i=>g i * c) n = sF g n * c:=by
  induction n with
  | zero=>simp only [sF];grind
  | succ n ih=>simp only [sF];rw [ih];grind
theorem Vw (g : Nat → Nat → Fin P) (n m : Nat) : sF (fun i=>sF (fun j=>g i j) m) n = sF (fun j=>sF (fun i=>g i j) n) m:=by
  induction n with
  | zero=>exact (NR m (fun _ _=>rfl)).symm
  | succ n ih=>simp only [sF];rw [ih,← Jw]
theorem xX (g : Nat → Fin P) (n : Nat) : sF g (n + 1) = g 0 + sF (fun t=>g (t + 1)) n:=by
  induction n with
  | zero=>simp only [sF];grind
  | succ n ih=>rw [sF,ih,sF];grind
theorem aez {g : Nat → Fin P} {n : Nat} (e : ∀ i,n ≤ i → g i = 0) (d : Nat) : sF g (n + d) = sF g n:=by
  induction d with
  | zero=>rfl
  | succ d ih=>rw [← Nat.add_assoc,sF,ih,e _ (by omega)];grind
theorem Tz {g : Nat → Fin P} {n m : Nat} (h : n ≤ m) (e : ∀ i,n ≤ i → g i = 0) : sF g m = sF g n:=by
  obtain ⟨d,rfl⟩:=Nat.le.dest h
  exact aez e d
/-- One place alone. -/
theorem Yd {g : Nat → Fin P} {n k : Nat} (hk : k < n) (e : ∀ i,i < n → i ≠ k → g i = 0) : sF g n = g k:=by
  induction n with
  | zero=>omega
  | succ n ih =>
    rw [sF]
    by_cases c : k = n
    · subst c
      rw [NR k (fun i hi=>e i (by omega) (by omega))]
      grind
    · rw [ih (by omega) (fun i hi=>e i (by omega)),e n (by omega) (by omega)]
      grind
/-- The numbers of a list. -/
def cf (P : Nat) [NeZero P] (f : List Int) (i : Nat) : Fin P:=fz P (f.getD i 0)
theorem Fx {f : List Int} {i : Nat} (h : f.length ≤ i) : cf P f i = 0:=by
  unfold cf
  rw [List.getD_eq_getElem?_getD,List.getElem?_eq_none h]
  exact sU
end
/- Three-term recurrences and the pairing of a functional: orthogonality, what vanishes on all of them, Christoffel and Darboux: plain; no condition. -/
section
variable {P : Nat} [NeZero P] {m : Nat → Fin P} {N : Nat}
/-- What the functional makes of f times x^k. -/
def lam (m : Nat → Fin P) (N : Nat) (f : Nat → Fin P) (k : Nat) : Fin P:=sF (fun t=>f t * m (t + k)) N
/-- What the functional makes of f times g. -/
def bi (m : Nat → Fin P) (N : Nat) (f g : Nat → Fin P) : Fin P:=sF (fun j=>g j * lam m N f j) N
/-- Times x. -/
def xs (f : Nat → Fin P) : Nat → Fin P
  | 0=>0
  | i + 1=>f i
theorem yL (f g : Nat → Fin P) : bi m N f g = bi m N g f:=by
  unfold bi lam
  have e1 : sF (fun j=>g j * sF (fun t=>f t * m (t + j)) N) N = sF (fun j=>sF (fun t=>g j * (f t * m (t + j))) N) N:=j6 N (fun j _=>(CZ _ _ _).symm)
  have e2 : sF (fun j=>f j * sF (fun t=>g t * m (t + j)) N) N = sF (fun j=>sF (fun t=>f j * (g t * m (t + j))) N) N:=j6 N (fun j _=>(CZ _ _ _).symm)
  rw [e1,e2,Vw]
  refine j6 N fun j _=>j6 N fun t _=>?_
  rw [Nat.add_comm t j]
  grind
theorem aek (f g : Nat → Fin P) (c : Fin P) (k : Nat) : lam m N (fun i=>f i + c * g i) k = lam m N f k + c * lam m N g k:=by
  unfold lam
  rw [← CZ,← Jw]
  exact j6 N fun t _=>by grind
theorem Hz (f g h : Nat → Fin P) (c : Fin P) : bi m N h (fun i=>f i + c * g i) = bi m N h f + c * bi m N h g:=by
  unfold bi
  rw [← CZ,← Jw]
  exact j6 N fun t _=>by grind
theorem ag3 {f : Nat → Fin P} (hf : ∀ i,N ≤ i + 1 → f i = 0) (j : Nat) : lam m N (xs f) j = lam m N f (j + 1):=by
  cases N with
  | zero=>rfl
  | succ M =>
    unfold lam
    rw [xX,sF,hf M (Nat.le_refl _)]
    have : sF (fun t=>xs f (t + 1) * m (t + 1 + j)) M = sF (fun t=>f t * m (t + (j + 1))) M:=j6 M fun t _=>by rw [show t + 1 + j = t + (j + 1) from by omega];rfl
    rw [this]
    simp only [xs]
    grind
theorem azC {f g : Nat → Fin P} (hf : ∀ i,N ≤ i + 1 → f i = 0) (hg : ∀ i,N ≤ i + 1 → g i = 0) : bi m N (xs f) g = bi m N f (xs g):=by
  have l1 : ∀ j,lam m N (xs f) j = lam m N f (j + 1):=ag3 hf
  cases N with
  | zero=>rfl
  | succ M =>
    unfold bi
    rw [xX (fun j=>xs g j * lam m (M + 1) f j),sF,hg M (Nat.le_refl _)]
    have : sF (fun j=>g j * lam m (M + 1) (xs f) j) M = sF (fun t=>xs g (t + 1) * lam m (M + 1) f (t + 1)) M:=j6 M fun t _=>by rw [l1];rfl
    rw [this]
    simp only [xs]
    grind
theorem SA (f : Nat → Fin P) : bi m N f (fun _=>0) = 0:=NR N fun _ _=>by grind
/-- Monic polynomials by a recurrence of three terms, with their norms, up to n. -/
structure Tri (m : Nat → Fin P) (N n : Nat) (Q Qb : Nat → Nat → Fin P) (al be h : Nat → Fin P) : Prop where
  q0 : ∀ i,Q 0 i = if i = 0 then 1 else 0
  b0 : ∀ i,Qb 0 i = 0
  bs : ∀ k,Qb (k + 1) = Q k
  st : ∀ k i,Q (k + 1) i = xs (Q k) i - al k * Q k i - be k * Qb k i
  nn : n + 2 ≤ N
  hk : ∀ k,k ≤ n → h k = bi m N (Q k) (Q k)
  ak : ∀ k,k < n → al k * h k = bi m N (xs (Q k)) (Q k)
  bk : ∀ k,k < n → be (k + 1) * h k = h (k + 1)
section
variable {n : Nat} {Q Qb : Nat → Nat → Fin P} {al be h : Nat → Fin P} (T : Tri m N n Q Qb al be h)
include T
theorem Tri.sup (k : Nat) : ∀ i,k < i → Q k i = 0∧Qb k i = 0:=by
  induction k with
  | zero=>intro i hi;exact ⟨by rw [T.q0,if_neg (by omega)],T.b0 i⟩
  | succ k ih =>
    intro i hi
    obtain ⟨j,rfl⟩ : ∃ j,i = j + 1:=⟨i - 1,by omega⟩
    have h1:=ih (j + 1) (by omega)
    have h2:=ih j (by omega)
    refine ⟨?_,by rw [T.bs];exact h1.1⟩
    rw [T.st,h1.1,h1.2]
    simp only [xs]
    rw [h2.1]
    grind
theorem Tri.top (k : Nat) : Q k k = 1:=by
  induction k with
  | zero=>rw [T.q0,if_pos rfl]
  | succ k ih =>
    have h1:=T.sup k (k + 1) (by omega)
    rw [T.st,h1.1,h1.2]
    simp only [xs]
    rw [ih]
    grind
theorem Tri.step (f : Nat → Fin P) (k : Nat) : bi m N f (Q (k + 1)) = bi m N f (xs (Q k)) - al k * bi m N f (Q k) - be k * bi m N f (Qb k):=by
  have e : Q (k + 1) = fun i=>(fun i=>xs (Q k) i + (-al k) * Q k i) i + (-be k) * Qb k i:=by
    funext i
    rw [T.st]
    grind
  rw [e,Hz (fun i=>xs (Q k) i + (-al k) * Q k i),Hz (xs (Q k))]
  grind
theorem Tri.xq {k : Nat} (hk : k ≤ n) (f : Nat → Fin P) (hf : ∀ i,N ≤ i + 1 → f i = 0) : bi m N f (xs (Q k)) = bi m N (xs f) (Q k) :=
  (azC hf (fun i hi=>(T.sup k i (by have:=T.nn;omega)).1)).symm
theorem Tri.far {k : Nat} (hk : k ≤ n) : ∀ i,N ≤ i + 1 → Q k i = 0:=fun i hi=>(T.sup k i (by have:=T.nn;omega)).1
theorem Tri.azD (j : Nat) : j ≤ n → ∀ b,b ≤ j → ∀ a,a < b → bi m N (Q a) (Q b) = 0:=by
  induction j with
  | zero=>intro _ b hb a ha;omega
  | succ j ih =>
    intro hj b hb a ha
    have I:=ih (by omega)
    by_cases c : b ≤ j
    · exact I b c a ha
    obtain rfl : b = j + 1:=by omega
    have zb : ∀ i,i ≤ j → bi m N (Q i) (Qb i) = 0:=by
      intro i hi
      cases i with
      | zero=>rw [show Qb 0 = fun _=>0 from funext T.b0];exact SA _
      | succ i=>rw [T.bs,yL];exact I (i + 1) hi i (by omega)
    rw [T.step,T.xq (by omega) _ (T.far (by omega))]
    by_cases c1 : a = j
    · subst c1
      rw [zb a (Nat.le_refl _),← T.hk a (by omega),← T.ak a (by omega)]
      grind
    · obtain ⟨k,rfl⟩ : ∃ k,j = k + 1:=⟨j - 1,by omega⟩
      have hx : bi m N (xs (Q a)) (Q (k + 1)) = bi m N (Q (k + 1)) (Q (a + 1)) + al a * bi m N (Q (k + 1)) (Q a) + be a * bi m N (Q (k + 1)) (Qb a):=by
        have:=T.step (Q (k + 1)) a
        rw [yL (xs (Q a))]
        grind
      have z1 : bi m N (Q (k + 1)) (Q a) = 0:=by rw [yL];exact I (k + 1) (Nat.le_refl _) a (by omega)
      have z2 : bi m N (Q (k + 1)) (Qb a) = 0:=by
        cases a with
        | zero=>rw [show Qb 0 = fun _=>0 from funext T.b0];exact SA _
        | succ a=>rw [T.bs,yL];exact I (k + 1) (Nat.le_refl _) a (by omega)
      rw [hx,z1,z2,T.bs,I (k + 1) (Nat.le_refl _) a (by omega)]
      by_cases c2 : a = k
      · subst c2
        rw [← T.hk (a + 1) (by omega),← T.hk a (by omega)]
        have:=T.bk a (by omega)
        grind
      · have z3 : bi m N (Q (k + 1)) (Q (a + 1)) = 0:=by rw [yL];exact I (k + 1) (Nat.le_refl _) (a + 1) (by omega)
        rw [z3,I k (by omega) a (by omega)]
        grind
/-- What is linear and nothing at Q 0 to Q (d - 1) is nothing at all of a degree less than d. -/
theorem Tri.span {E : (Nat → Fin P) → Fin P} (E0 : E (fun _=>0) = 0) (El : ∀ f g c,E (fun i=>f i + c * g i) = E f + c * E g) (d : Nat) (hz : ∀ k,k < d → E (Q k) = 0) :
    ∀ f : Nat → Fin P,(∀ i,d ≤ i → f i = 0) → E f = 0:=by
  induction d with
  | zero=>intro f hf;rw [show f = fun _=>0 from funext fun i=>hf i (by omega)];exact E0
  | succ d ih =>
    intro f hf
    have h1:=ih (fun k hk=>hz k (by omega)) (fun i=>f i + (-f d) * Q d i) (fun i hi=>by
      by_cases c : i = d
      · subst c;rw [T.top];grind
      · rw [hf i (by omega),(T.sup d i (by omega)).1];grind)
    rw [El,hz d (by omega)] at h1
    grind
/-- What is orthogonal to all of a lower degree. -/
theorem Tri.amv {k : Nat} (hk : k ≤ n) (f : Nat → Fin P) (hf : ∀ i,k ≤ i → f i = 0) : bi m N (Q k) f = 0 :=
  T.span (E:=bi m N (Q k)) (SA _) (fun f g c=>Hz f g _ c) k (fun i hi=>by rw [yL];exact T.azD k hk k (Nat.le_refl _) i hi) f hf
end
/-! ### values -/
def pw (x : Fin P) : Nat → Fin P
  | 0=>1
  | i + 1=>pw x i * x
def va (N : Nat) (x : Fin P) (f : Nat → Fin P) : Fin P:=sF (fun i=>f i * pw x i) N
theorem abl (x : Fin P) (f g : Nat → Fin P) (c : Fin P) : va N x (fun i=>f i + c * g i) = va N x f + c * va N x g:=by
  unfold va
  rw [← CZ,← Jw]
  exact j6 N fun t _=>by grind
theorem azE (x : Fin P) {f : Nat → Fin P} (hf : ∀ i,N ≤ i + 1 → f i = 0) : va N x (xs f) = x * va N x f:=by
  cases N with
  | zero=>simp only [va,sF];grind
  | succ M =>
    unfold va
    rw [xX,sF,hf M (Nat.le_refl _)]
    have : sF (fun t=>xs f (t + 1) * pw x (t + 1)) M = sF (fun t=>x * (f t * pw x t)) M:=j6 M fun t _=>by simp only [xs,pw];grind
    rw [this,CZ]
    simp only [xs]
    grind
section
variable {n : Nat} {Q Qb : Nat → Nat → Fin P} {al be h iv : Nat → Fin P} (T : Tri m N n Q Qb al be h)
include T
theorem Tri.val (x : Fin P) {k : Nat} (hk : k ≤ n) : va N x (Q (k + 1)) = (x - al k) * va N x (Q k) - be k * va N x (Qb k):=by
  have e : Q (k + 1) = fun i=>(fun i=>xs (Q k) i + (-al k) * Q k i) i + (-be k) * Qb k i:=by
    funext i
    rw [T.st]
    grind
  rw [e,abl x (fun i=>xs (Q k) i + (-al k) * Q k i),abl x (xs (Q k)),azE x (T.far hk)]
  grind
end
end
/- Fermat: the power p - 2 is the inverse; no condition but that p is a Ck. -/
/-- How many ways to choose k of n. -/
def chs : Nat → Nat → Int
  | _,0=>1
  | 0,_ + 1=>0
  | n + 1,k + 1=>chs n k + chs n (k + 1)
theorem EB (n k : Nat) : chs (n + 1) (k + 1) = chs n k + chs n (k + 1):=by rw [chs]
theorem H7 (n : Nat) : ∀ k,n < k → chs n k = 0:=by
  induction n with
  | zero =>
    intro k h
    obtain ⟨j,rfl⟩ : ∃ j,k = j + 1:=⟨k - 1,by omega⟩
    rw [chs]
  | succ n ih =>
    intro k h
    obtain ⟨j,rfl⟩ : ∃ j,k = j + 1:=⟨k - 1,by omega⟩
    rw [chs,ih j (by omega),ih (j + 1) (by omega)];rfl
theorem abm (n : Nat) : chs n n = 1:=by
  induction n with
  | zero=>rw [chs]
  | succ n ih=>rw [chs,ih,H7 n (n + 1) (by omega)];rfl
theorem zV (n : Nat) : chs n 0 = 1:=by cases n <;> rw [chs]
theorem aeA (n : Nat) : ∀ k : Nat,((k : Int) + 1) * chs (n + 1) (k + 1) = ((n : Int) + 1) * chs n k:=by
  induction n with
  | zero =>
    intro k
    cases k with
    | zero=>simp [chs]
    | succ k=>rw [EB,H7 0 (k + 1) (by omega),H7 0 (k + 1 + 1) (by omega)];simp
  | succ n ih =>
    intro k
    cases k with
    | zero =>
      have h:=ih 0
      rw [EB (n + 1)]
      simp only [zV,Int.natCast_succ,Int.natCast_zero] at h ⊢
      clear ih
      generalize chs (n + 1) (0 + 1) = a at *
      omega
    | succ k =>
      have h1:=ih k
      have h2:=ih (k + 1)
      have e:=EB n k
      rw [EB (n + 1)]
      simp only [Int.natCast_succ] at *
      clear ih
      generalize chs (n + 1) (k + 1) = a at *
      generalize chs (n + 1) (k + 1 + 1) = b at *
      generalize chs n k = c at *
      generalize chs n (k + 1) = d at *
      grind
section
variable {P : Nat} [NeZero P]
theorem as8 (a : Int) (n : Nat) : fz P ((a + 1) ^ n) = sF (fun k=>fz P (chs n k) * fz P (a ^ k)) (n + 1):=by
  induction n with
  | zero =>
    simp only [sF,Int.pow_zero,xU]
    rw [show chs 0 0 = 1 from rfl,xU]
    grind
  | succ n ih =>
    have e : ∀ k,fz P (chs (n + 1) (k + 1)) * fz P (a ^ (k + 1)) = fz P (chs n k) * fz P (a ^ k) * fz P a + fz P (chs n (k + 1)) * fz P (a ^ (k + 1)):=by
      intro k
      rw [chs,CY,Int.pow_succ,vv]
      grind
    rw [Int.pow_succ,vv,ih,xX (fun k=>fz P (chs (n + 1) k) * fz P (a ^ k)),j6 (n + 1) (fun k _=>e k),Jw,Vv,CY,xU]
    have l : sF (fun k=>fz P (chs n (k + 1)) * fz P (a ^ (k + 1))) (n + 1) + 1 = sF (fun k=>fz P (chs n k) * fz P (a ^ k)) (n + 1):=by
      rw [xX (fun k=>fz P (chs n k) * fz P (a ^ k))]
      show sF (fun k=>fz P (chs n (k + 1)) * fz P (a ^ (k + 1))) n + fz P (chs n (n + 1)) * fz P (a ^ (n + 1)) + 1 = _
      rw [H7 n (n + 1) (by omega),zV,sU,Int.pow_zero,xU]
      grind
    rw [zV,Int.pow_zero,xU]
    generalize sF (fun k=>fz P (chs n k) * fz P (a ^ k)) (n + 1) = s at *
    generalize sF (fun k=>fz P (chs n (k + 1)) * fz P (a ^ (k + 1))) (n + 1) = t at *
    grind
end
theorem WT {p : Int} (h : iw p = true) {k n : Nat} (hn : p = (n : Int) + 1) (hk : k < n) : p ∣ chs (n + 1) (k + 1):=by
  refine iw.cancel h (a:=(k : Int) + 1) ⟨by omega,by omega⟩ ?_
  rw [aeA,← hn]
  exact ⟨_,rfl⟩
theorem azF {p : Int} (h : iw p = true) (a : Nat) : ((a : Int) ^ p.toNat) % p = (a : Int) % p:=by
  have hp:=(iw.pm h).two
  obtain ⟨n,hn⟩ : ∃ n : Nat,p = (n : Int) + 1:=⟨(p - 1).toNat,by omega⟩
  have hP : p.toNat = n + 1:=by omega
  have e1 : p = ((n + 1 : Nat) : Int):=by omega
  have key : fz (n + 1) ((a : Int) ^ (n + 1)) = fz (n + 1) (a : Int):=by
    induction a with
    | zero=>rw [Int.pow_succ];simp
    | succ a ih =>
      rw [Int.natCast_succ,as8,sF,xX,NR n (fun t ht=>?_),zV,abm,Int.pow_zero,xU,CY,ih,xU]
      · grind
      · have hd:=WT h hn ht
        rw [e1] at hd
        rw [KP.2 (Int.emod_eq_zero_of_dvd hd)]
        grind
  rw [hP,e1]
  exact Jv.1 key
/-- Fermat. -/
theorem ak9 {p : Int} (h : iw p = true) {x : Int} (hx : 1 ≤ x∧x < p) : x ^ (p.toNat - 1) % p = 1:=by
  have hp:=(iw.pm h).two
  obtain ⟨a,rfl⟩ : ∃ a : Nat,x = (a : Int):=⟨x.toNat,by omega⟩
  have h1:=azF h a
  rw [show p.toNat = p.toNat - 1 + 1 from by omega,Int.pow_succ] at h1
  have h2 : p ∣ (a : Int) * ((a : Int) ^ (p.toNat - 1) - 1):=by
    have:=Int.emod_emod_of_dvd ((a : Int) ^ (p.toNat - 1) * a - a) (Int.dvd_refl p)
    refine Int.dvd_of_emod_eq_zero ?_
    rw [show (a : Int) * ((a : Int) ^ (p.toNat - 1) - 1) = (a : Int) ^ (p.toNat - 1) * a - a from by grind,Int.sub_emod,h1,Int.sub_self,Int.zero_emod]
  have h3:=iw.cancel h hx h2
  have h4:=Int.emod_eq_zero_of_dvd h3
  have h5 : ((a : Int) ^ (p.toNat - 1) - 1 + 1) % p = 1 % p:=by rw [Int.add_emod,h4,Int.zero_add,Int.emod_emod]
  rw [Int.sub_add_cancel] at h5
  rw [h5]
  exact Int.emod_eq_of_lt (by omega) (by omega)
theorem abn {p : Int} (h : iw p = true) {x : Int} (hx : 1 ≤ x∧x < p) : (x * si p x) % p = 1:=by
  have hp:=iw.pm h
  have h2:=hp.two
  have e : x * x ^ (p.toNat - 2) = x ^ (p.toNat - 1):=by
    rw [show p.toNat - 1 = p.toNat - 2 + 1 from by omega,Int.pow_succ,Int.mul_comm]
  rw [si,aey hp,Int.mul_emod,Int.emod_emod,← Int.mul_emod,e]
  exact ak9 h hx
theorem Sj {p : Int} (h : iw p = true) [NeZero p.toNat] {x : Int} (hx : 0 ≤ x∧x < p) (h0 : fz p.toNat x ≠ 0) : fz p.toNat x * fz p.toNat (si p x) = 1:=by
  have hp:=iw.pm h
  have h2:=hp.two
  have e : ((p.toNat : Nat) : Int) = p:=by omega
  have h1 : 1 ≤ x:=by
    apply Decidable.byContradiction
    intro g
    exact h0 (by rw [show x = 0 from by omega];exact sU)
  rw [← vv,← xU,Jv,e,abn h ⟨h1,hx.2⟩,Int.emod_eq_of_lt (by omega) (by omega)]
/- Polynomials and functionals over the numbers modulo p; conditions: p in the program's range. -/
theorem nez {p : Int} (hp : Pm p) : NeZero p.toNat:=⟨by have:=hp.two;omega⟩
theorem Pm.cast {p : Int} (hp : Pm p) : ((p.toNat : Nat) : Int) = p:=by have:=hp.two;omega
section
variable {p : Int} [NeZero p.toNat] (hp : Pm p)
include hp
theorem sS (x : Int) : fz p.toNat (x % p) = fz p.toNat x:=by
  have h:=ak8 (P:=p.toNat) x
  rwa [hp.cast] at h
theorem II {x : Int} (h : 0 ≤ x∧x < p) (h0 : fz p.toNat x = 0) : x = 0:=by
  have h1:=KP.1 h0
  rwa [hp.cast,Int.emod_eq_of_lt h.1 h.2] at h1
theorem ahQ {x y : Int} (hx : 0 ≤ x∧x < p) (hy : 0 ≤ y∧y < p) (h : fz p.toNat x = fz p.toNat y) : x = y:=by
  have h1:=Jv.1 h
  rwa [hp.cast,Int.emod_eq_of_lt hx.1 hx.2,Int.emod_eq_of_lt hy.1 hy.2] at h1
theorem Vx (f g : List Int) (k : Nat) : cf p.toNat (mg p f g) k = sF (fun t=>cf p.toNat f t * fz p.toNat (sh g t k)) f.length:=by
  unfold cf
  rw [Dy hp.pos,sS hp,Q0]
  exact j6 _ fun t _=>vv _ _
omit hp in
theorem ala (f : List Int) (i : Nat) : fz p.toNat (sh f 0 i) = cf p.toNat f i:=by rw [sh,if_pos (Nat.zero_le _)];rfl
omit hp in
theorem alb (f : List Int) (i : Nat) : fz p.toNat (sh f 1 i) = xs (cf p.toNat f) i:=by
  cases i with
  | zero=>rw [sh,if_neg (by omega)];exact sU
  | succ i=>rw [sh,if_pos (by omega)];rfl
theorem abo (c : Int) (f : List Int) (i : Nat) : cf p.toNat (mg p [c,1] f) i = fz p.toNat c * cf p.toNat f i + xs (cf p.toNat f) i:=by
  rw [Vx hp]
  show (0 : Fin p.toNat) + cf p.toNat [c,1] 0 * fz p.toNat (sh f 0 i) + cf p.toNat [c,1] 1 * fz p.toNat (sh f 1 i) = _
  rw [ala,alb,show cf p.toNat [c,1] 0 = fz p.toNat c from rfl,show cf p.toNat [c,1] 1 = fz p.toNat 1 from rfl,xU]
  grind
omit hp in
theorem alc (g : List Int) (M t : Nat) : ∀ u : Nat → Fin p.toNat,sF (fun j=>fz p.toNat (sh g t j) * u j) (t + M) = sF (fun j=>cf p.toNat g j * u (t + j)) M:=by
  induction t with
  | zero =>
    intro u
    rw [Nat.zero_add]
    refine j6 _ fun j _=>?_
    rw [sh,if_pos (Nat.zero_le _),Nat.zero_add];rfl
  | succ t ih =>
    intro u
    rw [show t + 1 + M = t + M + 1 from by omega,xX]
    have e : sF (fun j=>fz p.toNat (sh g (t + 1) (j + 1)) * u (j + 1)) (t + M) = sF (fun j=>fz p.toNat (sh g t j) * u (j + 1)) (t + M):=by
      refine j6 _ fun j _=>?_
      have : sh g (t + 1) (j + 1) = sh g t j:=by
        unfold sh
        by_cases h : t ≤ j
        · rw [if_pos (by omega),if_pos h,show j + 1 - (t + 1) = j - t from by omega]
        · rw [if_neg (by omega),if_neg h]
      rw [this]
    rw [e,ih (fun j=>u (j + 1)),show sh g (t + 1) 0 = 0 from if_neg (by omega),sU]
    have e2 : sF (fun j=>cf p.toNat g j * u (t + j + 1)) M = sF (fun j=>cf p.toNat g j * u (t + 1 + j)) M:=j6 _ fun j _=>by rw [show t + j + 1 = t + 1 + j from by omega]
    rw [e2]
    grind
/-- The functional at a product. -/
theorem Vy {l f g : List Int} {N : Nat} (hf : f.length ≤ N) (hg : g.length ≤ N) (s : Nat) :
    fz p.toNat (oH p l (mg p f g) s) = sF (fun i=>cf p.toNat f i * sF (fun j=>cf p.toNat g j * cf p.toNat l (i + j + s)) N) N:=by
  unfold oH
  have hl:=uu p f g
  rw [sS hp,Q0]
  have e1 : sF (fun i=>fz p.toNat ((mg p f g).getD i 0 * l.getD (i + s) 0)) (mg p f g).length = sF (fun i=>cf p.toNat (mg p f g) i * cf p.toNat l (i + s)) (N + N):=by
    rw [Tz (n:=(mg p f g).length) (m:=N + N) (by omega) (fun i hi=>by rw [Fx hi];grind)]
    exact j6 _ fun i _=>vv _ _
  rw [e1]
  have e2 : sF (fun i=>cf p.toNat (mg p f g) i * cf p.toNat l (i + s)) (N + N) = sF (fun i=>sF (fun t=>cf p.toNat f t * (fz p.toNat (sh g t i) * cf p.toNat l (i + s))) N) (N + N):=by
    refine j6 _ fun i _=>?_
    rw [Vx hp,← Vv,Tz hf (fun t ht=>by rw [Fx ht];grind)]
    exact j6 _ fun t _=>by grind
  rw [e2,Vw]
  refine j6 _ fun t ht=>?_
  rw [CZ,show N + N = t + (N + N - t) from by omega,alc g _ t (fun i=>cf p.toNat l (i + s)),Tz (n:=N) (m:=N + N - t) (by omega) (fun j hj=>by rw [Fx (show g.length ≤ j by omega)];grind)]
theorem ald {l f g : List Int} {N : Nat} (hf : f.length ≤ N) (hg : g.length ≤ N) : fz p.toNat (oH p l (mg p f g) 0) = bi (cf p.toNat l) N (cf p.toNat f) (cf p.toNat g):=by
  rw [Vy hp hf hg,yL]
  refine j6 _ fun i _=>?_
  congr 1
  exact j6 _ fun j _=>by rw [Nat.add_zero,Nat.add_comm]
end
/- The orthogonal polynomials of moments are a recurrence of three terms over the numbers modulo p; conditions: p a Ck, the norms of a lower number no multiples of p. -/
section
variable {p : Int} [NeZero p.toNat] (hp : Pm p)
include hp
theorem aeB {f : List Int} (g : List Int) (k : Int) (hf : Nm p f) (i : Nat) : cf p.toNat (Dq p f g k) i = cf p.toNat f i + fz p.toNat k * cf p.toNat g i:=by
  unfold cf
  rw [XX hp.pos g k hf,sS hp,CY,vv]
theorem abp (a b : Int) (f g : List Int) (i : Nat) : cf p.toNat (y8 p a b f g) i = xs (cf p.toNat f) i - fz p.toNat a * cf p.toNat f i - fz p.toNat b * cf p.toNat g i:=by
  unfold y8
  rw [aeB hp _ _ (xk hp.pos _ _),abo hp,sS hp,sS hp,Sz,Sz]
  grind
theorem aeC {l f : List Int} {N : Nat} (hf : f.length ≤ N) : fz p.toNat (lq p l f 0) = bi (cf p.toNat l) N (cf p.toNat f) (cf p.toNat f):=ald hp hf hf
theorem ale {l f : List Int} {N : Nat} (hf : f.length + 1 ≤ N) : fz p.toNat (lq p l f 1) = bi (cf p.toNat l) N (xs (cf p.toNat f)) (cf p.toNat f):=by
  unfold lq
  rw [Vy hp (N:=N) (by omega) (by omega)]
  refine j6 _ fun i _=>?_
  rw [ag3 (fun i hi=>Fx (by omega))]
  congr 1
  exact j6 _ fun j _=>by rw [show i + j + 1 = j + (i + 1) from by omega]
end
/-- The moments' polynomials up to n. -/
theorem amu {p : Int} [NeZero p.toNat] (hq : iw p = true) (l : List Int) {n N : Nat} (hn : n + 2 ≤ N) (hu : ∀ k,k < n → fz p.toNat (lq p l (mP p l k) 0) ≠ 0) :
    Tri (cf p.toNat l) N n (fun k=>cf p.toNat (mP p l k)) (fun k=>cf p.toNat (oV p l k).1) (fun k=>fz p.toNat (qW p l (mP p l k))) (fun k=>fz p.toNat (yx p l (oV p l k).1 (oV p l k).2 k)) (fun k=>fz p.toNat (lq p l (mP p l k) 0)):=by
  have hp:=iw.pm hq
  have len:=fun k=>zx hp l k
  refine ⟨fun i=>?_,fun i=>Fx (Nat.zero_le _),fun k=>rfl,fun k i=>abp hp _ _ _ _ i,hn,fun k hk=>aeC hp (by have:=len k;omega),fun k hk=>?_,fun k hk=>?_⟩
  · cases i with
    | zero=>exact xU
    | succ i=>exact Fx (by simp [mP,oV])
  · have h:=Sj hq (uz hp l (mP p l k) 0) (hu k hk)
    rw [← ale hp (by have:=len k;omega)]
    unfold qW
    rw [sS hp,vv]
    grind
  · have h:=Sj hq (uz hp l (mP p l k) 0) (hu k hk)
    have e : yx p l (oV p l (k + 1)).1 (oV p l (k + 1)).2 (k + 1) = lq p l (mP p l (k + 1)) 0 * si p (lq p l (mP p l k) 0) % p:=by
      unfold yx
      rw [if_neg (by omega)];rfl
    rw [e,sS hp,vv]
    grind
end Go.Proofs.Ytilbjbahmilhkaa.Pr
