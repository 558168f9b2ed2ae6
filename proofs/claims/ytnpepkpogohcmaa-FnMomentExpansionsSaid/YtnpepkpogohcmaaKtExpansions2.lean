/- Texts of this session in one: what functions of the program compute, and plain facts of it, under the conditions that each theorem names. -/
import Derived.Test.YtnpepkpogohcmaaKtExpansions1
namespace Go.Proofs.Ytnpepkpogohcmaa.Pr
open Go.RowKit Go.Proofs.YtnpepkpogohcmaaW.PrintWords Go.Proofs.YtnpepkpogohcmaaW.PrintLast Go.Proofs.YtnpepkpogohcmaaW.PrintMore
attribute [local go_sem] tN tO wJ wK qL qM tQ tT   -- for this text's walks alone
set_option linter.unusedVariables false
set_option maxHeartbeats 8000000
set_option maxRecDepth 100000
set_option linter.unusedSimpArgs false
/-! ### bI: function 92 -/
mutual
def bI.j0 : Nat → Int → List Int → List Int → Bool → Option (List Int)
 | 0,_,_,_,_=>none
 | k + 1,x0,x1,x2,x17=>if x17 = true then (some (([] : List Int))) else (if 0 ≤ (wrap64 ((wrap64 ((x1.length : Int) + (x2.length : Int))) - 1)) then (if (wrap64 ((wrap64 ((x1.length : Int) + (x2.length : Int))) - 1) : Int).toNat ≤ 35184372088832 then (bI.l0 k x0 x1 x2 (List.replicate (wrap64 ((wrap64 ((x1.length : Int) + (x2.length : Int))) - 1) : Int).toNat 0) 0) else (none)) else (none))
def bI.l0 : Nat → Int → List Int → List Int → List Int → Int → Option (List Int)
 | 0,_,_,_,_,_=>none
 | k + 1,x0,x1,x2,x7,x8=>if x8 < (x1.length : Int) then (bI.l1 k x0 x1 x2 x7 x8 0) else ((gQ.f k x7).bind fun af8=>(some af8))
def bI.l1 : Nat → Int → List Int → List Int → List Int → Int → Int → Option (List Int)
 | 0,_,_,_,_,_,_=>none
 | k + 1,x0,x1,x2,x7,x8,x9=>if x9 < (x2.length : Int) then (if 0 ≤ (wrap64 (x8 + x9)) then (if (wrap64 (x8 + x9)) < (x7.length : Int) then (if 0 ≤ x8 then (if x8 < (x1.length : Int) then (if 0 ≤ x9 then (if x0 = 0 then (none) else (bI.l1 k x0 x1 x2 (x7.set ((wrap64 (x8 + x9)) : Int).toNat (Int.tmod (wrap64 ((rd x7 (wrap64 (x8 + x9))) + (wrap64 ((rd x1 x8) * (rd x2 x9))))) x0)) x8 (wrap64 (x9 + 1)))) else (none)) else (none)) else (none)) else (none)) else (none)) else (bI.l0 k x0 x1 x2 x7 (wrap64 (x8 + 1)))
end
def bI.f (k : Nat) (a0 : Int) (l1 : List Int) (l2 : List Int) : Option (List Int):=if (l1.length : Int) = 0 then (bI.j0 k a0 l1 l2 true) else (bI.j0 k a0 l1 l2 ((l2.length : Int) == 0))
def bI.T10 : Bool × List (List Nat × List Nat):=(true,[([],[]),([],[]),([],[]),([1,2],[1,2]),([],[]),([],[]),([],[]),([5,6],[5,6]),([4,7],[4,7]),([8],[8]),([],[]),([],[]),([10,11],[10,11]),([12],[12]),([],[]),([],[]),([14,15],[14,15]),([16],[16]),([13,17],[13,17]),([9,18],[9,18]),([],[]),([19,20],[19,20]),([0,3,0,1,2,3,4,5,6,7,8,9,10,11,12,13,14,15,16,17,18,19,20,21],[0,3]),([22,21,0,1,2,3,4,5,6,7,8,9,10,11,12,13,14,15,16,17,18,19,20,21],[21,22])])
def bI.B10 : List Nat:=[0,0,0,6,0,0,0,96,240,496,0,0,3072,7168,0,0,49152,114688,261120,524272,0,2097136,4194303,8388607]
theorem bI.XE : mf .any (opsOf Try.f92 10) = bI.T10:=by kernel_rfl
theorem bI.PP : jP bI.T10.2 bI.B10 = true:=by kernel_rfl
theorem bI.calls (k : Nat) (a0 : Int) (A1 : Option Addr) (c1 : Nat) (l1 : List Int) (A2 : Option Addr) (c2 : Nat) (l2 : List Int) (r : List Int) (w : World) (hr1 : Kd.C (Kd.int .i64) w A1 l1.length l1) (hc1 : l1.length ≤ c1) (hr2 : Kd.C (Kd.int .i64) w A2 l2.length l2) (hc2 : l2.length ≤ c2) (H : bI.f k a0 l1 l2 = some r) :
  Calls Try.prog 92 #[.int .i64 a0,.slice A1 l1.length c1,.slice A2 l2.length c2] w fun e w'=>∃ v0_ : Value,e = .returned (v0_)∧Kd.R (Kd.int .i64) 2 w' w.heap.size (fun _=>True) v0_ r∧Below w.heap.size w w':=by
 have HR1:=zA hr1;have HC1:=zA hc1;clear hr1 hc1;have HR2:=zA hr2;have HC2:=zA hc2;clear hr2 hc2;have HB:=zA (Below.refl w.heap.size w);unfold bI.f at H;have HC4:=zA H;clear H;go_enter Try.func92,Try.ntmps92;go_upto_region 1 with (fail);go_cut [17] (fun v17 wc=>∃ (kq : Nat) (XF : Bool),v17 = .bool XF∧aa (bI.j0 kq a0 l1 l2 XF = some r)∧aa (kq ≤ k)∧aa (Below w.heap.size w wc))
 case first =>
  have H:=HC4.out;clear HC4;replace H:=gE H;obtain ⟨c5,mq,uP,H⟩|⟨c5,mq,uP,H⟩:=H
  ·have PQ : ¬ (l1 = []):=fun h_=>c5 (by rw [h_];rfl);(first | rw [mq] | (simp only [jW,nH];rw [mq]) | skip);have H':=zA H;clear H;go_wp2;go_meet;(case rel=>exact ⟨_,(((l2.length : Int) == 0)),eS,H',⟨by first | omega | exact Nat.le_refl _⟩,⟨uH HB.out⟩⟩)
  clear c5;(first | rw [mq] | (simp only [jW,nH];rw [mq]) | skip);have H':=zA H;clear H;go_wp2;go_meet;(case rel=>exact ⟨_,(true),eS,H',⟨by first | omega | exact Nat.le_refl _⟩,⟨uH HB.out⟩⟩)
 case rest =>
  clear HC4;(try clear c1);(try clear c2);(try clear p2);(try clear c5);(try clear mq);(try clear uP);(try clear PQ);obtain ⟨kq,XF,rfl,HA,HJ3,HB⟩:=hcut
  cases kq with
  | zero=>exact absurd HA.out (by simp [bI.j0])
  | succ kj3 =>
   have H:=HA.out;clear HA;simp only [bI.j0] at H;replace H:=gB H;obtain ⟨rfl,H⟩|⟨rfl,H⟩:=H
   ·obtain ⟨azo,XG⟩:=eY ([] : List Int);(try rw [←XG.out] at H);obtain rfl:=Option.some.inj H;go_wp2_with (first | ((with_reducible refine aT (N:=18) rfl ?_);(try (refine lq (by rfl) ?_;dsimp only));refine Kd.mX (Kd.int .i64) _ 2 ?hg (N:=18) ?hd (xs:=([] : List Int)) (inner:=[]) (ok:=fun _=>True) (okp:=fun _=>True) ?hr ?hp (fun _ hk=>hk) trivial (Below.refl _ _) (Nat.le_refl _) (by simp) ?_;(case hd=>rfl);(case hg=>rfl);(case hr=>first | (go_simp;done) | (go_simp;rfl));(case hp=>exact (cB.none _ _));intro azp w7 ho8 hb hg_ hnew_;clear hg_ hnew_;(first | rw [← XG.out] at ho8 | (simp only [Int.reduceToNat] at ho8;rw [← XG.out] at ho8));have alp:=zA (Kd.aX ho8 (af (uH HB.out)));replace HB:=xH HB hb;clear hb ho8));go_ret;exact ⟨_,eX,uR alp.out,uH HB.out⟩
   ·obtain ⟨ji9,KZ⟩ : ∃ j_ : Int,(wrap64 ((wrap64 ((l1.length : Int) + (l2.length : Int))) - 1)) = j_:=⟨_,rfl⟩;(first | rw [KZ] at H | simp only [KZ] at H);have alq : (IntKind.i64.wrap ((wrap64 ((l1.length : Int) + (l2.length : Int))) - 1)) = ji9:=(jW _).trans KZ;replace H:=gN H;obtain ⟨c10,H⟩:=H;have qH:=eq_true c10;have Dr : decide (0 ≤ (ji9)) = true:=decide_eq_true c10;clear c10;replace H:=gN H;obtain ⟨c11,H⟩:=H;have yP:=eq_true c11;have JM : decide ((ji9 : Int).toNat ≤ 35184372088832) = true:=decide_eq_true c11;clear c11;obtain ⟨atU,XH⟩:=eY (List.replicate (ji9 : Int).toNat 0 : List Int);(try rw [←XH.out] at H);have H':=zA H;clear H;go_wp2_with (first | ((with_reducible refine aT (N:=25) rfl ?_);(try (refine lq (by rfl) ?_;dsimp only));refine Kd.BR (Kd.int .i64) _ 2 rfl (N:=25) rfl 24 _ _ rfl ji9 rfl rfl Try.underlying24 (.int .i64 0) 8 lh rfl (by decide) (by omega) 0 (ok:=fun _=>True) (okp:=fun _=>True) rfl (fun _ hk=>hk) trivial (of_decide_eq_true (by first | (with_reducible assumption) | assumption)) (Nat.le_trans (Nat.mul_le_mul_right _ (of_decide_eq_true (by first | (with_reducible assumption) | assumption) : ji9.toNat ≤ 35184372088832)) (by omega)) (Below.refl _ _) (Nat.le_refl _) ?_;intro alr w12 zf hb hg_ hnew_;clear hg_ hnew_;(first | rw [← XH.out] at zf | (simp only [Int.reduceToNat] at zf;rw [← XH.out] at zf));have als:=zA (Kd.aX zf (af (uH HB.out)));replace HB:=xH HB hb;clear hb zf));go_loopg [8] kj3 (fun kq v8 w'=>∃ (Cc : List Int) (nC : Int),v8 = .int .i64 nC∧aa (bI.l0 kq a0 l1 l2 Cc nC = some r)∧aa (kq ≤ kj3)∧aa (Kd.R (Kd.int .i64) 2 w' w.heap.size (fun _=>True) alr Cc)∧aa (Below w.heap.size w w'));(case atStart=>exact ⟨(atU),(0),eS,H',⟨Nat.le_refl _⟩,⟨uR als.out⟩,⟨uH HB.out⟩⟩)
    case round =>
     clear H';(try clear c1);(try clear c2);(try clear p2);(try clear c5);(try clear mq);(try clear uP);(try clear PQ);(try clear c6);(try clear p6);(try clear c9);(try clear c10);(try clear qH);(try clear Dr);(try clear c11);(try clear yP);(try clear JM);(try clear p2);obtain ⟨Cc,nC,rfl,HA,HK2,dX,HB⟩:=hrel
     cases gk with
     | zero=>exact absurd HA.out (by simp [bI.l0])
     | succ k2 =>
      have H:=HA.out;clear HA;simp only [bI.l0] at H;replace H:=gF H;obtain ⟨xE,H⟩|⟨xE,H⟩:=H
      ·replace H:=bO H;obtain ⟨af8,A27,H⟩:=H;obtain rfl:=Option.some.inj H;obtain ⟨wP,uF,rfl⟩:=Kd.bB dX.out;go_wp2_with (first | ((with_reducible refine ag (f:=84) rfl ?_);refine gL (some 62) Try.func84 #[.slice wP Cc.length uF] ?_;(with_reducible refine (gQ.calls k2 _ _ Cc af8 _ ?side1 ?side2 A27.out).mono ?_);(case side1=>exact uC ((Kd.aM dX.out).2.2));(case side2=>exact (Kd.aM dX.out).2.1);rintro e w29 ⟨azq,rfl,ho0,hb⟩;refine ⟨_,rfl,?_⟩;have alu:=zA (Kd.aX (nw ho0 (uR dX.out)) (af (uH HB.out)));replace dX:=zA (Kd.aJ (uR dX.out) (Kd.aG ho0) hb);replace HB:=xH HB hb;(try clear hb);(try clear ho0)));go_ret;exact ⟨_,by first | rfl | (simp [gY,ib] <;> rfl) | (simp only [← KZ];first | rfl | (simp [gY,ib] <;> rfl)) | (simp [*,gY,ib] <;> rfl),uR (Kd.ah alu.out (fun _ hk=>trivial)),uH HB.out⟩
      have H':=zA H;clear H;go_wp2;go_loopg [9] k2 (fun kq v9 w'=>∃ (xM : List Int) (EJ : Int),v9 = .int .i64 EJ∧aa (bI.l1 kq a0 l1 l2 xM nC EJ = some r)∧aa (kq ≤ k2)∧aa (Kd.R (Kd.int .i64) 2 w' w.heap.size (fun _=>True) alr xM)∧aa (Below w.heap.size w w'));(case atStart=>exact ⟨(Cc),(0),eS,H',⟨Nat.le_refl _⟩,⟨uR dX.out⟩,⟨uH HB.out⟩⟩)
      case round =>
       clear H';(try clear c1);(try clear c2);(try clear p2);(try clear c5);(try clear mq);(try clear uP);(try clear PQ);(try clear c6);(try clear p6);(try clear c9);(try clear c10);(try clear qH);(try clear Dr);(try clear c11);(try clear yP);(try clear JM);(try clear c14);(try clear xE);(try clear p2);(try clear p6);obtain ⟨xM,EJ,rfl,HA,HK3,dX,HB⟩:=hrel
       cases gk with
       | zero=>exact absurd HA.out (by simp [bI.l1])
       | succ k3 =>
        have H:=HA.out;clear HA;simp only [bI.l1] at H;replace H:=gF H;obtain ⟨yl,H⟩|⟨yl,H⟩:=H
        ·have H':=zA H;clear H;go_wp2;go_roundg k3;(case measure=>have:=HJ3.out;have:=HK2.out;have:=HK3.out;omega);(case rel=>exact ⟨(xM),(wrap64 (nC + 1)),eS,H',⟨by have:=HJ3.out;have:=HK2.out;have:=HK3.out;omega⟩,⟨uR dX.out⟩,⟨uH HB.out⟩⟩)
        obtain ⟨EK,XI⟩ : ∃ j_ : Int,(wrap64 (nC + EJ)) = j_:=⟨_,rfl⟩;(first | rw [XI] at H | simp only [XI] at H);have atV : (IntKind.i64.wrap (nC + EJ)) = EK:=(jW _).trans XI;replace H:=gD H;obtain ⟨XJ,H⟩:=H;replace H:=gD H;obtain ⟨yK,H⟩:=H;replace H:=gD H;obtain ⟨vY,H⟩:=H;replace H:=gD H;obtain ⟨R5,H⟩:=H;replace H:=gD H;obtain ⟨akl,H⟩:=H;replace H:=gI H;obtain ⟨c22,H⟩|⟨c22,H⟩:=H
        ·have Wz : (a0 == 0) = false:=beq_eq_false_iff_ne.mpr c22;have axu : (a0 != 0) = true:=bne_iff_ne.mpr c22;obtain ⟨atW,adj⟩:=eY (xM.set ((EK) : Int).toNat (Int.tmod (wrap64 ((rd xM (EK)) + (wrap64 ((rd l1 nC) * (rd l2 EJ))))) a0) : List Int);(try rw [←adj.out] at H);have H':=zA H;clear H;(try go_wp2);replace dX:=zA (Kd.iV dX.out);replace HB:=zA (aZ HB.out);obtain ⟨afn,afo,alv⟩:=Kd.bB dX.out;(first | subst alv | (injection alv with f1_ f2_ f3_;have f4_:=f1_.symm;have f5_:=f3_.symm;clear f1_ f2_ f3_;subst f4_;subst f5_));have af9 : 0 ≤ ((EK) : Int):=oD;have aga : (EK) < (xM.length : Int):=oD;obtain ⟨axv,atX,K3⟩:=Kd.ic (Kd.aM dX.out).2.2 (EK) af9 aga;cases atX;replace af9:=eq_true af9;replace aga:=eq_true aga;have agb : 0 ≤ (nC : Int):=oD;have agc : nC < (l1.length : Int):=oD;obtain ⟨alx,atY,Gb⟩:=Kd.ic HR1.out nC agb agc;have abr:=Gb;cases atY;replace Gb:=hc HB Gb;replace agb:=eq_true agb;replace agc:=eq_true agc;have agd : 0 ≤ (EJ : Int):=oD;have age : EJ < (l2.length : Int):=oD;obtain ⟨aly,atZ,Gc⟩:=Kd.ic HR2.out EJ agd age;have abt:=Gc;cases atZ;replace Gc:=hc HB Gc;replace agd:=eq_true agd;replace age:=eq_true age;have p23 : 0 ≤ ((EK) : Int):=oD;have q23 : ((EK) : Int) < ((xM.length : Int) : Int):=oD;obtain ⟨at0,aaI,alz,alA,at1,azr,alB⟩:=Kd.yB dX.out (by omega);(first | cases alz | (injection alz with ea_ en_ ec_;(first | subst ea_ | (injection ea_ with ea_;subst ea_));subst ec_;clear en_));have at5:=zA alA;have:=geI at5;have at6:=zA alB;clear alA at1 alB;(first | simp only [add_plain] at K3 | skip);obtain ⟨agf,agh⟩:=Kd.uj 0 dX.out ((EK) : Int) p23 q23;replace p23:=eq_true p23;replace q23:=eq_true q23;have agi:=Kd.OH dX.out ((EK) : Int) (Int.tmod (wrap64 ((rd xM (EK)) + (wrap64 ((rd l1 nC) * (rd l2 EJ))))) a0);rw [← adj.out] at agi;have alC:=zA agi;clear agi;refine kF (n:=24) (S:=fun w'=>w'.cell? ⟨at0,((EK)).toNat,none⟩ = some (.int .i64 (rd xM (EK)))∧w'.cell? (alx.add (nC).toNat) = some (.int .i64 (rd l1 nC))∧w'.cell? (aly.add (EJ).toNat) = some (.int .i64 (rd l2 EJ))) (ds:=[23]) #[false,false,false,false,false,false,false,false,false,false,false,false,false,false,false,false,false,false,false,false,false,false,false,false] (by kernel_rfl) rfl rfl ⟨K3,(hcu HB abr),(hcu HB abt)⟩ (fun hHeld=>?_);refine gX bI.XE bI.PP (fun HT_ HW_=>?_);generalize wr.drew = w24 at dX HB at6 alC agh agf K3 Gb Gc hHeld ⊢;refine pu_ 0 38 (bl 24 1) HT_ ?_;refine pu_ 1 39 (bl 24 3) HT_ ?_;refine pu_ 2 40 (bl 24 7) HT_ ?_;refine pu_ 3 41 (bl 24 15) HT_ ?_;refine pu_ 4 42 (bl 24 31) HT_ ?_;refine pu_ 5 43 (bl 24 63) HT_ ?_;refine pu_ 6 44 (bl 24 127) HT_ ?_;refine pu_ 7 45 (bl 24 255) HT_ ?_;refine pu_ 8 46 (bl 24 511) HT_ ?_;refine pu_ 10 48 (bl 24 1535) HT_ ?_;refine pu_ 11 49 (bl 24 3583) HT_ ?_;refine pu_ 12 50 (bl 24 7679) HT_ ?_;refine pu_ 14 52 (bl 24 24063) HT_ ?_;refine pu_ 15 53 (bl 24 56831) HT_ ?_;refine pu_ 16 54 (bl 24 122367) HT_ ?_;refine pu_ 20 58 (bl 24 1170943) HT_ ?_;refine ta_ 9 47 (bl 24 1171455) HT_ HW_ hHeld ?_;refine ta_ 13 51 (bl 24 1179647) HT_ HW_ hHeld ?_;refine ta_ 17 55 (bl 24 1310719) HT_ HW_ hHeld ?_;refine pu_ 18 56 (bl 24 1572863) HT_ ?_;refine pu_ 19 57 (bl 24 2097151) HT_ ?_;refine pu_ 21 59 (bl 24 4194303) HT_ ?_;refine pu_ 22 60 (bl 24 8388607) HT_ ?_;refine Bt (i:=23) (N:=none) (bl 24 16777215) rfl rfl (wF HT_.out (by kernel_rfl)) (by decide) (fun K hK=>?_);refine uL (w1:=?_) (by rfl) rfl ?_ ?_;rotate_left
         ·go_simp;rfl
         refine hK.out _ _ ?_;clear hK K;refine done_ (done_of HT_.out (by kernel_rfl)) ?_;(try go_wp2);go_roundg k3;(case measure=>have:=HJ3.out;have:=HK2.out;have:=HK3.out;omega);(case rel=>exact ⟨(atW),(wrap64 (EJ + 1)),eS,H',⟨by have:=HJ3.out;have:=HK2.out;have:=HK3.out;omega⟩,⟨uR alC.out⟩,⟨uH HB.out⟩⟩)
        exact absurd H (by simp)
/-! ### jk: function 35 -/
def jk.l0 : Nat → List Int → Int → Int → Int → Int → List Int → Option (Int)
 | 0,_,_,_,_,_,_=>none
 | k + 1,x1,x2,x7,x8,K4,K5=>if x8 < (x1.length : Int) then (if 0 ≤ x8 then (if 0 ≤ (wrap64 (x8 + x2)) then (if (wrap64 (x8 + x2)) < (K5.length : Int) then (if K4 = 0 then (none) else (jk.l0 k x1 x2 (Int.tmod (wrap64 (x7 + (wrap64 ((rd x1 x8) * (rd K5 (wrap64 (x8 + x2))))))) K4) (wrap64 (x8 + 1)) K4 K5)) else (none)) else (none)) else (none)) else (some x7)
def jk.f (k : Nat) (aH : Int) (aD : List Int) (l1 : List Int) (a2 : Int) : Option (Int):=jk.l0 k l1 a2 0 0 aH aD
theorem jk.calls (k : Nat) (aH : Int) (bM : Option Addr) (bJ : Nat) (aD : List Int) (A1 : Option Addr) (c1 : Nat) (l1 : List Int) (a2 : Int) (r : Int) (w : World) (hr0_1 : Kd.C (Kd.int .i64) w bM aD.length aD) (jE : aD.length ≤ bJ) (hr1 : Kd.C (Kd.int .i64) w A1 l1.length l1) (hc1 : l1.length ≤ c1) (H : jk.f k aH aD l1 a2 = some r) :
  Calls Try.prog 35 #[.agg #[.int .i64 aH,.slice bM aD.length bJ],.slice A1 l1.length c1,.int .i64 a2] w fun e w'=>e = .returned (.int .i64 r)∧Below w.heap.size w w':=by
 have uD:=Try.underlying26;have fP:=zA hr0_1;have gG:=zA jE;clear hr0_1 jE;have HR1:=zA hr1;have HC1:=zA hc1;clear hr1 hc1;have HB:=zA (Below.refl w.heap.size w);unfold jk.f at H;have H':=zA H;clear H;go_enter Try.func35,Try.ntmps35;go_wp2_with (first | ((with_reducible refine aT (N:=3) rfl ?_);refine bx 3 #[.int .i64 aH,.slice bM aD.length bJ] 26 ?_;intro XK hg w4 hbox hb;have DC:=zA (hbox);have NA:=gq HB hg;have:=geI NA;have NB:=gq HB hg;replace HB:=xH HB hb;have:=geI NB;clear hb hbox hg));(repeat (go_quiet (first | ((with_reducible refine aT (N:=3) rfl ?_);refine bx 3 #[.int .i64 aH,.slice bM aD.length bJ] 26 ?_;intro XK hg w4 hbox hb;have DC:=zA (hbox);have NA:=gq HB hg;have:=geI NA;have NB:=gq HB hg;replace HB:=xH HB hb;have:=geI NB;clear hb hbox hg));try go_wp2_with (first | ((with_reducible refine aT (N:=3) rfl ?_);refine bx 3 #[.int .i64 aH,.slice bM aD.length bJ] 26 ?_;intro XK hg w4 hbox hb;have DC:=zA (hbox);have NA:=gq HB hg;have:=geI NA;have NB:=gq HB hg;replace HB:=xH HB hb;have:=geI NB;clear hb hbox hg))));go_loopg [7,8] k (fun kq v7 v8 w'=>∃ (kg : Int) (dM : Int),v7 = .int .i64 kg∧v8 = .int .i64 dM∧aa (jk.l0 kq l1 a2 kg dM aH aD = some r)∧aa (kq ≤ k)∧aa (w'.heap[XK]? = some (.cells #[.int .i64 aH,(.slice bM aD.length bJ)] 26 (0,0)))∧aa (Below w.heap.size w w'));(case atStart=>exact ⟨(0),(0),eS,eS,H',⟨Nat.le_refl _⟩,⟨uB DC.out⟩,⟨uH HB.out⟩⟩)
 case round =>
  clear H';(try clear c1);(try clear p2);(try clear c3);obtain ⟨kg,dM,rfl,rfl,HA,HK1,DC,HB⟩:=hrel
  cases gk with
  | zero=>exact absurd HA.out (by simp [jk.l0])
  | succ k1 =>
   have H:=HA.out;clear HA;simp only [jk.l0] at H;replace H:=gF H;obtain ⟨mq,H⟩|⟨mq,H⟩:=H
   ·obtain rfl:=Option.some.inj H;go_wp2;(repeat (go_quiet (fail);try go_wp2));go_ret;exact ⟨eX,uH HB.out⟩
   replace H:=gD H;obtain ⟨oP,H⟩:=H;obtain ⟨ji7,EL⟩ : ∃ j_ : Int,(wrap64 (dM + a2)) = j_:=⟨_,rfl⟩;(first | rw [EL] at H | simp only [EL] at H);have adk : (IntKind.i64.wrap (dM + a2)) = ji7:=(jW _).trans EL;replace H:=gD H;obtain ⟨yE,H⟩:=H;replace H:=gD H;obtain ⟨Da,H⟩:=H;replace H:=gI H;obtain ⟨c10,H⟩|⟨c10,H⟩:=H
   ·have qH : (aH == 0) = false:=beq_eq_false_iff_ne.mpr c10;have Dr : (aH != 0) = true:=bne_iff_ne.mpr c10;have H':=zA H;clear H;have agj : 0 ≤ (dM : Int):=oD;have agk : dM < (l1.length : Int):=oD;obtain ⟨axw,at7,R6⟩:=Kd.ic HR1.out dM agj agk;cases at7;replace R6:=hc HB R6;replace agj:=eq_true agj;replace agk:=eq_true agk;have zn:=bc DC 0;have Dl:=bc DC 1;have zo:=bf DC 0;have Dm:=bf DC 1;have agl : 0 ≤ ((ji7) : Int):=oD;have agm : (ji7) < (aD.length : Int):=oD;obtain ⟨axx,aua,R7⟩:=Kd.ic fP.out (ji7) agl agm;cases aua;replace R7:=hc HB R7;replace agl:=eq_true agl;replace agm:=eq_true agm;go_wp2;(repeat (go_quiet (fail);try go_wp2));go_roundg k1;(case measure=>have:=HK1.out;omega);(case rel=>exact ⟨(Int.tmod (wrap64 (kg + (wrap64 ((rd l1 dM) * (rd aD (ji7)))))) aH),(wrap64 (dM + 1)),(by first | rfl | (simp;done) | (simp only [← EL] <;> (first | rfl | simp)) | (simp [*];done)),eS,H',⟨by have:=HK1.out;omega⟩,⟨uB DC.out⟩,⟨uH HB.out⟩⟩)
   exact absurd H (by simp)
/-! ### jA: function 115 -/
def jA.l0 : Nat → List Int → List Int → Int → Option (List Int)
 | 0,_,_,_=>none
 | k + 1,x0,x3,x4=>if x4 ≥ 0 then (if 0 ≤ x4 then (if x4 < (x0.length : Int) then (if x3.length < 17592186044416 then (jA.l0 k x0 (x3 ++ [rd x0 x4]) (wrap64 (x4 - 1))) else (none)) else (none)) else (none)) else (some x3)
def jA.f (k : Nat) (l0 : List Int) : Option (List Int):=jA.l0 k l0 (([] : List Int)) (wrap64 ((l0.length : Int) - 1))
theorem jA.calls (k : Nat) (A0 : Option Addr) (c0 : Nat) (l0 : List Int) (r : List Int) (w : World) (hr0 : Kd.C (Kd.int .i64) w A0 l0.length l0) (hc0 : l0.length ≤ c0) (H : jA.f k l0 = some r) :
  Calls Try.prog 115 #[.slice A0 l0.length c0] w fun e w'=>∃ v0_ : Value,e = .returned (v0_)∧Kd.R (Kd.int .i64) 2 w' w.heap.size (fun _=>True) v0_ r∧Below w.heap.size w w':=by
 have HR0:=zA hr0;have HC0:=zA hc0;clear hr0 hc0;have HB:=zA (Below.refl w.heap.size w);unfold jA.f at H;obtain ⟨aub,XL⟩:=eY ([] : List Int);(try rw [←XL.out] at H);have H':=zA H;clear H;go_enter Try.func115,Try.ntmps115;go_wp2_with (first | ((with_reducible refine aT (N:=5) rfl ?_);refine Kd.mX (Kd.int .i64) _ 2 ?hg (N:=5) ?hd (xs:=([] : List Int)) (inner:=[]) (ok:=fun _=>True) (okp:=fun _=>True) ?hr ?hp (fun _ hk=>hk) trivial (Below.refl _ _) (Nat.le_refl _) (by simp) ?_;(case hd=>rfl);(case hg=>rfl);(case hr=>first | (go_simp;done) | (go_simp;rfl));(case hp=>exact (cB.none _ _));intro v198 w2 ho3 hb hg_ hnew_;clear hg_ hnew_;(first | rw [← XL.out] at ho3 | (simp only [Int.reduceToNat] at ho3;rw [← XL.out] at ho3));have alD:=zA (Kd.aX ho3 (af (uH HB.out)));replace HB:=xH HB hb;clear hb ho3));go_loopg [3,4] k (fun kq v3 v4 w'=>∃ (lv : List Int) (xN : Int),v4 = .int .i64 xN∧aa (jA.l0 kq l0 lv xN = some r)∧aa (kq ≤ k)∧aa (Kd.R (Kd.int .i64) 2 w' w.heap.size (fun _=>True) v3 lv)∧aa (Below w.heap.size w w'));(case atStart=>exact ⟨(aub),(wrap64 ((l0.length : Int) - 1)),eS,H',⟨Nat.le_refl _⟩,⟨uR alD.out⟩,⟨uH HB.out⟩⟩)
 case round =>
  clear H';(try clear c1);(try clear p2);obtain ⟨lv,xN,rfl,HA,HK1,agn,HB⟩:=hrel
  cases gk with
  | zero=>exact absurd HA.out (by simp [jA.l0])
  | succ k1 =>
   have H:=HA.out;clear HA;simp only [jA.l0] at H;replace H:=gI H;obtain ⟨c4,H⟩|⟨c4,H⟩:=H
   ·have pQ : decide (0 ≤ xN) = false:=decide_eq_false c4;clear c4;obtain rfl:=Option.some.inj H;go_wp2;go_ret;exact ⟨_,eX,uR agn.out,uH HB.out⟩
   have pQ : decide (0 ≤ xN) = true:=decide_eq_true c4;clear c4;replace H:=gD H;obtain ⟨mq,H⟩:=H;replace H:=gD H;obtain ⟨oP,H⟩:=H;replace H:=gZ H;obtain ⟨auc,H⟩:=H;obtain ⟨aud,adl⟩:=eY (lv ++ [rd l0 xN] : List Int);(try rw [←adl.out] at H);have H':=zA H;clear H;have agp : 0 ≤ (xN : Int):=oD;have agq : xN < (l0.length : Int):=oD;obtain ⟨axy,aue,R8⟩:=Kd.ic HR0.out xN agp agq;cases aue;replace R8:=hc HB R8;replace agp:=eq_true agp;replace agq:=eq_true agq;go_wp2_with (first | ((with_reducible refine fo (b:=.append) (xs:=#[.tmp 13,.tmp 18]) rfl ?_);at_builtin;refine Kd.kU (Kd.int .i64) (w0:=w) w.heap.size rfl (.tmp 13) (.tmp 18) 24 2 (.int .i64 0) 8 rfl Try.underlying24 lh rfl (by decide) (by omega) u3 lv (rd l0 xN) [.int .i64 (rd l0 xN)] (fun _=>True) (fun _=>False) rfl rfl ?aP (fun _ hk=>hk.elim) ?aF ?aO ?aB ?aS ?aL ?_;(case aP=>exact rfl);(case aB=>exact (uH HB.out));(case aF=>exact (fun _ _=>trivial));(case aO=>exact (uR agn.out));(case aS=>exact (af (uH HB.out)));(case aL=>have:=auc.out;omega);intro azs w8 ho hb hg hat;rw [← adl.out] at ho;replace HB:=zA (hb);have alE:=zA (ho);clear agn ho hb hg hat));go_roundg k1;(case measure=>have:=HK1.out;omega);(case rel=>exact ⟨(aud),(wrap64 (xN - 1)),eS,H',⟨by have:=HK1.out;omega⟩,⟨uR alE.out⟩,⟨uH HB.out⟩⟩)
/-! ### dW: function 71 -/
def dW.l0 : Nat → Int → List Int → Int → Option (Bool)
 | 0,_,_,_=>none
 | k + 1,x0,x1,x5=>if x5 < (x1.length : Int) then (if 0 ≤ x5 then ((mU.f (rd x1 x5) 0 (wrap64 (x0 - 1))).bind fun alF=>(if alF = true then (dW.l0 k x0 x1 (wrap64 (x5 + 1))) else (some false))) else (none)) else (some true)
def dW.f (k : Nat) (a0 : Int) (l1 : List Int) : Option (Bool):=dW.l0 k a0 l1 0
theorem dW.calls (k : Nat) (a0 : Int) (A1 : Option Addr) (c1 : Nat) (l1 : List Int) (r : Bool) (w : World) (hr1 : Kd.C (Kd.int .i64) w A1 l1.length l1) (hc1 : l1.length ≤ c1) (H : dW.f k a0 l1 = some r) :
  Calls Try.prog 71 #[.int .i64 a0,.slice A1 l1.length c1] w fun e w'=>e = .returned (.bool r)∧bA w w':=by
 have HR1:=zA hr1;have HC1:=zA hc1;clear hr1 hc1;unfold dW.f at H;have H':=zA H;clear H;go_enter Try.func71,Try.ntmps71;go_wp2;go_loopg [5] k (fun kq v5 w'=>∃ (gV : Int),v5 = .int .i64 gV∧aa (dW.l0 kq a0 l1 gV = some r)∧aa (kq ≤ k)∧bA w w');(case atStart=>exact ⟨(0),eS,H',⟨Nat.le_refl _⟩,by repeat (first | exact bA.refl _ | apply bA.step)⟩)
 case round =>
  clear H';(try clear c1);(try clear p2);obtain ⟨gV,rfl,HA,HK1,⟨m1,rfl⟩⟩:=hrel
  cases gk with
  | zero=>exact absurd HA.out (by simp [dW.l0])
  | succ k1 =>
   have H:=HA.out;clear HA;simp only [dW.l0] at H;replace H:=gF H;obtain ⟨rH,H⟩|⟨rH,H⟩:=H
   ·obtain rfl:=Option.some.inj H;go_wp2;go_ret;exact ⟨by first | rfl | (simp;done) | (simp [*];done),by repeat (first | exact bA.refl _ | apply bA.step)⟩
   replace H:=gD H;obtain ⟨pQ,H⟩:=H;replace H:=bO H;obtain ⟨alF,A5,H⟩:=H;replace H:=gB H;obtain ⟨rfl,H⟩|⟨rfl,H⟩:=H
   ·have H':=zA H;clear H;have PR : 0 ≤ (gV : Int):=oD;have PS : gV < (l1.length : Int):=oD;obtain ⟨alG,agr,abu⟩:=Kd.ic HR1.out gV PR PS;cases agr;replace PR:=eq_true PR;replace PS:=eq_true PS;go_wp2_with (first | ((with_reducible refine ag (f:=53) rfl ?_);refine gL (some 18) Try.func53 #[.int .i64 (rd l1 gV),.int .i64 0,.int .i64 (wrap64 (a0 - 1))] ?_;(with_reducible refine (mU.calls (rd l1 gV) 0 (wrap64 (a0 - 1)) true _ A5.out).mono ?_);rintro e w' ⟨rfl,⟨nd,rfl⟩⟩;refine ⟨_,rfl,?_⟩));go_roundg k1;(case measure=>have:=HK1.out;omega);(case rel=>exact ⟨(wrap64 (gV + 1)),eS,H',⟨by have:=HK1.out;omega⟩,by repeat (first | exact bA.refl _ | apply bA.step)⟩)
   ·obtain rfl:=Option.some.inj H;have PR : 0 ≤ (gV : Int):=oD;have PS : gV < (l1.length : Int):=oD;obtain ⟨alG,agr,abu⟩:=Kd.ic HR1.out gV PR PS;cases agr;replace PR:=eq_true PR;replace PS:=eq_true PS;go_wp2_with (first | ((with_reducible refine ag (f:=53) rfl ?_);refine gL (some 18) Try.func53 #[.int .i64 (rd l1 gV),.int .i64 0,.int .i64 (wrap64 (a0 - 1))] ?_;(with_reducible refine (mU.calls (rd l1 gV) 0 (wrap64 (a0 - 1)) false _ A5.out).mono ?_);rintro e w' ⟨rfl,⟨nd,rfl⟩⟩;refine ⟨_,rfl,?_⟩));go_ret;exact ⟨by first | rfl | (simp;done) | (simp [*];done),by repeat (first | exact bA.refl _ | apply bA.step)⟩
/-! ### kI: function 42 -/
def kI.f (k : Nat) (aH : Int) (aD : List Int) : Option (Bool):=(fU.f k aH).bind fun alH=>(if alH = true then (if (aD.length : Int) ≥ 1 then (if (aD.length : Int) ≤ 24 then ((dW.f k aH aD).bind fun ags=>(some ags)) else (some false)) else (some false)) else (some false))
theorem kI.calls (k : Nat) (aH : Int) (bM : Option Addr) (bJ : Nat) (aD : List Int) (r : Bool) (w : World) (hr0_1 : Kd.C (Kd.int .i64) w bM aD.length aD) (jE : aD.length ≤ bJ) (H : kI.f k aH aD = some r) :
  Calls Try.prog 42 #[.agg #[.int .i64 aH,.slice bM aD.length bJ]] w fun e w'=>e = .returned (.bool r)∧Below w.heap.size w w':=by
 have uD:=Try.underlying26;have fP:=zA hr0_1;have gG:=zA jE;clear hr0_1 jE;have HB:=zA (Below.refl w.heap.size w);unfold kI.f at H;replace H:=bO H;obtain ⟨alH,A2,H⟩:=H;replace H:=gB H;obtain ⟨rfl,H⟩|⟨rfl,H⟩:=H
 ·replace H:=gI H;obtain ⟨c4,H⟩|⟨c4,H⟩:=H
  ·have pQ : decide (1 ≤ (aD.length : Int)) = false:=decide_eq_false c4;have MN : decide (1 ≤ aD.length) = false:=decide_eq_false (by omega);clear c4;obtain rfl:=Option.some.inj H;go_enter Try.func42,Try.ntmps42;go_wp2_with (first | ((with_reducible refine aT (N:=1) rfl ?_);(try (refine lq (by rfl) ?_;dsimp only));refine bx 1 #[.int .i64 aH,.slice bM aD.length bJ] 26 ?_;intro XM hg w11 hbox hb;have uy:=zA (hbox);have Ih:=gq HB hg;have:=geI Ih;have Ii:=gq HB hg;replace HB:=xH HB hb;have:=geI Ii;clear hb hbox hg;have qO:=bc uy 0;have sD:=bc uy 1;have qP:=bf uy 0;have sF:=bf uy 1) | ((with_reducible refine ag (f:=75) rfl ?_);refine gL (some 5) Try.func75 #[.int .i64 aH] ?_;(with_reducible refine (fU.calls k aH true _ A2.out).mono ?_);rintro e w' ⟨rfl,⟨nd,rfl⟩⟩;refine ⟨_,rfl,?_⟩));go_ret;exact ⟨eX,uH HB.out⟩
  have pQ : decide (1 ≤ (aD.length : Int)) = true:=decide_eq_true c4;have MN : decide (1 ≤ aD.length) = true:=decide_eq_true (by omega);clear c4;replace H:=gI H;obtain ⟨c5,H⟩|⟨c5,H⟩:=H
  ·have mq : decide ((aD.length : Int) ≤ 24) = false:=decide_eq_false c5;have uP : decide (aD.length ≤ 24) = false:=decide_eq_false (by omega);clear c5;obtain rfl:=Option.some.inj H;go_enter Try.func42,Try.ntmps42;go_wp2_with (first | ((with_reducible refine aT (N:=1) rfl ?_);(try (refine lq (by rfl) ?_;dsimp only));refine bx 1 #[.int .i64 aH,.slice bM aD.length bJ] 26 ?_;intro XM hg w9 hbox hb;have uy:=zA (hbox);have Ih:=gq HB hg;have:=geI Ih;have Ii:=gq HB hg;replace HB:=xH HB hb;have:=geI Ii;clear hb hbox hg;have tV:=bc uy 0;have tX:=bc uy 1;have tY:=bf uy 0;have tZ:=bf uy 1) | ((with_reducible refine ag (f:=75) rfl ?_);refine gL (some 5) Try.func75 #[.int .i64 aH] ?_;(with_reducible refine (fU.calls k aH true _ A2.out).mono ?_);rintro e w' ⟨rfl,⟨nd,rfl⟩⟩;refine ⟨_,rfl,?_⟩));go_ret;exact ⟨eX,uH HB.out⟩
  have mq : decide ((aD.length : Int) ≤ 24) = true:=decide_eq_true c5;have uP : decide (aD.length ≤ 24) = true:=decide_eq_true (by omega);clear c5;replace H:=bO H;obtain ⟨ags,A6,H⟩:=H;obtain rfl:=Option.some.inj H;go_enter Try.func42,Try.ntmps42;go_wp2_with (first | ((with_reducible refine aT (N:=1) rfl ?_);(try (refine lq (by rfl) ?_;dsimp only));refine bx 1 #[.int .i64 aH,.slice bM aD.length bJ] 26 ?_;intro XM hg w7 hbox hb;have uy:=zA (hbox);have Ih:=gq HB hg;have:=geI Ih;have Ii:=gq HB hg;replace HB:=xH HB hb;have:=geI Ii;clear hb hbox hg;have BX:=bc uy 0;have BZ:=bc uy 1;have Ca:=bf uy 0;have Cb:=bf uy 1) | ((with_reducible refine ag (f:=75) rfl ?_);refine gL (some 5) Try.func75 #[.int .i64 aH] ?_;(with_reducible refine (fU.calls k aH true _ A2.out).mono ?_);rintro e w' ⟨rfl,⟨nd,rfl⟩⟩;refine ⟨_,rfl,?_⟩) | (go_at_call 71;(with_reducible refine (dW.calls k aH _ _ aD ags _ ?side1 ?side2 A6.out).mono ?_);(case side1=>repeat (first | exact (Kd.aW fP.out (uH HB.out)) | (with_reducible refine Kd.dU ?_ _) | (with_reducible refine Kd.dV ?_ _) | (with_reducible refine Kd.fK ?_)));(case side2=>exact gG.out);rintro e w' ⟨rfl,⟨nd,rfl⟩⟩));go_ret;exact ⟨eX,uH HB.out⟩
 ·obtain rfl:=Option.some.inj H;go_enter Try.func42,Try.ntmps42;go_wp2_with (first | ((with_reducible refine aT (N:=1) rfl ?_);(try (refine lq (by rfl) ?_;dsimp only));refine bx 1 #[.int .i64 aH,.slice bM aD.length bJ] 26 ?_;intro XM hg w13 hbox hb;have uy:=zA (hbox);have Ih:=gq HB hg;have:=geI Ih;have Ii:=gq HB hg;replace HB:=xH HB hb;have:=geI Ii;clear hb hbox hg;have Rv:=bc uy 0;have Rw:=bc uy 1;have Rx:=bf uy 0;have Ry:=bf uy 1) | ((with_reducible refine ag (f:=75) rfl ?_);refine gL (some 5) Try.func75 #[.int .i64 aH] ?_;(with_reducible refine (fU.calls k aH false _ A2.out).mono ?_);rintro e w' ⟨rfl,⟨nd,rfl⟩⟩;refine ⟨_,rfl,?_⟩));go_ret;exact ⟨eX,uH HB.out⟩
/-! ### eU: function 107 -/
mutual
def eU.l0 : Nat → Int → List Int → Int → List Int → Int → Int → List Int → Option (Int × List Int)
 | 0,_,_,_,_,_,_,_=>none
 | k + 1,x0,x1,x3,x10,x11,DD,Bg=>if x11 < x3 then (eU.l1 k x0 x1 x3 x10 x11 0 0 DD Bg) else (some (DD,Bg))
def eU.l1 : Nat → Int → List Int → Int → List Int → Int → Int → Int → Int → List Int → Option (Int × List Int)
 | 0,_,_,_,_,_,_,_,_,_=>none
 | k + 1,x0,x1,x3,x10,x11,x12,x13,DD,Bg=>if x13 < (x1.length : Int) then (if 0 ≤ x13 then (if x13 < (x10.length : Int) then (if x0 = 0 then (none) else (eU.l1 k x0 x1 x3 (x10.set (x13 : Int).toNat (Int.tmod (wrap64 ((rd x10 x13) * (rd x1 x13))) x0)) x11 (Int.tmod (wrap64 (x12 + (rd x10 x13))) x0) (wrap64 (x13 + 1)) DD Bg)) else (none)) else (none)) else (if Bg.length < 17592186044416 then (eU.l0 k x0 x1 x3 x10 (wrap64 (x11 + 1)) DD (Bg ++ [x12])) else (none))
end
def eU.f (k : Nat) (a0 : Int) (l1 : List Int) (l2 : List Int) (a3 : Int) : Option (Int × List Int):=(jX.f l2).bind fun t167=>(eU.l0 k a0 l1 a3 t167 0 a0 (([] : List Int)))
def eU.T10 : Bool × List (List Nat × List Nat):=(true,[([],[]),([],[]),([],[]),([],[]),([2,3],[2,3]),([4],[4]),([],[]),([],[]),([6,7],[6,7]),([8],[8]),([5,9],[5,9]),([],[]),([10,11],[10,11]),([0,1,0,1,2,3,4,5,6,7,8,9,10,11,12],[0,1]),([13,12,0,1,2,3,4,5,6,7,8,9,10,11,12],[12,13])])
def eU.B10 : List Nat:=[0,0,0,0,12,28,0,0,192,448,1020,0,4092,8191,16383]
theorem eU.XE : mf .any (opsOf Try.f107 10) = eU.T10:=by kernel_rfl
theorem eU.PP : jP eU.T10.2 eU.B10 = true:=by kernel_rfl
theorem eU.calls (k : Nat) (a0 : Int) (A1 : Option Addr) (c1 : Nat) (l1 : List Int) (A2 : Option Addr) (c2 : Nat) (l2 : List Int) (a3 : Int) (r1 : Int) (r2 : List Int) (w : World) (hr1 : Kd.C (Kd.int .i64) w A1 l1.length l1) (hc1 : l1.length ≤ c1) (hr2 : Kd.C (Kd.int .i64) w A2 l2.length l2) (hc2 : l2.length ≤ c2) (H : eU.f k a0 l1 l2 a3 = some (r1,r2)) :
  Calls Try.prog 107 #[.int .i64 a0,.slice A1 l1.length c1,.slice A2 l2.length c2,.int .i64 a3] w fun e w'=>∃ v1_ : Value,e = .returned (.agg #[.int .i64 r1,v1_])∧Kd.R (Kd.int .i64) 2 w' w.heap.size (fun _=>True) v1_ r2∧Below w.heap.size w w':=by
 have uD:=Try.underlying26;have HR1:=zA hr1;have HC1:=zA hc1;clear hr1 hc1;have HR2:=zA hr2;have HC2:=zA hc2;clear hr2 hc2;have HB:=zA (Below.refl w.heap.size w);unfold eU.f at H;obtain ⟨abv,XN⟩:=eY ([] : List Int);(try rw [←XN.out] at H);replace H:=bO H;obtain ⟨t167,A5,H⟩:=H;have H':=zA H;clear H;go_enter Try.func107,Try.ntmps107;go_wp2_with (first | ((with_reducible refine aT (N:=8) rfl ?_);refine bx 8 #[.int .i64 0,.slice none 0 0] 26 ?_;intro Fp hg w6 hbox hb;have oZ:=zA (hbox);have alI:=gq HB hg;have:=geI alI;have alJ:=gq HB hg;replace HB:=xH HB hb;have:=geI alJ;clear hb hbox hg) | ((with_reducible refine aT (N:=15) rfl ?_);refine Kd.mX (Kd.int .i64) _ 2 ?hg (N:=15) ?hd (xs:=([] : List Int)) (inner:=[]) (ok:=fun _=>True) (okp:=fun _=>True) ?hr ?hp (fun _ hk=>hk) trivial (Below.refl _ _) (Nat.le_refl _) (by simp) ?_;(case hd=>rfl);(case hg=>rfl);(case hr=>first | (go_simp;done) | (go_simp;rfl));(case hp=>exact (cB.none _ _));intro azt w7 ho8 hb hg_ hnew_;clear hg_ hnew_;(first | rw [← XN.out] at ho8 | (simp only [Int.reduceToNat] at ho8;rw [← XN.out] at ho8));have Ij:=zA (Kd.aX ho8 (af (uH HB.out)));replace oZ:=xB oZ hb;replace HB:=xH HB hb;clear hb ho8;obtain ⟨Ao9,co9,eo9⟩:=Kd.bB Ij.out;subst eo9) | ((with_reducible refine ag (f:=50) rfl ?_);refine gL (some 18) Try.func50 #[.slice A2 l2.length c2] ?_;(with_reducible refine (jX.calls _ _ l2 t167 _ ?side1 ?side2 A5.out).mono ?_);(case side1=>exact uC ((Kd.aW HR2.out HB.out)));(case side2=>exact HC2.out);rintro e w10 ⟨v168,rfl,ho0,hb⟩;refine ⟨_,rfl,?_⟩;have XO:=zA (Kd.aX (nw ho0 (uR Ij.out)) (af (uH HB.out)));replace Ij:=zA (Kd.aJ (uR Ij.out) (Kd.aG ho0) hb);replace oZ:=xB oZ hb;replace HB:=xH HB hb;(try clear hb);(try clear hk);(try clear ho0)) | ((with_reducible refine aT (N:=9) rfl ?_);refine bx 9 #[.int .i64 0,.slice none 0 0] 26 ?_;intro Ar hg w11 hbox hb;replace Ij:=xR Ij hb;replace XO:=xR XO hb;have ni:=zA (hbox);have alK:=gq HB hg;have:=geI alK;have alL:=gq HB hg;replace HB:=xH HB hb;have xe:=zA ((by rw [hg];exact neL oZ : Fp ≠ Ar));have EM:=zA ((by rw [hg];exact neG oZ : Ar ≠ Fp));replace oZ:=xB oZ hb;have:=geI alL;clear hb hbox hg;have Vh:=EM.out;have Vi:=xe.out;have qR:=bc ni 0;have qU:=bc ni 1;have qV:=bf ni 0;have qW:=bf ni 1));go_loopg [11] k (fun kq v11 w'=>∃ (gp : List Int) (NC : Int) (qY : List Int) (vN : Value),v11 = .int .i64 NC∧aa (eU.l0 kq a0 l1 a3 gp NC a0 qY = some (r1,r2))∧aa (kq ≤ k)∧aa (Kd.R (Kd.int .i64) 2 w' w.heap.size (fun k_=>ax k_ vN) v168 gp)∧aa (Kd.R (Kd.int .i64) 2 w' w.heap.size (fun k_=>ax k_ v168) vN qY)∧aa (w'.heap[Fp]? = some (.cells #[.int .i64 0,(.slice none 0 0)] 26 (0,0)))∧aa (w'.heap[Ar]? = some (.cells #[.int .i64 a0,vN] 26 (0,0)))∧aa (Below w.heap.size w w'));(case atStart=>exact ⟨(t167),(0),(abv),(.slice Ao9 abv.length co9),eS,H',⟨Nat.le_refl _⟩,⟨uR (Kd.ah (Kd.bW (p:=⟨Ar,1,none⟩) (Kd.bW (p:=⟨Ar,0,none⟩) (Kd.dE XO.out ni.out (by decide)) (fun _ hk=>hk.2) (.int .i64 a0)) (fun _ hk=>hk.2) (.slice Ao9 abv.length co9)) (fun _ hk=>hk.1.2))⟩,⟨uR (Kd.ah (Kd.bW (p:=⟨Ar,1,none⟩) (Kd.bW (p:=⟨Ar,0,none⟩) (Kd.dE Ij.out ni.out (by decide)) (fun _ hk=>hk.2) (.int .i64 a0)) (fun _ hk=>hk.2) (.slice Ao9 abv.length co9)) (fun _ hk=>hk.1.2))⟩,⟨by (repeat refine up1 ?_);refine dG ?_ xe.out _;(repeat refine up1 ?_);refine dG ?_ xe.out _;(repeat refine up1 ?_);exact oZ.out⟩,⟨by (repeat refine up1 ?_);refine bV (cs:=#[.int .i64 a0,.slice none 0 0]) ?_ 1 _ rfl;(repeat refine up1 ?_);refine bV (cs:=#[.int .i64 0,.slice none 0 0]) ?_ 0 _ rfl;(repeat refine up1 ?_);exact ni.out⟩,⟨uH HB.out⟩⟩)
 case round =>
  clear H';(try clear c1);(try clear c2);(try clear p2);(try clear c5);(try clear c10);(try clear c12);(try clear qR);(try clear qU);(try clear qV);(try clear qW);obtain ⟨gp,NC,qY,vN,rfl,HA,HK1,oO,om,oZ,ni,HB⟩:=hrel
  cases gk with
  | zero=>exact absurd HA.out (by simp [eU.l0])
  | succ k1 =>
   have H:=HA.out;clear HA;simp only [eU.l0] at H;replace H:=gF H;obtain ⟨xE,H⟩|⟨xE,H⟩:=H
   ·simp only [Option.some.injEq,Prod.mk.injEq] at H;obtain ⟨rfl,rfl⟩:=H;have ajw:=EM.out;have ajx:=xe.out;have FX:=bc ni 0;have FY:=bc ni 1;have FZ:=bf ni 0;have F3:=bf ni 1;have F8:=bc oZ 0;have KS:=bc oZ 1;have F9:=bf oZ 0;have KT:=bf oZ 1;obtain ⟨xG,xI,rfl⟩:=Kd.bB om.out;go_wp2;refine bodyPost_ret (results_cell_row rfl _ _ Fp 26 #[.int .i64 a0,.slice xG qY.length xI] (0,0) _ rfl (by (repeat refine up1 ?_);refine bV (cs:=#[.int .i64 a0,.slice none 0 0]) ?_ 1 _ rfl;(repeat refine up1 ?_);refine bV (cs:=#[.int .i64 0,.slice none 0 0]) ?_ 0 _ rfl;(repeat refine up1 ?_);exact oZ.out) Try.underlying26 rfl (by kernel_rfl)) rfl ?_;exact ⟨_,eX,uR (Kd.ah (Kd.bW (p:=⟨Fp,1,none⟩) (Kd.bW (p:=⟨Fp,0,none⟩) (Kd.dE om.out oZ.out (by decide)) (fun _ hk=>hk.2) (.int .i64 a0)) (fun _ hk=>hk.2) (.slice xG qY.length xI)) (fun _ hk=>trivial)),uH HB.out⟩
   have H':=zA H;clear H;go_wp2;go_loopg [12,13] k1 (fun kq v12 v13 w'=>∃ (vZ : List Int) (Ik : Int) (nV : Int),v12 = .int .i64 Ik∧v13 = .int .i64 nV∧aa (eU.l1 kq a0 l1 a3 vZ NC Ik nV a0 qY = some (r1,r2))∧aa (kq ≤ k1)∧aa (Kd.R (Kd.int .i64) 2 w' w.heap.size (fun k_=>ax k_ vN) v168 vZ)∧aa (Kd.R (Kd.int .i64) 2 w' w.heap.size (fun k_=>ax k_ v168) vN qY)∧aa (w'.heap[Fp]? = some (.cells #[.int .i64 0,(.slice none 0 0)] 26 (0,0)))∧aa (w'.heap[Ar]? = some (.cells #[.int .i64 a0,vN] 26 (0,0)))∧aa (Below w.heap.size w w'));(case atStart=>exact ⟨(gp),(0),(0),eS,eS,H',⟨Nat.le_refl _⟩,⟨uR oO.out⟩,⟨uR om.out⟩,⟨uB oZ.out⟩,⟨uB ni.out⟩,⟨uH HB.out⟩⟩)
   case round =>
    clear H';(try clear c1);(try clear c2);(try clear p2);(try clear c5);(try clear c10);(try clear c12);(try clear c14);(try clear xE);(try clear qR);(try clear qU);(try clear qV);(try clear qW);(try clear p2);obtain ⟨vZ,Ik,nV,rfl,rfl,HA,HK2,oO,om,oZ,ni,HB⟩:=hrel
    cases gk with
    | zero=>exact absurd HA.out (by simp [eU.l1])
    | succ k2 =>
     have H:=HA.out;clear HA;simp only [eU.l1] at H;replace H:=gF H;obtain ⟨yl,H⟩|⟨yl,H⟩:=H
     ·replace H:=gZ H;obtain ⟨alM,H⟩:=H;obtain ⟨abw,adm⟩:=eY (qY ++ [Ik] : List Int);(try rw [←adm.out] at H);have H':=zA H;clear H;have Vk:=EM.out;have Vl:=xe.out;have FT:=bc ni 0;have FU:=bc ni 1;have FV:=bf ni 0;have FW:=bf ni 1;go_wp2_with (first | ((with_reducible refine fo (b:=.append) (xs:=#[.tmp 53,.tmp 55]) rfl ?_);at_builtin;refine Kd.kU (Kd.int .i64) (w0:=w) w.heap.size rfl (.tmp 53) (.tmp 55) 24 2 (.int .i64 0) 8 rfl Try.underlying24 lh rfl (by decide) (by omega) vN qY Ik [.int .i64 Ik] (fun k_=>ax k_ v168) (fun _=>False) rfl rfl ?aP (fun _ hk=>hk.elim) ?aF ?aO ?aB ?aS ?aL ?_;(case aP=>exact rfl);(case aB=>exact (uH HB.out));(case aF=>exact (fun k_ hk=>Kd.fresh' (Kd.ku (uR oO.out)) k_ hk));(case aO=>exact (uR om.out));(case aS=>exact (af (uH HB.out)));(case aL=>have:=alM.out;omega);intro azu w26 ho hb hg hat;rw [← adm.out] at ho;replace oO:=zA (Kd.fM (ok:=(fun _=>True)) (uR (Kd.ah oO.out (fun _ hk=>⟨trivial,hk⟩))) hg hat);replace oZ:=zA (iH (g:=Fp) (o:=.cells #[.int .i64 0,.slice none 0 0] 26 (0,0)) (uB oZ.out) hg (Kd.rC om.out oZ.out (by decide)));replace ni:=zA (iH (g:=Ar) (o:=.cells #[.int .i64 a0,vN] 26 (0,0)) (uB ni.out) hg (Kd.rC om.out ni.out (by decide)));replace HB:=zA (hb);have adn:=zA (ho);clear om ho hb hg hat;obtain ⟨KE,KF,auf⟩:=Kd.bB adn.out;subst auf;have aqV:=bc ni 0;have aqW:=bc ni 1;have aqX:=bf ni 0;have aqY:=bf ni 1));go_roundg k2;(case measure=>have:=HK1.out;have:=HK2.out;omega);(case rel=>exact ⟨(vZ),(wrap64 (NC + 1)),(abw),(.slice KE abw.length KF),eS,H',⟨by have:=HK1.out;have:=HK2.out;omega⟩,⟨uR (Kd.ah (Kd.bW (p:=⟨Ar,1,none⟩) (Kd.dE oO.out ni.out (by decide)) (fun _ hk=>hk.2) (.slice KE abw.length KF)) (fun _ hk=>hk.1.2))⟩,⟨uR (Kd.ah (Kd.bW (p:=⟨Ar,1,none⟩) (Kd.dE adn.out ni.out (by decide)) (fun _ hk=>hk.2) (.slice KE abw.length KF)) (fun _ hk=>hk.1))⟩,⟨by (repeat refine up1 ?_);refine dG ?_ xe.out _;(repeat refine up1 ?_);exact oZ.out⟩,⟨by (repeat refine up1 ?_);refine bV (cs:=#[.int .i64 a0,vN]) ?_ 1 _ rfl;(repeat refine up1 ?_);exact ni.out⟩,⟨uH HB.out⟩⟩)
     replace H:=gD H;obtain ⟨Bw,H⟩:=H;replace H:=gD H;obtain ⟨XJ,H⟩:=H;replace H:=gI H;obtain ⟨c18,H⟩|⟨c18,H⟩:=H
     ·have yK : (a0 == 0) = false:=beq_eq_false_iff_ne.mpr c18;have Jy : (a0 != 0) = true:=bne_iff_ne.mpr c18;obtain ⟨aug,ado⟩:=eY (vZ.set (nV : Int).toNat (Int.tmod (wrap64 ((rd vZ nV) * (rd l1 nV))) a0) : List Int);(try rw [←ado.out] at H);have H':=zA H;clear H;obtain ⟨asF,aju,rfl⟩:=Kd.bB oO.out;have agt : 0 ≤ (nV : Int):=oD;have agu : nV < (vZ.length : Int):=oD;obtain ⟨alN,auh,R9⟩:=Kd.ic (Kd.aM oO.out).2.2 nV agt agu;cases auh;replace agt:=eq_true agt;replace agu:=eq_true agu;(try go_wp2);replace oO:=zA (Kd.iV oO.out);replace om:=zA (Kd.iV om.out);replace oZ:=zA (eD oZ.out);replace ni:=zA (eD ni.out);replace HB:=zA (aZ HB.out);have agv : 0 ≤ (nV : Int):=oD;have agw : nV < (vZ.length : Int):=oD;obtain ⟨alO,aui,K6⟩:=Kd.ic (Kd.aM oO.out).2.2 nV agv agw;obtain rfl : alN = alO:=(by injection aui);replace agv:=eq_true agv;replace agw:=eq_true agw;have agx : 0 ≤ (nV : Int):=oD;have agy : nV < (l1.length : Int):=oD;obtain ⟨alP,auj,Gd⟩:=Kd.ic HR1.out nV agx agy;have abx:=Gd;cases auj;replace Gd:=hc HB Gd;replace agx:=eq_true agx;replace agy:=eq_true agy;have p19 : 0 ≤ (nV : Int):=oD;have q19 : (nV : Int) < ((vZ.length : Int) : Int):=oD;obtain ⟨agz,akY,aa9,alQ,auk,azv,alR⟩:=Kd.yB oO.out (by omega);(first | cases aa9 | (injection aa9 with ea_ en_ ec_;(first | subst ea_ | (injection ea_ with ea_;subst ea_));subst ec_;clear en_));have aul:=zA alQ;have:=geI aul;have aum:=zA alR;clear alQ auk alR;(first | simp only [add_plain] at R9 | skip);(first | simp only [add_plain] at K6 | skip);obtain ⟨agA,agB⟩:=Kd.uj 0 oO.out (nV : Int) p19 q19;replace p19:=eq_true p19;replace q19:=eq_true q19;have agC:=Kd.OH oO.out (nV : Int) (Int.tmod (wrap64 ((rd vZ nV) * (rd l1 nV))) a0);rw [← ado.out] at agC;have alS:=zA agC;clear agC;refine kF (n:=15) (S:=fun w'=>w'.cell? ⟨agz,(nV).toNat,none⟩ = some (.int .i64 (rd vZ nV))∧w'.cell? (alP.add (nV).toNat) = some (.int .i64 (rd l1 nV))) (ds:=[14]) #[false,false,false,false,false,false,false,false,false,false,false,false,false,false,false] (by kernel_rfl) rfl rfl ⟨K6,(hcu HB abx)⟩ (fun hHeld=>?_);refine gX eU.XE eU.PP (fun HT_ HW_=>?_);generalize wr.drew = w21 at oO om oZ ni HB aum alS agB R9 K6 Gd agA hHeld ⊢;refine pu_ 0 38 (bl 15 1) HT_ ?_;refine pu_ 1 39 (bl 15 3) HT_ ?_;refine pu_ 2 40 (bl 15 7) HT_ ?_;refine pu_ 3 41 (bl 15 15) HT_ ?_;refine pu_ 4 42 (bl 15 31) HT_ ?_;refine pu_ 6 44 (bl 15 95) HT_ ?_;refine pu_ 7 45 (bl 15 223) HT_ ?_;refine pu_ 8 46 (bl 15 479) HT_ ?_;refine pu_ 11 49 (bl 15 2527) HT_ ?_;refine ta_ 5 43 (bl 15 2559) HT_ HW_ hHeld ?_;refine ta_ 9 47 (bl 15 3071) HT_ HW_ hHeld ?_;refine pu_ 10 48 (bl 15 4095) HT_ ?_;refine pu_ 12 50 (bl 15 8191) HT_ ?_;refine pu_ 13 51 (bl 15 16383) HT_ ?_;refine Bt (i:=14) (N:=none) (bl 15 32767) rfl rfl (wF HT_.out (by kernel_rfl)) (by decide) (fun K hK=>?_);refine uL (w1:=?_) (by rfl) rfl ?_ ?_;rotate_left
      ·go_simp;rfl
      refine hK.out _ _ ?_;clear hK K;refine done_ (done_of HT_.out (by kernel_rfl)) ?_;(try go_wp2);go_roundg k2;(case measure=>have:=HK1.out;have:=HK2.out;omega);(case rel=>exact ⟨(aug),(Int.tmod (wrap64 (Ik + (rd vZ nV))) a0),(wrap64 (nV + 1)),eS,eS,H',⟨by have:=HK1.out;have:=HK2.out;omega⟩,⟨uR alS.out⟩,⟨uR (Kd.ah (Kd.bW (p:=⟨agz,(nV : Int).toNat,none⟩) (Kd.ah om.out (fun k_ hk=>(⟨hk,fun e_=>hk (by rw [e_];rfl)⟩ : _∧k_ ≠ agz))) (fun _ hk=>hk.2) (.int .i64 (Int.tmod (wrap64 ((rd vZ nV) * (rd l1 nV))) a0))) (fun _ hk=>hk.1))⟩,⟨by (repeat refine up1 ?_);refine dG ?_ (by have h_:=Kd.rC oO.out oZ.out (by decide);intro e_;exact h_ (by rw [e_];rfl)) _;(repeat refine up1 ?_);exact oZ.out⟩,⟨by (repeat refine up1 ?_);refine dG ?_ (by have h_:=Kd.rC oO.out ni.out (by decide);intro e_;exact h_ (by rw [e_];rfl)) _;(repeat refine up1 ?_);exact ni.out⟩,⟨uH HB.out⟩⟩)
     exact absurd H (by simp)
/-! ### dY: function 116 -/
def dY.l0 : Nat → Int → List Int → List Int → Int → Option (List Int)
 | 0,_,_,_,_=>none
 | k + 1,x0,x1,x5,x6=>if x6 < (x1.length : Int) then (if 0 ≤ (wrap64 (x6 - 1)) then (if (wrap64 (x6 - 1)) < (x1.length : Int) then (if 0 ≤ x6 then (if x0 = 0 then (none) else (if x5.length < 17592186044416 then (dY.l0 k x0 x1 (x5 ++ [Int.tmod (wrap64 ((rd x1 (wrap64 (x6 - 1))) + (rd x1 x6))) x0]) (wrap64 (x6 + 1))) else (none))) else (none)) else (none)) else (none)) else (if x0 = 0 then (none) else (if x5.length < 17592186044416 then (some (x5 ++ [(1 : Int) % x0])) else (none)))
def dY.f (k : Nat) (a0 : Int) (l1 : List Int) : Option (List Int):=if a0 = 0 then (none) else (dY.l0 k a0 l1 (([(1 : Int) % a0] : List Int)) 1)
def dY.T5 : Bool × List (List Nat × List Nat):=(true,[([],[]),([],[]),([],[]),([2],[2]),([1,3],[1,3]),([4],[4]),([],[]),([],[]),([6,7],[6,7]),([8],[8]),([5,9],[5,9]),([],[]),([10,11],[10,11]),([12],[12]),([0,13],[0,13]),([14,14,0,1,2,3,4,5,6,7,8,9,10,11,12,13,14],[0,14])])
def dY.B5 : List Nat:=[0,0,0,4,14,30,0,0,192,448,1022,0,4094,8190,16383,32767]
theorem dY.Ku : mf .any (opsOf Try.f116 5) = dY.T5:=by kernel_rfl
theorem dY.CV : jP dY.T5.2 dY.B5 = true:=by kernel_rfl
theorem dY.calls (k : Nat) (a0 : Int) (A1 : Option Addr) (c1 : Nat) (l1 : List Int) (r : List Int) (w : World) (hr1 : Kd.C (Kd.int .i64) w A1 l1.length l1) (hc1 : l1.length ≤ c1) (H : dY.f k a0 l1 = some r) :
  Calls Try.prog 116 #[.int .i64 a0,.slice A1 l1.length c1] w fun e w'=>∃ v0_ : Value,e = .returned (v0_)∧Kd.R (Kd.int .i64) 2 w' w.heap.size (fun _=>True) v0_ r∧Below w.heap.size w w':=by
 have HR1:=zA hr1;have HC1:=zA hc1;clear hr1 hc1;have HB:=zA (Below.refl w.heap.size w);unfold dY.f at H;replace H:=gI H;obtain ⟨c3,H⟩|⟨c3,H⟩:=H
 ·have rH : (a0 == 0) = false:=beq_eq_false_iff_ne.mpr c3;have FD : (a0 != 0) = true:=bne_iff_ne.mpr c3;obtain ⟨aun,XP⟩:=eY ([(1 : Int) % a0] : List Int);(try rw [←XP.out] at H);have H':=zA H;clear H;go_enter Try.func116,Try.ntmps116;go_wp2_with (first | ((with_reducible refine aT (N:=9) rfl ?_);refine Kd.mX (Kd.int .i64) _ 2 ?hg (N:=9) ?hd (xs:=([(1 : Int) % a0] : List Int)) (inner:=[.int .i64 ((1 : Int) % a0)]) (ok:=fun _=>True) (okp:=fun _=>True) ?hr ?hp (fun _ hk=>hk) trivial (Below.refl _ _) (Nat.le_refl _) (by simp) ?_;(case hd=>rfl);(case hg=>rfl);(case hr=>first | (go_simp;done) | (go_simp;rfl));(case hp=>exact (cB.one (show Kd.M (Kd.int .i64) _ _ _ ((1 : Int) % a0) [.int .i64 ((1 : Int) % a0)] from rfl) (cB.none _ _)));intro azw w4 ho5 hb hg_ hnew_;clear hg_ hnew_;(first | rw [← XP.out] at ho5 | (simp only [Int.reduceToNat] at ho5;rw [← XP.out] at ho5));have alT:=zA (Kd.aX ho5 (af (uH HB.out)));replace HB:=xH HB hb;clear hb ho5));go_loopg [5,6] k (fun kq v5 v6 w'=>∃ (gV : List Int) (oC : Int),v6 = .int .i64 oC∧aa (dY.l0 kq a0 l1 gV oC = some r)∧aa (kq ≤ k)∧aa (Kd.R (Kd.int .i64) 2 w' w.heap.size (fun _=>True) v5 gV)∧aa (Below w.heap.size w w'));(case atStart=>exact ⟨(aun),(1),eS,H',⟨Nat.le_refl _⟩,⟨uR alT.out⟩,⟨uH HB.out⟩⟩)
  case round =>
   clear H';(try clear c1);(try clear p2);(try clear c3);(try clear rH);(try clear FD);obtain ⟨gV,oC,rfl,HA,HK1,iF,HB⟩:=hrel
   cases gk with
   | zero=>exact absurd HA.out (by simp [dY.l0])
   | succ k1 =>
    have H:=HA.out;clear HA;simp only [dY.l0] at H;replace H:=gF H;obtain ⟨oP,H⟩|⟨oP,H⟩:=H
    ·replace H:=gI H;obtain ⟨c15,H⟩|⟨c15,H⟩:=H
     ·have yl : (a0 == 0) = false:=beq_eq_false_iff_ne.mpr c15;have JI : (a0 != 0) = true:=bne_iff_ne.mpr c15;replace H:=gZ H;obtain ⟨alU,H⟩:=H;obtain ⟨azx,adp⟩:=eY (gV ++ [(1 : Int) % a0] : List Int);(try rw [←adp.out] at H);obtain rfl:=Option.some.inj H;go_wp2_with (first | ((with_reducible refine fo (b:=.append) (xs:=#[.tmp 31,.tmp 34]) rfl ?_);at_builtin;refine Kd.kU (Kd.int .i64) (w0:=w) w.heap.size rfl (.tmp 31) (.tmp 34) 24 2 (.int .i64 0) 8 rfl Try.underlying24 lh rfl (by decide) (by omega) u5 gV ((1 : Int) % a0) [.int .i64 ((1 : Int) % a0)] (fun _=>True) (fun _=>False) rfl rfl ?aP (fun _ hk=>hk.elim) ?aF ?aO ?aB ?aS ?aL ?_;(case aP=>exact rfl);(case aB=>exact (uH HB.out));(case aF=>exact (fun _ _=>trivial));(case aO=>exact (uR iF.out));(case aS=>exact (af (uH HB.out)));(case aL=>have:=alU.out;omega);intro azy w17 ho hb hg hat;rw [← adp.out] at ho;replace HB:=zA (hb);have alV:=zA (ho);clear iF ho hb hg hat));go_ret;exact ⟨_,eX,uR alV.out,uH HB.out⟩
     exact absurd H (by simp)
    obtain ⟨ji7,EL⟩ : ∃ j_ : Int,(wrap64 (oC - 1)) = j_:=⟨_,rfl⟩;(first | rw [EL] at H | simp only [EL] at H);have adk : (IntKind.i64.wrap (oC - 1)) = ji7:=(jW _).trans EL;replace H:=gD H;obtain ⟨yE,H⟩:=H;replace H:=gD H;obtain ⟨Da,H⟩:=H;replace H:=gD H;obtain ⟨qH,H⟩:=H;replace H:=gI H;obtain ⟨c11,H⟩|⟨c11,H⟩:=H
    ·have yP : (a0 == 0) = false:=beq_eq_false_iff_ne.mpr c11;have JM : (a0 != 0) = true:=bne_iff_ne.mpr c11;replace H:=gZ H;obtain ⟨alW,H⟩:=H;obtain ⟨auo,adq⟩:=eY (gV ++ [Int.tmod (wrap64 ((rd l1 (ji7)) + (rd l1 oC))) a0] : List Int);(try rw [←adq.out] at H);have H':=zA H;clear H;(try go_wp2);replace iF:=zA (Kd.iV iF.out);replace HB:=zA (aZ HB.out);have agD : 0 ≤ ((ji7) : Int):=oD;have agE : (ji7) < (l1.length : Int):=oD;obtain ⟨XQ,e207,Gf⟩:=Kd.ic HR1.out (ji7) agD agE;have Gg:=Gf;cases e207;replace Gf:=hc HB Gf;replace agD:=eq_true agD;replace agE:=eq_true agE;have agF : 0 ≤ (oC : Int):=oD;have agG : oC < (l1.length : Int):=oD;obtain ⟨alX,e208,Gh⟩:=Kd.ic HR1.out oC agF agG;have Gi:=Gh;obtain rfl : XQ = alX:=(by injection e208);replace Gh:=hc HB Gh;replace agF:=eq_true agF;replace agG:=eq_true agG;refine kF (n:=16) (S:=fun w'=>w'.cell? (XQ.add ((ji7)).toNat) = some (.int .i64 (rd l1 (ji7)))∧w'.cell? (XQ.add (oC).toNat) = some (.int .i64 (rd l1 oC))) (ds:=[]) #[false,false,false,false,false,false,false,false,false,false,false,false,false,false,false,false] (by kernel_rfl) rfl rfl ⟨(hcu HB Gg),(hcu HB Gi)⟩ (fun hHeld=>?_);refine gX dY.Ku dY.CV (fun HT_ HW_=>?_);generalize wr.drew = w13 at iF HB Gf Gh hHeld ⊢;refine pu_ 0 16 (bl 16 1) HT_ ?_;refine pu_ 1 17 (bl 16 3) HT_ ?_;refine pu_ 2 18 (bl 16 7) HT_ ?_;refine pu_ 3 19 (bl 16 15) HT_ ?_;refine pu_ 4 20 (bl 16 31) HT_ ?_;refine pu_ 6 22 (bl 16 95) HT_ ?_;refine pu_ 7 23 (bl 16 223) HT_ ?_;refine pu_ 8 24 (bl 16 479) HT_ ?_;refine pu_ 11 27 (bl 16 2527) HT_ ?_;refine ta_ 5 21 (bl 16 2559) HT_ HW_ hHeld ?_;refine ta_ 9 25 (bl 16 3071) HT_ HW_ hHeld ?_;refine pu_ 10 26 (bl 16 4095) HT_ ?_;refine pu_ 12 28 (bl 16 8191) HT_ ?_;refine on_ 13 (some 29) (bl 16 16383) HT_ (fun K hK=>?_);refine Hw (w1:=?_) (v:=?_) (by rfl) rfl ?_ ?_;rotate_left 2
     ·go_simp;constructor
      ·rfl
      ·rfl
     refine hK.out _ _ ⟨(World.cell?_alloc_lt _ _ _ (World.block_lt_of_cell? _ _ ((hcu HB Gg)))).trans ((hcu HB Gg)),(World.cell?_alloc_lt _ _ _ (World.block_lt_of_cell? _ _ ((hcu HB Gi)))).trans ((hcu HB Gi))⟩ (fun hHeld=>?_);clear hK K;refine no_ 29 ?_;refine on_ 14 (some 30) (bl 16 32767) HT_ (fun K hK=>?_);refine Kd.Bq (Kd.int .i64) (w0:=w) w.heap.size (by rfl) (.tmp 16) (.tmp 29) 24 2 (.int .i64 0) 8 rfl Try.underlying24 lh rfl (by decide) (by omega) u5 gV (Int.tmod (wrap64 ((rd l1 (ji7)) + (rd l1 oC))) a0) [.int .i64 (Int.tmod (wrap64 ((rd l1 (ji7)) + (rd l1 oC))) a0)] (fun _=>True) (fun _=>False) rfl rfl ?aP (fun _ hk=>hk.elim) ?aF ?aO ?aB ?aS ?aL ?_;(case aP=>exact rfl);(case aB=>exact (uH HB.out));(case aF=>exact (fun _ _=>trivial));(case aO=>exact (uR iF.out));(case aS=>exact (af (uH HB.out)));(case aL=>have:=alW.out;omega);intro v210 w14 ho hb hg hat;rw [← adq.out] at ho;replace HB:=zA (hb);have alY:=zA (ho);clear iF;clear ho hb hg hat;refine hK.out _ _ ⟨(hcu HB Gg),(hcu HB Gi)⟩ (fun hHeld=>?_);clear hK K;refine no_ 30 ?_;refine pu_ 15 5 (bl 16 65535) HT_ ?_;refine done_ (done_of HT_.out (by kernel_rfl)) ?_;(try go_wp2);go_roundg k1;(case measure=>have:=HK1.out;omega);(case rel=>exact ⟨(auo),(wrap64 (oC + 1)),eS,H',⟨by have:=HK1.out;omega⟩,⟨uR alY.out⟩,⟨uH HB.out⟩⟩)
    exact absurd H (by simp)
 exact absurd H (by simp)
/-! ### jo: function 114 -/
def jo.l0 : Nat → Int → Int → List Int → List Int → Int → Int → Option (Int)
 | 0,_,_,_,_,_,_=>none
 | k + 1,x0,x1,x2,x3,x9,x10=>if x10 < x1 then (if 0 ≤ x10 then (if x10 < (x2.length : Int) then (if x10 < (x3.length : Int) then (if x0 = 0 then (none) else (jo.l0 k x0 x1 x2 x3 (Int.tmod (wrap64 (x9 + (wrap64 ((rd x2 x10) * (rd x3 x10))))) x0) (wrap64 (x10 + 1)))) else (none)) else (none)) else (none)) else (some x9)
def jo.f (k : Nat) (a0 : Int) (a1 : Int) (l2 : List Int) (l3 : List Int) : Option (Int):=if a1 = 0 then (if a0 = 0 then (none) else (some ((1 : Int) % a0))) else (jo.l0 k a0 a1 l2 l3 0 0)
theorem jo.calls (k : Nat) (a0 : Int) (a1 : Int) (A2 : Option Addr) (c2 : Nat) (l2 : List Int) (A3 : Option Addr) (c3 : Nat) (l3 : List Int) (r : Int) (w : World) (hr2 : Kd.C (Kd.int .i64) w A2 l2.length l2) (hc2 : l2.length ≤ c2) (hr3 : Kd.C (Kd.int .i64) w A3 l3.length l3) (hc3 : l3.length ≤ c3) (H : jo.f k a0 a1 l2 l3 = some r) :
  Calls Try.prog 114 #[.int .i64 a0,.int .i64 a1,.slice A2 l2.length c2,.slice A3 l3.length c3] w fun e w'=>e = .returned (.int .i64 r)∧bA w w':=by
 have HR2:=zA hr2;have HC2:=zA hc2;clear hr2 hc2;have HR3:=zA hr3;have HC3:=zA hc3;clear hr3 hc3;unfold jo.f at H;replace H:=gE H;obtain ⟨c5,mq,uP,H⟩|⟨c5,mq,uP,H⟩:=H
 ·have H':=zA H;clear H;go_enter Try.func114,Try.ntmps114;go_wp2;(repeat (go_quiet (fail);try go_wp2));go_loopg [9,10] k (fun kq v9 v10 w'=>∃ (nD : Int) (gp : Int),v9 = .int .i64 nD∧v10 = .int .i64 gp∧aa (jo.l0 kq a0 a1 l2 l3 nD gp = some r)∧aa (kq ≤ k)∧bA w w');(case atStart=>exact ⟨(0),(0),eS,eS,H',⟨Nat.le_refl _⟩,by repeat (first | exact bA.refl _ | apply bA.step)⟩)
  case round =>
   clear H';(try clear c1);(try clear c2);(try clear p2);(try clear c3);(try clear c5);(try clear mq);(try clear uP);(try clear c6);(try clear oP);(try clear uE);obtain ⟨nD,gp,rfl,rfl,HA,HK1,⟨m1,rfl⟩⟩:=hrel
   cases gk with
   | zero=>exact absurd HA.out (by simp [jo.l0])
   | succ k1 =>
    have H:=HA.out;clear HA;simp only [jo.l0] at H;replace H:=gF H;obtain ⟨Bl,H⟩|⟨Bl,H⟩:=H
    ·obtain rfl:=Option.some.inj H;go_wp2;(repeat (go_quiet (fail);try go_wp2));go_ret;exact ⟨by first | rfl | (simp;done) | (simp [*];done),by repeat (first | exact bA.refl _ | apply bA.step)⟩
    replace H:=gD H;obtain ⟨yE,H⟩:=H;replace H:=gD H;obtain ⟨Da,H⟩:=H;replace H:=gD H;obtain ⟨qH,H⟩:=H;replace H:=gI H;obtain ⟨c11,H⟩|⟨c11,H⟩:=H
    ·have yP : (a0 == 0) = false:=beq_eq_false_iff_ne.mpr c11;have JM : (a0 != 0) = true:=bne_iff_ne.mpr c11;have H':=zA H;clear H;have agH : 0 ≤ (gp : Int):=oD;have agI : gp < (l2.length : Int):=oD;obtain ⟨axz,e195,aqZ⟩:=Kd.ic HR2.out gp agH agI;cases e195;replace agH:=eq_true agH;replace agI:=eq_true agI;have agJ : 0 ≤ (gp : Int):=oD;have agK : gp < (l3.length : Int):=oD;obtain ⟨axA,aup,aq0⟩:=Kd.ic HR3.out gp agJ agK;cases aup;replace agJ:=eq_true agJ;replace agK:=eq_true agK;go_wp2;(repeat (go_quiet (fail);try go_wp2));go_roundg k1;(case measure=>have:=HK1.out;omega);(case rel=>exact ⟨(Int.tmod (wrap64 (nD + (wrap64 ((rd l2 gp) * (rd l3 gp))))) a0),(wrap64 (gp + 1)),eS,eS,H',⟨by have:=HK1.out;omega⟩,by repeat (first | exact bA.refl _ | apply bA.step)⟩)
    exact absurd H (by simp)
 clear c5;replace H:=gI H;obtain ⟨c6,H⟩|⟨c6,H⟩:=H
 ·have oP : (a0 == 0) = false:=beq_eq_false_iff_ne.mpr c6;have uE : (a0 != 0) = true:=bne_iff_ne.mpr c6;obtain rfl:=Option.some.inj H;go_enter Try.func114,Try.ntmps114;go_wp2;(repeat (go_quiet (fail);try go_wp2));go_ret;exact ⟨by first | rfl | (simp;done) | (simp [*];done),by repeat (first | exact bA.refl _ | apply bA.step)⟩
 exact absurd H (by simp)
/-! ### eu: function 109 -/
def eu.l0 : Nat → ByteArray → Int → Int → List Int → List Int → Int → Option (List Int × Bool)
 | 0,_,_,_,_,_,_=>none
 | k + 1,x0,x1,x2,x8,x9,x10=>if x10 < x2 then (if x0.toList = ([117,110,105,102,111,114,109] : List UInt8) then (if x1 = 0 then (none) else (if (Int.tmod (wrap64 (x10 + 1)) x1) = 0 then (some (([] : List Int),false)) else ((iO.f k x1 (Int.tmod (wrap64 (x10 + 1)) x1)).bind fun Um=>(if x8.length < 17592186044416 then (eu.l0 k x0 x1 x2 (x8 ++ [Um]) x9 (wrap64 (x10 + 1))) else (none))))) else (if x0.toList = ([108,97,103,117,101,114,114,101] : List UInt8) then (if x10 > 0 then (if 0 ≤ (wrap64 (x10 - 1)) then (if (wrap64 (x10 - 1)) < (x8.length : Int) then (if x1 = 0 then (none) else (if x8.length < 17592186044416 then (eu.l0 k x0 x1 x2 (x8 ++ [Int.tmod (wrap64 ((rd x8 (wrap64 (x10 - 1))) * x10)) x1]) x9 (wrap64 (x10 + 1))) else (none))) else (none)) else (none)) else (if x8.length < 17592186044416 then (eu.l0 k x0 x1 x2 (x8 ++ [1]) x9 (wrap64 (x10 + 1))) else (none))) else (if x0.toList = ([104,101,114,109,105,116,101] : List UInt8) then (if x10 = 0 then (if x8.length < 17592186044416 then (eu.l0 k x0 x1 x2 (x8 ++ [1]) x9 (wrap64 (x10 + 1))) else (none)) else (if (Int.tmod x10 2) = 0 then (if 0 ≤ (wrap64 (x10 - 2)) then (if (wrap64 (x10 - 2)) < (x8.length : Int) then (if x1 = 0 then (none) else (if x8.length < 17592186044416 then (eu.l0 k x0 x1 x2 (x8 ++ [Int.tmod (wrap64 ((rd x8 (wrap64 (x10 - 2))) * (wrap64 (x10 - 1)))) x1]) x9 (wrap64 (x10 + 1))) else (none))) else (none)) else (none)) else (if x8.length < 17592186044416 then (eu.l0 k x0 x1 x2 (x8 ++ [0]) x9 (wrap64 (x10 + 1))) else (none)))) else (if x0.toList = ([99,97,116,97,108,97,110] : List UInt8) then ((jA.f k x8).bind fun PT=>((jo.f k x1 x10 x8 PT).bind fun Un=>(if x8.length < 17592186044416 then (eu.l0 k x0 x1 x2 (x8 ++ [Un]) x9 (wrap64 (x10 + 1))) else (none)))) else ((jo.f k x1 x10 x8 x9).bind fun Il=>(if x10 > 0 then ((dY.f k x1 x9).bind fun aby=>(if x8.length < 17592186044416 then (eu.l0 k x0 x1 x2 (x8 ++ [Il]) aby (wrap64 (x10 + 1))) else (none))) else (if x8.length < 17592186044416 then (eu.l0 k x0 x1 x2 (x8 ++ [Il]) x9 (wrap64 (x10 + 1))) else (none)))))))) else (some (x8,true))
def eu.f (k : Nat) (a0 : ByteArray) (a1 : Int) (a2 : Int) : Option (List Int × Bool):=eu.l0 k a0 a1 a2 (([] : List Int)) (([1] : List Int)) 0
theorem eu.calls (k : Nat) (a0 : ByteArray) (a1 : Int) (a2 : Int) (r1 : List Int) (r2 : Bool) (w : World) (H : eu.f k a0 a1 a2 = some (r1,r2)) :
  Calls Try.prog 109 #[.string a0,.int .i64 a1,.int .i64 a2] w fun e w'=>∃ v0_ : Value,e = .returned (.tuple #[v0_,.bool r2])∧Kd.R (Kd.int .i64) 2 w' w.heap.size (fun _=>True) v0_ r1∧Below w.heap.size w w':=by
 have HB:=zA (Below.refl w.heap.size w);unfold eu.f at H;obtain ⟨alZ,XR⟩ : ∃ y_ : List Int,y_ = (([] : List Int)):=⟨_,rfl⟩;(replace H : (eu.l0 k a0 a1 a2 alZ (([1] : List Int)) 0) = some (r1,r2):=by first | (rw [XR];exact H) | exact H);have adr:=zA XR;clear XR;obtain ⟨auq,XT⟩:=eY ([1] : List Int);(try rw [←XT.out] at H);have H':=zA H;clear H;go_enter Try.func109,Try.ntmps109;go_wp2_with (first | ((with_reducible refine aT (N:=12) rfl ?_);refine Kd.mX (Kd.int .i64) _ 2 ?hg (N:=12) ?hd (xs:=([] : List Int)) (inner:=[]) (ok:=fun _=>True) (okp:=fun _=>True) ?hr ?hp (fun _ hk=>hk) trivial (Below.refl _ _) (Nat.le_refl _) (by simp) ?_;(case hd=>rfl);(case hg=>rfl);(case hr=>first | (go_simp;done) | (go_simp;rfl));(case hp=>exact (cB.none _ _));intro azz w4 ho5 hb hg_ hnew_;clear hg_ hnew_;(first | rw [← adr.out] at ho5 | (simp only [Int.reduceToNat] at ho5;rw [← adr.out] at ho5));have Sa:=zA (Kd.aX ho5 (af (uH HB.out)));replace HB:=xH HB hb;clear hb ho5) | ((with_reducible refine aT (N:=13) rfl ?_);refine Kd.mX (Kd.int .i64) _ 2 ?hg (N:=13) ?hd (xs:=([1] : List Int)) (inner:=[.int .i64 1]) (ok:=fun _=>True) (okp:=fun _=>True) ?hr ?hp (fun _ hk=>hk) trivial (Below.refl _ _) (Nat.le_refl _) (by simp) ?_;(case hd=>rfl);(case hg=>rfl);(case hr=>first | (go_simp;done) | (go_simp;rfl));(case hp=>exact (cB.one (show Kd.M (Kd.int .i64) _ _ _ 1 [.int .i64 1] from rfl) (cB.none _ _)));intro azA w6 ho7 hb hg_ hnew_;clear hg_ hnew_;(first | rw [← XT.out] at ho7 | (simp only [Int.reduceToNat] at ho7;rw [← XT.out] at ho7));have al0:=zA (Kd.aX (nw ho7 (uR Sa.out)) (af (uH HB.out)));replace Sa:=zA (Kd.aJ (uR Sa.out) (Kd.aG ho7) hb);replace HB:=xH HB hb;clear hb ho7));go_loopg [8,9,10] k (fun kq v8 v9 v10 w'=>∃ (dM : List Int) (nD : List Int) (gp : Int),v10 = .int .i64 gp∧aa (eu.l0 kq a0 a1 a2 dM nD gp = some (r1,r2))∧aa (kq ≤ k)∧aa (Kd.R (Kd.int .i64) 2 w' w.heap.size (fun k_=>ax k_ v9) v8 dM)∧aa (Kd.R (Kd.int .i64) 2 w' w.heap.size (fun k_=>ax k_ v8) v9 nD)∧aa (Below w.heap.size w w'));(case atStart=>exact ⟨(alZ),(auq),(0),eS,H',⟨Nat.le_refl _⟩,⟨uR (Kd.ah Sa.out (fun _ hk=>hk.2))⟩,⟨uR (Kd.ah al0.out (fun _ hk=>hk.2))⟩,⟨uH HB.out⟩⟩)
 case round =>
  clear H';(try clear c1);(try clear p2);obtain ⟨dM,nD,gp,rfl,HA,HK1,ja,jM,HB⟩:=hrel
  cases gk with
  | zero=>exact absurd HA.out (by simp [eu.l0])
  | succ k1 =>
   have H:=HA.out;clear HA;simp only [eu.l0] at H;replace H:=gF H;obtain ⟨yE,H⟩|⟨yE,H⟩:=H
   ·simp only [Option.some.injEq,Prod.mk.injEq] at H;obtain ⟨rfl,rfl⟩:=H;go_wp2;go_ret2;exact ⟨_,eX,uR (Kd.ah ja.out (fun _ hk=>trivial)),uH HB.out⟩
   replace H:=gE H;obtain ⟨c9,Da,I5,H⟩|⟨c9,Da,I5,H⟩:=H
   ·replace H:=gE H;obtain ⟨c15,yl,JI,H⟩|⟨c15,yl,JI,H⟩:=H
    ·replace H:=gE H;obtain ⟨c26,al1,al2,H⟩|⟨c26,al1,al2,H⟩:=H
     ·replace H:=gE H;obtain ⟨c40,Q6,Q7,H⟩|⟨c40,Q6,Q7,H⟩:=H
      ·replace H:=bO H;obtain ⟨Il,A48,H⟩:=H;replace H:=gI H;obtain ⟨c49,H⟩|⟨c49,H⟩:=H
       ·have ads : decide (0 < gp) = false:=decide_eq_false c49;clear c49;replace H:=gZ H;obtain ⟨al3,H⟩:=H;obtain ⟨aur,adt⟩:=eY (dM ++ [Il] : List Int);(try rw [←adt.out] at H);have H':=zA H;clear H;obtain ⟨TD,TE,rfl⟩:=Kd.bB ja.out;obtain ⟨aeh,aei,rfl⟩:=Kd.bB jM.out;go_wp2_with (first | ((with_reducible refine ag (f:=114) rfl ?_);refine gL (some 24) Try.func114 #[.int .i64 a1,.int .i64 gp,.slice TD dM.length TE,.slice aeh nD.length aei] ?_;(with_reducible refine (jo.calls k1 a1 gp _ _ dM _ _ nD Il _ ?side1 ?side2 ?side3 ?side4 A48.out).mono ?_);(case side1=>exact uC ((Kd.aM ja.out).2.2));(case side2=>exact (Kd.aM ja.out).2.1);(case side3=>exact uC ((Kd.aM jM.out).2.2));(case side4=>exact (Kd.aM jM.out).2.1);rintro e w' ⟨rfl,⟨nd,rfl⟩⟩;refine ⟨_,rfl,?_⟩) | ((with_reducible refine fo (b:=.append) (xs:=#[.tmp 83,.tmp 85]) rfl ?_);at_builtin;refine Kd.kU (Kd.int .i64) (w0:=w) w.heap.size rfl (.tmp 83) (.tmp 85) 24 2 (.int .i64 0) 8 rfl Try.underlying24 lh rfl (by decide) (by omega) (.slice TD dM.length TE) dM Il [.int .i64 Il] (fun k_=>ax k_ (.slice aeh nD.length aei)) (fun _=>False) rfl rfl ?aP (fun _ hk=>hk.elim) ?aF ?aO ?aB ?aS ?aL ?_;(case aP=>exact rfl);(case aB=>exact (uH HB.out));(case aF=>exact (fun k_ hk=>Kd.fresh' (Kd.ku (uR jM.out)) k_ hk));(case aO=>exact (uR ja.out));(case aS=>exact (af (uH HB.out)));(case aL=>have:=al3.out;omega);intro azB w59 ho hb hg hat;rw [← adt.out] at ho;replace jM:=zA (Kd.fM (ok:=(fun _=>True)) (uR (Kd.ah jM.out (fun _ hk=>⟨trivial,hk⟩))) hg hat);replace HB:=zA (hb);have al4:=zA (ho);clear ja ho hb hg hat));go_roundg k1;(case measure=>have:=HK1.out;omega);(case rel=>exact ⟨(aur),(nD),(wrap64 (gp + 1)),eS,H',⟨by have:=HK1.out;omega⟩,⟨uR al4.out⟩,⟨uR (Kd.ah jM.out (fun _ hk=>hk.2))⟩,⟨uH HB.out⟩⟩)
       have ads : decide (0 < gp) = true:=decide_eq_true c49;clear c49;replace H:=bO H;obtain ⟨aby,A50,H⟩:=H;replace H:=gZ H;obtain ⟨al5,H⟩:=H;obtain ⟨aus,adu⟩:=eY (dM ++ [Il] : List Int);(try rw [←adu.out] at H);have H':=zA H;clear H;obtain ⟨K7,K8,rfl⟩:=Kd.bB ja.out;obtain ⟨UE,UF,rfl⟩:=Kd.bB jM.out;go_wp2_with (first | ((with_reducible refine ag (f:=114) rfl ?_);refine gL (some 24) Try.func114 #[.int .i64 a1,.int .i64 gp,.slice K7 dM.length K8,.slice UE nD.length UF] ?_;(with_reducible refine (jo.calls k1 a1 gp _ _ dM _ _ nD Il _ ?side1 ?side2 ?side3 ?side4 A48.out).mono ?_);(case side1=>exact uC ((Kd.aM ja.out).2.2));(case side2=>exact (Kd.aM ja.out).2.1);(case side3=>exact uC ((Kd.aM jM.out).2.2));(case side4=>exact (Kd.aM jM.out).2.1);rintro e w' ⟨rfl,⟨nd,rfl⟩⟩;refine ⟨_,rfl,?_⟩) | ((with_reducible refine ag (f:=116) rfl ?_);refine gL (some 29) Try.func116 #[.int .i64 a1,.slice UE nD.length UF] ?_;(with_reducible refine (dY.calls k1 a1 _ _ nD aby _ ?side1 ?side2 A50.out).mono ?_);(case side1=>exact uC ((Kd.aM jM.out).2.2));(case side2=>exact (Kd.aM jM.out).2.1);rintro e w54 ⟨al6,rfl,ho0,hb⟩;refine ⟨_,rfl,?_⟩;have Sb:=zA (Kd.aX (nw (nw ho0 (uR ja.out)) (uR jM.out)) (af (uH HB.out)));replace ja:=zA (Kd.aJ (uR ja.out) (Kd.aG ho0) hb);replace jM:=zA (Kd.aJ (uR jM.out) (Kd.aG ho0) hb);replace HB:=xH HB hb;(try clear hb);(try clear hk);(try clear ho0)) | ((with_reducible refine fo (b:=.append) (xs:=#[.tmp 83,.tmp 85]) rfl ?_);at_builtin;refine Kd.kU (Kd.int .i64) (w0:=w) w.heap.size rfl (.tmp 83) (.tmp 85) 24 2 (.int .i64 0) 8 rfl Try.underlying24 lh rfl (by decide) (by omega) (.slice K7 dM.length K8) dM Il [.int .i64 Il] (fun k_=>ax k_ (.slice UE nD.length UF)∧ax k_ al6) (fun _=>False) rfl rfl ?aP (fun _ hk=>hk.elim) ?aF ?aO ?aB ?aS ?aL ?_;(case aP=>exact rfl);(case aB=>exact (uH HB.out));(case aF=>exact (fun k_ hk=>⟨Kd.fresh' (Kd.ku (uR jM.out)) k_ hk,Kd.fresh' (Kd.ku (uR Sb.out)) k_ hk⟩));(case aO=>exact (uR ja.out));(case aS=>exact (af (uH HB.out)));(case aL=>have:=al5.out;omega);intro azC w55 ho hb hg hat;rw [← adu.out] at ho;replace jM:=zA (Kd.fM (ok:=(fun k_=>ax k_ al6)) (uR (Kd.ah jM.out (fun _ ⟨b,a⟩=>⟨a,b⟩))) hg hat);replace Sb:=zA (Kd.fM (ok:=(fun k_=>ax k_ (.slice UE nD.length UF))) (uR (Kd.ah Sb.out (fun _ hk=>⟨hk.2,hk.1.2⟩))) hg hat);replace HB:=zA (hb);have al7:=zA (ho);clear ja ho hb hg hat));go_roundg k1;(case measure=>have:=HK1.out;omega);(case rel=>exact ⟨(aus),(aby),(wrap64 (gp + 1)),eS,H',⟨by have:=HK1.out;omega⟩,⟨uR (Kd.ah al7.out (fun _ hk=>hk.2))⟩,⟨uR (Kd.ah Sb.out (fun _ hk=>hk.2))⟩,⟨uH HB.out⟩⟩)
      clear c40;replace H:=bO H;obtain ⟨PT,A41,H⟩:=H;replace H:=bO H;obtain ⟨Un,A42,H⟩:=H;replace H:=gZ H;obtain ⟨al8,H⟩:=H;obtain ⟨aut,adv⟩:=eY (dM ++ [Un] : List Int);(try rw [←adv.out] at H);have H':=zA H;clear H;obtain ⟨TR,TS,rfl⟩:=Kd.bB ja.out;go_wp2_with (first | ((with_reducible refine ag (f:=115) rfl ?_);refine gL (some 81) Try.func115 #[.slice TR dM.length TS] ?_;(with_reducible refine (jA.calls k1 _ _ dM PT _ ?side1 ?side2 A41.out).mono ?_);(case side1=>exact uC ((Kd.aM ja.out).2.2));(case side2=>exact (Kd.aM ja.out).2.1);rintro e w45 ⟨azD,rfl,ho0,hb⟩;refine ⟨_,rfl,?_⟩;have JN:=zA (Kd.aX (nw (nw ho0 (uR ja.out)) (uR jM.out)) (af (uH HB.out)));replace ja:=zA (Kd.aJ (uR ja.out) (Kd.aG ho0) hb);replace jM:=zA (Kd.aJ (uR jM.out) (Kd.aG ho0) hb);replace HB:=xH HB hb;(try clear hb);(try clear hk);(try clear ho0);obtain ⟨abb,abd,abe⟩:=Kd.bB JN.out;subst abe) | ((with_reducible refine ag (f:=114) rfl ?_);refine gL (some 82) Try.func114 #[.int .i64 a1,.int .i64 gp,.slice TR dM.length TS,.slice abb PT.length abd] ?_;(with_reducible refine (jo.calls k1 a1 gp _ _ dM _ _ PT Un _ ?side1 ?side2 ?side3 ?side4 A42.out).mono ?_);(case side1=>exact uC ((Kd.aM ja.out).2.2));(case side2=>exact (Kd.aM ja.out).2.1);(case side3=>exact uC ((Kd.aM JN.out).2.2));(case side4=>exact (Kd.aM JN.out).2.1);rintro e w' ⟨rfl,⟨nd,rfl⟩⟩;refine ⟨_,rfl,?_⟩) | ((with_reducible refine fo (b:=.append) (xs:=#[.tmp 83,.tmp 85]) rfl ?_);at_builtin;refine Kd.kU (Kd.int .i64) (w0:=w) w.heap.size rfl (.tmp 83) (.tmp 85) 24 2 (.int .i64 0) 8 rfl Try.underlying24 lh rfl (by decide) (by omega) (.slice TR dM.length TS) dM Un [.int .i64 Un] (fun k_=>ax k_ u9∧ax k_ (.slice abb PT.length abd)) (fun _=>False) rfl rfl ?aP (fun _ hk=>hk.elim) ?aF ?aO ?aB ?aS ?aL ?_;(case aP=>exact rfl);(case aB=>exact (uH HB.out));(case aF=>exact (fun k_ hk=>⟨Kd.fresh' (Kd.ku (uR jM.out)) k_ hk,Kd.fresh' (Kd.ku (uR JN.out)) k_ hk⟩));(case aO=>exact (uR ja.out));(case aS=>exact (af (uH HB.out)));(case aL=>have:=al8.out;omega);intro azE w47 ho hb hg hat;rw [← adv.out] at ho;replace jM:=zA (Kd.fM (ok:=(fun k_=>ax k_ (.slice abb PT.length abd))) (uR (Kd.ah jM.out (fun _ ⟨b,a⟩=>⟨a,b⟩))) hg hat);replace JN:=zA (Kd.fM (ok:=(fun k_=>ax k_ u9)) (uR (Kd.ah JN.out (fun _ hk=>⟨hk.2,hk.1.2⟩))) hg hat);replace HB:=zA (hb);have al9:=zA (ho);clear ja ho hb hg hat));go_roundg k1;(case measure=>have:=HK1.out;omega);(case rel=>exact ⟨(aut),(nD),(wrap64 (gp + 1)),eS,H',⟨by have:=HK1.out;omega⟩,⟨uR (Kd.ah al9.out (fun _ hk=>hk.1))⟩,⟨uR (Kd.ah jM.out (fun _ hk=>hk.2))⟩,⟨uH HB.out⟩⟩)
     clear c26;replace H:=gE H;obtain ⟨c27,ama,amb,H⟩|⟨c27,ama,amb,H⟩:=H
     ·replace H:=gE H;obtain ⟨c30,amc,amd,H⟩|⟨c30,amc,amd,H⟩:=H
      ·replace H:=gZ H;obtain ⟨ame,H⟩:=H;obtain ⟨auu,adw⟩:=eY (dM ++ [0] : List Int);(try rw [←adw.out] at H);have H':=zA H;clear H;go_wp2_with (first | ((with_reducible refine fo (b:=.append) (xs:=#[.tmp 83,.tmp 85]) rfl ?_);at_builtin;refine Kd.kU (Kd.int .i64) (w0:=w) w.heap.size rfl (.tmp 83) (.tmp 85) 24 2 (.int .i64 0) 8 rfl Try.underlying24 lh rfl (by decide) (by omega) u8 dM 0 [.int .i64 0] (fun k_=>ax k_ u9) (fun _=>False) rfl rfl ?aP (fun _ hk=>hk.elim) ?aF ?aO ?aB ?aS ?aL ?_;(case aP=>exact rfl);(case aB=>exact (uH HB.out));(case aF=>exact (fun k_ hk=>Kd.fresh' (Kd.ku (uR jM.out)) k_ hk));(case aO=>exact (uR ja.out));(case aS=>exact (af (uH HB.out)));(case aL=>have:=ame.out;omega);intro azF w39 ho hb hg hat;rw [← adw.out] at ho;replace jM:=zA (Kd.fM (ok:=(fun _=>True)) (uR (Kd.ah jM.out (fun _ hk=>⟨trivial,hk⟩))) hg hat);replace HB:=zA (hb);have amf:=zA (ho);clear ja ho hb hg hat));go_roundg k1;(case measure=>have:=HK1.out;omega);(case rel=>exact ⟨(auu),(nD),(wrap64 (gp + 1)),eS,H',⟨by have:=HK1.out;omega⟩,⟨uR amf.out⟩,⟨uR (Kd.ah jM.out (fun _ hk=>hk.2))⟩,⟨uH HB.out⟩⟩)
      clear c30;obtain ⟨PU,XU⟩ : ∃ j_ : Int,(wrap64 (gp - 2)) = j_:=⟨_,rfl⟩;(first | rw [XU] at H | simp only [XU] at H);have auv : (IntKind.i64.wrap (gp - 2)) = PU:=(jW _).trans XU;replace H:=gD H;obtain ⟨alj,H⟩:=H;replace H:=gD H;obtain ⟨Xj,H⟩:=H;replace H:=gI H;obtain ⟨c34,H⟩|⟨c34,H⟩:=H
      ·have axB : (a1 == 0) = false:=beq_eq_false_iff_ne.mpr c34;have axC : (a1 != 0) = true:=bne_iff_ne.mpr c34;replace H:=gZ H;obtain ⟨amg,H⟩:=H;obtain ⟨auw,adx⟩:=eY (dM ++ [Int.tmod (wrap64 ((rd dM (PU)) * (wrap64 (gp - 1)))) a1] : List Int);(try rw [←adx.out] at H);have H':=zA H;clear H;obtain ⟨tH,sQ,rfl⟩:=Kd.bB ja.out;have agL : 0 ≤ ((PU) : Int):=oD;have agM : (PU) < (dM.length : Int):=oD;obtain ⟨amh,aux,aq1⟩:=Kd.ic (Kd.aM ja.out).2.2 (PU) agL agM;cases aux;replace agL:=eq_true agL;replace agM:=eq_true agM;go_wp2_with (first | ((with_reducible refine fo (b:=.append) (xs:=#[.tmp 83,.tmp 85]) rfl ?_);at_builtin;refine Kd.kU (Kd.int .i64) (w0:=w) w.heap.size rfl (.tmp 83) (.tmp 85) 24 2 (.int .i64 0) 8 rfl Try.underlying24 lh rfl (by decide) (by omega) (.slice (some amh) dM.length sQ) dM (Int.tmod (wrap64 ((rd dM (PU)) * (wrap64 (gp - 1)))) a1) [.int .i64 (Int.tmod (wrap64 ((rd dM (PU)) * (wrap64 (gp - 1)))) a1)] (fun k_=>ax k_ u9) (fun _=>False) rfl rfl ?aP (fun _ hk=>hk.elim) ?aF ?aO ?aB ?aS ?aL ?_;(case aP=>exact rfl);(case aB=>exact (uH HB.out));(case aF=>exact (fun k_ hk=>Kd.fresh' (Kd.ku (uR jM.out)) k_ hk));(case aO=>exact (uR ja.out));(case aS=>exact (af (uH HB.out)));(case aL=>have:=amg.out;omega);intro azG w37 ho hb hg hat;rw [← adx.out] at ho;replace jM:=zA (Kd.fM (ok:=(fun _=>True)) (uR (Kd.ah jM.out (fun _ hk=>⟨trivial,hk⟩))) hg hat);replace HB:=zA (hb);have ami:=zA (ho);clear ja ho hb hg hat));go_roundg k1;(case measure=>have:=HK1.out;omega);(case rel=>exact ⟨(auw),(nD),(wrap64 (gp + 1)),eS,H',⟨by have:=HK1.out;omega⟩,⟨uR ami.out⟩,⟨uR (Kd.ah jM.out (fun _ hk=>hk.2))⟩,⟨uH HB.out⟩⟩)
      exact absurd H (by simp)
     clear c27;replace H:=gZ H;obtain ⟨amj,H⟩:=H;obtain ⟨auy,ady⟩:=eY (dM ++ [1] : List Int);(try rw [←ady.out] at H);have H':=zA H;clear H;go_wp2_with (first | ((with_reducible refine fo (b:=.append) (xs:=#[.tmp 83,.tmp 85]) rfl ?_);at_builtin;refine Kd.kU (Kd.int .i64) (w0:=w) w.heap.size rfl (.tmp 83) (.tmp 85) 24 2 (.int .i64 0) 8 rfl Try.underlying24 lh rfl (by decide) (by omega) u8 dM 1 [.int .i64 1] (fun k_=>ax k_ u9) (fun _=>False) rfl rfl ?aP (fun _ hk=>hk.elim) ?aF ?aO ?aB ?aS ?aL ?_;(case aP=>exact rfl);(case aB=>exact (uH HB.out));(case aF=>exact (fun k_ hk=>Kd.fresh' (Kd.ku (uR jM.out)) k_ hk));(case aO=>exact (uR ja.out));(case aS=>exact (af (uH HB.out)));(case aL=>have:=amj.out;omega);intro v233 w29 ho hb hg hat;rw [← ady.out] at ho;replace jM:=zA (Kd.fM (ok:=(fun _=>True)) (uR (Kd.ah jM.out (fun _ hk=>⟨trivial,hk⟩))) hg hat);replace HB:=zA (hb);have amk:=zA (ho);clear ja ho hb hg hat));go_roundg k1;(case measure=>have:=HK1.out;omega);(case rel=>exact ⟨(auy),(nD),(wrap64 (gp + 1)),eS,H',⟨by have:=HK1.out;omega⟩,⟨uR amk.out⟩,⟨uR (Kd.ah jM.out (fun _ hk=>hk.2))⟩,⟨uH HB.out⟩⟩)
    clear c15;replace H:=gI H;obtain ⟨c16,H⟩|⟨c16,H⟩:=H
    ·have Bw : decide (0 < gp) = false:=decide_eq_false c16;clear c16;replace H:=gZ H;obtain ⟨aml,H⟩:=H;obtain ⟨auz,adz⟩:=eY (dM ++ [1] : List Int);(try rw [←adz.out] at H);have H':=zA H;clear H;go_wp2_with (first | ((with_reducible refine fo (b:=.append) (xs:=#[.tmp 83,.tmp 85]) rfl ?_);at_builtin;refine Kd.kU (Kd.int .i64) (w0:=w) w.heap.size rfl (.tmp 83) (.tmp 85) 24 2 (.int .i64 0) 8 rfl Try.underlying24 lh rfl (by decide) (by omega) u8 dM 1 [.int .i64 1] (fun k_=>ax k_ u9) (fun _=>False) rfl rfl ?aP (fun _ hk=>hk.elim) ?aF ?aO ?aB ?aS ?aL ?_;(case aP=>exact rfl);(case aB=>exact (uH HB.out));(case aF=>exact (fun k_ hk=>Kd.fresh' (Kd.ku (uR jM.out)) k_ hk));(case aO=>exact (uR ja.out));(case aS=>exact (af (uH HB.out)));(case aL=>have:=aml.out;omega);intro azH w25 ho hb hg hat;rw [← adz.out] at ho;replace jM:=zA (Kd.fM (ok:=(fun _=>True)) (uR (Kd.ah jM.out (fun _ hk=>⟨trivial,hk⟩))) hg hat);replace HB:=zA (hb);have amm:=zA (ho);clear ja ho hb hg hat));go_roundg k1;(case measure=>have:=HK1.out;omega);(case rel=>exact ⟨(auz),(nD),(wrap64 (gp + 1)),eS,H',⟨by have:=HK1.out;omega⟩,⟨uR amm.out⟩,⟨uR (Kd.ah jM.out (fun _ hk=>hk.2))⟩,⟨uH HB.out⟩⟩)
    have Bw : decide (0 < gp) = true:=decide_eq_true c16;clear c16;obtain ⟨PV,XV⟩ : ∃ j_ : Int,(wrap64 (gp - 1)) = j_:=⟨_,rfl⟩;(first | rw [XV] at H | simp only [XV] at H);have auA : (IntKind.i64.wrap (gp - 1)) = PV:=(jW _).trans XV;replace H:=gD H;obtain ⟨yK,H⟩:=H;replace H:=gD H;obtain ⟨vY,H⟩:=H;replace H:=gI H;obtain ⟨c20,H⟩|⟨c20,H⟩:=H
    ·have R5 : (a1 == 0) = false:=beq_eq_false_iff_ne.mpr c20;have axD : (a1 != 0) = true:=bne_iff_ne.mpr c20;replace H:=gZ H;obtain ⟨MP,H⟩:=H;obtain ⟨auB,adA⟩:=eY (dM ++ [Int.tmod (wrap64 ((rd dM (PV)) * gp)) a1] : List Int);(try rw [←adA.out] at H);have H':=zA H;clear H;obtain ⟨xU,wU,rfl⟩:=Kd.bB ja.out;have agN : 0 ≤ ((PV) : Int):=oD;have agO : (PV) < (dM.length : Int):=oD;obtain ⟨amn,auC,aq2⟩:=Kd.ic (Kd.aM ja.out).2.2 (PV) agN agO;cases auC;replace agN:=eq_true agN;replace agO:=eq_true agO;go_wp2_with (first | ((with_reducible refine fo (b:=.append) (xs:=#[.tmp 83,.tmp 85]) rfl ?_);at_builtin;refine Kd.kU (Kd.int .i64) (w0:=w) w.heap.size rfl (.tmp 83) (.tmp 85) 24 2 (.int .i64 0) 8 rfl Try.underlying24 lh rfl (by decide) (by omega) (.slice (some amn) dM.length wU) dM (Int.tmod (wrap64 ((rd dM (PV)) * gp)) a1) [.int .i64 (Int.tmod (wrap64 ((rd dM (PV)) * gp)) a1)] (fun k_=>ax k_ u9) (fun _=>False) rfl rfl ?aP (fun _ hk=>hk.elim) ?aF ?aO ?aB ?aS ?aL ?_;(case aP=>exact rfl);(case aB=>exact (uH HB.out));(case aF=>exact (fun k_ hk=>Kd.fresh' (Kd.ku (uR jM.out)) k_ hk));(case aO=>exact (uR ja.out));(case aS=>exact (af (uH HB.out)));(case aL=>have:=MP.out;omega);intro v227 w23 ho hb hg hat;rw [← adA.out] at ho;replace jM:=zA (Kd.fM (ok:=(fun _=>True)) (uR (Kd.ah jM.out (fun _ hk=>⟨trivial,hk⟩))) hg hat);replace HB:=zA (hb);have amo:=zA (ho);clear ja ho hb hg hat));go_roundg k1;(case measure=>have:=HK1.out;omega);(case rel=>exact ⟨(auB),(nD),(wrap64 (gp + 1)),eS,H',⟨by have:=HK1.out;omega⟩,⟨uR amo.out⟩,⟨uR (Kd.ah jM.out (fun _ hk=>hk.2))⟩,⟨uH HB.out⟩⟩)
    exact absurd H (by simp)
   clear c9;replace H:=gI H;obtain ⟨c10,H⟩|⟨c10,H⟩:=H
   ·have qH : (a1 == 0) = false:=beq_eq_false_iff_ne.mpr c10;have Dr : (a1 != 0) = true:=bne_iff_ne.mpr c10;replace H:=gE H;obtain ⟨c11,yP,JM,H⟩|⟨c11,yP,JM,H⟩:=H
    ·replace H:=bO H;obtain ⟨Um,A12,H⟩:=H;replace H:=gZ H;obtain ⟨amq,H⟩:=H;obtain ⟨auD,adB⟩:=eY (dM ++ [Um] : List Int);(try rw [←adB.out] at H);have H':=zA H;clear H;go_wp2_with (first | ((with_reducible refine ag (f:=91) rfl ?_);refine gL (some 42) Try.func91 #[.int .i64 a1,.int .i64 (Int.tmod (wrap64 (gp + 1)) a1)] ?_;(with_reducible refine (iO.calls k1 a1 (Int.tmod (wrap64 (gp + 1)) a1) Um _ A12.out).mono ?_);rintro e w' ⟨rfl,⟨nd,rfl⟩⟩;refine ⟨_,rfl,?_⟩) | ((with_reducible refine fo (b:=.append) (xs:=#[.tmp 83,.tmp 85]) rfl ?_);at_builtin;refine Kd.kU (Kd.int .i64) (w0:=w) w.heap.size rfl (.tmp 83) (.tmp 85) 24 2 (.int .i64 0) 8 rfl Try.underlying24 lh rfl (by decide) (by omega) u8 dM Um [.int .i64 Um] (fun k_=>ax k_ u9) (fun _=>False) rfl rfl ?aP (fun _ hk=>hk.elim) ?aF ?aO ?aB ?aS ?aL ?_;(case aP=>exact rfl);(case aB=>exact (uH HB.out));(case aF=>exact (fun k_ hk=>Kd.fresh' (Kd.ku (uR jM.out)) k_ hk));(case aO=>exact (uR ja.out));(case aS=>exact (af (uH HB.out)));(case aL=>have:=amq.out;omega);intro azI w14 ho hb hg hat;rw [← adB.out] at ho;replace jM:=zA (Kd.fM (ok:=(fun _=>True)) (uR (Kd.ah jM.out (fun _ hk=>⟨trivial,hk⟩))) hg hat);replace HB:=zA (hb);have amr:=zA (ho);clear ja ho hb hg hat));go_roundg k1;(case measure=>have:=HK1.out;omega);(case rel=>exact ⟨(auD),(nD),(wrap64 (gp + 1)),eS,H',⟨by have:=HK1.out;omega⟩,⟨uR amr.out⟩,⟨uR (Kd.ah jM.out (fun _ hk=>hk.2))⟩,⟨uH HB.out⟩⟩)
    clear c11;simp only [Option.some.injEq,Prod.mk.injEq] at H;obtain ⟨rfl,rfl⟩:=H;go_wp2;go_ret2;exact ⟨_,eX,by first | exact Kd.nE _ _ _ _ _ | exact Kd.wH _ _ _ _ _ | exact Kd.qz _ _ _ _ _ | exact Kd.rq _ _ _ _ _ | exact Kd.ru _ _ _ _ _,uH HB.out⟩
   exact absurd H (by simp)
/-! ### iP: function 90 -/
def iP.f (k : Nat) (aH : Int) (aD : List Int) (l1 : List Int) (a2 : Int) : Option (Int):=(bI.f k aH l1 l1).bind fun XW=>((jk.f k aH aD XW a2).bind fun agP=>(some agP))
def iP.T1 : Bool × List (List Nat × List Nat):=(true,[([],[]),([],[]),([1],[1]),([],[]),([],[]),([2,3,4],[2,3,4]),([],[]),([0,5,6,5],[0,5,6]),([7,7,0,1,2,3,4,5,6,7],[7])])
def iP.B1 : List Nat:=[0,0,2,0,0,30,0,127,255]
theorem iP.ND : mf .any (opsOf Try.f90 1) = iP.T1:=by kernel_rfl
theorem iP.Fq : jP iP.T1.2 iP.B1 = true:=by kernel_rfl
theorem iP.calls (k : Nat) (aH : Int) (bM : Option Addr) (bJ : Nat) (aD : List Int) (A1 : Option Addr) (c1 : Nat) (l1 : List Int) (a2 : Int) (r : Int) (w : World) (hr0_1 : Kd.C (Kd.int .i64) w bM aD.length aD) (jE : aD.length ≤ bJ) (hr1 : Kd.C (Kd.int .i64) w A1 l1.length l1) (hc1 : l1.length ≤ c1) (H : iP.f k aH aD l1 a2 = some r) :
  Calls Try.prog 90 #[.agg #[.int .i64 aH,.slice bM aD.length bJ],.slice A1 l1.length c1,.int .i64 a2] w fun e w'=>e = .returned (.int .i64 r)∧Below w.heap.size w w':=by
 have uD:=Try.underlying26;have fP:=zA hr0_1;have gG:=zA jE;clear hr0_1 jE;have HR1:=zA hr1;have HC1:=zA hc1;clear hr1 hc1;have HB:=zA (Below.refl w.heap.size w);unfold iP.f at H;replace H:=bO H;obtain ⟨XW,A4,H⟩:=H;replace H:=bO H;obtain ⟨agP,A5,H⟩:=H;obtain rfl:=Option.some.inj H;go_enter Try.func90,Try.ntmps90;(try go_wp2_with (first | ((with_reducible refine aT (N:=3) rfl ?_);refine bx 3 #[.int .i64 aH,.slice bM aD.length bJ] 26 ?_;intro adC hg w6 hbox hb;have yQ:=zA (hbox);have ams:=gq HB hg;have:=geI ams;have amt:=gq HB hg;replace HB:=xH HB hb;have:=geI amt;clear hb hbox hg)));replace yQ:=zA (eD yQ.out);replace HB:=zA (aZ HB.out);refine kF (n:=9) (S:=fun w'=>w'.cell? ⟨adC,0,none⟩ = some (.int .i64 aH)∧w'.cell? ⟨adC,1,none⟩ = some (.slice bM aD.length bJ)) (ds:=[]) #[false,false,false,false,false,false,false,false,false] (by kernel_rfl) rfl rfl ⟨bcu yQ 0,bcu yQ 1⟩ (fun hHeld=>?_);refine gX iP.ND iP.Fq (fun HT_ HW_=>?_);generalize w6.drew = w7 at yQ HB hHeld ⊢;refine pu_ 1 8 (bl 9 2) HT_ ?_;refine pu_ 3 10 (bl 9 10) HT_ ?_;refine pu_ 4 11 (bl 9 26) HT_ ?_;refine pu_ 6 13 (bl 9 90) HT_ ?_;refine ta_ 0 7 (bl 9 91) HT_ HW_ hHeld ?_;refine ta_ 2 9 (bl 9 95) HT_ HW_ hHeld ?_;refine on_ 5 (some 12) (bl 9 127) HT_ (fun K hK=>?_);refine gS Try.func92 #[.int .i64 aH,.slice A1 l1.length c1,.slice A1 l1.length c1] ?_;(with_reducible refine (bI.calls k aH _ _ l1 _ _ l1 XW _ ?side1 ?side2 ?side3 ?side4 A4.out).mono ?_);(case side1=>exact uC ((Kd.aW HR1.out HB.out)));(case side2=>exact HC1.out);(case side3=>exact uC ((Kd.aW HR1.out HB.out)));(case side4=>exact HC1.out);rintro e w8 ⟨azJ,rfl,ho0,hb⟩;refine ⟨_,rfl,?_⟩;have NE:=zA (Kd.aX ho0 (af (uH HB.out)));replace yQ:=xB yQ hb;replace HB:=xH HB hb;(try clear hb);(try clear ho0);obtain ⟨Ao9,co9,eo9⟩:=Kd.bB NE.out;(first | subst eo9 | (injection eo9 with f1_ f2_ f3_;have f4_:=f1_.symm;have f5_:=f3_.symm;clear f1_ f2_ f3_;subst f4_;subst f5_));refine hK.out _ _ ⟨bcu yQ 0,bcu yQ 1⟩ (fun hHeld=>?_);clear hK K;refine no_ 12 ?_;refine on_ 7 (some 14) (bl 9 255) HT_ (fun K hK=>?_);refine gS Try.func35 #[.agg #[.int .i64 aH,.slice bM aD.length bJ],.slice Ao9 XW.length co9,.int .i64 a2] ?_;(with_reducible refine (jk.calls k aH _ _ aD _ _ XW a2 agP _ ?side1 ?side2 ?side3 ?side4 A5.out).mono ?_);(case side1=>exact uC ((Kd.aW fP.out HB.out)));(case side2=>exact gG.out);(case side3=>exact uC ((Kd.aM NE.out).2.2));(case side4=>exact (Kd.aM NE.out).2.1);rintro e w10 ⟨rfl,hb⟩;refine ⟨_,rfl,?_⟩;replace NE:=xR NE hb;replace yQ:=xB yQ hb;replace HB:=xH HB hb;(try clear hb);refine hK.out _ _ ⟨bcu yQ 0,bcu yQ 1⟩ (fun hHeld=>?_);clear hK K;refine no_ 14 ?_;refine pu_ 8 6 (bl 9 511) HT_ ?_;refine done_ (done_of HT_.out (by kernel_rfl)) ?_;(try go_wp2);go_ret;exact ⟨eX,uH HB.out⟩
/-! ### ek: function 66 -/
def ek.l0 : Nat → Int → List (List Int) → Int → Int → Int → Int → List Int → Option ((List (List Int)))
 | 0,_,_,_,_,_,_,_=>none
 | k + 1,x1,x5,x6,x7,x8,Gj,Gl=>if x8 < x1 then (if 0 ≤ x8 then (if x8 < (x5.length : Int) then ((iP.f k Gj Gl (gW x5 x8) 0).bind fun Ce=>((iO.f k x6 Ce).bind fun NF=>((iP.f k Gj Gl (gW x5 x8) 1).bind fun NG=>(if x6 = 0 then (none) else ((jq.f x6 (wrap64 (-(Int.tmod (wrap64 (NG * NF)) x6)))).bind fun EN=>((gQ.f k (([EN,1] : List Int))).bind fun zt=>((bI.f k x6 (gW x5 x8) zt).bind fun wo=>(if x8 > 0 then (if 0 ≤ (wrap64 (x8 - 1)) then (if (wrap64 (x8 - 1)) < (x5.length : Int) then ((iO.f k x6 x7).bind fun NH=>((jq.f x6 (wrap64 ((wrap64 (-Ce)) * NH))).bind fun NI=>((dF.f k x6 wo (gW x5 (wrap64 (x8 - 1))) NI).bind fun Fs=>(if x5.length < 5864062014805 then (ek.l0 k x1 (x5 ++ [Fs]) x6 Ce (wrap64 (x8 + 1)) Gj Gl) else (none))))) else (none)) else (none)) else (if x5.length < 5864062014805 then (ek.l0 k x1 (x5 ++ [wo]) x6 Ce (wrap64 (x8 + 1)) Gj Gl) else (none)))))))))) else (none)) else (none)) else (some x5)
def ek.f (k : Nat) (aH : Int) (aD : List Int) (a1 : Int) : Option ((List (List Int))):=ek.l0 k a1 (([(([1] : List Int))] : List (List Int))) aH 1 0 aH aD
def ek.T12 : Bool × List (List Nat × List Nat):=(true,[([],[]),([],[]),([],[]),([],[]),([3],[3]),([2,4],[2,4]),([5],[5]),([],[]),([],[]),([8],[8]),([],[]),([],[]),([10,11],[10,11]),([9,12],[9,12]),([7,13,12],[7,13]),([0,1,6,14,14],[0,1,6,14]),([15,15,0,1,2,3,4,5,6,7,8,9,10,11,12,13,14,15],[1,15])])
def ek.B12 : List Nat:=[0,0,0,0,8,28,60,0,0,256,0,0,3072,7936,16256,32767,65535]
theorem ek.XX : mf .any (opsOf Try.f66 12) = ek.T12:=by kernel_rfl
theorem ek.PW : jP ek.T12.2 ek.B12 = true:=by kernel_rfl
theorem ek.calls (k : Nat) (aH : Int) (bM : Option Addr) (bJ : Nat) (aD : List Int) (a1 : Int) (r : List (List Int)) (w : World) (hr0_1 : Kd.C (Kd.int .i64) w bM aD.length aD) (jE : aD.length ≤ bJ) (H : ek.f k aH aD a1 = some r) :
  Calls Try.prog 66 #[.agg #[.int .i64 aH,.slice bM aD.length bJ],.int .i64 a1] w fun e w'=>∃ v0_ : Value,e = .returned (v0_)∧Kd.N (Kd.slice 2 (Kd.int .i64)) 24 w' w.heap.size (fun k_=>(w.heap.size ≤ k_)) v0_ r∧Below w.heap.size w w':=by
 have uD:=Try.underlying26;have fP:=zA hr0_1;have gG:=zA jE;clear hr0_1 jE;have HB:=zA (Below.refl w.heap.size w);unfold ek.f at H;obtain ⟨XY,XZ⟩:=eY ([1] : List Int);(try rw [←XZ.out] at H);obtain ⟨auE,X0⟩:=eY ([XY] : List (List Int));(try rw [←X0.out] at H);have H':=zA H;clear H;go_enter Try.func66,Try.ntmps66;(try go_wp2_with (first | ((with_reducible refine aT (N:=2) rfl ?_);refine bx 2 #[.int .i64 aH,.slice bM aD.length bJ] 26 ?_;intro pR hg w3 hbox hb;have iM:=zA (hbox);have amu:=gq HB hg;have:=geI amu;have amv:=gq HB hg;replace HB:=xH HB hb;have:=geI amv;clear hb hbox hg)));replace iM:=zA (eD iM.out);replace HB:=zA (aZ HB.out);refine kF (n:=6) (S:=fun w'=>w'.cell? ⟨pR,0,none⟩ = some (.int .i64 aH)∧w'.cell? ⟨pR,1,none⟩ = some (.slice bM aD.length bJ)) (ds:=[]) #[false,false,false,false,false,false] (by kernel_rfl) rfl rfl ⟨bcu iM 0,bcu iM 1⟩ (fun hHeld=>?_);generalize w3.drew = w4 at iM HB hHeld ⊢;refine NJ (i:=2) (N:=some 16) (v:=?_) (a':=?_) (bl 6 4) rfl rfl (by kernel_rfl) (fun _ _ _ h=>h) (Or.inl ⟨by rfl,?_⟩) ?_ ?_;rotate_left
 ·intro w';go_simp;(with_reducible rfl)
 rotate_left
 ·simp only [Act.put,ls,lz,ln,jW,nH];rfl
 refine E5 (i:=3) (N:=some 17) (v:=?_) (a':=?_) (bl 6 12) rfl rfl (by kernel_rfl) (fun _ _ _ h=>h) (Or.inl ⟨by rfl,?_⟩) hHeld ?_ ?_;rotate_left
 ·rintro w' ⟨s0,s1⟩;go_simp;(with_reducible rfl)
 rotate_left
 ·simp only [Act.put,ls,lz,ln,jW,nH];rfl
 refine U6 (i:=0) (N:=some 14) (bl 6 13) rfl rfl (by kernel_rfl) (by decide) (fun K hK=>?_);refine Kd.nL (Kd.int .i64) _ 2 ?hg (N:=14) ?hd (xs:=([1] : List Int)) (inner:=[.int .i64 1]) (ok:=fun _=>True) (okp:=fun _=>True) ?hr ?hp (fun _ hk=>hk) trivial (Below.refl _ _) (Nat.le_refl _) (by simp) ?_;(case hd=>rfl);(case hg=>rfl);(case hr=>first | (go_simp;done) | (go_simp;rfl));(case hp=>exact (cB.one (show Kd.M (Kd.int .i64) _ _ _ 1 [.int .i64 1] from rfl) (cB.none _ _)));intro azK w5 ho6 hb hg_ hnew_;clear hg_ hnew_;(first | rw [← XZ.out] at ho6 | (simp only [Int.reduceToNat] at ho6;rw [← XZ.out] at ho6));have Sd:=zA (Kd.aX (Kd.jg (M:=fun k_=>(w.heap.size ≤ k_)) ho6 (af (uH HB.out)) (fun k_ h_=>h_)) (af (uH HB.out)));replace iM:=xB iM hb;replace HB:=xH HB hb;clear hb ho6;obtain ⟨Ao7,co7,eo7⟩:=Kd.bB Sd.out;(first | subst eo7 | (injection eo7 with f1_ f2_ f3_;have f4_:=f1_.symm;have f5_:=f3_.symm;clear f1_ f2_ f3_;subst f4_;subst f5_));refine hK.out _ _ ⟨bcu iM 0,bcu iM 1⟩ (fun hHeld=>?_);clear hK K;refine no_ 14 ?_;refine U6 (i:=1) (N:=some 15) (bl 6 15) rfl rfl (by kernel_rfl) (by decide) (fun K hK=>?_);refine Kd.OJ (Kd.slice 2 (Kd.int .i64)) _ 24 ?hg (N':=15) ?hd (xs:=([XY] : List (List Int))) (inner:=[.slice Ao7 XY.length co7]) (ok:=(fun k_=>(w.heap.size ≤ k_)∧k_ ≠ pR)) (okp:=(fun k_=>(w.heap.size ≤ k_)∧k_ ≠ pR)) ?hr ?hp (fun _ hk=>hk) ((show ∀ k_,w5.heap.size ≤ k_ → (fun k_=>(w.heap.size ≤ k_)∧k_ ≠ pR) k_ from fun k_ hk=>⟨(Nat.le_trans (af (uH HB.out)) hk),Kd.iK (g:=pR) (o:=.cells #[.int .i64 aH,.slice bM aD.length bJ] 26 (0,0)) (uB iM.out) k_ hk⟩) _ (Nat.le_refl _)) (Below.refl _ _) (Nat.le_refl _) (by simp) ?_;(case hd=>rfl);(case hg=>rfl);(case hr=>first | (go_simp;done) | (go_simp;rfl));(case hp=>exact (cB.one (show Kd.FK (Kd.slice 2 (Kd.int .i64)) _ _ XY [.slice Ao7 XY.length co7] from (Kd.pu (Kd.aM (Kd.ah (ok':=(fun k_=>(w.heap.size ≤ k_)∧k_ ≠ pR)) (Kd.dE (Sd.out) iM.out (by decide)) (fun k_ hk=>⟨hk.1.1,hk.2⟩))).2.1 (Kd.R_F (Kd.ah (ok':=(fun k_=>(w.heap.size ≤ k_)∧k_ ≠ pR)) (Kd.dE (Sd.out) iM.out (by decide)) (fun k_ hk=>⟨hk.1.1,hk.2⟩))))) (cB.none _ _)));intro azL w8 ho9 hb hg_ hnew_;clear hg_ hnew_;(first | rw [← X0.out] at ho9 | (simp only [Int.reduceToNat] at ho9;rw [← X0.out] at ho9));have amw:=zA (Kd.nu ho9 (af (uH HB.out)));replace iM:=xB iM hb;replace HB:=xH HB hb;clear Sd;clear hb ho9;refine hK.out _ _ ⟨bcu iM 0,bcu iM 1⟩ (fun hHeld=>?_);clear hK K;refine no_ 15 ?_;refine NJ (i:=4) (N:=some 5) (v:=?_) (a':=?_) (bl 6 31) rfl rfl (by kernel_rfl) (fun _ _ _ h=>h) (Or.inl ⟨by rfl,?_⟩) ?_ ?_;rotate_left
 ·intro w';go_simp;(with_reducible rfl)
 rotate_left
 ·simp only [Act.put,ls,lz,ln,jW,nH];rfl
 refine NJ (i:=5) (N:=some 6) (v:=?_) (a':=?_) (bl 6 63) rfl rfl (by kernel_rfl) (fun _ _ _ h=>h) (Or.inl ⟨by rfl,?_⟩) ?_ ?_;rotate_left
 ·intro w';go_simp;(with_reducible rfl)
 rotate_left
 ·simp only [Act.put,ls,lz,ln,jW,nH];rfl
 refine done_ (by kernel_rfl) ?_;(try go_wp2);go_loopg [5,7,8] k (fun kq v5 v7 v8 w'=>∃ (gV : List (List Int)) (kg : Int) (dM : Int),v7 = .int .i64 kg∧v8 = .int .i64 dM∧aa (ek.l0 kq a1 gV aH kg dM aH aD = some r)∧aa (kq ≤ k)∧aa (Kd.N (Kd.slice 2 (Kd.int .i64)) 24 w' w.heap.size (fun k_=>(w.heap.size ≤ k_)∧k_ ≠ pR) v5 gV)∧aa (w'.heap[pR]? = some (.cells #[.int .i64 aH,(.slice bM aD.length bJ)] 26 (0,0)))∧aa (Below w.heap.size w w'));(case atStart=>exact ⟨(auE),(1),(0),eS,eS,H',⟨Nat.le_refl _⟩,⟨uN amw.out⟩,⟨uB iM.out⟩,⟨uH HB.out⟩⟩)
 case round =>
  clear H';(try clear p2);(try clear c6);obtain ⟨gV,kg,dM,rfl,rfl,HA,HK1,iF,iM,HB⟩:=hrel
  cases gk with
  | zero=>exact absurd HA.out (by simp [ek.l0])
  | succ k1 =>
   have H:=HA.out;clear HA;simp only [ek.l0] at H;replace H:=gF H;obtain ⟨qH,H⟩|⟨qH,H⟩:=H
   ·obtain rfl:=Option.some.inj H;go_wp2;go_ret;exact ⟨_,eX,by (with_reducible repeat (first | apply Kd.kZ | apply Kd.lg | apply Kd.kR));exact Kd.iZ iF.out (fun _ hk=>hk.1),uH HB.out⟩
   replace H:=gD H;obtain ⟨yP,H⟩:=H;replace H:=gD H;obtain ⟨Fu,H⟩:=H;replace H:=bO H;obtain ⟨Ce,A13,H⟩:=H;replace H:=bO H;obtain ⟨NF,A14,H⟩:=H;replace H:=bO H;obtain ⟨NG,A15,H⟩:=H;replace H:=gI H;obtain ⟨c16,H⟩|⟨c16,H⟩:=H
   ·have Bw : (aH == 0) = false:=beq_eq_false_iff_ne.mpr c16;have RH : (aH != 0) = true:=bne_iff_ne.mpr c16;replace H:=bO H;obtain ⟨EN,A17,H⟩:=H;obtain ⟨Cf,NK⟩:=eY ([EN,1] : List Int);(try rw [←NK.out] at H);replace H:=bO H;obtain ⟨zt,A18,H⟩:=H;replace H:=bO H;obtain ⟨wo,A19,H⟩:=H;replace H:=gI H;obtain ⟨c20,H⟩|⟨c20,H⟩:=H
    ·have R5 : decide (0 < dM) = false:=decide_eq_false c20;clear c20;replace H:=gZ H;obtain ⟨amx,H⟩:=H;obtain ⟨amy,X3⟩:=eY (gV ++ [wo] : List (List Int));(try rw [←X3.out] at H);have H':=zA H;clear H;obtain ⟨azM,abz,rfl⟩:=Kd.qN iF.out;have K9 : 0 ≤ (dM : Int):=oD;have La : dM < (gV.length : Int):=oD;obtain ⟨Au,Cg,Ch,agQ,Lb,DF,DI⟩:=Ao (Kd.kw iF.out).2.2 dM K9 La;cases agQ;obtain ⟨amz,PX,PY,Im⟩:=Kd.Jn iF.out [] dM K9 (by first | exact La | exact of_decide_eq_true (by first | (with_reducible assumption) | assumption) | (have e_:=(Kd.kw iF.out).1;omega));obtain ⟨abA,abB,rfl,zu,zw⟩:=Kd.qa PY;have wY:=Im 0 _ rfl;rw [Nat.add_zero,show ((Kd.slice 2 (Kd.int .i64))).sz = 1 from rfl,Nat.mul_one] at wY;replace wY:=Option.some.inj (wY.symm.trans Lb);injection wY with hva_ hvn_ hvc_;rw [hva_] at zw;rw [hvc_] at zu;have j6:=zA (show Kd.V (Kd.int .i64) 2 _ w.heap.size _ _ (gW gV dM) from Kd.KH zu zw);clear hva_ hvn_ hvc_ zw zu;clear Im PX;have gT:=zA DI;have zx:=zA DF;clear DI DF;replace K9:=eq_true K9;replace La:=eq_true La;have QB:=bc iM 0;have aaR:=bc iM 1;have QC:=bf iM 0;have aaS:=bf iM 1;go_wp2_with (first | ((with_reducible refine ag (f:=90) rfl ?_);refine gL (some 29) Try.func90 #[.agg #[.int .i64 aH,.slice bM aD.length bJ],.slice Cg (gW gV dM).length Ch,.int .i64 0] ?_;(with_reducible refine (iP.calls k1 aH _ _ aD _ _ (gW gV dM) 0 Ce _ ?side1 ?side2 ?side3 ?side4 A13.out).mono ?_);(case side1=>exact uC ((Kd.aW fP.out HB.out)));(case side2=>exact gG.out);(case side3=>repeat (first | exact (by repeat (first | (with_reducible exact gT.out) | (with_reducible refine Kd.dU ?_ _) | (with_reducible refine Kd.dV ?_ _) | (with_reducible refine Kd.fK ?_) | exact gT.out)) | (with_reducible refine Kd.dU ?_ _) | (with_reducible refine Kd.dV ?_ _) | (with_reducible refine Kd.fK ?_)));(case side4=>exact zx.out);rintro e w47 ⟨rfl,hb⟩;refine ⟨_,rfl,?_⟩;replace iF:=zA (Kd.kv (uN iF.out) hb);replace j6:=zA (Kd.jw (uV j6.out) hb);replace iM:=xB iM hb;replace gT:=zA (Kd.aW (by repeat (first | (with_reducible exact gT.out) | (with_reducible refine Kd.dU ?_ _) | (with_reducible refine Kd.dV ?_ _) | (with_reducible refine Kd.fK ?_) | exact gT.out)) hb);replace HB:=xH HB hb;(try clear hb);(try clear hk)) | ((with_reducible refine ag (f:=91) rfl ?_);refine gL (some 32) Try.func91 #[.int .i64 aH,.int .i64 Ce] ?_;(with_reducible refine (iO.calls k1 aH Ce NF _ A14.out).mono ?_);rintro e w' ⟨rfl,⟨nd,rfl⟩⟩;refine ⟨_,rfl,?_⟩;have aq3:=bc iM 0;have aq4:=bc iM 1;have aq5:=bf iM 0;have aq6:=bf iM 1) | ((with_reducible refine ag (f:=90) rfl ?_);refine gL (some 35) Try.func90 #[.agg #[.int .i64 aH,.slice bM aD.length bJ],.slice Cg (gW gV dM).length Ch,.int .i64 1] ?_;(with_reducible refine (iP.calls k1 aH _ _ aD _ _ (gW gV dM) 1 NG _ ?side1 ?side2 ?side3 ?side4 A15.out).mono ?_);(case side1=>repeat (first | exact (Kd.aW fP.out (uH HB.out)) | (with_reducible refine Kd.dU ?_ _) | (with_reducible refine Kd.dV ?_ _) | (with_reducible refine Kd.fK ?_)));(case side2=>exact gG.out);(case side3=>repeat (first | exact (by repeat (first | (with_reducible exact gT.out) | (with_reducible refine Kd.dU ?_ _) | (with_reducible refine Kd.dV ?_ _) | (with_reducible refine Kd.fK ?_) | exact gT.out)) | (with_reducible refine Kd.dU ?_ _) | (with_reducible refine Kd.dV ?_ _) | (with_reducible refine Kd.fK ?_)));(case side4=>exact zx.out);rintro e w49 ⟨rfl,hb⟩;refine ⟨_,rfl,?_⟩;replace iF:=zA (Kd.kv (uN iF.out) hb);replace j6:=zA (Kd.jw (uV j6.out) hb);replace iM:=xB iM hb;replace gT:=zA (Kd.aW (by repeat (first | (with_reducible exact gT.out) | (with_reducible refine Kd.dU ?_ _) | (with_reducible refine Kd.dV ?_ _) | (with_reducible refine Kd.fK ?_) | exact gT.out)) hb);replace HB:=xH HB hb;(try clear hb);(try clear hk)) | ((with_reducible refine ag (f:=68) rfl ?_);refine gL (some 45) Try.func68 #[.int .i64 aH,.int .i64 (wrap64 (-(Int.tmod (wrap64 (NG * NF)) aH)))] ?_;(with_reducible refine (jq.calls aH (wrap64 (-(Int.tmod (wrap64 (NG * NF)) aH))) EN _ A17.out).mono ?_);rintro e w' ⟨rfl,⟨nd,rfl⟩⟩;refine ⟨_,rfl,?_⟩) | ((with_reducible refine aT (N:=46) rfl ?_);refine Kd.mX (Kd.int .i64) _ 2 ?hg (N:=46) ?hd (xs:=([EN,1] : List Int)) (inner:=[.int .i64 EN,.int .i64 1]) (ok:=fun _=>True) (okp:=fun _=>True) ?hr ?hp (fun _ hk=>hk) trivial (Below.refl _ _) (Nat.le_refl _) (by simp) ?_;(case hd=>rfl);(case hg=>rfl);(case hr=>first | (go_simp;done) | (go_simp;rfl));(case hp=>exact (cB.one (show Kd.M (Kd.int .i64) _ _ _ EN [.int .i64 EN] from rfl) (cB.one (show Kd.M (Kd.int .i64) _ _ _ 1 [.int .i64 1] from rfl) (cB.none _ _))));intro auF w50 PZ hb hg_ hnew_;clear hg_ hnew_;(first | rw [← NK.out] at PZ | (simp only [Int.reduceToNat] at PZ;rw [← NK.out] at PZ));replace iF:=zA (Kd.pM (uN iF.out) (Kd.aG PZ) hb);replace j6:=zA (Kd.fT (uV j6.out) (Kd.aG PZ) hb);have nO:=zA (Kd.aX (Kd.jg (M:=fun k_=>(w.heap.size ≤ k_)) PZ (af (uH HB.out)) (fun k_ h_=>h_)) (af (uH HB.out)));replace iM:=xB iM hb;replace gT:=zA (Kd.aW (by repeat (first | (with_reducible exact gT.out) | (with_reducible refine Kd.dU ?_ _) | (with_reducible refine Kd.dV ?_ _) | (with_reducible refine Kd.fK ?_) | exact gT.out)) hb);replace HB:=xH HB hb;clear hb PZ;obtain ⟨K7,K8,auG⟩:=Kd.bB nO.out;subst auG) | ((with_reducible refine ag (f:=84) rfl ?_);refine gL (some 47) Try.func84 #[.slice K7 Cf.length K8] ?_;(with_reducible refine (gQ.calls k1 _ _ Cf zt _ ?side1 ?side2 A18.out).mono ?_);(case side1=>exact uC ((Kd.aM nO.out).2.2));(case side2=>exact (Kd.aM nO.out).2.1);rintro e w53 ⟨auH,rfl,ho0,hb⟩;refine ⟨_,rfl,?_⟩;replace iF:=zA (Kd.pM (uN iF.out) (Kd.aG ho0) hb);replace j6:=zA (Kd.fT (uV j6.out) (Kd.aG ho0) hb);have pU:=zA (Kd.aX (nw (Kd.jg (M:=fun k_=>(w.heap.size ≤ k_)) ho0 (af (uH HB.out)) (fun k_ h_=>h_)) (uR nO.out)) (af (uH HB.out)));replace nO:=zA (Kd.aJ (uR nO.out) (Kd.aG ho0) hb);replace iM:=xB iM hb;replace gT:=zA (Kd.aW (by repeat (first | (with_reducible exact gT.out) | (with_reducible refine Kd.dU ?_ _) | (with_reducible refine Kd.dV ?_ _) | (with_reducible refine Kd.fK ?_) | exact gT.out)) hb);replace HB:=xH HB hb;(try clear hb);(try clear hk);(try clear ho0);obtain ⟨I1,I4,auI⟩:=Kd.bB pU.out;subst auI) | ((with_reducible refine ag (f:=92) rfl ?_);refine gL (some 48) Try.func92 #[.int .i64 aH,.slice Cg (gW gV dM).length Ch,.slice I1 zt.length I4] ?_;(with_reducible refine (bI.calls k1 aH _ _ (gW gV dM) _ _ zt wo _ ?side1 ?side2 ?side3 ?side4 A19.out).mono ?_);(case side1=>repeat (first | exact (by repeat (first | (with_reducible exact gT.out) | (with_reducible refine Kd.dU ?_ _) | (with_reducible refine Kd.dV ?_ _) | (with_reducible refine Kd.fK ?_) | exact gT.out)) | (with_reducible refine Kd.dU ?_ _) | (with_reducible refine Kd.dV ?_ _) | (with_reducible refine Kd.fK ?_)));(case side2=>exact zx.out);(case side3=>exact uC ((Kd.aM pU.out).2.2));(case side4=>exact (Kd.aM pU.out).2.1);rintro e w55 ⟨amA,rfl,ho0,hb⟩;refine ⟨_,rfl,?_⟩;replace iF:=zA (Kd.pM (uN iF.out) (Kd.aG ho0) hb);replace j6:=zA (Kd.fT (uV j6.out) (Kd.aG ho0) hb);have qI:=zA (Kd.aX (nw (nw (Kd.jg (M:=fun k_=>(w.heap.size ≤ k_)) ho0 (af (uH HB.out)) (fun k_ h_=>h_)) (uR nO.out)) (uR pU.out)) (af (uH HB.out)));replace nO:=zA (Kd.aJ (uR nO.out) (Kd.aG ho0) hb);replace pU:=zA (Kd.aJ (uR pU.out) (Kd.aG ho0) hb);replace iM:=xB iM hb;replace gT:=zA (Kd.aW (by repeat (first | (with_reducible exact gT.out) | (with_reducible refine Kd.dU ?_ _) | (with_reducible refine Kd.dV ?_ _) | (with_reducible refine Kd.fK ?_) | exact gT.out)) hb);replace HB:=xH HB hb;(try clear hb);(try clear hk);(try clear ho0);obtain ⟨TD,TE,ae5⟩:=Kd.bB qI.out;subst ae5) | ((with_reducible refine fo (b:=.append) (xs:=#[.tmp 67,.tmp 69]) rfl ?_);at_builtin;refine Kd.GX (Kd.slice 2 (Kd.int .i64)) (w0:=w) w.heap.size rfl (.tmp 67) (.tmp 69) 65 24 (.slice none 0 0) 24 rfl Try.underlying65 Hy rfl (by decide) (by omega) (.slice (some Au) gV.length abz) gV wo [.slice TD wo.length TE] (fun k_=>(w.heap.size ≤ k_)∧ax k_ (.slice K7 Cf.length K8)∧ax k_ (.slice I1 zt.length I4)∧k_ ≠ pR) (fun k_=>((fun k_=>(w.heap.size ≤ k_)∧ax k_ (.slice K7 Cf.length K8)∧ax k_ (.slice I1 zt.length I4)∧k_ ≠ pR)) k_∧ax k_ (.slice (some Au) gV.length abz)) rfl rfl ?aP (fun _ hk=>hk) ?aF ?aO ?aB ?aS ?aL ?_;(case aP=>exact (Kd.pu (Kd.aM (Kd.ah (ok':=(fun k_=>((fun k_=>(w.heap.size ≤ k_)∧ax k_ (.slice K7 Cf.length K8)∧ax k_ (.slice I1 zt.length I4)∧k_ ≠ pR)) k_∧ax k_ (.slice (some Au) gV.length abz))) (Kd.dE (Kd.vS (qI.out) (Kd.vJ iF.out) (by decide)) iM.out (by decide)) (fun k_ ⟨⟨⟨⟨⟨a,_⟩,b⟩,c⟩,f⟩,d⟩=>⟨⟨a,b,c,d⟩,f⟩))).2.1 (Kd.R_F (Kd.ah (ok':=(fun k_=>((fun k_=>(w.heap.size ≤ k_)∧ax k_ (.slice K7 Cf.length K8)∧ax k_ (.slice I1 zt.length I4)∧k_ ≠ pR)) k_∧ax k_ (.slice (some Au) gV.length abz))) (Kd.dE (Kd.vS (qI.out) (Kd.vJ iF.out) (by decide)) iM.out (by decide)) (fun k_ ⟨⟨⟨⟨⟨a,_⟩,b⟩,c⟩,f⟩,d⟩=>⟨⟨a,b,c,d⟩,f⟩)))));(case aB=>exact (uH HB.out));(case aF=>exact (fun k_ hk=>⟨(Nat.le_trans (af (uH HB.out)) hk),Kd.fresh' (Kd.ku (uR nO.out)) k_ hk,Kd.fresh' (Kd.ku (uR pU.out)) k_ hk,Kd.iK (g:=pR) (o:=.cells #[.int .i64 aH,.slice bM aD.length bJ] 26 (0,0)) (uB iM.out) k_ hk⟩));(case aO=>exact (by (with_reducible repeat (first | apply Kd.kZ | apply Kd.lg | apply Kd.kR));exact Kd.iZ iF.out (fun _ ⟨⟨⟨⟨a,d⟩,b⟩,c⟩,_⟩=>⟨a,b,c,d⟩)));(case aS=>exact (af (uH HB.out)));(case aL=>have:=amx.out;omega);intro axE w56 ho hb hg hat;rw [← X3.out] at ho;replace iM:=zA (iH (g:=pR) (o:=.cells #[.int .i64 aH,.slice bM aD.length bJ] 26 (0,0)) (uB iM.out) hg (Kd.ZI iF.out iM.out (by decide)));replace j6:=zA (Kd.lX (ok:=(fun k_=>(w.heap.size ≤ k_)∧ax k_ (.slice K7 Cf.length K8)∧ax k_ (.slice I1 zt.length I4)∧ax k_ (.slice TD wo.length TE)∧k_ ≠ pR)) (by (with_reducible repeat (first | apply Kd.jb | apply Kd.jc | apply Kd.iX));exact Kd.fD j6.out (fun _ ⟨⟨⟨⟨⟨a,f⟩,g⟩,b⟩,c⟩,d⟩=>⟨⟨a,b,c,d,f⟩,g⟩)) hg hat);replace nO:=zA (Kd.ui (uR nO.out) (Kd.vJ (uN iF.out)) (by decide) hg);replace pU:=zA (Kd.ui (uR pU.out) (Kd.vJ (uN iF.out)) (by decide) hg);replace HB:=zA (hb);have agR:=zA (ho);clear iF qI ho hb hg hat));go_roundg k1;(case measure=>have:=HK1.out;omega);(case rel=>exact ⟨(amy),(Ce),(wrap64 (dM + 1)),eS,eS,H',⟨by have:=HK1.out;omega⟩,⟨by (with_reducible repeat (first | apply Kd.kZ | apply Kd.lg | apply Kd.kR));exact Kd.iZ agR.out (fun _ hk=>⟨hk.1,hk.2.2.2⟩)⟩,⟨uB iM.out⟩,⟨uH HB.out⟩⟩)
    have R5 : decide (0 < dM) = true:=decide_eq_true c20;clear c20;obtain ⟨Jb,BB⟩ : ∃ j_ : Int,(wrap64 (dM - 1)) = j_:=⟨_,rfl⟩;(first | rw [BB] at H | simp only [BB] at H);(try rw [BB] at A13);(try rw [BB] at A14);(try rw [BB] at A15);(try rw [BB] at A17);(try rw [BB] at A18);(try rw [BB] at A19);have auJ : (IntKind.i64.wrap (dM - 1)) = Jb:=(jW _).trans BB;replace H:=gD H;obtain ⟨Wz,H⟩:=H;replace H:=gD H;obtain ⟨Nc,H⟩:=H;replace H:=bO H;obtain ⟨NH,A24,H⟩:=H;replace H:=bO H;obtain ⟨NI,A25,H⟩:=H;replace H:=bO H;obtain ⟨Fs,A26,H⟩:=H;replace H:=gZ H;obtain ⟨amB,H⟩:=H;obtain ⟨amC,X4⟩:=eY (gV ++ [Fs] : List (List Int));(try rw [←X4.out] at H);have H':=zA H;clear H;obtain ⟨wP,uF,rfl⟩:=Kd.qN iF.out;have K9 : 0 ≤ (dM : Int):=oD;have La : dM < (gV.length : Int):=oD;obtain ⟨Au,Cg,Ch,agQ,Lb,DF,DI⟩:=Ao (Kd.kw iF.out).2.2 dM K9 La;cases agQ;obtain ⟨amz,PX,PY,Im⟩:=Kd.Jn iF.out [] dM K9 (by first | exact La | exact of_decide_eq_true (by first | (with_reducible assumption) | assumption) | (have e_:=(Kd.kw iF.out).1;omega));obtain ⟨abA,abB,rfl,zu,zw⟩:=Kd.qa PY;have wY:=Im 0 _ rfl;rw [Nat.add_zero,show ((Kd.slice 2 (Kd.int .i64))).sz = 1 from rfl,Nat.mul_one] at wY;replace wY:=Option.some.inj (wY.symm.trans Lb);injection wY with hva_ hvn_ hvc_;rw [hva_] at zw;rw [hvc_] at zu;have j6:=zA (show Kd.V (Kd.int .i64) 2 _ w.heap.size _ _ (gW gV dM) from Kd.KH zu zw);clear hva_ hvn_ hvc_ zw zu;clear Im PX;have gT:=zA DI;have zx:=zA DF;clear DI DF;replace K9:=eq_true K9;replace La:=eq_true La;have Dt:=bc iM 0;have Du:=bc iM 1;have Dv:=bf iM 0;have Dw:=bf iM 1;(try go_wp2_with (first | ((with_reducible refine ag (f:=90) rfl ?_);refine gL (some 29) Try.func90 #[.agg #[.int .i64 aH,.slice bM aD.length bJ],.slice Cg (gW gV dM).length Ch,.int .i64 0] ?_;(with_reducible refine (iP.calls k1 aH _ _ aD _ _ (gW gV dM) 0 Ce _ ?side1 ?side2 ?side3 ?side4 A13.out).mono ?_);(case side1=>exact uC ((Kd.aW fP.out HB.out)));(case side2=>exact gG.out);(case side3=>repeat (first | exact (by repeat (first | (with_reducible exact gT.out) | (with_reducible refine Kd.dU ?_ _) | (with_reducible refine Kd.dV ?_ _) | (with_reducible refine Kd.fK ?_) | exact gT.out)) | (with_reducible refine Kd.dU ?_ _) | (with_reducible refine Kd.dV ?_ _) | (with_reducible refine Kd.fK ?_)));(case side4=>exact zx.out);rintro e w30 ⟨rfl,hb⟩;refine ⟨_,rfl,?_⟩;replace iF:=zA (Kd.kv (uN iF.out) hb);replace j6:=zA (Kd.jw (uV j6.out) hb);replace iM:=xB iM hb;replace gT:=zA (Kd.aW (by repeat (first | (with_reducible exact gT.out) | (with_reducible refine Kd.dU ?_ _) | (with_reducible refine Kd.dV ?_ _) | (with_reducible refine Kd.fK ?_) | exact gT.out)) hb);replace HB:=xH HB hb;(try clear hb);(try clear hk)) | ((with_reducible refine ag (f:=91) rfl ?_);refine gL (some 32) Try.func91 #[.int .i64 aH,.int .i64 Ce] ?_;(with_reducible refine (iO.calls k1 aH Ce NF _ A14.out).mono ?_);rintro e w' ⟨rfl,⟨nd,rfl⟩⟩;refine ⟨_,rfl,?_⟩;have F8:=bc iM 0;have KS:=bc iM 1;have F9:=bf iM 0;have KT:=bf iM 1) | ((with_reducible refine ag (f:=90) rfl ?_);refine gL (some 35) Try.func90 #[.agg #[.int .i64 aH,.slice bM aD.length bJ],.slice Cg (gW gV dM).length Ch,.int .i64 1] ?_;(with_reducible refine (iP.calls k1 aH _ _ aD _ _ (gW gV dM) 1 NG _ ?side1 ?side2 ?side3 ?side4 A15.out).mono ?_);(case side1=>repeat (first | exact (Kd.aW fP.out (uH HB.out)) | (with_reducible refine Kd.dU ?_ _) | (with_reducible refine Kd.dV ?_ _) | (with_reducible refine Kd.fK ?_)));(case side2=>exact gG.out);(case side3=>repeat (first | exact (by repeat (first | (with_reducible exact gT.out) | (with_reducible refine Kd.dU ?_ _) | (with_reducible refine Kd.dV ?_ _) | (with_reducible refine Kd.fK ?_) | exact gT.out)) | (with_reducible refine Kd.dU ?_ _) | (with_reducible refine Kd.dV ?_ _) | (with_reducible refine Kd.fK ?_)));(case side4=>exact zx.out);rintro e w32 ⟨rfl,hb⟩;refine ⟨_,rfl,?_⟩;replace iF:=zA (Kd.kv (uN iF.out) hb);replace j6:=zA (Kd.jw (uV j6.out) hb);replace iM:=xB iM hb;replace gT:=zA (Kd.aW (by repeat (first | (with_reducible exact gT.out) | (with_reducible refine Kd.dU ?_ _) | (with_reducible refine Kd.dV ?_ _) | (with_reducible refine Kd.fK ?_) | exact gT.out)) hb);replace HB:=xH HB hb;(try clear hb);(try clear hk)) | ((with_reducible refine ag (f:=68) rfl ?_);refine gL (some 45) Try.func68 #[.int .i64 aH,.int .i64 (wrap64 (-(Int.tmod (wrap64 (NG * NF)) aH)))] ?_;(with_reducible refine (jq.calls aH (wrap64 (-(Int.tmod (wrap64 (NG * NF)) aH))) EN _ A17.out).mono ?_);rintro e w' ⟨rfl,⟨nd,rfl⟩⟩;refine ⟨_,rfl,?_⟩) | ((with_reducible refine aT (N:=46) rfl ?_);refine Kd.mX (Kd.int .i64) _ 2 ?hg (N:=46) ?hd (xs:=([EN,1] : List Int)) (inner:=[.int .i64 EN,.int .i64 1]) (ok:=fun _=>True) (okp:=fun _=>True) ?hr ?hp (fun _ hk=>hk) trivial (Below.refl _ _) (Nat.le_refl _) (by simp) ?_;(case hd=>rfl);(case hg=>rfl);(case hr=>first | (go_simp;done) | (go_simp;rfl));(case hp=>exact (cB.one (show Kd.M (Kd.int .i64) _ _ _ EN [.int .i64 EN] from rfl) (cB.one (show Kd.M (Kd.int .i64) _ _ _ 1 [.int .i64 1] from rfl) (cB.none _ _))));intro auF w33 P5 hb hg_ hnew_;clear hg_ hnew_;(first | rw [← NK.out] at P5 | (simp only [Int.reduceToNat] at P5;rw [← NK.out] at P5));replace iF:=zA (Kd.pM (uN iF.out) (Kd.aG P5) hb);replace j6:=zA (Kd.fT (uV j6.out) (Kd.aG P5) hb);have nO:=zA (Kd.aX (Kd.jg (M:=fun k_=>(w.heap.size ≤ k_)) P5 (af (uH HB.out)) (fun k_ h_=>h_)) (af (uH HB.out)));replace iM:=xB iM hb;replace gT:=zA (Kd.aW (by repeat (first | (with_reducible exact gT.out) | (with_reducible refine Kd.dU ?_ _) | (with_reducible refine Kd.dV ?_ _) | (with_reducible refine Kd.fK ?_) | exact gT.out)) hb);replace HB:=xH HB hb;clear hb P5;obtain ⟨uQ,uS,Zw⟩:=Kd.bB nO.out;subst Zw) | ((with_reducible refine ag (f:=84) rfl ?_);refine gL (some 47) Try.func84 #[.slice uQ Cf.length uS] ?_;(with_reducible refine (gQ.calls k1 _ _ Cf zt _ ?side1 ?side2 A18.out).mono ?_);(case side1=>exact uC ((Kd.aM nO.out).2.2));(case side2=>exact (Kd.aM nO.out).2.1);rintro e w36 ⟨auH,rfl,ho0,hb⟩;refine ⟨_,rfl,?_⟩;replace iF:=zA (Kd.pM (uN iF.out) (Kd.aG ho0) hb);replace j6:=zA (Kd.fT (uV j6.out) (Kd.aG ho0) hb);have pU:=zA (Kd.aX (nw (Kd.jg (M:=fun k_=>(w.heap.size ≤ k_)) ho0 (af (uH HB.out)) (fun k_ h_=>h_)) (uR nO.out)) (af (uH HB.out)));replace nO:=zA (Kd.aJ (uR nO.out) (Kd.aG ho0) hb);replace iM:=xB iM hb;replace gT:=zA (Kd.aW (by repeat (first | (with_reducible exact gT.out) | (with_reducible refine Kd.dU ?_ _) | (with_reducible refine Kd.dV ?_ _) | (with_reducible refine Kd.fK ?_) | exact gT.out)) hb);replace HB:=xH HB hb;(try clear hb);(try clear hk);(try clear ho0);obtain ⟨KV,KW,abk⟩:=Kd.bB pU.out;subst abk) | ((with_reducible refine ag (f:=92) rfl ?_);refine gL (some 48) Try.func92 #[.int .i64 aH,.slice Cg (gW gV dM).length Ch,.slice KV zt.length KW] ?_;(with_reducible refine (bI.calls k1 aH _ _ (gW gV dM) _ _ zt wo _ ?side1 ?side2 ?side3 ?side4 A19.out).mono ?_);(case side1=>repeat (first | exact (by repeat (first | (with_reducible exact gT.out) | (with_reducible refine Kd.dU ?_ _) | (with_reducible refine Kd.dV ?_ _) | (with_reducible refine Kd.fK ?_) | exact gT.out)) | (with_reducible refine Kd.dU ?_ _) | (with_reducible refine Kd.dV ?_ _) | (with_reducible refine Kd.fK ?_)));(case side2=>exact zx.out);(case side3=>exact uC ((Kd.aM pU.out).2.2));(case side4=>exact (Kd.aM pU.out).2.1);rintro e w38 ⟨amA,rfl,ho0,hb⟩;refine ⟨_,rfl,?_⟩;replace iF:=zA (Kd.pM (uN iF.out) (Kd.aG ho0) hb);replace j6:=zA (Kd.fT (uV j6.out) (Kd.aG ho0) hb);have qI:=zA (Kd.aX (nw (nw (Kd.jg (M:=fun k_=>(w.heap.size ≤ k_)) ho0 (af (uH HB.out)) (fun k_ h_=>h_)) (uR nO.out)) (uR pU.out)) (af (uH HB.out)));replace nO:=zA (Kd.aJ (uR nO.out) (Kd.aG ho0) hb);replace pU:=zA (Kd.aJ (uR pU.out) (Kd.aG ho0) hb);replace iM:=xB iM hb;replace gT:=zA (Kd.aW (by repeat (first | (with_reducible exact gT.out) | (with_reducible refine Kd.dU ?_ _) | (with_reducible refine Kd.dV ?_ _) | (with_reducible refine Kd.fK ?_) | exact gT.out)) hb);replace HB:=xH HB hb;(try clear hb);(try clear hk);(try clear ho0))));replace iF:=zA (Kd.kR iF.out);replace j6:=zA (Kd.iX j6.out);replace nO:=zA (Kd.iV nO.out);replace pU:=zA (Kd.iV pU.out);replace qI:=zA (Kd.iV qI.out);replace iM:=zA (eD iM.out);replace gT:=zA (Kd.fK gT.out);replace HB:=zA (aZ HB.out);have Sg : 0 ≤ ((Jb) : Int):=oD;have Si : (Jb) < (gV.length : Int):=oD;obtain ⟨agS,Sj,Sk,amD,Io,NL,NM⟩:=Ao (Kd.kw iF.out).2.2 (Jb) Sg Si;obtain rfl : Au = agS:=(by injection amD);obtain ⟨auK,abC,abD,Sl⟩:=Kd.Jn iF.out [] (Jb) Sg (by first | exact Si | exact of_decide_eq_true (by first | (with_reducible assumption) | assumption) | (have e_:=(Kd.kw iF.out).1;omega));obtain ⟨amE,amF,rfl,Ip,Iq⟩:=Kd.qa abD;have DJ:=Sl 0 _ rfl;rw [Nat.add_zero,show ((Kd.slice 2 (Kd.int .i64))).sz = 1 from rfl,Nat.mul_one] at DJ;replace DJ:=Option.some.inj (DJ.symm.trans Io);injection DJ with hva_ hvn_ hvc_;rw [hva_] at Iq;rw [hvc_] at Ip;have Av:=zA (show Kd.V (Kd.int .i64) 2 _ w.heap.size _ _ (gW gV (Jb)) from Kd.KH Ip Iq);clear hva_ hvn_ hvc_ Iq Ip;clear Sl abC;have yR:=zA NM;have X5:=zA NL;clear NM NL;replace Sg:=eq_true Sg;replace Si:=eq_true Si;refine kF (n:=17) (S:=fun w'=>w'.cell? (Au.add ((Jb)).toNat) = some (.slice Sj (gW gV (Jb)).length Sk)) (ds:=[]) #[false,false,false,false,false,false,false,false,false,false,false,false,false,false,false,false,false] (by kernel_rfl) rfl rfl (Io) (fun hHeld=>?_);refine gX ek.XX ek.PW (fun HT_ HW_=>?_);generalize w38.drew = w39 at iF j6 nO pU qI iM gT HB Av yR Io hHeld ⊢;refine pu_ 0 51 (bl 17 1) HT_ ?_;refine pu_ 1 52 (bl 17 3) HT_ ?_;refine pu_ 2 53 (bl 17 7) HT_ ?_;refine pu_ 3 54 (bl 17 15) HT_ ?_;refine pu_ 4 55 (bl 17 31) HT_ ?_;refine pu_ 5 56 (bl 17 63) HT_ ?_;refine pu_ 7 58 (bl 17 191) HT_ ?_;refine pu_ 8 59 (bl 17 447) HT_ ?_;refine pu_ 9 60 (bl 17 959) HT_ ?_;refine pu_ 10 61 (bl 17 1983) HT_ ?_;refine pu_ 11 62 (bl 17 4031) HT_ ?_;refine E5 (i:=6) (N:=some 57) (v:=?_) (a':=?_) (bl 17 4095) rfl rfl (Ig HT_.out HW_.out (by kernel_rfl)) (fun _ _ _ h=>h) (Or.inl ⟨by rfl,?_⟩) hHeld ?_ ?_;rotate_left
    ·intro w' s0;go_simp;(with_reducible rfl)
    rotate_left
    ·simp only [Act.put,ls,lz,ln,jW,nH];rfl
    refine on_ 12 (some 63) (bl 17 8191) HT_ (fun K hK=>?_);refine gS Try.func91 #[.int .i64 aH,.int .i64 kg] ?_;(with_reducible refine (iO.calls k1 aH kg NH _ A24.out).mono ?_);rintro e w' ⟨rfl,⟨nd,rfl⟩⟩;refine ⟨_,rfl,?_⟩;refine hK.out _ _ (hHeld) (fun hHeld=>?_);clear hK K;refine no_ 63 ?_;refine pu_ 13 64 (bl 17 16383) HT_ ?_;refine on_ 14 (some 65) (bl 17 32767) HT_ (fun K hK=>?_);refine gS Try.func68 #[.int .i64 aH,.int .i64 (wrap64 ((wrap64 (-Ce)) * NH))] ?_;(with_reducible refine (jq.calls aH (wrap64 ((wrap64 (-Ce)) * NH)) NI _ A25.out).mono ?_);rintro e w' ⟨rfl,⟨nd,rfl⟩⟩;refine ⟨_,rfl,?_⟩;obtain ⟨P6,P7,amG⟩:=Kd.bB qI.out;(first | subst amG | (injection amG with f1_ f2_ f3_;have f4_:=f1_.symm;have f5_:=f3_.symm;clear f1_ f2_ f3_;subst f4_;subst f5_));refine hK.out _ _ (hHeld) (fun hHeld=>?_);clear hK K;refine no_ 65 ?_;refine on_ 15 (some 66) (bl 17 65535) HT_ (fun K hK=>?_);refine G5 Try.func67 (by kernel_rfl) rfl #[.int .i64 aH,.slice P6 wo.length P7,.slice Sj (gW gV (Jb)).length Sk,.int .i64 NI] (by rfl) rfl rfl (by (try simp only [la,lb,lc]);first | done | (simp only [BB];rfl) | rfl | (simp only [ld,le];rfl)) ?_;(with_reducible refine (dF.calls k1 aH _ _ wo _ _ (gW gV (Jb)) NI Fs _ ?side1 ?side2 ?side3 ?side4 A26.out).mono ?_);(case side1=>exact uC ((Kd.aM qI.out).2.2));(case side2=>exact (Kd.aM qI.out).2.1);(case side3=>repeat (first | exact (by repeat (first | (with_reducible exact yR.out) | (with_reducible refine Kd.dU ?_ _) | (with_reducible refine Kd.dV ?_ _) | (with_reducible refine Kd.fK ?_) | exact yR.out)) | (with_reducible refine Kd.dU ?_ _) | (with_reducible refine Kd.dV ?_ _) | (with_reducible refine Kd.fK ?_)));(case side4=>exact X5.out);rintro e w41 ⟨axF,rfl,ho0,hb⟩;have auL:=(hb.cell (World.block_lt_of_cell? _ _ (hHeld))).trans (hHeld);refine ⟨_,rfl,?_⟩;replace iF:=zA (Kd.pM (uN iF.out) (Kd.aG ho0) hb);replace j6:=zA (Kd.fT (uV j6.out) (Kd.aG ho0) hb);replace Av:=zA (Kd.fT (uV Av.out) (Kd.aG ho0) hb);have Lc:=zA (Kd.aX (nw (nw (nw (Kd.jg (M:=fun k_=>(w.heap.size ≤ k_)) ho0 (af (uH HB.out)) (fun k_ h_=>h_)) (uR nO.out)) (uR pU.out)) (uR qI.out)) (af (uH HB.out)));replace nO:=zA (Kd.aJ (uR nO.out) (Kd.aG ho0) hb);replace pU:=zA (Kd.aJ (uR pU.out) (Kd.aG ho0) hb);replace qI:=zA (Kd.aJ (uR qI.out) (Kd.aG ho0) hb);replace iM:=xB iM hb;replace gT:=zA (Kd.aW (by repeat (first | (with_reducible exact gT.out) | (with_reducible refine Kd.dU ?_ _) | (with_reducible refine Kd.dV ?_ _) | (with_reducible refine Kd.fK ?_) | exact gT.out)) hb);replace yR:=zA (Kd.aW (by repeat (first | (with_reducible exact yR.out) | (with_reducible refine Kd.dU ?_ _) | (with_reducible refine Kd.dV ?_ _) | (with_reducible refine Kd.fK ?_) | exact yR.out)) hb);replace HB:=xH HB hb;(try clear hb);(try clear ho0);refine hK.out _ _ (auL) (fun hHeld=>?_);clear hK K;refine no_ 66 ?_;refine pu_ 16 13 (bl 17 131071) HT_ ?_;refine done_ (done_of HT_.out (by kernel_rfl)) ?_;obtain ⟨tJ,tK,rfl⟩:=Kd.bB Lc.out;(try go_wp2_with (first | ((with_reducible refine fo (b:=.append) (xs:=#[.tmp 67,.tmp 69]) rfl ?_);at_builtin;refine Kd.GX (Kd.slice 2 (Kd.int .i64)) (w0:=w) w.heap.size rfl (.tmp 67) (.tmp 69) 65 24 (.slice none 0 0) 24 rfl Try.underlying65 Hy rfl (by decide) (by omega) (.slice (some Au) gV.length uF) gV Fs [.slice tJ Fs.length tK] (fun k_=>(w.heap.size ≤ k_)∧ax k_ (.slice uQ Cf.length uS)∧ax k_ (.slice KV zt.length KW)∧ax k_ (.slice P6 wo.length P7)∧k_ ≠ pR) (fun k_=>((fun k_=>(w.heap.size ≤ k_)∧ax k_ (.slice uQ Cf.length uS)∧ax k_ (.slice KV zt.length KW)∧ax k_ (.slice P6 wo.length P7)∧k_ ≠ pR)) k_∧ax k_ (.slice (some Au) gV.length uF)) rfl rfl ?aP (fun _ hk=>hk) ?aF ?aO ?aB ?aS ?aL ?_;(case aP=>exact (Kd.pu (Kd.aM (Kd.ah (ok':=(fun k_=>((fun k_=>(w.heap.size ≤ k_)∧ax k_ (.slice uQ Cf.length uS)∧ax k_ (.slice KV zt.length KW)∧ax k_ (.slice P6 wo.length P7)∧k_ ≠ pR)) k_∧ax k_ (.slice (some Au) gV.length uF))) (Kd.dE (Kd.vS (Lc.out) (Kd.vJ iF.out) (by decide)) iM.out (by decide)) (fun k_ ⟨⟨⟨⟨⟨⟨a,_⟩,b⟩,c⟩,d⟩,g⟩,f⟩=>⟨⟨a,b,c,d,f⟩,g⟩))).2.1 (Kd.R_F (Kd.ah (ok':=(fun k_=>((fun k_=>(w.heap.size ≤ k_)∧ax k_ (.slice uQ Cf.length uS)∧ax k_ (.slice KV zt.length KW)∧ax k_ (.slice P6 wo.length P7)∧k_ ≠ pR)) k_∧ax k_ (.slice (some Au) gV.length uF))) (Kd.dE (Kd.vS (Lc.out) (Kd.vJ iF.out) (by decide)) iM.out (by decide)) (fun k_ ⟨⟨⟨⟨⟨⟨a,_⟩,b⟩,c⟩,d⟩,g⟩,f⟩=>⟨⟨a,b,c,d,f⟩,g⟩)))));(case aB=>exact (uH HB.out));(case aF=>exact (fun k_ hk=>⟨(Nat.le_trans (af (uH HB.out)) hk),Kd.fresh' (Kd.ku (uR nO.out)) k_ hk,Kd.fresh' (Kd.ku (uR pU.out)) k_ hk,Kd.fresh' (Kd.ku (uR qI.out)) k_ hk,Kd.iK (g:=pR) (o:=.cells #[.int .i64 aH,.slice bM aD.length bJ] 26 (0,0)) (uB iM.out) k_ hk⟩));(case aO=>exact (by (with_reducible repeat (first | apply Kd.kZ | apply Kd.lg | apply Kd.kR));exact Kd.iZ iF.out (fun _ ⟨⟨⟨⟨⟨a,f⟩,b⟩,c⟩,d⟩,_⟩=>⟨a,b,c,d,f⟩)));(case aS=>exact (af (uH HB.out)));(case aL=>have:=amB.out;omega);intro axG w42 ho hb hg hat;rw [← X4.out] at ho;replace iM:=zA (iH (g:=pR) (o:=.cells #[.int .i64 aH,.slice bM aD.length bJ] 26 (0,0)) (uB iM.out) hg (Kd.ZI iF.out iM.out (by decide)));replace j6:=zA (Kd.lX (ok:=(fun k_=>(w.heap.size ≤ k_)∧ax k_ (.slice uQ Cf.length uS)∧ax k_ (.slice KV zt.length KW)∧ax k_ (.slice P6 wo.length P7)∧ax k_ (.slice tJ Fs.length tK)∧k_ ≠ pR)) (by (with_reducible repeat (first | apply Kd.jb | apply Kd.jc | apply Kd.iX));exact Kd.fD j6.out (fun _ ⟨⟨⟨⟨⟨⟨a,g⟩,h⟩,b⟩,c⟩,d⟩,f⟩=>⟨⟨a,b,c,d,f,g⟩,h⟩)) hg hat);replace nO:=zA (Kd.ui (uR nO.out) (Kd.vJ (uN iF.out)) (by decide) hg);replace pU:=zA (Kd.ui (uR pU.out) (Kd.vJ (uN iF.out)) (by decide) hg);replace qI:=zA (Kd.ui (uR qI.out) (Kd.vJ (uN iF.out)) (by decide) hg);replace Av:=zA (Kd.lX (ok:=(fun k_=>(w.heap.size ≤ k_)∧ax k_ (.slice uQ Cf.length uS)∧ax k_ (.slice KV zt.length KW)∧ax k_ (.slice P6 wo.length P7)∧ax k_ (.slice tJ Fs.length tK)∧k_ ≠ pR)) (by (with_reducible repeat (first | apply Kd.jb | apply Kd.jc | apply Kd.iX));exact Kd.fD Av.out (fun _ ⟨⟨⟨⟨⟨⟨a,g⟩,b⟩,c⟩,d⟩,h⟩,f⟩=>⟨⟨a,b,c,d,f,g⟩,h⟩)) hg hat);replace HB:=zA (hb);have agT:=zA (ho);clear iF Lc ho hb hg hat)));go_roundg k1;(case measure=>have:=HK1.out;omega);(case rel=>exact ⟨(amC),(Ce),(wrap64 (dM + 1)),eS,eS,H',⟨by have:=HK1.out;omega⟩,⟨by (with_reducible repeat (first | apply Kd.kZ | apply Kd.lg | apply Kd.kR));exact Kd.iZ agT.out (fun _ hk=>⟨hk.1,hk.2.2.2.2⟩)⟩,⟨uB iM.out⟩,⟨uH HB.out⟩⟩)
   exact absurd H (by simp)
/- Lists all of whose elements answer yes: the plain function that areAll computes, and its printed loop. -/
/-- Do all elements answer yes? (Asked from the first one on, up to the first no.) -/
def DK {α : Type} (p : α → Option Bool) : List α → Option Bool
  | []=>some true
  | x :: l=>(p x).bind fun b=>if b = true then DK p l else some false

def iq.f (l : List Int) (p : Int → Option Bool) : Option Bool:=if l.length < 4611686018427387904 then DK p l else none

theorem JO {i : Int} {n : Nat} (h0 : 0 ≤ i) (h1 : i < (n : Int)) (h2 : n < 4611686018427387904) : wrap64 (i + 1) = i + 1:=by
  unfold wrap64;omega

theorem EO {α : Type} (l : List α) (d : α) (i : Nat) (h : i < l.length) : l.drop i = l.getD i d :: l.drop (i + 1):=by
  rw [List.drop_eq_getElem_cons h];simp [List.getD,h]

theorem Ir (p : Int → Option Bool) (l : List Int) (hl : l.length < 4611686018427387904) (d : Nat) : ∀ (k i : Nat) (r : Bool),i + d = l.length → d < k → DK p (l.drop i) = some r →
    ∃ j,dN.l0 k l (fun z_=>jv.f z_ p) (l.length : Int) (i : Int) = some j∧decide (j ≥ 0) = !r:=by
  induction d with
  | zero =>
    intro k i r hi hk h
    obtain ⟨k,rfl⟩ : ∃ m,k = m + 1:=⟨k - 1,by omega⟩
    simp only [dN.l0]
    rw [if_neg (by omega)]
    rw [List.drop_eq_nil_of_le (by omega)] at h
    simp only [DK,Option.some.injEq] at h
    subst h
    exact ⟨-1,rfl,rfl⟩
  | succ d ih =>
    intro k i r hi hk h
    obtain ⟨k,rfl⟩ : ∃ m,k = m + 1:=⟨k - 1,by omega⟩
    simp only [dN.l0]
    rw [if_pos (by omega),if_pos (by omega),if_pos (by omega)]
    rw [EO l 0 i (by omega)] at h
    simp only [DK] at h
    have e : rd l (i : Int) = l.getD i 0:=by simp [rd]
    rw [e]
    obtain ⟨b,hb,h⟩:=Option.bind_eq_some_iff.mp h
    simp only [jv.f,hb,Option.bind_some]
    cases b with
    | true =>
      rw [if_pos rfl] at h
      simp only [Bool.not_true,Bool.false_eq_true,if_false]
      rw [JO (n:=l.length) (by omega) (by omega) hl]
      exact ih k (i + 1) r (by omega) (by omega) h
    | false =>
      simp only [Bool.false_eq_true,if_false,Option.some.injEq] at h
      subst h
      simp only [Bool.not_false,if_true]
      exact ⟨i,rfl,by simp⟩

theorem Jc {l : List Int} {p : Int → Option Bool} {r : Bool} (h : iq.f l p = some r) : lw.f (l.length + 1) l p = some r:=by
  unfold iq.f at h
  split at h
  · rename_i hl
    obtain ⟨j,h1,h2⟩:=Ir p l hl l.length (l.length + 1) 0 r (by omega) (by omega) (by simpa using h)
    unfold lw.f jG.f dN.f
    have h1' : dN.l0 (l.length + 1) l (fun z_=>jv.f z_ p) (l.length : Int) 0 = some j:=h1
    rw [h1']
    simp only [Option.bind_some,h2,Bool.not_not]
  · cases h
theorem iq.calls (A0 : Option Addr) (c0 : Nat) (l0 : List Int) (F1 : Value) (a1 : (Int → Option Bool)) (r : Bool) (w : World) (hr0 : Kd.C (Kd.int .i64) w A0 l0.length l0) (hc0 : l0.length ≤ c0) (hF1 : FnI Try.prog w F1 a1) (h : iq.f l0 a1 = some r) :
    Calls Try.prog 39 #[.slice A0 l0.length c0,F1] w fun e w'=>e = .returned (.bool r)∧Below w.heap.size w w' :=
  lw.calls _ A0 c0 l0 F1 a1 r w hr0 hc0 hF1 (Jc h)
/-! ### eQ: function 9 -/
def eQ.f (k : Nat) (aH : Int) (aD : List Int) : Option (Bool):=(iA.f k aH).bind fun amH=>(if amH = true then ((eP.f aD).bind fun NN=>((l7.f NN 1 24).bind fun amI=>(if amI = true then ((eO.f aH aD).bind fun P8=>((iq.f aD (fun z_=>fG.f P8 z_)).bind fun agU=>(some agU))) else (some false)))) else (some false))
def eQ.T1 : Bool × List (List Nat × List Nat):=(true,[([],[]),([0],[0]),([1],[1]),([2,2],[2]),([3],[3]),([4,3],[3,4]),([5,3,3],[3,5]),([6,6,3],[3,6]),([3,7],[3,7]),([8,7],[8]),([9],[9]),([10,9],[9,10]),([9],[9]),([12,9,9],[9,12]),([13,9],[9,13]),([11,14,13,9],[9,11,14]),([9,15],[9,15]),([16,15,0,1,2,3,4,5,6,7,8,9,10,11,12,13,14,15,16],[16])])
def eQ.B1 : List Nat:=[0,1,3,7,15,31,63,127,255,511,1023,2047,1023,5119,13311,32767,65535,131071]
theorem eQ.ND : mf .any (opsOf Try.f9 1) = eQ.T1:=by kernel_rfl
theorem eQ.Fq : jP eQ.T1.2 eQ.B1 = true:=by kernel_rfl
theorem eQ.calls (k : Nat) (aH : Int) (bM : Option Addr) (bJ : Nat) (aD : List Int) (r : Bool) (w : World) (hr0_1 : Kd.C (Kd.int .i64) w bM aD.length aD) (jE : aD.length ≤ bJ) (H : eQ.f k aH aD = some r) :
  Calls Try.prog 9 #[.agg #[.int .i64 aH,.slice bM aD.length bJ]] w fun e w'=>e = .returned (.bool r)∧Below w.heap.size w w':=by
 have uD:=Try.underlying26;have hmf : ∀ (fn_ : Fn) (first_ cap_ : Array Value) (w_ : World),(Instr.makeFunc fn_ first_ cap_).run Try.prog w_ = .ok (.func fn_ first_ cap_) w_:=fun _ _ _ _=>rfl;have fP:=zA hr0_1;have gG:=zA jE;clear hr0_1 jE;have HB:=zA (Below.refl w.heap.size w);unfold eQ.f at H;replace H:=bO H;obtain ⟨amH,A2,H⟩:=H;replace H:=gB H;obtain ⟨rfl,H⟩|⟨rfl,H⟩:=H
 ·replace H:=bO H;obtain ⟨NN,A4,H⟩:=H;replace H:=bO H;obtain ⟨amI,A5,H⟩:=H;replace H:=gB H;obtain ⟨rfl,H⟩|⟨rfl,H⟩:=H
  ·replace H:=bO H;obtain ⟨P8,A7,H⟩:=H;replace H:=bO H;obtain ⟨agU,A8,H⟩:=H;obtain rfl:=Option.some.inj H;go_enter Try.func9,Try.ntmps9;(try go_wp2_with (first | ((with_reducible refine aT (N:=1) rfl ?_);refine bx 1 #[.int .i64 aH,.slice bM aD.length bJ] 26 ?_;intro Fv hg w9 hbox hb;have lY:=zA (hbox);have NP:=gq HB hg;have:=geI NP;have NQ:=gq HB hg;replace HB:=xH HB hb;have:=geI NQ;clear hb hbox hg)));replace lY:=zA (eD lY.out);replace HB:=zA (aZ HB.out);refine kF (n:=18) (S:=fun w'=>w'.cell? ⟨Fv,0,none⟩ = some (.int .i64 aH)∧w'.cell? ⟨Fv,1,none⟩ = some (.slice bM aD.length bJ)) (ds:=[]) #[false,false,false,false,false,false,false,false,false,false,false,false,false,false,false,false,false,false] (by kernel_rfl) rfl rfl ⟨bcu lY 0,bcu lY 1⟩ (fun hHeld=>?_);refine gX eQ.ND eQ.Fq (fun HT_ HW_=>?_);generalize w9.drew = w10 at lY HB hHeld ⊢;refine pu_ 0 3 (bl 18 1) HT_ ?_;refine ta_ 1 4 (bl 18 3) HT_ HW_ hHeld ?_;refine on_ 2 (some 5) (bl 18 7) HT_ (fun K hK=>?_);refine gS Try.func36 #[.int .i64 aH] ?_;(with_reducible refine (iA.calls k aH true _ A2.out).mono ?_);rintro e w' ⟨rfl,⟨nd,rfl⟩⟩;refine ⟨_,rfl,?_⟩;refine hK.out _ _ ⟨bcu lY 0,bcu lY 1⟩ (fun hHeld=>?_);clear hK K;refine no_ 5 ?_;refine pu_ 3 6 (bl 18 15) HT_ ?_;refine pu_ 4 7 (bl 18 31) HT_ ?_;refine ta_ 5 8 (bl 18 63) HT_ HW_ hHeld ?_;refine on_ 6 (some 9) (bl 18 127) HT_ (fun K hK=>?_);refine gS Try.func38 #[.slice bM aD.length bJ] ?_;(with_reducible refine (eP.calls _ _ aD NN _ ?side1 ?side2 A4.out).mono ?_);(case side1=>repeat (first | exact (Kd.aW fP.out (uH HB.out)) | (with_reducible refine Kd.dU ?_ _) | (with_reducible refine Kd.dV ?_ _) | (with_reducible refine Kd.fK ?_)));(case side2=>exact gG.out);rintro e w' ⟨rfl,⟨nd,rfl⟩⟩;refine ⟨_,rfl,?_⟩;refine hK.out _ _ ⟨bcu lY 0,bcu lY 1⟩ (fun hHeld=>?_);clear hK K;refine no_ 9 ?_;refine on_ 7 (some 10) (bl 18 255) HT_ (fun K hK=>?_);refine gS Try.func37 #[.int .i64 NN,.int .i64 1,.int .i64 24] ?_;(with_reducible refine (l7.calls NN 1 24 true _ A5.out).mono ?_);rintro e w' ⟨rfl,⟨nd,rfl⟩⟩;refine ⟨_,rfl,?_⟩;refine hK.out _ _ ⟨bcu lY 0,bcu lY 1⟩ (fun hHeld=>?_);clear hK K;refine no_ 10 ?_;refine pu_ 8 11 (bl 18 511) HT_ ?_;refine pu_ 9 12 (bl 18 1023) HT_ ?_;refine pu_ 10 13 (bl 18 2047) HT_ ?_;refine ta_ 11 14 (bl 18 4095) HT_ HW_ hHeld ?_;refine ta_ 12 15 (bl 18 8191) HT_ HW_ hHeld ?_;refine on_ 13 (some 16) (bl 18 16383) HT_ (fun K hK=>?_);refine gS Try.func40 #[.agg #[.int .i64 aH,.slice bM aD.length bJ]] ?_;(with_reducible refine (eO.calls aH _ _ aD P8 _ ?side1 ?side2 A7.out).mono ?_);(case side1=>repeat (first | exact (Kd.aW fP.out (uH HB.out)) | (with_reducible refine Kd.dU ?_ _) | (with_reducible refine Kd.dV ?_ _) | (with_reducible refine Kd.fK ?_)));(case side2=>exact gG.out);rintro e w11 ⟨rfl,hb⟩;refine ⟨_,rfl,?_⟩;replace lY:=xB lY hb;replace HB:=xH HB hb;(try clear hb);refine hK.out _ _ ⟨bcu lY 0,bcu lY 1⟩ (fun hHeld=>?_);clear hK K;refine no_ 16 ?_;refine pu_ 14 17 (bl 18 32767) HT_ ?_;refine on_ 15 (some 18) (bl 18 65535) HT_ (fun K hK=>?_);refine gS Try.func39 #[.slice bM aD.length bJ,(.func (.func 41) #[.int .i64 P8] #[])] ?_;(with_reducible refine (iq.calls _ _ aD _ (fun z_=>fG.f P8 z_) agU _ ?side1 ?side2 ?side3 A8.out).mono ?_);(case side1=>exact uC ((Kd.aW fP.out HB.out)));(case side2=>exact gG.out);(case side3=>exact FnI.of Try.func41 (by kernel_rfl) rfl (fun z_ r_ hr_ W_ hW_=>dR (args':=#[.int .i64 P8,.int .i64 z_]) (by simp) ((fG.calls P8 z_ r_ W_  hr_).mono fun e_ W2_ h_=>⟨h_.1,h_.2.below⟩)));rintro e w12 ⟨rfl,hb⟩;refine ⟨_,rfl,?_⟩;replace lY:=xB lY hb;replace HB:=xH HB hb;(try clear hb);refine hK.out _ _ ⟨bcu lY 0,bcu lY 1⟩ (fun hHeld=>?_);clear hK K;refine no_ 18 ?_;refine pu_ 16 19 (bl 18 131071) HT_ ?_;refine pu_ 17 2 (bl 18 262143) HT_ ?_;refine done_ (done_of HT_.out (by kernel_rfl)) ?_;(try go_wp2);go_ret;exact ⟨eX,uH HB.out⟩
  ·obtain rfl:=Option.some.inj H;go_enter Try.func9,Try.ntmps9;(try go_wp2_with (first | ((with_reducible refine aT (N:=1) rfl ?_);refine bx 1 #[.int .i64 aH,.slice bM aD.length bJ] 26 ?_;intro Fv hg w13 hbox hb;have lY:=zA (hbox);have NP:=gq HB hg;have:=geI NP;have NQ:=gq HB hg;replace HB:=xH HB hb;have:=geI NQ;clear hb hbox hg)));replace lY:=zA (eD lY.out);replace HB:=zA (aZ HB.out);refine kF (n:=18) (S:=fun w'=>w'.cell? ⟨Fv,0,none⟩ = some (.int .i64 aH)∧w'.cell? ⟨Fv,1,none⟩ = some (.slice bM aD.length bJ)) (ds:=[]) #[false,false,false,false,false,false,false,false,false,false,false,false,false,false,false,false,false,false] (by kernel_rfl) rfl rfl ⟨bcu lY 0,bcu lY 1⟩ (fun hHeld=>?_);refine gX eQ.ND eQ.Fq (fun HT_ HW_=>?_);generalize w13.drew = w14 at lY HB hHeld ⊢;refine pu_ 0 3 (bl 18 1) HT_ ?_;refine ta_ 1 4 (bl 18 3) HT_ HW_ hHeld ?_;refine on_ 2 (some 5) (bl 18 7) HT_ (fun K hK=>?_);refine gS Try.func36 #[.int .i64 aH] ?_;(with_reducible refine (iA.calls k aH true _ A2.out).mono ?_);rintro e w' ⟨rfl,⟨nd,rfl⟩⟩;refine ⟨_,rfl,?_⟩;refine hK.out _ _ ⟨bcu lY 0,bcu lY 1⟩ (fun hHeld=>?_);clear hK K;refine no_ 5 ?_;refine pu_ 3 6 (bl 18 15) HT_ ?_;refine pu_ 4 7 (bl 18 31) HT_ ?_;refine ta_ 5 8 (bl 18 63) HT_ HW_ hHeld ?_;refine on_ 6 (some 9) (bl 18 127) HT_ (fun K hK=>?_);refine gS Try.func38 #[.slice bM aD.length bJ] ?_;(with_reducible refine (eP.calls _ _ aD NN _ ?side1 ?side2 A4.out).mono ?_);(case side1=>repeat (first | exact (Kd.aW fP.out (uH HB.out)) | (with_reducible refine Kd.dU ?_ _) | (with_reducible refine Kd.dV ?_ _) | (with_reducible refine Kd.fK ?_)));(case side2=>exact gG.out);rintro e w' ⟨rfl,⟨nd,rfl⟩⟩;refine ⟨_,rfl,?_⟩;refine hK.out _ _ ⟨bcu lY 0,bcu lY 1⟩ (fun hHeld=>?_);clear hK K;refine no_ 9 ?_;refine on_ 7 (some 10) (bl 18 255) HT_ (fun K hK=>?_);refine gS Try.func37 #[.int .i64 NN,.int .i64 1,.int .i64 24] ?_;(with_reducible refine (l7.calls NN 1 24 false _ A5.out).mono ?_);rintro e w' ⟨rfl,⟨nd,rfl⟩⟩;refine ⟨_,rfl,?_⟩;refine hK.out _ _ ⟨bcu lY 0,bcu lY 1⟩ (fun hHeld=>?_);clear hK K;refine no_ 10 ?_;refine pu_ 8 11 (bl 18 511) HT_ ?_;refine pu_ 9 12 (bl 18 1023) HT_ ?_;refine un_ 10 13 (bl 18 2047) HT_ ?_;refine un_ 11 14 (bl 18 4095) HT_ ?_;refine un_ 12 15 (bl 18 8191) HT_ ?_;refine un_ 13 16 (bl 18 16383) HT_ ?_;refine un_ 14 17 (bl 18 32767) HT_ ?_;refine un_ 15 18 (bl 18 65535) HT_ ?_;refine pu_ 16 19 (bl 18 131071) HT_ ?_;refine pu_ 17 2 (bl 18 262143) HT_ ?_;refine done_ (done_of HT_.out (by kernel_rfl)) ?_;(try go_wp2);go_ret;exact ⟨eX,uH HB.out⟩
 ·obtain rfl:=Option.some.inj H;go_enter Try.func9,Try.ntmps9;(try go_wp2_with (first | ((with_reducible refine aT (N:=1) rfl ?_);refine bx 1 #[.int .i64 aH,.slice bM aD.length bJ] 26 ?_;intro Fv hg w15 hbox hb;have lY:=zA (hbox);have NP:=gq HB hg;have:=geI NP;have NQ:=gq HB hg;replace HB:=xH HB hb;have:=geI NQ;clear hb hbox hg)));replace lY:=zA (eD lY.out);replace HB:=zA (aZ HB.out);refine kF (n:=18) (S:=fun w'=>w'.cell? ⟨Fv,0,none⟩ = some (.int .i64 aH)∧w'.cell? ⟨Fv,1,none⟩ = some (.slice bM aD.length bJ)) (ds:=[]) #[false,false,false,false,false,false,false,false,false,false,false,false,false,false,false,false,false,false] (by kernel_rfl) rfl rfl ⟨bcu lY 0,bcu lY 1⟩ (fun hHeld=>?_);refine gX eQ.ND eQ.Fq (fun HT_ HW_=>?_);generalize w15.drew = w16 at lY HB hHeld ⊢;refine pu_ 0 3 (bl 18 1) HT_ ?_;refine ta_ 1 4 (bl 18 3) HT_ HW_ hHeld ?_;refine on_ 2 (some 5) (bl 18 7) HT_ (fun K hK=>?_);refine gS Try.func36 #[.int .i64 aH] ?_;(with_reducible refine (iA.calls k aH false _ A2.out).mono ?_);rintro e w' ⟨rfl,⟨nd,rfl⟩⟩;refine ⟨_,rfl,?_⟩;refine hK.out _ _ ⟨bcu lY 0,bcu lY 1⟩ (fun hHeld=>?_);clear hK K;refine no_ 5 ?_;refine pu_ 3 6 (bl 18 15) HT_ ?_;refine un_ 4 7 (bl 18 31) HT_ ?_;refine un_ 5 8 (bl 18 63) HT_ ?_;refine un_ 6 9 (bl 18 127) HT_ ?_;refine un_ 7 10 (bl 18 255) HT_ ?_;refine pu_ 8 11 (bl 18 511) HT_ ?_;refine pu_ 9 12 (bl 18 1023) HT_ ?_;refine un_ 10 13 (bl 18 2047) HT_ ?_;refine un_ 11 14 (bl 18 4095) HT_ ?_;refine un_ 12 15 (bl 18 8191) HT_ ?_;refine un_ 13 16 (bl 18 16383) HT_ ?_;refine un_ 14 17 (bl 18 32767) HT_ ?_;refine un_ 15 18 (bl 18 65535) HT_ ?_;refine pu_ 16 19 (bl 18 131071) HT_ ?_;refine pu_ 17 2 (bl 18 262143) HT_ ?_;refine done_ (done_of HT_.out (by kernel_rfl)) ?_;(try go_wp2);go_ret;exact ⟨eX,uH HB.out⟩
/-! ### pz: function 81 -/
def pz.f (a0 : Int) (l1 : List Int) : Option (Bool):=if (l1.length : Int) ≤ 25 then ((iq.f l1 (fun z_=>fG.f a0 z_)).bind fun amJ=>(if amJ = true then (if (l1.length : Int) = 0 then (some true) else (if 0 ≤ (wrap64 ((l1.length : Int) - 1)) then (if (wrap64 ((l1.length : Int) - 1)) < (l1.length : Int) then (some ((rd l1 (wrap64 ((l1.length : Int) - 1))) != 0)) else (none)) else (none))) else (some false))) else (some false)
theorem pz.calls (a0 : Int) (A1 : Option Addr) (c1 : Nat) (l1 : List Int) (r : Bool) (w : World) (hr1 : Kd.C (Kd.int .i64) w A1 l1.length l1) (hc1 : l1.length ≤ c1) (H : pz.f a0 l1 = some r) :
  Calls Try.prog 81 #[.int .i64 a0,.slice A1 l1.length c1] w fun e w'=>e = .returned (.bool r)∧Below w.heap.size w w':=by
 have hmf : ∀ (fn_ : Fn) (first_ cap_ : Array Value) (w_ : World),(Instr.makeFunc fn_ first_ cap_).run Try.prog w_ = .ok (.func fn_ first_ cap_) w_:=fun _ _ _ _=>rfl;have HR1:=zA hr1;have HC1:=zA hc1;clear hr1 hc1;have HB:=zA (Below.refl w.heap.size w);unfold pz.f at H;replace H:=gI H;obtain ⟨c3,H⟩|⟨c3,H⟩:=H
 ·have rH : decide ((l1.length : Int) ≤ 25) = false:=decide_eq_false c3;have FD : decide (l1.length ≤ 25) = false:=decide_eq_false (by omega);clear c3;obtain rfl:=Option.some.inj H;go_enter Try.func81,Try.ntmps81;go_wp2;go_ret;exact ⟨eX,uH HB.out⟩
 have rH : decide ((l1.length : Int) ≤ 25) = true:=decide_eq_true c3;have FD : decide (l1.length ≤ 25) = true:=decide_eq_true (by omega);clear c3;replace H:=bO H;obtain ⟨amJ,A4,H⟩:=H;replace H:=gB H;obtain ⟨rfl,H⟩|⟨rfl,H⟩:=H
 ·replace H:=gE H;obtain ⟨c6,oP,uE,H⟩|⟨c6,oP,uE,H⟩:=H
  ·have aiv : ¬ (l1 = []):=fun h_=>c6 (by rw [h_];rfl);obtain ⟨ji8,X6⟩ : ∃ j_ : Int,(wrap64 ((l1.length : Int) - 1)) = j_:=⟨_,rfl⟩;(first | rw [X6] at H | simp only [X6] at H);(try rw [X6] at A4);have axH : (IntKind.i64.wrap ((l1.length : Int) - 1)) = ji8:=(jW _).trans X6;replace H:=gD H;obtain ⟨Da,H⟩:=H;replace H:=gD H;obtain ⟨qH,H⟩:=H;obtain rfl:=Option.some.inj H;go_enter Try.func81,Try.ntmps81;go_wp2_with (first | (go_at_call 39;(with_reducible refine (iq.calls _ _ l1 _ (fun z_=>fG.f a0 z_) true _ ?side1 ?side2 ?side3 A4.out).mono ?_);(case side1=>exact uC HR1.out);(case side2=>exact HC1.out);(case side3=>exact FnI.of Try.func41 (by kernel_rfl) rfl (fun z_ r_ hr_ W_ hW_=>dR (args':=#[.int .i64 a0,.int .i64 z_]) (by simp) ((fG.calls a0 z_ r_ W_  hr_).mono fun e_ W2_ h_=>⟨h_.1,h_.2.below⟩)));rintro e w11 ⟨rfl,hb⟩;replace HB:=xH HB hb;(try clear hb);have agV : 0 ≤ ((ji8) : Int):=of_decide_eq_true (by first | (with_reducible assumption) | assumption);have agW : (ji8) < (l1.length : Int):=of_decide_eq_true (by first | (with_reducible assumption) | assumption);obtain ⟨axI,auM,Sn⟩:=Kd.ic HR1.out (ji8) agV agW;cases auM;replace Sn:=hc HB Sn;replace agV:=eq_true agV;replace agW:=eq_true agW));go_ret;exact ⟨by first | rfl | (simp [gY,ib] <;> rfl) | (simp only [← X6];first | rfl | (simp [gY,ib] <;> rfl)) | (simp [*,gY,ib] <;> rfl),uH HB.out⟩
  clear c6;obtain rfl:=Option.some.inj H;go_enter Try.func81,Try.ntmps81;go_wp2_with (first | (go_at_call 39;(with_reducible refine (iq.calls _ _ l1 _ (fun z_=>fG.f a0 z_) true _ ?side1 ?side2 ?side3 A4.out).mono ?_);(case side1=>exact uC HR1.out);(case side2=>exact HC1.out);(case side3=>exact FnI.of Try.func41 (by kernel_rfl) rfl (fun z_ r_ hr_ W_ hW_=>dR (args':=#[.int .i64 a0,.int .i64 z_]) (by simp) ((fG.calls a0 z_ r_ W_  hr_).mono fun e_ W2_ h_=>⟨h_.1,h_.2.below⟩)));rintro e w7 ⟨rfl,hb⟩;replace HB:=xH HB hb;(try clear hb)));go_ret;exact ⟨eX,uH HB.out⟩
 ·obtain rfl:=Option.some.inj H;go_enter Try.func81,Try.ntmps81;go_wp2_with (first | (go_at_call 39;(with_reducible refine (iq.calls _ _ l1 _ (fun z_=>fG.f a0 z_) false _ ?side1 ?side2 ?side3 A4.out).mono ?_);(case side1=>exact uC HR1.out);(case side2=>exact HC1.out);(case side3=>exact FnI.of Try.func41 (by kernel_rfl) rfl (fun z_ r_ hr_ W_ hW_=>dR (args':=#[.int .i64 a0,.int .i64 z_]) (by simp) ((fG.calls a0 z_ r_ W_  hr_).mono fun e_ W2_ h_=>⟨h_.1,h_.2.below⟩)));rintro e w12 ⟨rfl,hb⟩;replace HB:=xH HB hb;(try clear hb)));go_ret;exact ⟨eX,uH HB.out⟩
/-! ### bT: function 69 -/
def bT.f (wu : List Int) (jy : Int) (kN : List Int) : Option (Bool):=if (wu.length : Int) ≤ 12 then ((eO.f jy kN).bind fun Iu=>((iq.f wu (fun z_=>fG.f Iu z_)).bind fun X7=>(some X7))) else (some false)
def bT.T1 : Bool × List (List Nat × List Nat):=(true,[([],[]),([0],[0]),([1],[1]),([2],[2]),([3],[3]),([3],[3]),([5,3,3],[3,5]),([6,3],[3,6]),([4,7,6,3],[3,4,7]),([3,8],[3,8]),([9,8,0,1,2,3,4,5,6,7,8,9],[9])])
def bT.B1 : List Nat:=[0,1,3,7,15,15,47,111,255,511,1023]
theorem bT.ND : mf .any (opsOf Try.f69 1) = bT.T1:=by kernel_rfl
theorem bT.Fq : jP bT.T1.2 bT.B1 = true:=by kernel_rfl
theorem bT.calls (gc0 : Nat) (Ld : Option Addr) (Le : Nat) (wu : List Int) (gc1 : Nat) (jy : Int) (Lf : Option Addr) (Lg : Nat) (kN : List Int) (r : Bool) (w : World) (hb0 : w.heap[gc0]? = some (.cells #[.slice Ld wu.length Le] 24 (0,0))) (hr0_0 : Kd.C (Kd.int .i64) w Ld wu.length wu) (NR : wu.length ≤ Le) (hb1 : w.heap[gc1]? = some (.cells #[.int .i64 jy,.slice Lf kN.length Lg] 26 (0,0))) (hr1_1 : Kd.C (Kd.int .i64) w Lf kN.length kN) (NS : kN.length ≤ Lg) (H : bT.f wu jy kN = some r) :
  Calls Try.prog 69 #[.pointer (some ⟨gc0,0,none⟩),.pointer (some ⟨gc1,0,none⟩)] w fun e w'=>e = .returned (.bool r)∧Below w.heap.size w w':=by
 have uD:=Try.underlying26;have hmf : ∀ (fn_ : Fn) (first_ cap_ : Array Value) (w_ : World),(Instr.makeFunc fn_ first_ cap_).run Try.prog w_ = .ok (.func fn_ first_ cap_) w_:=fun _ _ _ _=>rfl;have X8:=zA hr0_0;have X9:=zA NR;clear hr0_0 NR;have Ya:=zA hr1_1;have Yb:=zA NS;clear hr1_1 NS;have BK0:=zA hb0;clear hb0;have BK1:=zA hb1;clear hb1;have HB:=zA (Below.refl w.heap.size w);unfold bT.f at H;replace H:=gI H;obtain ⟨c3,H⟩|⟨c3,H⟩:=H
 ·have rH : decide ((wu.length : Int) ≤ 12) = false:=decide_eq_false c3;have FD : decide (wu.length ≤ 12) = false:=decide_eq_false (by omega);clear c3;obtain rfl:=Option.some.inj H;go_enter Try.func69,Try.ntmps69;(try go_wp2);replace BK0:=zA (eD BK0.out);replace BK1:=zA (eD BK1.out);replace HB:=zA (aZ HB.out);refine kF (n:=11) (S:=fun w'=>w'.cell? ⟨gc0,0,none⟩ = some (.slice Ld wu.length Le)) (ds:=[]) #[false,false,false,false,false,false,false,false,false,false,false] (by kernel_rfl) rfl rfl (bcu BK0 0) (fun hHeld=>?_);refine gX bT.ND bT.Fq (fun HT_ HW_=>?_);generalize w.drew = w9 at BK0 BK1 HB hHeld ⊢;refine E5 (i:=0) (N:=some 3) (v:=?_) (a':=?_) (bl 11 1) rfl rfl (Ig HT_.out HW_.out (by kernel_rfl)) (fun _ _ _ h=>h) (Or.inl ⟨by rfl,?_⟩) hHeld ?_ ?_;rotate_left
  ·intro w' s0;go_simp;(with_reducible rfl)
  rotate_left
  ·simp only [Act.put,ls,lz,ln,jW,nH];rfl
  refine pu_ 1 4 (bl 11 3) HT_ ?_;refine pu_ 2 5 (bl 11 7) HT_ ?_;refine pu_ 3 6 (bl 11 15) HT_ ?_;refine un_ 4 7 (bl 11 31) HT_ ?_;refine un_ 5 8 (bl 11 63) HT_ ?_;refine un_ 6 9 (bl 11 127) HT_ ?_;refine un_ 7 10 (bl 11 255) HT_ ?_;refine un_ 8 11 (bl 11 511) HT_ ?_;refine pu_ 9 12 (bl 11 1023) HT_ ?_;refine pu_ 10 2 (bl 11 2047) HT_ ?_;refine done_ (done_of HT_.out (by kernel_rfl)) ?_;(try go_wp2);go_ret;exact ⟨eX,uH HB.out⟩
 have rH : decide ((wu.length : Int) ≤ 12) = true:=decide_eq_true c3;have FD : decide (wu.length ≤ 12) = true:=decide_eq_true (by omega);clear c3;replace H:=bO H;obtain ⟨Iu,A4,H⟩:=H;replace H:=bO H;obtain ⟨X7,A5,H⟩:=H;obtain rfl:=Option.some.inj H;go_enter Try.func69,Try.ntmps69;(try go_wp2);replace BK0:=zA (eD BK0.out);replace BK1:=zA (eD BK1.out);replace HB:=zA (aZ HB.out);refine kF (n:=11) (S:=fun w'=>w'.cell? ⟨gc0,0,none⟩ = some (.slice Ld wu.length Le)∧w'.cell? ⟨gc1,0,none⟩ = some (.int .i64 jy)∧w'.cell? ⟨gc1,1,none⟩ = some (.slice Lf kN.length Lg)) (ds:=[]) #[false,false,false,false,false,false,false,false,false,false,false] (by kernel_rfl) rfl rfl ⟨bcu BK0 0,bcu BK1 0,bcu BK1 1⟩ (fun hHeld=>?_);refine gX bT.ND bT.Fq (fun HT_ HW_=>?_);generalize w.drew = w6 at BK0 BK1 HB hHeld ⊢;refine ta_ 0 3 (bl 11 1) HT_ HW_ hHeld ?_;refine pu_ 1 4 (bl 11 3) HT_ ?_;refine pu_ 2 5 (bl 11 7) HT_ ?_;refine pu_ 3 6 (bl 11 15) HT_ ?_;refine ta_ 4 7 (bl 11 31) HT_ HW_ hHeld ?_;refine ta_ 5 8 (bl 11 63) HT_ HW_ hHeld ?_;refine on_ 6 (some 9) (bl 11 127) HT_ (fun K hK=>?_);refine gS Try.func40 #[.agg #[.int .i64 jy,.slice Lf kN.length Lg]] ?_;(with_reducible refine (eO.calls jy _ _ kN Iu _ ?side1 ?side2 A4.out).mono ?_);(case side1=>exact uC ((Kd.aW Ya.out HB.out)));(case side2=>exact Yb.out);rintro e w7 ⟨rfl,hb⟩;refine ⟨_,rfl,?_⟩;replace BK0:=xB BK0 hb;replace BK1:=xB BK1 hb;replace HB:=xH HB hb;(try clear hb);refine hK.out _ _ ⟨bcu BK0 0,bcu BK1 0,bcu BK1 1⟩ (fun hHeld=>?_);clear hK K;refine no_ 9 ?_;refine pu_ 7 10 (bl 11 255) HT_ ?_;refine on_ 8 (some 11) (bl 11 511) HT_ (fun K hK=>?_);refine gS Try.func39 #[.slice Ld wu.length Le,(.func (.func 41) #[.int .i64 Iu] #[])] ?_;(with_reducible refine (iq.calls _ _ wu _ (fun z_=>fG.f Iu z_) X7 _ ?side1 ?side2 ?side3 A5.out).mono ?_);(case side1=>exact uC ((Kd.aW X8.out HB.out)));(case side2=>exact X9.out);(case side3=>exact FnI.of Try.func41 (by kernel_rfl) rfl (fun z_ r_ hr_ W_ hW_=>dR (args':=#[.int .i64 Iu,.int .i64 z_]) (by simp) ((fG.calls Iu z_ r_ W_  hr_).mono fun e_ W2_ h_=>⟨h_.1,h_.2.below⟩)));rintro e w8 ⟨rfl,hb⟩;refine ⟨_,rfl,?_⟩;replace BK0:=xB BK0 hb;replace BK1:=xB BK1 hb;replace HB:=xH HB hb;(try clear hb);refine hK.out _ _ ⟨bcu BK0 0,bcu BK1 0,bcu BK1 1⟩ (fun hHeld=>?_);clear hK K;refine no_ 11 ?_;refine pu_ 9 12 (bl 11 1023) HT_ ?_;refine pu_ 10 2 (bl 11 2047) HT_ ?_;refine done_ (done_of HT_.out (by kernel_rfl)) ?_;(try go_wp2);go_ret;exact ⟨eX,uH HB.out⟩
/-! ### iE: function 80 -/
def iE.f (l0 : List Int) (jy : Int) : Option (Bool):=(pz.f jy l0).bind fun agX=>(some agX)
theorem iE.calls (A0 : Option Addr) (c0 : Nat) (l0 : List Int) (gc1 : Nat) (jy : Int) (r : Bool) (w : World) (hr0 : Kd.C (Kd.int .i64) w A0 l0.length l0) (hc0 : l0.length ≤ c0) (hb1 : w.heap[gc1]? = some (.cells #[.int .i64 jy] 2 (0,0))) (H : iE.f l0 jy = some r) :
  Calls Try.prog 80 #[.slice A0 l0.length c0,.pointer (some ⟨gc1,0,none⟩)] w fun e w'=>e = .returned (.bool r)∧Below w.heap.size w w':=by
 have HR0:=zA hr0;have HC0:=zA hc0;clear hr0 hc0;have BK1:=zA hb1;clear hb1;have HB:=zA (Below.refl w.heap.size w);unfold iE.f at H;replace H:=bO H;obtain ⟨agX,A3,H⟩:=H;obtain rfl:=Option.some.inj H;have Yc:=bc BK1 0;have Yd:=bf BK1 0;go_enter Try.func80,Try.ntmps80;go_wp2_with (first | ((with_reducible refine ag (f:=81) rfl ?_);refine gL (some 6) Try.func81 #[.int .i64 jy,.slice A0 l0.length c0] ?_;(with_reducible refine (pz.calls jy _ _ l0 agX _ ?side1 ?side2 A3.out).mono ?_);(case side1=>exact uC HR0.out);(case side2=>exact HC0.out);rintro e w5 ⟨rfl,hb⟩;refine ⟨_,rfl,?_⟩;replace BK1:=xB BK1 hb;replace HB:=xH HB hb;(try clear hb)));go_ret;exact ⟨eX,uH HB.out⟩
/- Lists of lists all of whose elements answer yes: what areAll computes. -/
def jS.f (l : List (List Int)) (p : List Int → Option Bool) : Option Bool:=if l.length < 4611686018427387904 then DK p l else none
theorem Iw (p : List Int → Option Bool) (l : List (List Int)) (hl : l.length < 4611686018427387904) (d : Nat) : ∀ (k i : Nat) (r : Bool),i + d = l.length → d < k → DK p (l.drop i) = some r →
    ∃ j,bP.l0 k l (fun z_=>jH.f z_ p) (l.length : Int) (i : Int) = some j∧decide (j ≥ 0) = !r:=by
  induction d with
  | zero =>
    intro k i r hi hk h
    obtain ⟨k,rfl⟩ : ∃ m,k = m + 1:=⟨k - 1,by omega⟩
    simp only [bP.l0]
    rw [if_neg (by omega)]
    rw [List.drop_eq_nil_of_le (by omega)] at h
    simp only [DK,Option.some.injEq] at h
    subst h
    exact ⟨-1,rfl,rfl⟩
  | succ d ih =>
    intro k i r hi hk h
    obtain ⟨k,rfl⟩ : ∃ m,k = m + 1:=⟨k - 1,by omega⟩
    simp only [bP.l0]
    rw [if_pos (by omega),if_pos (by omega),if_pos (by omega)]
    rw [EO l [] i (by omega)] at h
    simp only [DK] at h
    have e : gW l (i : Int) = l.getD i []:=by simp [gW]
    rw [e]
    obtain ⟨b,hb,h⟩:=Option.bind_eq_some_iff.mp h
    simp only [jH.f,hb,Option.bind_some]
    cases b with
    | true =>
      rw [if_pos rfl] at h
      simp only [Bool.not_true,Bool.false_eq_true,if_false]
      rw [JO (n:=l.length) (by omega) (by omega) hl]
      exact ih k (i + 1) r (by omega) (by omega) h
    | false =>
      simp only [Bool.false_eq_true,if_false,Option.some.injEq] at h
      subst h
      simp only [Bool.not_false,if_true]
      exact ⟨i,rfl,by simp⟩

theorem Lh {l : List (List Int)} {p : List Int → Option Bool} {r : Bool} (h : jS.f l p = some r) : lZ.f (l.length + 1) l p = some r:=by
  unfold jS.f at h
  split at h
  · rename_i hl
    obtain ⟨j,h1,h2⟩:=Iw p l hl l.length (l.length + 1) 0 r (by omega) (by omega) (by simpa using h)
    unfold lZ.f jI.f bP.f
    have h1' : bP.l0 (l.length + 1) l (fun z_=>jH.f z_ p) (l.length : Int) 0 = some j:=h1
    rw [h1']
    simp only [Option.bind_some,h2,Bool.not_not]
  · cases h

theorem jS.calls (A0 : Option Addr) (c0 : Nat) (l0 : List (List Int)) (F1 : Value) (a1 : (List Int → Option Bool)) (r : Bool) (w : World) (hr0 : Kd.C (Kd.slice 2 (Kd.int .i64)) w A0 l0.length l0) (hc0 : l0.length ≤ c0) (hF1 : FnL Try.prog w F1 a1) (h : jS.f l0 a1 = some r) :
    Calls Try.prog 79 #[.slice A0 l0.length c0,F1] w fun e w'=>e = .returned (.bool r)∧Below w.heap.size w w' :=
  lZ.calls _ A0 c0 l0 F1 a1 r w hr0 hc0 hF1 (Lh h)
/-! ### nI: function 54 -/
def nI.f (k : Nat) (a0 : Int) (a1 : Bool) (l2 : List (List Int)) : Option (Int):=(jS.f l2 (fun z_=>iE.f z_ a0)).bind fun amK=>(if amK = true then ((iA.f k a0).bind fun amL=>(if amL = true then (if a1 = true then (some 0) else (some 2)) else (some 2))) else (some 1))
theorem nI.calls (k : Nat) (a0 : Int) (F1 : Value) (a1 : Bool) (A2 : Option Addr) (c2 : Nat) (l2 : List (List Int)) (r : Int) (w : World) (hF1 : FnB Try.prog w F1 a1) (hr2 : Kd.C (Kd.slice 2 (Kd.int .i64)) w A2 l2.length l2) (hc2 : l2.length ≤ c2) (H : nI.f k a0 a1 l2 = some r) :
  Calls Try.prog 54 #[.int .i64 a0,F1,.slice A2 l2.length c2] w fun e w'=>e = .returned (.int .i64 r)∧Below w.heap.size w w':=by
 have hmf : ∀ (fn_ : Fn) (first_ cap_ : Array Value) (w_ : World),(Instr.makeFunc fn_ first_ cap_).run Try.prog w_ = .ok (.func fn_ first_ cap_) w_:=fun _ _ _ _=>rfl;obtain ⟨G1,fi1,ca1,rfl,uJ,hF1⟩:=hF1;have uJ : ∀ (args_ : Array Value) (w_ : World),(callFunc G1 args_).run Try.prog w_ = .ok (.enter G1 args_) w_:=uJ;have HF1:=zA hF1;clear hF1;have HR2:=zA hr2;have HC2:=zA hc2;clear hr2 hc2;have HB:=zA (Below.refl w.heap.size w);unfold nI.f at H;replace H:=bO H;obtain ⟨amK,A4,H⟩:=H;replace H:=gB H;obtain ⟨rfl,H⟩|⟨rfl,H⟩:=H
 ·replace H:=bO H;obtain ⟨amL,A6,H⟩:=H;replace H:=gB H;obtain ⟨rfl,H⟩|⟨rfl,H⟩:=H
  ·replace H:=gB H;obtain ⟨rfl,H⟩|⟨rfl,H⟩:=H
   ·obtain rfl:=Option.some.inj H;go_enter Try.func54,Try.ntmps54;go_wp2_with (first | ((with_reducible refine aT (N:=3) rfl ?_);refine bx 3 #[.int .i64 a0] 2 ?_;intro xO hg w9 hbox hb;have pV:=zA (hbox);have Iy:=gq HB hg;have:=geI Iy;have Iz:=gq HB hg;replace HB:=xH HB hb;have:=geI Iz;clear hb hbox hg) | ((with_reducible refine ag (f:=79) rfl ?_);refine gL (some 10) Try.func79 #[.slice A2 l2.length c2,(.func (.func 80) #[] #[.pointer (some ⟨xO,0,none⟩)])] ?_;(with_reducible refine (jS.calls _ _ l2 _ (fun z_=>iE.f z_ a0) true _ ?side1 ?side2 ?side3 A4.out).mono ?_);(case side1=>exact uC ((Kd.aW HR2.out HB.out)));(case side2=>exact HC2.out);(case side3=>exact FnL.of Try.func80 (by kernel_rfl) rfl (fun z_ r_ A_ c_ hr_ W_ hW_ hC_ hc_=>dR (args':=#[.slice A_ z_.length c_,.pointer (some ⟨xO,0,none⟩)]) (by simp) ((iE.calls A_ c_ z_ _ a0 r_ W_ hC_ hc_ (dD (g:=xO) (o:=.cells #[.int .i64 a0] 2 (0,0)) (uB pV.out) hW_) hr_).mono fun e_ W2_ h_=>⟨h_.1,h_.2⟩)));rintro e w10 ⟨rfl,hb⟩;refine ⟨_,rfl,?_⟩;replace pV:=xB pV hb;replace HB:=xH HB hb;(try clear hb);have zn:=bc pV 0;have zo:=bf pV 0) | ((with_reducible refine ag (f:=36) rfl ?_);refine gL (some 14) Try.func36 #[.int .i64 a0] ?_;(with_reducible refine (iA.calls k a0 true _ A6.out).mono ?_);rintro e w' ⟨rfl,⟨nd,rfl⟩⟩;refine ⟨_,rfl,?_⟩) | (go_at_fn G1;refine dR (args':=fi1 ++ ca1) (by simp) ?_;refine (HF1.out _ (uH HB.out)).mono ?_;rintro e w12 ⟨rfl,hb⟩;replace pV:=xB pV hb;replace HB:=xH HB hb;(try clear hb)));go_ret;exact ⟨eX,uH HB.out⟩
   ·obtain rfl:=Option.some.inj H;go_enter Try.func54,Try.ntmps54;go_wp2_with (first | ((with_reducible refine aT (N:=3) rfl ?_);refine bx 3 #[.int .i64 a0] 2 ?_;intro xO hg w13 hbox hb;have pV:=zA (hbox);have Iy:=gq HB hg;have:=geI Iy;have Iz:=gq HB hg;replace HB:=xH HB hb;have:=geI Iz;clear hb hbox hg) | ((with_reducible refine ag (f:=79) rfl ?_);refine gL (some 10) Try.func79 #[.slice A2 l2.length c2,(.func (.func 80) #[] #[.pointer (some ⟨xO,0,none⟩)])] ?_;(with_reducible refine (jS.calls _ _ l2 _ (fun z_=>iE.f z_ a0) true _ ?side1 ?side2 ?side3 A4.out).mono ?_);(case side1=>exact uC ((Kd.aW HR2.out HB.out)));(case side2=>exact HC2.out);(case side3=>exact FnL.of Try.func80 (by kernel_rfl) rfl (fun z_ r_ A_ c_ hr_ W_ hW_ hC_ hc_=>dR (args':=#[.slice A_ z_.length c_,.pointer (some ⟨xO,0,none⟩)]) (by simp) ((iE.calls A_ c_ z_ _ a0 r_ W_ hC_ hc_ (dD (g:=xO) (o:=.cells #[.int .i64 a0] 2 (0,0)) (uB pV.out) hW_) hr_).mono fun e_ W2_ h_=>⟨h_.1,h_.2⟩)));rintro e w14 ⟨rfl,hb⟩;refine ⟨_,rfl,?_⟩;replace pV:=xB pV hb;replace HB:=xH HB hb;(try clear hb);have aa7:=bc pV 0;have aa8:=bf pV 0) | ((with_reducible refine ag (f:=36) rfl ?_);refine gL (some 14) Try.func36 #[.int .i64 a0] ?_;(with_reducible refine (iA.calls k a0 true _ A6.out).mono ?_);rintro e w' ⟨rfl,⟨nd,rfl⟩⟩;refine ⟨_,rfl,?_⟩) | (go_at_fn G1;refine dR (args':=fi1 ++ ca1) (by simp) ?_;refine (HF1.out _ (uH HB.out)).mono ?_;rintro e w16 ⟨rfl,hb⟩;replace pV:=xB pV hb;replace HB:=xH HB hb;(try clear hb)));go_ret;exact ⟨eX,uH HB.out⟩
  ·obtain rfl:=Option.some.inj H;go_enter Try.func54,Try.ntmps54;go_wp2_with (first | ((with_reducible refine aT (N:=3) rfl ?_);refine bx 3 #[.int .i64 a0] 2 ?_;intro xO hg w17 hbox hb;have pV:=zA (hbox);have Iy:=gq HB hg;have:=geI Iy;have Iz:=gq HB hg;replace HB:=xH HB hb;have:=geI Iz;clear hb hbox hg) | ((with_reducible refine ag (f:=79) rfl ?_);refine gL (some 10) Try.func79 #[.slice A2 l2.length c2,(.func (.func 80) #[] #[.pointer (some ⟨xO,0,none⟩)])] ?_;(with_reducible refine (jS.calls _ _ l2 _ (fun z_=>iE.f z_ a0) true _ ?side1 ?side2 ?side3 A4.out).mono ?_);(case side1=>exact uC ((Kd.aW HR2.out HB.out)));(case side2=>exact HC2.out);(case side3=>exact FnL.of Try.func80 (by kernel_rfl) rfl (fun z_ r_ A_ c_ hr_ W_ hW_ hC_ hc_=>dR (args':=#[.slice A_ z_.length c_,.pointer (some ⟨xO,0,none⟩)]) (by simp) ((iE.calls A_ c_ z_ _ a0 r_ W_ hC_ hc_ (dD (g:=xO) (o:=.cells #[.int .i64 a0] 2 (0,0)) (uB pV.out) hW_) hr_).mono fun e_ W2_ h_=>⟨h_.1,h_.2⟩)));rintro e w18 ⟨rfl,hb⟩;refine ⟨_,rfl,?_⟩;replace pV:=xB pV hb;replace HB:=xH HB hb;(try clear hb);have Bb:=bc pV 0;have Bc:=bf pV 0) | ((with_reducible refine ag (f:=36) rfl ?_);refine gL (some 14) Try.func36 #[.int .i64 a0] ?_;(with_reducible refine (iA.calls k a0 false _ A6.out).mono ?_);rintro e w' ⟨rfl,⟨nd,rfl⟩⟩;refine ⟨_,rfl,?_⟩));go_ret;exact ⟨eX,uH HB.out⟩
 ·obtain rfl:=Option.some.inj H;go_enter Try.func54,Try.ntmps54;go_wp2_with (first | ((with_reducible refine aT (N:=3) rfl ?_);refine bx 3 #[.int .i64 a0] 2 ?_;intro xO hg w20 hbox hb;have pV:=zA (hbox);have Iy:=gq HB hg;have:=geI Iy;have Iz:=gq HB hg;replace HB:=xH HB hb;have:=geI Iz;clear hb hbox hg) | ((with_reducible refine ag (f:=79) rfl ?_);refine gL (some 10) Try.func79 #[.slice A2 l2.length c2,(.func (.func 80) #[] #[.pointer (some ⟨xO,0,none⟩)])] ?_;(with_reducible refine (jS.calls _ _ l2 _ (fun z_=>iE.f z_ a0) false _ ?side1 ?side2 ?side3 A4.out).mono ?_);(case side1=>exact uC ((Kd.aW HR2.out HB.out)));(case side2=>exact HC2.out);(case side3=>exact FnL.of Try.func80 (by kernel_rfl) rfl (fun z_ r_ A_ c_ hr_ W_ hW_ hC_ hc_=>dR (args':=#[.slice A_ z_.length c_,.pointer (some ⟨xO,0,none⟩)]) (by simp) ((iE.calls A_ c_ z_ _ a0 r_ W_ hC_ hc_ (dD (g:=xO) (o:=.cells #[.int .i64 a0] 2 (0,0)) (uB pV.out) hW_) hr_).mono fun e_ W2_ h_=>⟨h_.1,h_.2⟩)));rintro e w21 ⟨rfl,hb⟩;refine ⟨_,rfl,?_⟩;replace pV:=xB pV hb;replace HB:=xH HB hb;(try clear hb)));go_ret;exact ⟨eX,uH HB.out⟩
/-! ### iC: function 30 -/
def iC.f (k : Nat) (aH : Int) (aD : List Int) (a1 : Bool) (l2 : List (List Int)) : Option (Int):=(eQ.f k aH aD).bind fun amM=>(if amM = true then ((nI.f k aH a1 l2).bind fun agY=>(some agY)) else (some 1))
theorem iC.calls (k : Nat) (aH : Int) (bM : Option Addr) (bJ : Nat) (aD : List Int) (F1 : Value) (a1 : Bool) (A2 : Option Addr) (c2 : Nat) (l2 : List (List Int)) (r : Int) (w : World) (hr0_1 : Kd.C (Kd.int .i64) w bM aD.length aD) (jE : aD.length ≤ bJ) (hF1 : FnB Try.prog w F1 a1) (hr2 : Kd.C (Kd.slice 2 (Kd.int .i64)) w A2 l2.length l2) (hc2 : l2.length ≤ c2) (H : iC.f k aH aD a1 l2 = some r) :
  Calls Try.prog 30 #[.agg #[.int .i64 aH,.slice bM aD.length bJ],F1,.slice A2 l2.length c2] w fun e w'=>e = .returned (.int .i64 r)∧Below w.heap.size w w':=by
 have uD:=Try.underlying26;have fP:=zA hr0_1;have gG:=zA jE;clear hr0_1 jE;obtain ⟨G1,fi1,ca1,rfl,uJ,hF1⟩:=hF1;have uJ : ∀ (args_ : Array Value) (w_ : World),(callFunc G1 args_).run Try.prog w_ = .ok (.enter G1 args_) w_:=uJ;have HF1:=zA hF1;clear hF1;have HR2:=zA hr2;have HC2:=zA hc2;clear hr2 hc2;have HB:=zA (Below.refl w.heap.size w);unfold iC.f at H;replace H:=bO H;obtain ⟨amM,A4,H⟩:=H;replace H:=gB H;obtain ⟨rfl,H⟩|⟨rfl,H⟩:=H
 ·replace H:=bO H;obtain ⟨agY,A6,H⟩:=H;obtain rfl:=Option.some.inj H;go_enter Try.func30,Try.ntmps30;go_wp2_with (first | ((with_reducible refine aT (N:=3) rfl ?_);refine bx 3 #[.int .i64 aH,.slice bM aD.length bJ] 26 ?_;intro amN hg w7 hbox hb;have uz:=zA (hbox);have Ye:=gq HB hg;have:=geI Ye;have Yf:=gq HB hg;replace HB:=xH HB hb;have:=geI Yf;clear hb hbox hg;have BX:=bc uz 0;have BZ:=bc uz 1;have Ca:=bf uz 0;have Cb:=bf uz 1) | ((with_reducible refine ag (f:=9) rfl ?_);refine gL (some 8) Try.func9 #[.agg #[.int .i64 aH,.slice bM aD.length bJ]] ?_;(with_reducible refine (eQ.calls k aH _ _ aD true _ ?side1 ?side2 A4.out).mono ?_);(case side1=>exact uC ((Kd.aW fP.out HB.out)));(case side2=>exact gG.out);rintro e w9 ⟨rfl,hb⟩;refine ⟨_,rfl,?_⟩;replace uz:=xB uz hb;replace HB:=xH HB hb;(try clear hb);have tV:=bc uz 0;have tX:=bc uz 1;have tY:=bf uz 0;have tZ:=bf uz 1) | ((with_reducible refine ag (f:=54) rfl ?_);refine gL (some 14) Try.func54 #[.int .i64 aH,(.func (.func G1) fi1 ca1),.slice A2 l2.length c2] ?_;(with_reducible refine (nI.calls k aH _ a1 _ _ l2 agY _ ?side1 ?side2 ?side3 A6.out).mono ?_);(case side1=>exact FnB.later (uH HB.out) (show FnB Try.prog w (.func (.func G1) fi1 ca1) a1 from ⟨_,_,_,rfl,uJ,HF1.out⟩));(case side2=>exact uC ((Kd.aW HR2.out HB.out)));(case side3=>exact HC2.out);rintro e w11 ⟨rfl,hb⟩;refine ⟨_,rfl,?_⟩;replace uz:=xB uz hb;replace HB:=xH HB hb;(try clear hb)));go_ret;exact ⟨eX,uH HB.out⟩
 ·obtain rfl:=Option.some.inj H;go_enter Try.func30,Try.ntmps30;go_wp2_with (first | ((with_reducible refine aT (N:=3) rfl ?_);refine bx 3 #[.int .i64 aH,.slice bM aD.length bJ] 26 ?_;intro amN hg w12 hbox hb;have uz:=zA (hbox);have Ye:=gq HB hg;have:=geI Ye;have Yf:=gq HB hg;replace HB:=xH HB hb;have:=geI Yf;clear hb hbox hg;have qR:=bc uz 0;have qU:=bc uz 1;have qV:=bf uz 0;have qW:=bf uz 1) | ((with_reducible refine ag (f:=9) rfl ?_);refine gL (some 8) Try.func9 #[.agg #[.int .i64 aH,.slice bM aD.length bJ]] ?_;(with_reducible refine (eQ.calls k aH _ _ aD false _ ?side1 ?side2 A4.out).mono ?_);(case side1=>exact uC ((Kd.aW fP.out HB.out)));(case side2=>exact gG.out);rintro e w14 ⟨rfl,hb⟩;refine ⟨_,rfl,?_⟩;replace uz:=xB uz hb;replace HB:=xH HB hb;(try clear hb)));go_ret;exact ⟨eX,uH HB.out⟩
/- Plain lemmas: rounds (Ev), wrapped sums, rests modulo p, lists read and written at an index. No program is in sight. -/
section
variable {α β : Type}
theorem Ev.pos {c : Prop} [Decidable c] {X Y : Nat → Option α} {r : α} (h : c) (e : Ev X r) : Ev (fun k=>if c then X k else Y k) r:=by
  simpa only [if_pos h] using e
theorem Ev.neg {c : Prop} [Decidable c] {X Y : Nat → Option α} {r : α} (h : ¬ c) (e : Ev Y r) : Ev (fun k=>if c then X k else Y k) r:=by
  simpa only [if_neg h] using e
theorem Ev.eq {x : Option α} {r : α} (h : x = some r) : Ev (fun _=>x) r:=⟨0,fun _ _=>h⟩
theorem Ev.mI {r s : α} (h : r = s) : Ev (fun _=>some r) s:=⟨0,fun _ _=>by rw [h]⟩
theorem Ev.jl {x : Option α} {f : Nat → α → Option β} {a : α} {r : β} (h : x = some a) (e : Ev (fun n=>f n a) r) : Ev (fun n=>x.bind (f n)) r:=by
  subst h;simpa using e
theorem Ev.cast {g : Nat → Option α} {r s : α} (h : Ev g r) (e : r = s) : Ev g s:=e ▸ h
theorem Ev.fn {g : Nat → Option α} {r s : α} (h : Ev g r) (h' : Ev g s) : r = s:=by
  obtain ⟨K,h⟩:=h
  obtain ⟨K',h'⟩:=h'
  have a:=h (max K K') (by omega)
  have b:=h' (max K K') (by omega)
  rw [a] at b
  exact Option.some.inj b
end

theorem df {x : Int} (h0 : -9223372036854775808 ≤ x) (h1 : x < 9223372036854775808) : wrap64 x = x:=by unfold wrap64;omega
theorem kS {i n : Nat} (h : i < n) (hn : n < 4611686018427387904) : wrap64 ((i : Int) + 1) = ((i + 1 : Nat) : Int):=by unfold wrap64;omega
theorem Xz {i j n : Nat} (h : i + j < n) (hn : n < 4611686018427387904) : wrap64 ((i : Int) + (j : Int)) = ((i + j : Nat) : Int):=by unfold wrap64;omega
theorem EU {i : Nat} (h : 0 < i) (hn : i < 4611686018427387904) : wrap64 ((i : Int) - 1) = ((i - 1 : Nat) : Int):=by unfold wrap64;omega

theorem kW (l : List Int) (i : Nat) : rd l (i : Int) = l.getD i 0:=by simp [rd]
theorem vK (l : List (List Int)) (i : Nat) : gW l (i : Int) = l.getD i []:=by simp [gW]
theorem xK {α : Type} {l : List α} {i : Nat} {d : α} (h : i < l.length) : l.getD i d ∈ l:=by
  simp only [List.getD_eq_getElem?_getD,List.getElem?_eq_getElem h,Option.getD_some];exact List.getElem_mem h
theorem jZ (i : Nat) : ((i : Int)).toNat = i:=rfl

/-- A length that is small. -/
abbrev Sm (n : Nat) : Prop:=n ≤ 1048576

/-- Numbers modulo p. -/
def Nm (p : Int) (l : List Int) : Prop:=∀ x ∈ l,0 ≤ x∧x < p
theorem Nm.nil (p : Int) : Nm p []:=fun x h=>by cases h
theorem Nm.cons {p x : Int} {l : List Int} (h0 : 0 ≤ x) (h1 : x < p) (h : Nm p l) : Nm p (x :: l):=fun y hy=>by
  rcases List.mem_cons.1 hy with rfl | hy
  · exact ⟨h0,h1⟩
  · exact h y hy
theorem Nm.append {p : Int} {l m : List Int} (h : Nm p l) (h' : Nm p m) : Nm p (l ++ m):=fun y hy=>by
  rcases List.mem_append.1 hy with hy | hy
  · exact h y hy
  · exact h' y hy
theorem Nm.get {p : Int} {l : List Int} (h : Nm p l) {i : Nat} (hi : i < l.length) : 0 ≤ l.getD i 0∧l.getD i 0 < p:=h _ (xK hi)
theorem Nm.C8 {p : Int} {l : List Int} (h : Nm p l) (hp : 0 < p) (i : Nat) : 0 ≤ l.getD i 0∧l.getD i 0 < p:=by
  by_cases hi : i < l.length
  · exact h.get hi
  · rw [List.getD_eq_getElem?_getD,List.getElem?_eq_none (by omega)];exact ⟨Int.le_refl _,hp⟩
theorem Nm.take {p : Int} {l : List Int} (h : Nm p l) (n : Nat) : Nm p (l.take n):=fun x hx=>h x (List.mem_of_mem_take hx)
theorem Nm.drop {p : Int} {l : List Int} (h : Nm p l) (n : Nat) : Nm p (l.drop n):=fun x hx=>h x (List.mem_of_mem_drop hx)
theorem Nm.set {p x : Int} {l : List Int} (h : Nm p l) (h0 : 0 ≤ x) (h1 : x < p) (i : Nat) : Nm p (l.set i x):=fun y hy=>by
  rcases List.mem_or_eq_of_mem_set hy with hy | rfl
  · exact h y hy
  · exact ⟨h0,h1⟩
theorem Nm.zeros {p : Int} (hp : 0 < p) (n : Nat) : Nm p (List.replicate n 0):=fun x hx=>by
  rw [(List.mem_replicate.1 hx).2];exact ⟨Int.le_refl _,hp⟩
instance (p : Int) (l : List Int) : Decidable (Nm p l):=by unfold Nm;infer_instance

/-- A modulus that the program may have (in its range; a adD or not). -/
structure Pm (p : Int) : Prop where
  two : 2 ≤ p
  top : p ≤ 10007
theorem Pm.pos {p : Int} (h : Pm p) : 0 < p:=by have:=h.two;omega
theorem Pm.ne {p : Int} (h : Pm p) : p ≠ 0:=by have:=h.two;omega

theorem agZ {a b m n : Int} (ha : 0 ≤ a) (ha' : a ≤ m) (hb : 0 ≤ b) (hb' : b ≤ n) : 0 ≤ a * b∧a * b ≤ m * n :=
  ⟨Int.mul_nonneg ha hb,Int.mul_le_mul ha' hb' hb (by omega)⟩
/-- A product of two numbers modulo p. -/
theorem BI {p a b : Int} (hp : Pm p) (ha : 0 ≤ a) (ha' : a < p) (hb : 0 ≤ b) (hb' : b < p) : 0 ≤ a * b∧a * b ≤ 100140049:=by
  have h1:=hp.top
  have h:=agZ (m:=10007) (n:=10007) ha (by omega) hb (by omega)
  exact ⟨h.1,by omega⟩
theorem lU {a b : Int} (h : 0 ≤ a) : Int.tmod a b = a % b:=Int.tmod_eq_emod_of_nonneg h
theorem mi {p : Int} (hp : 0 < p) (x : Int) : 0 ≤ x % p∧x % p < p:=⟨Int.emod_nonneg _ (by omega),Int.emod_lt_of_pos _ hp⟩
/-- Go's '(x % p + p) % p' is the rest of x. -/
theorem KJ {p x : Int} (hp : Pm p) : Int.tmod (wrap64 (Int.tmod x p + p)) p = x % p:=by
  have h2:=hp.two
  have ht:=hp.top
  have h:=Int.tmod_eq_emod (a:=x) (b:=p)
  have hb:=mi hp.pos x
  have hn : ((p.natAbs : Nat) : Int) = p:=by omega
  split at h
  · rw [h,Int.natCast_zero,df (by omega) (by omega),lU (by omega),show x % p - 0 + p = x % p + p from by omega,Int.add_emod_right,Int.emod_emod]
  · rw [h,hn,df (by omega) (by omega),lU (by omega),show x % p - p + p = x % p from by omega,Int.emod_emod]

/-- A list without noughts at its end. -/
def mr (l : List Int) : List Int:=(l.reverse.dropWhile (· == 0)).reverse
theorem Hq : mr [] = []:=rfl
theorem qG (l : List Int) : mr (l ++ [0]) = mr l:=by simp [mr]
theorem wZ (l : List Int) {x : Int} (h : x ≠ 0) : mr (l ++ [x]) = l ++ [x]:=by simp [mr,h]
theorem Li {α : Type} {P : List α → Prop} (h0 : P []) (h1 : ∀ l x,P l → P (l ++ [x])) (l : List α) : P l:=by
  have h : ∀ l : List α,P l.reverse:=by
    intro l
    induction l with
    | nil=>exact h0
    | cons x l ih=>rw [List.reverse_cons];exact h1 _ _ ih
  simpa using h l.reverse
theorem Ho (l : List Int) : ∃ n,l = mr l ++ List.replicate n 0:=by
  induction l using Li with
  | h0=>exact ⟨0,rfl⟩
  | h1 l x ih =>
    by_cases h : x = 0
    · subst h
      obtain ⟨n,hn⟩:=ih
      refine ⟨n + 1,?_⟩
      rw [qG,List.replicate_succ',← List.append_assoc,← hn]
    · exact ⟨0,by rw [wZ l h];simp⟩
/- The great laws' comparisons of lists and moments. -/
open Go Go.RowKit Go.Proofs.YtnpepkpogohcmaaW.PrintWords Go.Proofs.YtnpepkpogohcmaaW.PrintLast Go.Proofs.YtnpepkpogohcmaaW.PrintMore
theorem abE (l : List Int) (hl : Sm l.length) (d : Nat) : ∀ i : Nat,i + d = l.length → Ev (fun k=>fw.l0 k l l (i : Int)) true:=by
  unfold Sm at hl
  induction d with
  | zero =>
    intro i hi
    refine Ev.step (fun k=>by rw [fw.l0]) ?_
    exact Ev.neg (by omega) (Ev.now _)
  | succ d ih =>
    intro i hi
    refine Ev.step (fun k=>by rw [fw.l0]) ?_
    refine Ev.pos (by omega) (Ev.pos (by omega) (Ev.pos (by omega) (Ev.pos rfl ?_)))
    rw [kS (i:=i) (n:=l.length) (by omega) (by omega)]
    exact ih (i + 1) (by omega)
theorem F4 (l : List Int) (hl : Sm l.length) : Ev (fun k=>fw.f k l l) true:=by
  unfold fw.f
  exact Ev.pos rfl (abE l hl l.length 0 (by omega))
/- Copies of lists; no condition. -/
theorem Sm.take {l : List Int} (h : Sm l.length) (n : Nat) : Sm (l.take n).length:=by unfold Sm at h ⊢;rw [List.length_take];omega
theorem Sm.drop {l : List Int} (h : Sm l.length) (n : Nat) : Sm (l.drop n).length:=by unfold Sm at h ⊢;rw [List.length_drop];omega
theorem G9 (l : List Int) (hl : Sm l.length) : jX.f l = some l:=by
  unfold jX.f
  simp only [Option.bind_some,List.length_nil,List.nil_append]
  rw [if_pos (by unfold Sm at hl;omega)]
/- Primes and numbers modulo p: what the program and the reference compute of them. -/
theorem UV (a b c : Int) : mU.f a b c = some (decide (b ≤ a∧a ≤ c)):=by
  unfold mU.f
  by_cases h : b ≤ a
  · rw [if_pos h];simp [h]
  · rw [if_neg h];simp [h]
theorem JP (a b c : Int) : l7.f a b c = some (decide (b ≤ a∧a ≤ c)):=by
  unfold l7.f
  by_cases h : b ≤ a
  · rw [if_pos h];simp [h]
  · rw [if_neg h];simp [h]
theorem has_eq (p x : Int) : fG.f p x = some (decide (0 ≤ x∧x < p)):=by
  unfold fG.f
  by_cases h : 0 ≤ x
  · rw [if_pos h];simp [h]
  · rw [if_neg h];simp [h]
theorem zl {p : Int} (hp : Pm p) (x : Int) : fq.f p x = some (x % p):=by
  unfold fq.f
  rw [if_neg hp.ne,KJ hp]

/-! ### primes -/
def Fw (p : Int) (i : Nat) : Prop:=∀ j,j < 101 → i ≤ j → (j : Int) * (j : Int) ≤ p → p % (j : Int) ≠ 0
instance (p : Int) (i : Nat) : Decidable (Fw p i):=by unfold Fw;infer_instance
def oJ (p : Int) : Bool:=decide (2 ≤ p∧p ≤ 10007) && decide (Fw p 2)
theorem oJ.pm {p : Int} (h : oJ p = true) : Pm p:=by
  simp only [oJ,Bool.and_eq_true,decide_eq_true_eq] at h
  exact ⟨h.1.1,h.1.2⟩
theorem IA {p : Int} {i : Nat} (h : p % (i : Int) ≠ 0) : decide (Fw p i) = decide (Fw p (i + 1)):=by
  apply decide_eq_decide.2
  constructor
  · exact fun g j h1 h2 h3=>g j h1 (by omega) h3
  · intro g j h1 h2 h3
    by_cases e : j = i
    · subst e;exact h
    · exact g j h1 (by omega) h3
theorem Bh {p : Int} {i : Nat} (h : p < (i : Int) * (i : Int)) : Fw p i:=by
  intro j h1 h2 h3
  have:=agZ (a:=(i : Int)) (b:=(i : Int)) (m:=(j : Int)) (n:=(j : Int)) (by omega) (by omega) (by omega) (by omega)
  omega
theorem sqB {i : Nat} (h : i ≤ 101) : 0 ≤ (i : Int) * (i : Int)∧(i : Int) * (i : Int) ≤ 10201:=by
  have:=agZ (a:=(i : Int)) (b:=(i : Int)) (m:=101) (n:=101) (by omega) (by omega) (by omega) (by omega)
  omega
theorem Lj {p : Int} (h2 : 2 ≤ p) (ht : p ≤ 10007) (d : Nat) : ∀ i,2 ≤ i → i + d = 101 → Ev (fun k=>fU.l0 k p (i : Int)) (decide (Fw p i)):=by
  induction d with
  | zero =>
    intro i hi hd
    obtain rfl : i = 101:=by omega
    refine Ev.step (fun k=>by rw [fU.l0]) ?_
    refine Ev.neg (by rw [df (by omega) (by omega)];omega) (Ev.mI ?_)
    exact (decide_eq_true (Bh (by omega))).symm
  | succ d ih =>
    intro i hi hd
    have hb:=sqB (i:=i) (by omega)
    refine Ev.step (fun k=>by rw [fU.l0]) ?_
    rw [df (x:=(i : Int) * (i : Int)) (by omega) (by omega),lU (by omega)]
    by_cases h : (i : Int) * (i : Int) ≤ p
    · refine Ev.pos h (Ev.neg (by omega) ?_)
      by_cases h3 : p % (i : Int) = 0
      · exact Ev.pos h3 (Ev.mI (decide_eq_false (fun g=>g i (by omega) (by omega) h h3)).symm)
      · refine Ev.neg h3 ?_
        rw [IA h3,kS (i:=i) (n:=101) (by omega) (by omega)]
        exact ih (i + 1) (by omega) (by omega)
    · exact Ev.neg h (Ev.mI (decide_eq_true (Bh (by omega))).symm)
theorem Ll {p : Int} (h2 : 2 ≤ p) (ht : p ≤ 10007) (d : Nat) : ∀ i,2 ≤ i → i + d = 101 → Ev (fun k=>iA.l0 k p (i : Int)) (decide (Fw p i)):=by
  induction d with
  | zero =>
    intro i hi hd
    obtain rfl : i = 101:=by omega
    refine Ev.step (fun k=>by rw [iA.l0]) ?_
    refine Ev.neg (by rw [df (by omega) (by omega)];omega) (Ev.mI ?_)
    exact (decide_eq_true (Bh (by omega))).symm
  | succ d ih =>
    intro i hi hd
    have hb:=sqB (i:=i) (by omega)
    refine Ev.step (fun k=>by rw [iA.l0]) ?_
    rw [df (x:=(i : Int) * (i : Int)) (by omega) (by omega),lU (by omega)]
    by_cases h : (i : Int) * (i : Int) ≤ p
    · refine Ev.pos h (Ev.neg (by omega) ?_)
      by_cases h3 : p % (i : Int) = 0
      · exact Ev.pos h3 (Ev.mI (decide_eq_false (fun g=>g i (by omega) (by omega) h h3)).symm)
      · refine Ev.neg h3 ?_
        rw [IA h3,kS (i:=i) (n:=101) (by omega) (by omega)]
        exact ih (i + 1) (by omega) (by omega)
    · exact Ev.neg h (Ev.mI (decide_eq_true (Bh (by omega))).symm)
theorem CO (p : Int) : Ev (fun k=>fU.f k p) (oJ p):=by
  unfold fU.f oJ
  refine Ev.jl (UV _ _ _) ?_
  by_cases h : 2 ≤ p∧p ≤ 10007
  · refine Ev.pos (decide_eq_true h) ?_
    rw [decide_eq_true h,Bool.true_and]
    exact Lj h.1 h.2 99 2 (by omega) (by omega)
  · refine Ev.neg (by simp [h]) (Ev.mI ?_)
    rw [decide_eq_false h,Bool.false_and]
theorem DL (p : Int) : Ev (fun k=>iA.f k p) (oJ p):=by
  unfold iA.f oJ
  refine Ev.jl (JP _ _ _) ?_
  by_cases h : 2 ≤ p∧p ≤ 10007
  · refine Ev.pos (decide_eq_true h) ?_
    rw [decide_eq_true h,Bool.true_and]
    exact Ll h.1 h.2 99 2 (by omega) (by omega)
  · refine Ev.neg (by simp [h]) (Ev.mI ?_)
    rw [decide_eq_false h,Bool.false_and]

/-! ### numbers modulo p -/
theorem Lm (p x : Int) (l : List Int) : Nm p (x :: l) ↔ (0 ≤ x∧x < p)∧Nm p l:=by
  constructor
  · exact fun h=>⟨h x (List.mem_cons_self ..),fun y hy=>h y (List.mem_cons_of_mem _ hy)⟩
  · exact fun h=>Nm.cons h.1.1 h.1.2 h.2
theorem Yg (p : Int) (l : List Int) : DK (fun z_=>fG.f p z_) l = some (decide (Nm p l)):=by
  induction l with
  | nil=>simp only [DK];rw [decide_eq_true (Nm.nil p)]
  | cons x l ih =>
    simp only [has_eq] at ih
    simp only [DK,has_eq,Option.bind_some]
    by_cases h : 0 ≤ x∧x < p
    · rw [if_pos (decide_eq_true h),ih]
      congr 1
      apply decide_eq_decide.2
      rw [Lm]
      exact ⟨fun g=>⟨h,g⟩,fun g=>g.2⟩
    · rw [if_neg (by simp [h])]
      congr 1
      exact (decide_eq_false (fun g=>h ((Lm p x l).1 g).1)).symm
theorem BQ (p : Int) (l : List Int) (hl : l.length < 4611686018427387904) : iq.f l (fun z_=>fG.f p z_) = some (decide (Nm p l)):=by
  unfold iq.f
  rw [if_pos hl,Yg]
theorem yV {p : Int} {l : List Int} {i : Nat} (h : i < l.length) : Nm p (l.drop i) ↔ (0 ≤ l.getD i 0∧l.getD i 0 < p)∧Nm p (l.drop (i + 1)):=by
  rw [EO l 0 i h,Lm]
/-! ### sums -/
def sumTo (g : Nat → Int) : Nat → Int
  | 0=>0
  | n + 1=>sumTo g n + g n
/- Polynomials and the program's code for them; no condition. -/
/-! ### polynomials -/
def EA (l : List Int) : Bool:=decide (l.length = 0) || (l.getD (l.length - 1) 0 != 0)
def nU (p : Int) (l : List Int) : Bool:=decide (Nm p l) && (decide (l.length ≤ 25) && EA l)
theorem NT (l : List Int) (hl : Sm l.length) :
    (if (l.length : Int) = 0 then (some true) else (if 0 ≤ (wrap64 ((l.length : Int) - 1)) then (if (wrap64 ((l.length : Int) - 1)) < (l.length : Int) then (some ((rd l (wrap64 ((l.length : Int) - 1))) != 0)) else none) else none)) = some (EA l):=by
  unfold EA
  by_cases h : l.length = 0
  · rw [if_pos (by omega)];simp [h]
  · rw [if_neg (by omega),EU (by omega) (by unfold Sm at hl;omega),if_pos (by omega),if_pos (by omega),kW]
    simp [h]
theorem NU (p : Int) (l : List Int) (hl : Sm l.length) : pz.f p l = some (nU p l):=by
  unfold pz.f nU
  by_cases h : l.length ≤ 25
  · rw [if_pos (by omega),BQ p l (by omega),Option.bind_some]
    by_cases hn : Nm p l
    · rw [if_pos (decide_eq_true hn),NT l hl];simp [h,hn]
    · rw [if_neg (by simp [hn])];simp [hn]
  · rw [if_neg (by omega)];simp [h]
theorem Uo (p : Int) (ls : List (List Int)) (hl : ∀ l ∈ ls,Sm l.length) : DK (fun z_=>iE.f z_ p) ls = some (ls.all (nU p)):=by
  induction ls with
  | nil=>rfl
  | cons l ls ih =>
    have e : iE.f l p = some (nU p l):=by
      unfold iE.f
      rw [NU p l (hl l (List.mem_cons_self ..))];rfl
    simp only [DK,e,Option.bind_some,List.all_cons]
    by_cases h : nU p l = true
    · rw [if_pos h,ih (fun m hm=>hl m (List.mem_cons_of_mem _ hm)),h,Bool.true_and]
    · rw [if_neg h,Bool.eq_false_iff.2 h,Bool.false_and]
theorem NV (p : Int) (b : Bool) (ls : List (List Int)) (hs : Sm ls.length) (hl : ∀ l ∈ ls,Sm l.length) :
    Ev (fun k=>nI.f k p b ls) (if ls.all (nU p) then (if oJ p && b then 0 else 2) else 1):=by
  unfold nI.f
  have e : jS.f ls (fun z_=>iE.f z_ p) = some (ls.all (nU p)):=by
    unfold jS.f
    rw [if_pos (by unfold Sm at hs;omega),Uo p ls hl]
  refine Ev.jl e ?_
  by_cases h : ls.all (nU p) = true
  · refine Ev.pos h (Ev.bind (DL p) ?_)
    rw [if_pos h]
    cases oJ p <;> cases b <;> exact ⟨0,fun _ _=>rfl⟩
  · refine Ev.neg h (Ev.mI ?_)
    rw [if_neg h]
/- Small facts of polynomials; no condition. -/
theorem nU.nm {p : Int} {f : List Int} (h : nU p f = true) : Nm p f:=by
  simp only [nU,Bool.and_eq_true,decide_eq_true_eq] at h;exact h.1
theorem nU.len {p : Int} {f : List Int} (h : nU p f = true) : f.length ≤ 25:=by
  simp only [nU,Bool.and_eq_true,decide_eq_true_eq] at h;exact h.2.1
/- Polynomials: the reference's test; no condition. -/
theorem NW (p : Int) (l : List Int) (hl : Sm l.length) (d : Nat) : ∀ i,i + d = l.length → Ev (fun k=>jB.l0 k p l (i : Int)) (decide (Nm p (l.drop i)) && (decide (l.length ≤ 25) && EA l)):=by
  induction d with
  | zero =>
    intro i hi
    refine Ev.step (fun k=>by rw [jB.l0]) ?_
    refine Ev.neg (by omega) ?_
    rw [List.drop_eq_nil_of_le (by omega),decide_eq_true (Nm.nil p),Bool.true_and]
    by_cases h : l.length ≤ 25
    · refine Ev.pos (by omega) (Ev.eq ?_)
      rw [NT l hl];simp [h]
    · exact Ev.neg (by omega) (Ev.mI (by simp [h]))
  | succ d ih =>
    intro i hi
    refine Ev.step (fun k=>by rw [jB.l0]) ?_
    refine Ev.pos (by omega) (Ev.pos (by omega) ?_)
    rw [kW,kS (i:=i) (n:=l.length) (by omega) (by unfold Sm at hl;omega)]
    by_cases h : l.getD i 0 < 0
    · refine Ev.pos h (Ev.mI ?_)
      rw [decide_eq_false (fun g=>by have:=((yV (by omega : i < l.length)).1 g).1.1;omega),Bool.false_and]
    · refine Ev.neg h ?_
      by_cases h' : p ≤ l.getD i 0
      · refine Ev.pos h' (Ev.mI ?_)
        rw [decide_eq_false (fun g=>by have:=((yV (by omega : i < l.length)).1 g).1.2;omega),Bool.false_and]
      · refine Ev.neg h' (Ev.cast (ih (i + 1) (by omega)) ?_)
        congr 1
        apply decide_eq_decide.2
        rw [yV (by omega : i < l.length)]
        exact ⟨fun g=>⟨⟨by omega,by omega⟩,g⟩,fun g=>g.2⟩
theorem Fg (p : Int) (l : List Int) (hl : Sm l.length) : Ev (fun k=>jB.f k p l) (nU p l):=by
  unfold jB.f nU
  simpa using NW p l hl l.length 0 (by omega)
/- Moments: which lists are some, for the program and for the reference; no condition. -/
theorem P9 (p : Int) (hp : -9223372036854775807 ≤ p) (hp' : p ≤ 9223372036854775807) (l : List Int) (hl : Sm l.length) (d : Nat) : ∀ i,i + d = l.length → Ev (fun k=>dW.l0 k p l (i : Int)) (decide (Nm p (l.drop i))):=by
  induction d with
  | zero =>
    intro i hi
    refine Ev.step (fun k=>by rw [dW.l0]) ?_
    refine Ev.neg (by omega) (Ev.mI ?_)
    rw [List.drop_eq_nil_of_le (by omega)]
    exact (decide_eq_true (Nm.nil p)).symm
  | succ d ih =>
    intro i hi
    refine Ev.step (fun k=>by rw [dW.l0]) ?_
    refine Ev.pos (by omega) (Ev.pos (by omega) (Ev.jl (UV _ _ _) ?_))
    rw [kW,df (x:=p - 1) (by omega) (by omega),kS (i:=i) (n:=l.length) (by omega) (by unfold Sm at hl;omega)]
    by_cases h : 0 ≤ l.getD i 0∧l.getD i 0 ≤ p - 1
    · refine Ev.pos (decide_eq_true h) (Ev.cast (ih (i + 1) (by omega)) ?_)
      apply decide_eq_decide.2
      rw [yV (by omega : i < l.length)]
      exact ⟨fun g=>⟨⟨h.1,by omega⟩,g⟩,fun g=>g.2⟩
    · refine Ev.neg (by simpa using h) (Ev.mI (decide_eq_false ?_).symm)
      rw [yV (by omega : i < l.length)]
      exact fun g=>h ⟨g.1.1,by omega⟩
theorem Qa {p : Int} (hp : Pm p) (l : List Int) (hl : Sm l.length) : Ev (fun k=>dW.f k p l) (decide (Nm p l)):=by
  unfold dW.f
  have h2:=hp.two
  have ht:=hp.top
  simpa using P9 p (by omega) (by omega) l hl l.length 0 (by omega)

/-! ### moments -/
def oI (p : Int) (l : List Int) : Bool:=oJ p && (decide (1 ≤ l.length∧l.length ≤ 24) && decide (Nm p l))
theorem oI.pm {p : Int} {l : List Int} (h : oI p l = true) : Pm p:=by
  simp only [oI,Bool.and_eq_true] at h;exact oJ.pm h.1
theorem oI.nm {p : Int} {l : List Int} (h : oI p l = true) : Nm p l:=by
  simp only [oI,Bool.and_eq_true,decide_eq_true_eq] at h;exact h.2.2
theorem oI.len {p : Int} {l : List Int} (h : oI p l = true) : 1 ≤ l.length∧l.length ≤ 24:=by
  simp only [oI,Bool.and_eq_true,decide_eq_true_eq] at h;exact h.2.1
theorem oI.adD {p : Int} {l : List Int} (h : oI p l = true) : oJ p = true:=by
  simp only [oI,Bool.and_eq_true] at h;exact h.1
theorem BP (p : Int) (l : List Int) (hl : Sm l.length) : Ev (fun k=>kI.f k p l) (oI p l):=by
  unfold kI.f oI
  refine Ev.bind (CO p) ?_
  by_cases hp : oJ p = true
  · rw [hp,Bool.true_and]
    refine Ev.pos rfl ?_
    by_cases h1 : 1 ≤ l.length
    · refine Ev.pos (by omega) ?_
      by_cases h2 : l.length ≤ 24
      · refine Ev.pos (by omega) (Ev.bind (Qa (oJ.pm hp) l hl) (Ev.mI ?_))
        rw [decide_eq_true (⟨h1,h2⟩ : 1 ≤ l.length∧l.length ≤ 24),Bool.true_and]
      · exact Ev.neg (by omega) (Ev.mI (by simp [h2]))
    · exact Ev.neg (by omega) (Ev.mI (by simp [h1]))
  · rw [Bool.eq_false_iff.2 hp,Bool.false_and]
    exact Ev.neg (by simp) (Ev.now _)
theorem Qb (p : Int) (l : List Int) (hl : Sm l.length) : Ev (fun k=>eQ.f k p l) (oI p l):=by
  unfold eQ.f oI
  refine Ev.bind (DL p) ?_
  by_cases hp : oJ p = true
  · rw [hp,Bool.true_and]
    refine Ev.pos rfl (Ev.jl (a:=(l.length : Int)) rfl (Ev.jl (JP _ _ _) ?_))
    by_cases h : 1 ≤ l.length∧l.length ≤ 24
    · refine Ev.pos (decide_eq_true (by omega)) (Ev.jl (a:=p) rfl (Ev.jl (BQ p l (by unfold Sm at hl;omega)) (Ev.mI ?_)))
      rw [decide_eq_true h,Bool.true_and]
    · refine Ev.neg (by simp;omega) (Ev.mI ?_)
      rw [decide_eq_false h,Bool.false_and]
  · rw [Bool.eq_false_iff.2 hp,Bool.false_and]
    exact Ev.neg (by simp) (Ev.now _)
theorem zW (p : Int) (l : List Int) (hl : Sm l.length) (b : Bool) (ls : List (List Int)) (hs : Sm ls.length) (hls : ∀ l ∈ ls,Sm l.length) :
    Ev (fun k=>iC.f k p l b ls) (if oI p l && ls.all (nU p) then (if b then 0 else 2) else 1):=by
  unfold iC.f
  refine Ev.bind (Qb p l hl) ?_
  by_cases h : oI p l = true
  · rw [h,Bool.true_and]
    refine Ev.pos rfl (Ev.bind (NV p b ls hs hls) (Ev.mI ?_))
    rw [oI.adD h,Bool.true_and]
  · rw [Bool.eq_false_iff.2 h,Bool.false_and]
    exact Ev.neg (by simp) (Ev.mI rfl)
/- What the functional makes of a polynomial: one sum modulo p, in the program and in the reference. -/
/-- The functional at f times x^s. -/
def xu (p : Int) (m f : List Int) (s : Nat) : Int:=sumTo (fun j=>f.getD j 0 * m.getD (j + s) 0) f.length % p

theorem Lp {p : Int} (hp : Pm p) (m f : List Int) (hm : Nm p m) (hf : Nm p f) (s : Nat) (hs : f.length + s ≤ m.length ∨ f = []) (hl : Sm f.length) (hss : Sm s) (d : Nat) : ∀ i,i + d = f.length →
    Ev (fun k=>jk.l0 k f (s : Int) (sumTo (fun j=>f.getD j 0 * m.getD (j + s) 0) i % p) (i : Int) p m) (xu p m f s):=by
  induction d with
  | zero =>
    intro i hi
    refine Ev.step (fun k=>by rw [jk.l0]) ?_
    refine Ev.neg (by omega) (Ev.mI ?_)
    unfold xu
    rw [show i = f.length from by omega]
  | succ d ih =>
    intro i hi
    have hs' : f.length + s ≤ m.length:=by
      rcases hs with h | h
      · exact h
      · rw [h] at hi;simp at hi
    unfold Sm at hl hss
    have h1:=hf.get (i:=i) (by omega)
    have h2:=hm.get (i:=i + s) (by omega)
    have h3:=BI hp h1.1 h1.2 h2.1 h2.2
    have h4:=mi hp.pos (sumTo (fun j=>f.getD j 0 * m.getD (j + s) 0) i)
    have ht:=hp.top
    refine Ev.step (fun k=>by rw [jk.l0]) ?_
    refine Ev.pos (by omega) (Ev.pos (by omega) ?_)
    rw [Xz (i:=i) (j:=s) (n:=i + s + 1) (by omega) (by omega)]
    refine Ev.pos (by omega) (Ev.pos (by omega) (Ev.neg hp.ne ?_))
    rw [kW,kW,df (x:=f.getD i 0 * m.getD (i + s) 0) (by omega) (by omega),df (by omega) (by omega),lU (by omega),Int.emod_add_emod,kS (i:=i) (n:=f.length) (by omega) (by omega)]
    exact ih (i + 1) (by omega)
theorem J6 {p : Int} (hp : Pm p) (m f : List Int) (hm : Nm p m) (hf : Nm p f) (s : Nat) (hs : f.length + s ≤ m.length ∨ f = []) (hl : Sm f.length) (hss : Sm s) :
    Ev (fun k=>jk.f k p m f (s : Int)) (xu p m f s):=by
  unfold jk.f
  have h:=Lp hp m f hm hf s hs hl hss f.length 0 (by omega)
  simpa [sumTo] using h

theorem Lr {p : Int} (hp : Pm p) (m f : List Int) (hm : Nm p m) (hf : Nm p f) (hs : f.length ≤ m.length) (hl : Sm f.length) (d : Nat) : ∀ i,i + d = f.length →
    Ev (fun k=>bL.l0 k (sumTo (fun j=>f.getD j 0 * m.getD j 0) i % p) f (f.length : Int) (i : Int) p m) (xu p m f 0):=by
  induction d with
  | zero =>
    intro i hi
    refine Ev.step (fun k=>by rw [bL.l0]) ?_
    refine Ev.neg (by omega) (Ev.mI ?_)
    unfold xu
    rw [show i = f.length from by omega]
    rfl
  | succ d ih =>
    intro i hi
    unfold Sm at hl
    have h1:=hf.get (i:=i) (by omega)
    have h2:=hm.get (i:=i) (by omega)
    have h3:=BI hp h1.1 h1.2 h2.1 h2.2
    have h4:=mi hp.pos (sumTo (fun j=>f.getD j 0 * m.getD j 0) i)
    have ht:=hp.top
    refine Ev.step (fun k=>by rw [bL.l0]) ?_
    refine Ev.pos (by omega) (Ev.pos (by omega) (Ev.pos (by omega) (Ev.jl (a:=p) rfl (Ev.pos (by omega) (Ev.jl (zl hp _) ?_)))))
    rw [kW,kW,df (x:=f.getD i 0 * m.getD i 0) (by omega) (by omega),df (by omega) (by omega),Int.emod_add_emod,kS (i:=i) (n:=f.length) (by omega) (by omega)]
    exact ih (i + 1) (by omega)
theorem Cr {p : Int} (hp : Pm p) (m f : List Int) (hm : Nm p m) (hf : Nm p f) (hs : f.length ≤ m.length) (hl : Sm f.length) :
    Ev (fun k=>bL.f k p m f) (xu p m f 0):=by
  unfold bL.f
  have h:=Lr hp m f hm hf hs hl f.length 0 (by omega)
  simpa [sumTo] using h
/- Lists without noughts at their end; no condition. -/
theorem Co {p : Int} (hp : Pm p) (x : Int) : jq.f p x = some (x % p):=by
  unfold jq.f
  rw [if_neg hp.ne,KJ hp]

/-! ### noughts at the end -/
theorem JQ (l : List Int) (x : Int) (m : List Int) : ((l ++ [x]) ++ m).getD l.length 0 = x:=by
  rw [List.append_assoc,List.getD_eq_getElem?_getD,List.getElem?_append_right (Nat.le_refl _),Nat.sub_self];rfl
theorem NY (l : List Int) : Sm l.length → Ev (fun k=>ji.l0 k l) (mr l):=by
  induction l using Li with
  | h0 =>
    intro _
    refine Ev.step (fun k=>by rw [ji.l0]) ?_
    exact Ev.neg (by simp) (Ev.now _)
  | h1 l x ih =>
    intro hl
    have hn : (l ++ [x]).length = l.length + 1:=by simp
    rw [hn] at hl
    unfold Sm at hl
    have e : wrap64 (((l ++ [x]).length : Int) - 1) = (l.length : Int):=by rw [hn,df (by omega) (by omega)];omega
    have er : rd (l ++ [x]) (l.length : Int) = x:=by
      rw [kW];have:=JQ l x [];rwa [List.append_nil] at this
    refine Ev.step (fun k=>by rw [ji.l0]) ?_
    rw [e,er]
    refine Ev.pos (by omega) (Ev.pos (by omega) (Ev.pos (by omega) ?_))
    by_cases hx : x = 0
    · refine Ev.pos hx (Ev.pos (by omega) ?_)
      rw [jZ,List.take_left,hx,qG]
      exact ih (by unfold Sm;omega)
    · refine Ev.neg hx (Ev.mI ?_)
      rw [wZ l hx]
theorem Fx (l : List Int) (hl : Sm l.length) : Ev (fun k=>ji.f k l) (mr l):=by
  unfold ji.f
  exact NY l hl
theorem NZ (l : List Int) : ∀ m : List Int,Sm (l ++ m).length → Ev (fun k=>gQ.l0 k (l ++ m) (l.length : Int)) (mr l):=by
  induction l using Li with
  | h0 =>
    intro m hl
    refine Ev.step (fun k=>by rw [gQ.l0]) ?_
    refine Ev.neg (by simp) (Ev.pos (by simp) (Ev.pos (by simp) (Ev.jl (G9 _ (hl.take _)) (Ev.mI ?_))))
    simp [Hq]
  | h1 l x ih =>
    intro m hl
    have hn : (l ++ [x]).length = l.length + 1:=by simp
    have hl':=hl
    rw [List.length_append,hn] at hl'
    have hm : (l ++ [x] ++ m).length = l.length + 1 + m.length:=by rw [List.length_append,hn]
    unfold Sm at hl'
    have e : wrap64 (((l ++ [x]).length : Int) - 1) = (l.length : Int):=by rw [hn,df (by omega) (by omega)];omega
    have er : rd ((l ++ [x]) ++ m) (l.length : Int) = x:=by
      rw [kW];exact JQ l x m
    refine Ev.step (fun k=>by rw [gQ.l0]) ?_
    rw [e,er]
    refine Ev.pos (by omega) (Ev.pos (by omega) (Ev.pos (by omega) ?_))
    by_cases hx : x = 0
    · refine Ev.pos hx ?_
      have:=ih ([x] ++ m) (by rw [← List.append_assoc];exact hl)
      rw [← List.append_assoc] at this
      rw [hx,qG]
      rw [hx] at this
      exact this
    · refine Ev.neg hx (Ev.pos (by omega) (Ev.pos (by omega) (Ev.jl (G9 _ (hl.take _)) (Ev.mI ?_))))
      rw [jZ,List.take_left,wZ l hx]
theorem xY (l : List Int) (hl : Sm l.length) : Ev (fun k=>gQ.f k l) (mr l):=by
  unfold gQ.f
  have:=NZ l [] (by rw [List.append_nil];exact hl)
  rwa [List.append_nil] at this
theorem CR (l : List Int) : (mr l).length ≤ l.length:=by
  obtain ⟨n,h⟩:=Ho l
  have:=congrArg List.length h
  rw [List.length_append] at this
  omega
theorem Nm.mr {p : Int} {l : List Int} (h : Nm p l) : Nm p (mr l):=by
  obtain ⟨n,e⟩:=Ho l
  intro x hx
  refine h x ?_
  rw [e]
  exact List.mem_append_left _ hx
/- Sums of polynomials modulo p: the program's side; no condition. -/
/-! ### sums -/
def sW (p k : Int) (g : List Int) : Nat → Nat → List Int → List Int
  | 0,_,o=>o
  | d + 1,i,o=>sW p k g d (i + 1) (o.set i ((o.getD i 0 + k * g.getD i 0) % p))
theorem EC (p k : Int) (g : List Int) (d : Nat) : ∀ i o,(sW p k g d i o).length = o.length:=by
  induction d with
  | zero=>intro i o;rfl
  | succ d ih=>intro i o;rw [sW,ih,List.length_set]
theorem Yh {p : Int} (hp : 0 < p) (k : Int) (g : List Int) (d : Nat) : ∀ i o,Nm p o → Nm p (sW p k g d i o):=by
  induction d with
  | zero=>intro i o h;exact h
  | succ d ih=>intro i o h;exact ih _ _ (h.set (mi hp _).1 (mi hp _).2 i)
/-- The list that the sum begins with. -/
def rU (f : List Int) (n : Nat) : List Int:=f ++ List.replicate (n - f.length) 0
theorem vz (f : List Int) {n : Nat} (h : f.length ≤ n) : (rU f n).length = n:=by
  rw [rU,List.length_append,List.length_replicate];omega
theorem Nm.rU {p : Int} (hp : 0 < p) {f : List Int} (h : Nm p f) (n : Nat) : Nm p (rU f n):=h.append (Nm.zeros hp _)
/-- f and k times g. -/
def yA (p : Int) (f g : List Int) (k : Int) : List Int:=mr (sW p k g g.length 0 (rU f (max f.length g.length)))
theorem Nw (p : Int) (f g : List Int) (k : Int) : (yA p f g k).length ≤ max f.length g.length:=by
  have:=CR (sW p k g g.length 0 (rU f (max f.length g.length)))
  rw [EC,vz f (by omega)] at this
  exact this
theorem CZ {p : Int} (hp : 0 < p) {f g : List Int} (hf : Nm p f) (k : Int) : Nm p (yA p f g k):=(Yh hp k g _ _ _ (hf.rU hp _)).mr
theorem Yi (a b : Nat) : mx (a : Int) (b : Int) = ((max a b : Nat) : Int):=by
  unfold mx;split <;> omega
theorem Yj {p k : Int} (hp : Pm p) (hk : 0 ≤ k∧k < p) (g : List Int) (hg : Nm p g) (d : Nat) : ∀ (i : Nat) (o : List Int),i + d = g.length → g.length ≤ o.length → Nm p o → Sm o.length →
    Ev (fun n=>fV.l0 n p k o g (g.length : Int) (i : Int)) (mr (sW p k g d i o)):=by
  induction d with
  | zero =>
    intro i o hi hl ho hs
    refine Ev.step (fun n=>by rw [fV.l0]) ?_
    exact Ev.neg (by omega) (Ev.bind (Fx o hs) (Ev.now _))
  | succ d ih =>
    intro i o hi hl ho hs
    have h1:=ho.get (i:=i) (by omega)
    have h2:=hg.get (i:=i) (by omega)
    have h3:=BI hp hk.1 hk.2 h2.1 h2.2
    have ht:=hp.top
    have hm:=mi hp.pos (o.getD i 0 + k * g.getD i 0)
    have hs':=hs
    unfold Sm at hs'
    refine Ev.step (fun n=>by rw [fV.l0]) ?_
    refine Ev.pos (by omega) (Ev.pos (by omega) (Ev.pos (by omega) (Ev.pos (by omega) ?_)))
    rw [kW,kW,df (x:=k * g.getD i 0) (by omega) (by omega),df (by omega) (by omega)]
    refine Ev.jl (zl hp _) ?_
    rw [kS (i:=i) (n:=g.length) (by omega) (by omega),jZ]
    exact ih (i + 1) _ (by omega) (by rw [List.length_set];omega) (ho.set hm.1 hm.2 i) (by rw [List.length_set];exact hs)
theorem Uq (f : List Int) {n : Nat} (h : f.length ≤ n) : cpy (List.replicate n 0) f = rU f n:=by
  unfold cpy rU
  rw [List.length_replicate,Nat.min_eq_left h,List.take_length,List.drop_replicate]
theorem BO {p k : Int} (hp : Pm p) (hk : 0 ≤ k∧k < p) (f g : List Int) (hf : Nm p f) (hg : Nm p g) (sf : Sm f.length) (sg : Sm g.length) :
    Ev (fun n=>fV.f n p f g k) (yA p f g k):=by
  unfold fV.f
  unfold Sm at sf sg
  rw [Yi,jZ,Uq f (by omega)]
  refine Ev.pos (by omega) (Ev.pos (by omega) ?_)
  exact Yj hp hk g hg g.length 0 _ (by omega) (by rw [vz f (by omega)];omega) (hf.rU hp.pos _) (by rw [vz f (by omega)];unfold Sm;omega)
/- Sums of polynomials modulo p; no condition. -/
theorem Yk {p k : Int} (hp : Pm p) (hk : 0 ≤ k∧k < p) (g : List Int) (hg : Nm p g) (d : Nat) : ∀ (i : Nat) (o : List Int),i + d = g.length → g.length ≤ o.length → Nm p o → Sm o.length →
    Ev (fun n=>dF.l1 n p g k o (i : Int)) (mr (sW p k g d i o)):=by
  induction d with
  | zero =>
    intro i o hi hl ho hs
    refine Ev.step (fun n=>by rw [dF.l1]) ?_
    exact Ev.neg (by omega) (Ev.bind (xY o hs) (Ev.now _))
  | succ d ih =>
    intro i o hi hl ho hs
    have h1:=ho.get (i:=i) (by omega)
    have h2:=hg.get (i:=i) (by omega)
    have h3:=BI hp hk.1 hk.2 h2.1 h2.2
    have ht:=hp.top
    have hm:=mi hp.pos (o.getD i 0 + k * g.getD i 0)
    have hs':=hs
    unfold Sm at hs'
    refine Ev.step (fun n=>by rw [dF.l1]) ?_
    refine Ev.pos (by omega) (Ev.pos (by omega) (Ev.pos (by omega) ?_))
    rw [kW,kW,df (x:=k * g.getD i 0) (by omega) (by omega),df (by omega) (by omega)]
    refine Ev.jl (Co hp _) ?_
    rw [kS (i:=i) (n:=g.length) (by omega) (by omega),jZ]
    exact ih (i + 1) _ (by omega) (by rw [List.length_set];omega) (ho.set hm.1 hm.2 i) (by rw [List.length_set];exact hs)
theorem Yl {p k : Int} (f g : List Int) (n : Nat) (r : List Int) (hn : f.length ≤ n) (hs : Sm n) (e : Ev (fun m=>dF.l1 m p g k (rU f n) 0) r) (d : Nat) : ∀ i,i + d = f.length →
    Ev (fun m=>dF.l0 m p f g k (f.take i ++ List.replicate (n - i) 0) (i : Int)) r:=by
  induction d with
  | zero =>
    intro i hi
    refine Ev.step (fun m=>by rw [dF.l0]) ?_
    refine Ev.neg (by omega) ?_
    rw [show i = f.length from by omega,List.take_length]
    exact e
  | succ d ih =>
    intro i hi
    unfold Sm at hs
    have hl : (f.take i ++ List.replicate (n - i) (0 : Int)).length = n:=by rw [List.length_append,List.length_take,List.length_replicate];omega
    refine Ev.step (fun m=>by rw [dF.l0]) ?_
    refine Ev.pos (by omega) (Ev.pos (by omega) (Ev.pos (by omega) ?_))
    rw [kW,jZ,kS (i:=i) (n:=n) (by omega) (by omega)]
    have e2 : (f.take i ++ List.replicate (n - i) (0 : Int)).set i (f.getD i 0) = f.take (i + 1) ++ List.replicate (n - (i + 1)) 0:=by
      rw [List.set_append_right (h:=by rw [List.length_take];omega),List.length_take,show i - min i f.length = 0 from by omega,show n - i = (n - (i + 1)) + 1 from by omega,List.replicate_succ,List.set_cons_zero,List.take_add_one,List.append_assoc,List.getElem?_eq_getElem (by omega),List.getD_eq_getElem?_getD,List.getElem?_eq_getElem (by omega)]
      rfl
    rw [e2]
    exact ih (i + 1) (by omega)
theorem BL {p k : Int} (hp : Pm p) (hk : 0 ≤ k∧k < p) (f g : List Int) (hf : Nm p f) (hg : Nm p g) (sf : Sm f.length) (sg : Sm g.length) :
    Ev (fun n=>dF.f n p f g k) (yA p f g k):=by
  unfold dF.f
  unfold Sm at sf sg
  rw [Yi,jZ]
  refine Ev.pos (by omega) (Ev.pos (by omega) ?_)
  have h1:=Yk hp hk g hg g.length 0 (rU f (max f.length g.length)) (by omega) (by rw [vz f (by omega)];omega) (hf.rU hp.pos _) (by rw [vz f (by omega)];unfold Sm;omega)
  have h2:=Yl f g (max f.length g.length) _ (by omega) (by unfold Sm;omega) h1 f.length 0 (by omega)
  rw [List.take_zero,List.nil_append,Nat.sub_zero] at h2
  exact h2
/- Products of polynomials modulo p; no condition. -/
/-! ### products -/
def oV (p c : Int) (g : List Int) (i : Nat) : Nat → Nat → List Int → List Int
  | 0,_,o=>o
  | d + 1,j,o=>oV p c g i d (j + 1) (o.set (i + j) ((o.getD (i + j) 0 + c * g.getD j 0) % p))
theorem sZ (p c : Int) (g : List Int) (i d : Nat) : ∀ j o,(oV p c g i d j o).length = o.length:=by
  induction d with
  | zero=>intro j o;rfl
  | succ d ih=>intro j o;rw [oV,ih,List.length_set]
theorem Df {p : Int} (hp : 0 < p) (c : Int) (g : List Int) (i d : Nat) : ∀ j o,Nm p o → Nm p (oV p c g i d j o):=by
  induction d with
  | zero=>intro j o h;exact h
  | succ d ih=>intro j o h;exact ih _ _ (h.set (mi hp _).1 (mi hp _).2 _)
def sO (p : Int) (f g : List Int) : Nat → Nat → List Int → List Int
  | 0,_,o=>o
  | d + 1,i,o=>sO p f g d (i + 1) (oV p (f.getD i 0) g i g.length 0 o)
theorem Qc (p : Int) (f g : List Int) (d : Nat) : ∀ i o,(sO p f g d i o).length = o.length:=by
  induction d with
  | zero=>intro i o;rfl
  | succ d ih=>intro i o;rw [sO,ih,sZ]
theorem Ur {p : Int} (hp : 0 < p) (f g : List Int) (d : Nat) : ∀ i o,Nm p o → Nm p (sO p f g d i o):=by
  induction d with
  | zero=>intro i o h;exact h
  | succ d ih=>intro i o h;exact ih _ _ (Df hp _ _ _ _ _ _ h)
/-- f times g. -/
def nz (p : Int) (f g : List Int) : List Int:=if f.length = 0 ∨ g.length = 0 then [] else mr (sO p f g f.length 0 (List.replicate (f.length + g.length - 1) 0))
theorem vP (p : Int) (f g : List Int) : (nz p f g).length ≤ f.length + g.length - 1:=by
  unfold nz
  split
  · simp
  · have:=CR (sO p f g f.length 0 (List.replicate (f.length + g.length - 1) 0))
    rw [Qc,List.length_replicate] at this
    exact this
theorem xX {p : Int} (hp : 0 < p) (f g : List Int) : Nm p (nz p f g):=by
  unfold nz
  split
  · exact Nm.nil p
  · exact (Ur hp _ _ _ _ _ (Nm.zeros hp _)).mr
theorem Ym {p : Int} (hp : Pm p) (f g : List Int) (hg : Nm p g) (c : Int) (hc : 0 ≤ c∧c < p) (i : Nat) (r : List Int) (d : Nat) : ∀ (j : Nat) (o : List Int),j + d = g.length → i + g.length ≤ o.length → Nm p o → Sm o.length →
    Ev (fun n=>bv.l0 n p g (oV p c g i d j o) f (f.length : Int) (wrap64 ((i : Int) + 1))) r →
    Ev (fun n=>bv.l1 n p g o (i : Int) c f (f.length : Int) (i : Int) g (g.length : Int) (j : Int)) r:=by
  induction d with
  | zero =>
    intro j o hj hl ho hs e
    refine Ev.step (fun n=>by rw [bv.l1]) ?_
    exact Ev.neg (by omega) e
  | succ d ih =>
    intro j o hj hl ho hs e
    have h1:=ho.get (i:=i + j) (by omega)
    have h2:=hg.get (i:=j) (by omega)
    have h3:=BI hp hc.1 hc.2 h2.1 h2.2
    have ht:=hp.top
    have hm:=mi hp.pos (o.getD (i + j) 0 + c * g.getD j 0)
    have hs':=hs
    unfold Sm at hs'
    have hw : wrap64 ((i : Int) + (j : Int)) = ((i + j : Nat) : Int):=Xz (n:=o.length) (by omega) (by omega)
    refine Ev.step (fun n=>by rw [bv.l1]) ?_
    rw [hw]
    have c1 : (j : Int) < (g.length : Int):=by clear h1 h2 h3 hm hw e;omega
    have c2 : (0 : Int) ≤ (j : Int):=by clear h1 h2 h3 hm hw e;omega
    have c3 : (0 : Int) ≤ ((i + j : Nat) : Int):=by clear h1 h2 h3 hm hw e;omega
    have c4 : ((i + j : Nat) : Int) < (o.length : Int):=by clear h1 h2 h3 hm hw e;omega
    refine Ev.pos c1 (Ev.pos c2 (Ev.pos c1 (Ev.pos c3 (Ev.pos c4 ?_))))
    rw [kW,kW,df (x:=c * g.getD j 0) (by omega) (by omega),df (by omega) (by omega)]
    refine Ev.jl (zl hp _) ?_
    rw [kS (i:=j) (n:=g.length) (by clear h1 h2 h3 hm hw e;omega) (by clear h1 h2 h3 hm hw e;omega),jZ]
    exact ih (j + 1) _ (by clear h1 h2 h3 hm hw e;omega) (by rw [List.length_set];clear h1 h2 h3 hm hw e;omega) (ho.set hm.1 hm.2 _) (by rw [List.length_set];exact hs) e
theorem Yn {p : Int} (hp : Pm p) (f g : List Int) (hf : Nm p f) (hg : Nm p g) (d : Nat) : ∀ (i : Nat) (o : List Int),i + d = f.length → f.length + g.length ≤ o.length + 1 → Nm p o → Sm o.length →
    Ev (fun n=>bv.l0 n p g o f (f.length : Int) (i : Int)) (mr (sO p f g d i o)):=by
  induction d with
  | zero =>
    intro i o hi hl ho hs
    refine Ev.step (fun n=>by rw [bv.l0]) ?_
    exact Ev.neg (by omega) (Ev.bind (Fx o hs) (Ev.now _))
  | succ d ih =>
    intro i o hi hl ho hs
    have hs':=hs
    unfold Sm at hs'
    refine Ev.step (fun n=>by rw [bv.l0]) ?_
    refine Ev.pos (by omega) (Ev.pos (by omega) (Ev.pos (by omega) ?_))
    rw [kW]
    refine Ym hp f g hg _ (hf.get (i:=i) (by omega)) i _ g.length 0 o (by omega) (by omega) ho hs ?_
    by_cases hg0 : f.length ≤ 4611686018427387903
    · rw [kS (i:=i) (n:=f.length) (by omega) (by omega)]
      exact ih (i + 1) _ (by omega) (by rw [sZ];exact hl) (Df hp.pos _ _ _ _ _ _ ho) (by rw [sZ];exact hs)
    · omega
theorem BN {p : Int} (hp : Pm p) (f g : List Int) (hf : Nm p f) (hg : Nm p g) (sf : Sm f.length) (sg : Sm g.length) (sfg : Sm (f.length + g.length)) :
    Ev (fun n=>bv.f n p f g) (nz p f g):=by
  unfold bv.f nz
  unfold Sm at sf sg sfg
  by_cases h1 : f.length = 0
  · rw [if_pos (Or.inl h1)]
    refine Ev.pos (by omega) ?_
    refine Ev.step (fun n=>by rw [bv.j0]) ?_
    exact Ev.pos rfl (Ev.now _)
  · refine Ev.neg (by omega) ?_
    by_cases h2 : g.length = 0
    · rw [if_pos (Or.inr h2),show ((g.length : Int) == 0) = true from by simp [h2]]
      refine Ev.step (fun n=>by rw [bv.j0]) ?_
      exact Ev.pos rfl (Ev.now _)
    · rw [if_neg (by omega),show ((g.length : Int) == 0) = false from by simp;exact fun h=>h2 (by simp [h])]
      refine Ev.step (fun n=>by rw [bv.j0]) ?_
      have e : wrap64 (wrap64 ((f.length : Int) + (g.length : Int)) - 1) = ((f.length + g.length - 1 : Nat) : Int):=by
        rw [df (x:=(f.length : Int) + (g.length : Int)) (by omega) (by omega),df (by omega) (by omega)];omega
      rw [e,jZ]
      refine Ev.neg (by decide) (Ev.pos (by omega) (Ev.pos (by omega) ?_))
      exact Yn hp f g hf hg f.length 0 _ (by omega) (by rw [List.length_replicate];omega) (Nm.zeros hp.pos _) (by rw [List.length_replicate];unfold Sm;omega)
theorem Yo {p : Int} (hp : Pm p) (f g : List Int) (hf : Nm p f) (hg : Nm p g) (i : Nat) (hi : i < f.length) (r : List Int) (d : Nat) : ∀ (j : Nat) (o : List Int),j + d = g.length → i + g.length ≤ o.length → Nm p o → Sm o.length →
    Ev (fun n=>bI.l0 n p f g (oV p (f.getD i 0) g i d j o) (wrap64 ((i : Int) + 1))) r →
    Ev (fun n=>bI.l1 n p f g o (i : Int) (j : Int)) r:=by
  induction d with
  | zero =>
    intro j o hj hl ho hs e
    refine Ev.step (fun n=>by rw [bI.l1]) ?_
    exact Ev.neg (by omega) e
  | succ d ih =>
    intro j o hj hl ho hs e
    have hc:=hf.get (i:=i) hi
    have h1:=ho.get (i:=i + j) (by omega)
    have h2:=hg.get (i:=j) (by omega)
    have h3:=BI hp hc.1 hc.2 h2.1 h2.2
    have ht:=hp.top
    have hm:=mi hp.pos (o.getD (i + j) 0 + f.getD i 0 * g.getD j 0)
    have hs':=hs
    unfold Sm at hs'
    have hw : wrap64 ((i : Int) + (j : Int)) = ((i + j : Nat) : Int):=Xz (n:=o.length) (by omega) (by omega)
    refine Ev.step (fun n=>by rw [bI.l1]) ?_
    rw [hw]
    have c1 : (j : Int) < (g.length : Int):=by clear h1 h2 h3 hm hw e;omega
    have c2 : (0 : Int) ≤ (j : Int):=by clear h1 h2 h3 hm hw e;omega
    have c3 : (0 : Int) ≤ ((i + j : Nat) : Int):=by clear h1 h2 h3 hm hw e;omega
    have c4 : ((i + j : Nat) : Int) < (o.length : Int):=by clear h1 h2 h3 hm hw e;omega
    have c5 : (0 : Int) ≤ (i : Int):=by clear h1 h2 h3 hm hw e;omega
    have c6 : (i : Int) < (f.length : Int):=by clear h1 h2 h3 hm hw e;omega
    refine Ev.pos c1 (Ev.pos c3 (Ev.pos c4 (Ev.pos c5 (Ev.pos c6 (Ev.pos c2 (Ev.neg hp.ne ?_))))))
    rw [kW,kW,kW,df (x:=f.getD i 0 * g.getD j 0) (by omega) (by omega),df (by omega) (by omega),lU (by omega),kS (i:=j) (n:=g.length) (by clear h1 h2 h3 hm hw e;omega) (by clear h1 h2 h3 hm hw e;omega),jZ]
    exact ih (j + 1) _ (by clear h1 h2 h3 hm hw e;omega) (by rw [List.length_set];clear h1 h2 h3 hm hw e;omega) (ho.set hm.1 hm.2 _) (by rw [List.length_set];exact hs) e
theorem Yp {p : Int} (hp : Pm p) (f g : List Int) (hf : Nm p f) (hg : Nm p g) (d : Nat) : ∀ (i : Nat) (o : List Int),i + d = f.length → f.length + g.length ≤ o.length + 1 → Nm p o → Sm o.length →
    Ev (fun n=>bI.l0 n p f g o (i : Int)) (mr (sO p f g d i o)):=by
  induction d with
  | zero =>
    intro i o hi hl ho hs
    refine Ev.step (fun n=>by rw [bI.l0]) ?_
    exact Ev.neg (by omega) (Ev.bind (xY o hs) (Ev.now _))
  | succ d ih =>
    intro i o hi hl ho hs
    have hs':=hs
    unfold Sm at hs'
    refine Ev.step (fun n=>by rw [bI.l0]) ?_
    refine Ev.pos (by omega) ?_
    refine Yo hp f g hf hg i (by omega) _ g.length 0 o (by omega) (by omega) ho hs ?_
    by_cases hg0 : f.length ≤ 4611686018427387903
    · rw [kS (i:=i) (n:=f.length) (by omega) (by omega)]
      exact ih (i + 1) _ (by omega) (by rw [sZ];exact hl) (Df hp.pos _ _ _ _ _ _ ho) (by rw [sZ];exact hs)
    · omega
theorem GH {p : Int} (hp : Pm p) (f g : List Int) (hf : Nm p f) (hg : Nm p g) (sf : Sm f.length) (sg : Sm g.length) (sfg : Sm (f.length + g.length)) :
    Ev (fun n=>bI.f n p f g) (nz p f g):=by
  unfold bI.f nz
  unfold Sm at sf sg sfg
  by_cases h1 : f.length = 0
  · rw [if_pos (Or.inl h1)]
    refine Ev.pos (by omega) ?_
    refine Ev.step (fun n=>by rw [bI.j0]) ?_
    exact Ev.pos rfl (Ev.now _)
  · refine Ev.neg (by omega) ?_
    by_cases h2 : g.length = 0
    · rw [if_pos (Or.inr h2),show ((g.length : Int) == 0) = true from by simp [h2]]
      refine Ev.step (fun n=>by rw [bI.j0]) ?_
      exact Ev.pos rfl (Ev.now _)
    · rw [if_neg (by omega),show ((g.length : Int) == 0) = false from by simp;exact fun h=>h2 (by simp [h])]
      refine Ev.step (fun n=>by rw [bI.j0]) ?_
      have e : wrap64 (wrap64 ((f.length : Int) + (g.length : Int)) - 1) = ((f.length + g.length - 1 : Nat) : Int):=by
        rw [df (x:=(f.length : Int) + (g.length : Int)) (by omega) (by omega),df (by omega) (by omega)];omega
      rw [e,jZ]
      refine Ev.neg (by decide) (Ev.pos (by omega) (Ev.pos (by omega) ?_))
      exact Yp hp f g hf hg f.length 0 _ (by omega) (by rw [List.length_replicate];omega) (Nm.zeros hp.pos _) (by rw [List.length_replicate];unfold Sm;omega)
/- One step of a recurrence: (x - a) f - b g, and the program's function for it; no condition. -/
/-- (x - a) f - b g. -/
def zU (p a b : Int) (f g : List Int) : List Int:=yA p (nz p [(-a) % p,1] f) g ((-b) % p)
theorem XA {p : Int} (hp : Pm p) (a b : Int) (f g : List Int) : Nm p (zU p a b f g):=CZ hp.pos (xX hp.pos _ _) _
theorem Uj (p a b : Int) (f g : List Int) : (zU p a b f g).length ≤ max (f.length + 1) g.length:=by
  have h1:=Nw p (nz p [(-a) % p,1] f) g ((-b) % p)
  have h2:=vP p [(-a) % p,1] f
  simp only [List.length_cons,List.length_nil] at h2
  unfold zU
  omega
theorem UQ {p : Int} (hp : Pm p) (a : Int) : Nm p [(-a) % p,1]:=by
  have:=hp.two
  exact Nm.cons (mi hp.pos _).1 (mi hp.pos _).2 (Nm.cons (by omega) (by omega) (Nm.nil p))
theorem N7 {p a : Int} (hp : Pm p) (h : 0 ≤ a∧a < p) : wrap64 (-a) = -a:=by
  have:=hp.top
  exact df (by omega) (by omega)
theorem L9 {p a b : Int} (hp : Pm p) (ha : 0 ≤ a∧a < p) (hb : 0 ≤ b∧b < p) (f g : List Int) (hf : Nm p f) (hg : Nm p g) (sf : f.length ≤ 1000) (sg : g.length ≤ 1000) :
    Ev (fun n=>l8.f n p a b f g) (zU p a b f g):=by
  unfold l8.f
  have h2:=vP p [(-a) % p,1] f
  simp only [List.length_cons,List.length_nil] at h2
  rw [N7 hp ha,N7 hp hb]
  refine Ev.jl (zl hp _) (Ev.bind (BN hp _ f (UQ hp a) hf (by simp [Sm]) (by unfold Sm;omega) (by simp only [List.length_cons,List.length_nil];unfold Sm;omega)) (Ev.jl (zl hp _) (Ev.bind ?_ (Ev.now _))))
  exact BO hp (mi hp.pos _) _ g (xX hp.pos _ _) hg (by unfold Sm;omega) (by unfold Sm;omega)
theorem af7 {p : Int} (hp : Pm p) : Nm p [1]:=by
  have:=hp.two
  exact Nm.cons (by omega) (by omega) (Nm.nil p)
end Go.Proofs.Ytnpepkpogohcmaa.Pr
