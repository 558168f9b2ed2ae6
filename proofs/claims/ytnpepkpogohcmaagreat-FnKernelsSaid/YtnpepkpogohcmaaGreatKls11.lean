/- Texts of this session in one: what functions of the program compute, and plain facts of it, under the conditions that each theorem names. -/
import Derived.Deep.RegionHeld
import Derived.Laws.BitsLemmas
import Derived.RangeFuncBound
import Derived.RangeFuncCalls
import Derived.RangeFuncFrom
import Derived.Test.YtnpepkpogohcmaaGreatKls1
import Derived.Test.YtnpepkpogohcmaaGreatKls10
import Derived.Test.YtnpepkpogohcmaaGreatKls2
import Derived.Test.YtnpepkpogohcmaaGreatKls3
import Derived.Test.YtnpepkpogohcmaaGreatKls5
import Derived.Test.YtnpepkpogohcmaaGreatKls6
import Derived.Test.YtnpepkpogohcmaaGreatKls8
import Derived.Test.YtnpepkpogohcmaaGreatKls9
namespace Go.Proofs.YtnpepkpogohcmaaGreat.Pr
open Go.RowKit Go.Proofs.YtnpepkpogohcmaaGreatW.PrintWords Go.Proofs.YtnpepkpogohcmaaGreatW.PrintLast Go.Proofs.YtnpepkpogohcmaaGreatW.PrintMore
attribute [local go_sem] pE pF q8 rf nP nQ pG pI   -- for this text's walks alone
set_option linter.unusedVariables false
set_option maxHeartbeats 8000000
set_option maxRecDepth 100000
set_option linter.unusedSimpArgs false
/-! ### dR: function 12 -/
def dR.f (k : Nat) (l0 : List Int) : Option (Int × List Int × Int × List Int × Int):=(eO.f k l0).bind fun Wo=>((dO.f k l0).bind fun LW=>((nH.f k LW.1).bind fun abF=>((aX.f Wo.1 Wo.2.1 Wo.2.2 12).bind fun abG=>((lT.f k Wo.1 abG.2.1 abG.2.2 abF (wrap64 ((mn LW.2.2.1 12) + (wrap64 (Int.tdiv abG.1 11))))).bind fun atG=>(some (LW.1,LW.2.1,LW.2.2.1,atG.1,LW.2.2.2.1))))))
def dR.T3 : Bool × List (List Nat × List Nat):=(true,[([],[]),([],[]),([],[]),([],[]),([3],[3]),([4],[4]),([],[]),([6],[6]),([],[]),([8,5],[8]),([9],[9]),([7,10],[7,10]),([2,5,11,9],[2,5,11]),([],[]),([0,12,0],[0]),([1,14,0,1,14],[1]),([12,15,0,1,2,3,4,5,6,7,8,9,10,11,12,14,15],[12]),([13,16,0,1,2,3,4,5,6,7,8,9,10,11,12,13,14,15,16],[13])])
def dR.B3 : List Nat:=[0,0,0,0,8,24,0,64,0,312,824,2040,4092,0,8189,24575,57343,131071]
theorem dR.aBk : nu .any (opsOf Tryz.f12 3) = dR.T3:=by kernel_rfl
theorem dR.atH : jO dR.T3.2 dR.B3 = true:=by kernel_rfl
theorem dR.calls (k : Nat) (A0 : Option Addr) (c0 : Nat) (l0 : List Int) (r1 : Int) (r2 : List Int) (r3 : Int) (r4 : List Int) (r5 : Int) (w : World) (hr0 : Kd.C (Kd.int .u8) w A0 l0.length l0) (hc0 : l0.length ≤ c0) (H : dR.f k l0 = some (r1,r2,r3,r4,r5)) :
  Calls Tryz.prog 12 #[.slice A0 l0.length c0] w fun e w'=>∃ v1_ v3_ : Value,e = .returned (.tuple #[.agg #[.int .i64 r1,v1_],.int .i64 r3,v3_,.int .i64 r5])∧Kd.R (Kd.int .i64) 2 w' w.heap.size (fun k_=>ax k_ v3_) v1_ r2∧Kd.R (Kd.int .i64) 2 w' w.heap.size (fun k_=>ax k_ v1_) v3_ r4∧Below w.heap.size w w':=by
 have rF:=Tryz.underlying26;have HR0:=zA hr0;have HC0:=zA hc0;clear hr0 hc0;have HB:=zA (Below.refl w.heap.size w);unfold dR.f at H;replace H:=bO H;obtain ⟨⟨Q7,XR,XT⟩,A2,H⟩:=H;(try dsimp only at H);replace H:=bO H;obtain ⟨⟨Ca,D5,afJ,aBl,aBm⟩,A3,H⟩:=H;(try dsimp only at H);replace H:=bO H;obtain ⟨abF,A4,H⟩:=H;obtain ⟨ji5,tT⟩ : ∃ j_ : Int,(mn afJ 12) = j_:=⟨_,rfl⟩;(first | rw [tT] at H | simp only [tT] at H);(try rw [tT] at A2);(try rw [tT] at A3);(try rw [tT] at A4);(try (have aq0 : ji5 ≤ 12:=by (rw [← tT];unfold mn;(repeat' split) <;> omega)));(try (have aq1 : ji5 ≤ 64:=by omega));have Qn : (if 12 < afJ then 12 else afJ) = ji5:=tT;replace H:=bO H;obtain ⟨⟨ald,ale,alf⟩,A6,H⟩:=H;(try dsimp only at H);replace H:=bO H;obtain ⟨⟨aBn,aBo,aBp⟩,A7,H⟩:=H;(try dsimp only at H);simp only [Option.some.injEq,Prod.mk.injEq] at H;obtain ⟨rfl,rfl,rfl,rfl,rfl⟩:=H;go_enter Tryz.func12,Tryz.ntmps12;(try go_wp2_with (first | (refine bX 2 rfl #[.int .i64 0,.slice none 0 0] 26 ?_;intro yI w8 hg qm hb;have atI:=gq HB hg;have:=geI atI;replace HB:=xH HB hb;clear hb hg) | ((with_reducible refine ae (f:=28) rfl ?_);refine gL (some 12) Tryz.func28 #[.slice A0 l0.length c0] ?_;(with_reducible refine (eO.calls k _ _ l0 Q7 XR XT w _ ?side1 ?side2 ?side3 A2.out).mono ?_);(case side1=>exact uH HB.out);(case side2=>exact HR0.out);(case side3=>exact HC0.out);rintro e w9 ⟨Kj,rfl,hi,hb,hb2⟩;refine ⟨_,rfl,?_⟩;replace HB:=zA (hb);have vC:=zA (hi);have XU:=zA (ay.Ob hi (bM (g:=yI) (o:=.cells #[.int .i64 0,.slice none 0 0] 26 (0,0)) (uB qm.out) hb2) (by decide));have:=neI XU;have Gd:=zA (Ne.symm (ay.Ob hi (bM (g:=yI) (o:=.cells #[.int .i64 0,.slice none 0 0] 26 (0,0)) (uB qm.out) hb2) (by decide)));have:=neI Gd;replace qm:=xB qm hb2;(try clear hb);(try clear hb2);(try clear hi)) | ((with_reducible refine ae (f:=18) rfl ?_);refine gL (some 15) Tryz.func18 #[.slice A0 l0.length c0] ?_;(with_reducible refine (dO.calls k _ _ l0 Ca D5 afJ aBl aBm _ ?side1 ?side2 A3.out).mono ?_);(case side1=>exact uC ((Kd.aM HR0.out HB.out)));(case side2=>exact HC0.out);rintro e w10 ⟨aGj,rfl,ho0,hb⟩;refine ⟨_,rfl,?_⟩;have yg:=zA (Kd.bu ho0 (af (uH HB.out)));replace qm:=xB qm hb;replace HB:=zA (dC (uH HB.out) hb);replace vC:=zA (ay.below (uI vC.out) hb);(try clear hb);(try clear hb2);(try clear hi);(try clear ho0)) | ((with_reducible refine bP (N:=7) rfl ?_);refine bx 7 #[.int .i64 0,.slice none 0 0] 26 ?_;intro tC hg w11 hbox hb;replace yg:=xR yg hb;have rW:=zA (hbox);have atJ:=zA ((by rw [hg];exact (af (uH HB.out)) : w.heap.size ≤ tC));have:=geI atJ;have atK:=zA ((by rw [hg];exact (af (uH HB.out)) : w.heap.size ≤ tC));replace HB:=zA (dC (uH HB.out) hb);have xD:=nL qm hg;have:=neI xD;have ut:=nG qm hg;have:=neI ut;replace qm:=xB qm hb;have LX:=zA ((by rw [hg];exact Nat.ne_of_lt (ay.lt (show ay w _ Kj Q7 XR XT from uI vC.out)) : Kj ≠ tC));have:=neI LX;have Da:=zA ((by rw [hg];exact Nat.ne_of_gt (ay.lt (show ay w _ Kj Q7 XR XT from uI vC.out)) : tC ≠ Kj));have:=neI Da;replace vC:=zA (ay.below (uI vC.out) hb);have:=geI atK;clear hb hbox hg;have Zi:=ut.out;have Zj:=xD.out;have aD3:=Da.out;have aD4:=LX.out;have Hw:=bc rW 0;have Un:=bc rW 1;have Hy:=bf rW 0;have Uo:=bf rW 1;obtain ⟨pY,p8,ai6⟩:=Kd.aV yg.out;subst ai6)));have n0_ : aa (Kd.R (Kd.int .i64) 2 ((w11.setCell ⟨tC,0,none⟩ (.int .i64 Ca)).setCell ⟨tC,1,none⟩ (.slice pY D5.length p8)) w.heap.size (fun _=>True) (.slice pY D5.length p8) D5):=⟨uR (Kd.ag (Kd.bn (p:=⟨tC,1,none⟩) (Kd.bn (p:=⟨tC,0,none⟩) (Kd.bF yg.out rW.out (by decide)) (fun _ hk=>hk.2) (.int .i64 Ca)) (fun _ hk=>hk.2) (.slice pY D5.length p8)) (fun _ hk=>trivial))⟩;have n1_ : aa (((w11.setCell ⟨tC,0,none⟩ (.int .i64 Ca)).setCell ⟨tC,1,none⟩ (.slice pY D5.length p8)).heap[yI]? = some (.cells #[.int .i64 0,.slice none 0 0] 26 (0,0))):=⟨by (repeat refine up1 ?_);refine bL ?_ xD.out _;(repeat refine up1 ?_);refine bL ?_ xD.out _;(repeat refine up1 ?_);exact qm.out⟩;have n2_ : aa (((w11.setCell ⟨tC,0,none⟩ (.int .i64 Ca)).setCell ⟨tC,1,none⟩ (.slice pY D5.length p8)).heap[tC]? = some (.cells #[.int .i64 Ca,.slice pY D5.length p8] 26 (0,0))):=⟨by (repeat refine up1 ?_);refine bH (cs:=#[.int .i64 Ca,.slice none 0 0]) ?_ 1 _ rfl;(repeat refine up1 ?_);refine bH (cs:=#[.int .i64 0,.slice none 0 0]) ?_ 0 _ rfl;(repeat refine up1 ?_);exact rW.out⟩;have n3_ : aa (ay w ((w11.setCell ⟨tC,0,none⟩ (.int .i64 Ca)).setCell ⟨tC,1,none⟩ (.slice pY D5.length p8)) Kj Q7 XR XT):=⟨uI vC.out⟩;have n4_ : aa (Below w.heap.size w ((w11.setCell ⟨tC,0,none⟩ (.int .i64 Ca)).setCell ⟨tC,1,none⟩ (.slice pY D5.length p8))):=⟨uH HB.out⟩;(try clear yg);(try clear qm);(try clear rW);(try clear vC);(try clear HB);generalize ((w11.setCell ⟨tC,0,none⟩ (.int .i64 Ca)).setCell ⟨tC,1,none⟩ (.slice pY D5.length p8)) = w16 at n0_ n1_ n2_ n3_ n4_ ⊢;have yg:=n0_;have qm:=n1_;have rW:=n2_;have vC:=n3_;have HB:=n4_;clear n0_ n1_ n2_ n3_ n4_;replace yg:=zA (Kd.gz yg.out);replace qm:=zA (bI qm.out);replace rW:=zA (bI rW.out);replace vC:=zA (ay.drew vC.out);replace HB:=zA (aW HB.out);refine kE (n:=18) (S:=fun w'=>w'.cell? ⟨tC,0,none⟩ = some (.int .i64 Ca)∧w'.cell? ⟨tC,1,none⟩ = some (.slice pY D5.length p8)) (ds:=[]) #[false,false,false,false,false,false,false,false,false,false,false,false,false,false,false,false,false,false] (by kernel_rfl) rfl rfl ⟨bcu rW 0,bcu rW 1⟩ (fun hHeld=>?_);refine gX dR.aBk dR.atH (fun HT_ HW_=>?_);generalize w16.drew = w17 at yg qm rW vC HB hHeld ⊢;refine pu_ 1 21 (bl 18 2) HT_ ?_;refine pu_ 2 22 (bl 18 6) HT_ ?_;refine pu_ 3 23 (bl 18 14) HT_ ?_;refine pu_ 6 26 (bl 18 78) HT_ ?_;refine pu_ 7 27 (bl 18 206) HT_ ?_;refine pu_ 8 28 (bl 18 462) HT_ ?_;refine pu_ 13 33 (bl 18 8654) HT_ ?_;refine ta_ 0 20 (bl 18 8655) HT_ HW_ hHeld ?_;refine ta_ 4 24 (bl 18 8671) HT_ HW_ hHeld ?_;refine on_ 5 (some 25) (bl 18 8703) HT_ (fun K hK=>?_);refine gS Tryz.func30 #[.int .i64 Ca] ?_;(with_reducible refine (nH.calls k Ca abF _ A4.out).mono ?_);rintro e w' ⟨rfl,⟨nd,rfl⟩⟩;refine ⟨_,rfl,?_⟩;refine hK.out _ _ ⟨bcu rW 0,bcu rW 1⟩ (fun hHeld=>?_);clear hK K;refine no_ 25 ?_;refine on_ 9 (some 29) (bl 18 9215) HT_ (fun K hK=>?_);refine gS Tryz.func31 #[.pointer (some ⟨Kj,0,none⟩),.int .i64 12] ?_;(with_reducible refine (aX.calls Kj Q7 XR XT 12 ald ale alf w _ ?side1 ?side2 A6.out).mono ?_);(case side1=>exact uI vC.out);(case side2=>exact uH HB.out);rintro e w18 ⟨rfl,hi,hb,hk⟩;refine ⟨_,rfl,?_⟩;replace qm:=kB hk qm Gd;replace yg:=zA (Kd.ag (Kd.kU (ay.apart (show ay w _ Kj Q7 XR XT from uI vC.out) (uR yg.out) (by decide)) hk (fun _ h=>h.2)) (fun _ h=>h.1));replace rW:=kB hk rW Da;replace HB:=zA (hb);replace vC:=zA (hi);(try clear hb);refine hK.out _ _ ⟨bcu rW 0,bcu rW 1⟩ (fun hHeld=>?_);clear hK K;refine no_ 29 ?_;refine pu_ 10 30 (bl 18 10239) HT_ ?_;refine pu_ 11 31 (bl 18 12287) HT_ ?_;refine on_ 12 (some 32) (bl 18 16383) HT_ (fun K hK=>?_);refine O9 Tryz.func29 (by kernel_rfl) rfl #[.pointer (some ⟨Kj,0,none⟩),.int .i64 abF,.int .i64 (wrap64 ((ji5) + (wrap64 (Int.tdiv ald 11))))] (by rfl) rfl rfl (by (try simp only [la,lb,lc]);first | done | (simp only [tT];rfl) | rfl | (simp only [ld,le];rfl)) ?_;(with_reducible refine (lT.calls k Kj Q7 ale alf abF (wrap64 ((ji5) + (wrap64 (Int.tdiv ald 11)))) aBn aBo aBp w _ ?side1 ?side2 A7.out).mono ?_);(case side1=>exact uI vC.out);(case side2=>exact uH HB.out);rintro e w19 ⟨aGk,rfl,ho0,hi,hb,hk⟩;refine ⟨_,rfl,?_⟩;replace qm:=kB hk qm Gd;replace rW:=kB hk rW Da;have atL:=zA (Kd.bu (nw ho0 (uR yg.out)) (af (uH HB.out)));replace yg:=zA (Kd.ag (Kd.F7 (Kd.N8 (ay.apart (show ay w _ Kj Q7 ale alf from uI vC.out) (uR yg.out) (by decide)) hk) (Kd.aH ho0)) (fun _ h_=>h_.1));replace HB:=zA (hb);replace vC:=zA (hi);(try clear hb);(try clear ho0);refine hK.out _ _ ⟨bcu rW 0,bcu rW 1⟩ (fun hHeld=>?_);clear hK K;refine no_ 32 ?_;refine on_ 14 (none) (bl 18 32767) HT_ (fun K hK=>?_);have aGl : w19.cell? ⟨yI,0,none⟩ = some (.int .i64 0):=(bT qm.out 0).trans rfl;have aD5:=bf qm 0;have axr:=ut.out;have axs:=xD.out;have aGm : w19.cell? ⟨yI,1,none⟩ = some (.slice none 0 0):=(bT qm.out 1).trans rfl;have aD6:=bf qm 1;have axt:=ut.out;have axu:=xD.out;refine yZ (w1:=?_) (by rfl) rfl ?_ ?_;rotate_left
 ·go_simp;rfl
 refine hK.out _ _ ⟨((cell_far (p:=⟨yI,_,none⟩) ut.out _).trans (((cell_far (p:=⟨yI,_,none⟩) ut.out _).trans (hHeld.1)))),((cell_far (p:=⟨yI,_,none⟩) ut.out _).trans (((cell_far (p:=⟨yI,_,none⟩) ut.out _).trans (hHeld.2))))⟩ (fun hHeld=>?_);clear hK K;refine pu_ 15 3 (bl 18 65535) HT_ ?_;refine pu_ 16 4 (bl 18 131071) HT_ ?_;refine pu_ 17 5 (bl 18 262143) HT_ ?_;refine done_ (done_of HT_.out (by kernel_rfl)) ?_;(try go_wp2);refine bodyPost_ret (xk (rs:=[.cell 2 26,.tmp 3,.tmp 4,.tmp 5]) rfl (by simp) (.cell yI 26 #[.int .i64 Ca,.slice pY D5.length p8] (0,0) _ rfl (by (repeat refine up1 ?_);refine bH (cs:=#[.int .i64 Ca,.slice none 0 0]) ?_ 1 _ rfl;(repeat refine up1 ?_);refine bH (cs:=#[.int .i64 0,.slice none 0 0]) ?_ 0 _ rfl;(repeat refine up1 ?_);exact qm.out) Tryz.underlying26 rfl (by kernel_rfl) (.tmp (.tmp (.tmp .nil))))) rfl ?_;exact ⟨_,_,by first | rfl | (simp [eP,eQ] <;> rfl) | (simp only [← tT];first | rfl | (simp [eP,eQ] <;> rfl)) | (simp [*,eP,eQ] <;> rfl),uR (Kd.ag (Kd.bn (p:=⟨yI,1,none⟩) (Kd.bn (p:=⟨yI,0,none⟩) (Kd.bF yg.out qm.out (by decide)) (fun _ hk=>hk.2) (.int .i64 Ca)) (fun _ hk=>hk.2) (.slice pY D5.length p8)) (fun _ hk=>hk.1.2)),uR (Kd.ag (Kd.bn (p:=⟨yI,1,none⟩) (Kd.bn (p:=⟨yI,0,none⟩) (Kd.bF atL.out qm.out (by decide)) (fun _ hk=>hk.2) (.int .i64 Ca)) (fun _ hk=>hk.2) (.slice pY D5.length p8)) (fun _ hk=>hk.1.2)),uH HB.out⟩
/- What comes to some value of a kind, whichever (Ex); the source of drawn numbers. No condition. -/
open Go Go.RowKit Go.Proofs.YtnpepkpogohcmaaGreatW.PrintWords Go.Proofs.YtnpepkpogohcmaaGreatW.PrintLast Go.Proofs.YtnpepkpogohcmaaGreatW.PrintMore
/-- It comes to a value with P. -/
def Ex {α : Type} (g : Nat → Option α) (P : α → Prop) : Prop:=∃ r,Ev g r∧P r
section
variable {α β : Type} {P P' : α → Prop} {Q : β → Prop} {g f X Y : Nat → Option α}
theorem Ex.now {r : α} (h : P r) : Ex (fun _=>some r) P:=⟨r,Ev.now r,h⟩
theorem Ex.weak (h : Ex g P) (k : ∀ a,P a → P' a) : Ex g P':=by
  obtain ⟨r,e,h⟩:=h
  exact ⟨r,e,k r h⟩
theorem Ex.bind {f : Nat → α → Option β} (h : Ex g P) (k : ∀ a,P a → Ex (fun n=>f n a) Q) : Ex (fun n=>(g n).bind (f n)) Q:=by
  obtain ⟨r,e,h⟩:=h
  obtain ⟨s,e',h'⟩:=k r h
  exact ⟨s,Ev.bind e e',h'⟩
theorem Ex.ite {c : Prop} [Decidable c] (h : c → Ex X P) (h' : ¬ c → Ex Y P) : Ex (fun k=>if c then X k else Y k) P:=by
  by_cases g : c
  · obtain ⟨r,e,hr⟩:=h g
    exact ⟨r,Ev.pos g e,hr⟩
  · obtain ⟨r,e,hr⟩:=h' g
    exact ⟨r,Ev.neg g e,hr⟩
theorem Ex.pos {c : Prop} [Decidable c] (g : c) (h : Ex X P) : Ex (fun k=>if c then X k else Y k) P:=Ex.ite (fun _=>h) (fun n=>absurd g n)
theorem Ex.neg {c : Prop} [Decidable c] (g : ¬ c) (h : Ex Y P) : Ex (fun k=>if c then X k else Y k) P:=Ex.ite (fun n=>absurd n g) (fun _=>h)
theorem Ex.step (h : ∀ k,g (k + 1) = f k) (k : Ex f P) : Ex g P:=by
  obtain ⟨r,e,hr⟩:=k
  exact ⟨r,Ev.step h e,hr⟩
theorem Ex.eq {x : Option α} {r : α} (h : x = some r) (k : P r) : Ex (fun _=>x) P:=⟨r,Ev.eq h,k⟩
end

/-- A source of numbers: bytes, of which the first i are used. -/
structure St (c : List Int) (i : Int) : Prop where
  b : ∀ x ∈ c,0 ≤ x∧x < 256
  l : c.length ≤ 4096
  lo : 0 ≤ i
  hi : i ≤ (c.length : Int)
theorem afK (y : Int) : 0 ≤ Go.bits .and .u64 (IntKind.u64.wrap y / 8589934592) 16777215∧Go.bits .and .u64 (IntKind.u64.wrap y / 8589934592) 16777215 < 16777216:=by
  have hw : ∀ n : Int,0 ≤ n → n < 2 ^ 63 → IntKind.u64.wrap n = n:=fun n h₀ h₁=>by rw [IntKind.wrap_u64];omega
  have h0 : 0 ≤ IntKind.u64.wrap y / 8589934592∧IntKind.u64.wrap y / 8589934592 < 2147483648:=by rw [IntKind.wrap_u64];omega
  have h:=bits_mask .u64 63 (by decide) hw 24 (by decide) (IntKind.u64.wrap y / 8589934592) (by omega) (by omega)
  have e : ((2 : Int) ^ 24 - 1) = 16777215:=by decide
  have e2 : ((2 : Int) ^ 24) = 16777216:=by decide
  rw [e,e2] at h
  rw [h]
  omega
/-- What Next gives. -/
def Nx (c : List Int) (n : Int) (r : Int × Int × Int) : Prop:=St c r.2.1∧0 ≤ r.1∧(1 ≤ n → r.1 < n)∧(n < 1 → r.1 = 0)
theorem mH {c : List Int} {i : Int} (s : St c i) (h n : Int) : Ex (fun _=>aX.f c i h n) (Nx c n):=by
  unfold aX.f
  have hl:=s.l
  have hlo:=s.lo
  have hhi:=s.hi
  have hm:=afK (IntKind.u64.wrap (h * 6364136223846793005) + 1442695040888963407)
  generalize Go.bits .and .u64 (IntKind.u64.wrap (IntKind.u64.wrap (h * 6364136223846793005) + 1442695040888963407) / 8589934592) 16777215 = m at hm ⊢
  refine Ex.ite (fun g=>Ex.now ⟨s,Int.le_refl _,fun g'=>by omega,fun _=>rfl⟩) (fun g=>?_)
  refine Ex.ite (fun g1=>?_) (fun g1=>?_)
  · have hx : 0 ≤ rd c i∧rd c i < 256:=by
      obtain ⟨j,rfl⟩ : ∃ j : Nat,i = (j : Int):=⟨i.toNat,by omega⟩
      rw [mV]
      exact s.b _ (xO (by omega))
    have e : wrap64 (wrap64 m + wrap64 (rd c i)) = m + rd c i:=by
      rw [bJ (x:=rd c i) (by omega) (by omega),bJ (x:=m) (by omega) (by omega),bJ (by omega) (by omega)]
    have hb:=lv (p:=n) (by omega) (m + rd c i)
    refine Ex.pos s.lo (Ex.neg (by omega) (Ex.now ⟨⟨s.b,s.l,?_,?_⟩,?_,?_,?_⟩))
    · show 0 ≤ wrap64 (i + 1)
      rw [bJ (by omega) (by omega)];omega
    · show wrap64 (i + 1) ≤ _
      rw [bJ (by omega) (by omega)];omega
    · show 0 ≤ Int.tmod (wrap64 (wrap64 m + wrap64 (rd c i))) n
      rw [e,jY (by omega)];exact hb.1
    · show 1 ≤ n → Int.tmod (wrap64 (wrap64 m + wrap64 (rd c i))) n < n
      rw [e,jY (by omega)];exact fun _=>hb.2
    · exact fun g'=>by omega
  · have e : wrap64 m = m:=bJ (by omega) (by omega)
    have hb:=lv (p:=n) (by omega) m
    refine Ex.neg (by omega) (Ex.now ⟨s,?_,?_,?_⟩)
    · show 0 ≤ Int.tmod (wrap64 m) n
      rw [e,jY (by omega)];exact hb.1
    · show 1 ≤ n → Int.tmod (wrap64 m) n < n
      rw [e,jY (by omega)];exact fun _=>hb.2
    · exact fun g'=>by omega
theorem Fq {c : List Int} {i : Int} (s : St c i) (h : Int) (l : List Int) (hl : 1 ≤ l.length) : Ex (fun _=>jH.f c i h l) (fun r=>St c r.2.1∧r.1 ∈ l):=by
  unfold jH.f
  refine Ex.bind (mH s h (l.length : Int)) (fun r hr=>?_)
  obtain ⟨h1,h2,h3,_⟩:=hr
  have h3:=h3 (by omega)
  refine Ex.pos h2 (Ex.pos h3 (Ex.now ⟨h1,?_⟩))
  obtain ⟨j,e⟩ : ∃ j : Nat,r.1 = (j : Int):=⟨r.1.toNat,by omega⟩
  dsimp only
  rw [e,mV]
  exact xO (by omega)
/-- A code's source. -/
def Sc (c : List Int) (r : List Int × Int × Int) : Prop:=r.1 = c∧St c r.2.1
theorem afL {c : List Int} (hb : ∀ x ∈ c,0 ≤ x∧x < 256) (hl : c.length ≤ 4096) (d : Nat) : ∀ (i : Nat) (h : Int),i + d = c.length → Ex (fun k=>eO.l0 k c (i : Int) c 0 h) (Sc c):=by
  have s : St c 0:=⟨hb,hl,Int.le_refl _,by omega⟩
  induction d with
  | zero =>
    intro i h hi
    refine Ex.step (fun k=>by rw [eO.l0]) ?_
    exact Ex.neg (by omega) (Ex.now ⟨rfl,s⟩)
  | succ d ih =>
    intro i h hi
    refine Ex.step (fun k=>by rw [eO.l0]) ?_
    refine Ex.pos (by omega) (Ex.ite (fun _=>Ex.pos (by omega) ?_) (fun _=>Ex.now ⟨rfl,s⟩))
    rw [lC (i:=i) (n:=c.length) (by omega) (by omega)]
    exact ih (i + 1) _ (by omega)
theorem Vf {c : List Int} (hb : ∀ x ∈ c,0 ≤ x∧x < 256) (hl : c.length ≤ 4096) : Ex (fun k=>eO.f k c) (Sc c):=by
  unfold eO.f
  exact afL hb hl c.length 0 _ (by omega)
/- The draws of moments and polynomials come to some value, of small length; no condition. -/
section
variable {c : List Int} {i : Int}
theorem abH (s : St c i) (h : Int) : Ex (fun _=>lh.f c i h) (fun r=>St c r.2.1∧gQ r.1 = true):=by
  unfold lh.f
  refine Ex.bind (Fq s h _ (by decide)) (fun r hr=>Ex.now ⟨hr.1,?_⟩)
  have e : ∀ x ∈ ([2,3,5,7,7,11,13,17,31,101,997,10007] : List Int),gQ x = true:=by decide
  exact e _ hr.2
theorem afM (s : St c i) (h n : Int) : Ex (fun _=>pO.f c i h n) (fun r=>St c r.2.1):=by
  unfold pO.f
  refine Ex.bind (mH s h 14) (fun r hr=>?_)
  refine Ex.ite (fun _=>?_) (fun _=>?_)
  · exact Ex.bind (Fq hr.1 _ _ (by simp)) (fun r hr=>Ex.now hr.1)
  · exact Ex.bind (mH hr.1 _ _) (fun r hr=>Ex.now hr.1)
theorem Ve (p : Int) : Ex (fun k=>nH.f k p) (fun q=>gQ q = true):=by
  unfold nH.f
  refine Ex.bind (P:=fun b=>b = gQ p) ⟨_,Eo p,rfl⟩ (fun b hb=>Ex.ite (fun g=>Ex.now ?_) (fun _=>Ex.now (by decide)))
  rw [← hb];exact g
theorem afN (p : Int) (m : Int) (d : Nat) : ∀ (j n h : Int) (o : List Int),St c j → n ≤ (d : Int) → o.length + d ≤ 1000 → Ex (fun k=>eH.l0 k p n o m c j h) (fun r=>St c r.2.1∧r.1.length ≤ o.length + d):=by
  induction d with
  | zero =>
    intro j n h o s hn ho
    refine Ex.step (fun k=>by rw [eH.l0]) ?_
    exact Ex.neg (by omega) (Ex.now ⟨s,by dsimp only;omega⟩)
  | succ d ih =>
    intro j n h o s hn ho
    refine Ex.step (fun k=>by rw [eH.l0]) ?_
    refine Ex.ite (fun g=>?_) (fun g=>Ex.now ⟨s,by dsimp only;omega⟩)
    have hw : wrap64 (n - 1) = n - 1:=bJ (by omega) (by omega)
    have next : ∀ (j' h' x : Int),St c j' → Ex (fun k=>eH.l0 k p (wrap64 (n - 1)) (o ++ [x]) m c j' h') (fun r=>St c r.2.1∧r.1.length ≤ o.length + (d + 1)):=by
      intro j' h' x s'
      rw [hw]
      refine Ex.weak (ih j' (n - 1) h' (o ++ [x]) s' (by omega) (by simp;omega)) (fun r hr=>⟨hr.1,?_⟩)
      have:=hr.2
      simp only [List.length_append,List.length_singleton] at this
      omega
    refine Ex.ite (fun _=>?_) (fun _=>?_)
    · exact Ex.bind (mH s h p) (fun r hr=>Ex.pos (by omega) (next _ _ _ hr.1))
    · refine Ex.bind (mH s h 3) (fun r hr=>?_)
      refine Ex.ite (fun _=>?_) (fun _=>?_)
      · exact Ex.bind (mH hr.1 _ p) (fun r hr=>Ex.pos (by omega) (next _ _ _ hr.1))
      · exact Ex.pos (by omega) (next _ _ _ hr.1)
theorem Qc (s : St c i) (h p : Int) (n : Int) (hn : -1000 ≤ n∧n ≤ 100) : Ex (fun k=>lT.f k c i h p n) (fun r=>St c r.2.1∧r.1.length ≤ 102):=by
  unfold lT.f
  refine Ex.bind (mH s h _) (fun r hr=>?_)
  obtain ⟨s1,h1,h2,h3⟩:=hr
  rw [bJ (x:=n + 2) (by omega) (by omega)] at h2 h3
  have hb : r.1 ≤ 101:=by
    by_cases g : 1 ≤ n + 2
    · have:=h2 g;omega
    · have:=h3 (by omega);omega
  have hf : Ex (fun k=>eH.f k c r.2.1 r.2.2 p r.1) (fun r'=>St c r'.2.1∧r'.1.length ≤ 102):=by
    unfold eH.f
    refine Ex.bind (mH s1 _ 3) (fun r' hr'=>?_)
    refine Ex.weak (afN p _ 101 _ _ _ [] hr'.1 (by omega) (by simp)) (fun a ha=>⟨ha.1,?_⟩)
    have:=ha.2
    simp only [List.length_nil] at this
    omega
  refine Ex.bind hf (fun r' hr'=>?_)
  refine Ex.bind (P:=fun l=>l = oU r'.1) ⟨_,yB r'.1 (by unfold Sm;omega),rfl⟩ (fun l hl=>Ex.now ⟨hr'.1,?_⟩)
  have:=Ki r'.1
  dsimp only
  rw [hl]
  have:=hr'.2
  omega
theorem Kk (p n : Int) (hn : n ≤ 100) (d : Nat) : ∀ (j h : Int) (o : List Int),St c j → o.length ≤ 100 → (n ≤ (o.length : Int)∧d = 0 ∨ (o.length : Int) + d = n) →
    Ex (fun k=>dJ.l0 k p n o (o.length : Int) c j h) (fun r=>St c r.2.1∧(r.1.length = o.length + d)):=by
  induction d with
  | zero =>
    intro j h o s ho hi
    refine Ex.step (fun k=>by rw [dJ.l0]) ?_
    exact Ex.neg (by omega) (Ex.now ⟨s,rfl⟩)
  | succ d ih =>
    intro j h o s ho hi
    refine Ex.step (fun k=>by rw [dJ.l0]) ?_
    refine Ex.pos (by omega) ?_
    have hw : wrap64 ((o.length : Int) + 1) = ((o.length + 1 : Nat) : Int):=lC (n:=1000) (by omega) (by omega)
    have next : ∀ (j' h' x : Int),St c j' → Ex (fun k=>dJ.l0 k p n (o ++ [x]) (wrap64 ((o.length : Int) + 1)) c j' h') (fun r=>St c r.2.1∧r.1.length = o.length + (d + 1)):=by
      intro j' h' x s'
      have:=ih j' h' (o ++ [x]) s' (by simp;omega) (by simp;omega)
      simp only [List.length_append,List.length_singleton] at this
      rw [hw]
      refine Ex.weak this (fun r hr=>⟨hr.1,?_⟩)
      have:=hr.2
      omega
    refine Ex.bind (mH s h _) (fun r hr=>Ex.bind (mH hr.1 _ 16) (fun r' hr'=>?_))
    exact Ex.ite (fun _=>Ex.pos (by omega) (next _ _ _ hr'.1)) (fun _=>Ex.pos (by omega) (next _ _ _ hr'.1))
theorem D6 (s : St c i) (h p n : Int) (hn : n ≤ 100) : Ex (fun k=>dJ.f k c i h p n) (fun r=>St c r.2.1∧r.1.length = n.toNat):=by
  unfold dJ.f
  have e : dJ.l0 = dJ.l0:=rfl
  by_cases g : n ≤ 0
  · refine Ex.weak (Kk p n hn 0 i h [] s (by simp) (.inl ⟨by simpa using g,rfl⟩)) (fun r hr=>⟨hr.1,?_⟩)
    have:=hr.2
    simp only [List.length_nil] at this
    omega
  · refine Ex.weak (Kk p n hn n.toNat i h [] s (by simp) (.inr (by simp;omega))) (fun r hr=>⟨hr.1,?_⟩)
    have:=hr.2
    simp only [List.length_nil] at this
    omega
theorem abI (p x8 x9 : Int) (o : List Int) (h : Int) {j : Int} {P : List Int × Int × Int → Prop} (ho : o.length ≤ 1000)
    (hno : Ex (fun k=>bN.l0 k p o (wrap64 (x8 - 1)) c j h) P) (hyes : Ex (fun k=>bN.l0 k p (o ++ [x9]) (wrap64 (x8 - 1)) c j h) P) (d : Nat) : ∀ (i : Nat) (b : Bool),i + d = o.length →
    Ex (fun k=>bN.l1 k p o x8 x9 b (i : Int) c j h) P:=by
  induction d with
  | zero =>
    intro i b hi
    refine Ex.step (fun k=>by rw [bN.l1]) ?_
    exact Ex.neg (by omega) (Ex.ite (fun _=>hno) (fun _=>Ex.pos (by omega) hyes))
  | succ d ih =>
    intro i b hi
    refine Ex.step (fun k=>by rw [bN.l1]) ?_
    refine Ex.pos (by omega) ?_
    rw [lC (i:=i) (n:=o.length) (by omega) (by omega)]
    exact Ex.ite (fun _=>ih (i + 1) _ (by omega)) (fun _=>Ex.pos (by omega) (ih (i + 1) _ (by omega)))
theorem abJ (p : Int) (d : Nat) : ∀ (j n h : Int) (o : List Int),St c j → n ≤ (d : Int) → o.length + d ≤ 100 → Ex (fun k=>bN.l0 k p o n c j h) (fun r=>St c r.2.1∧r.1.length ≤ o.length + d):=by
  induction d with
  | zero =>
    intro j n h o s hn ho
    refine Ex.step (fun k=>by rw [bN.l0]) ?_
    exact Ex.neg (by omega) (Ex.now ⟨s,by dsimp only;omega⟩)
  | succ d ih =>
    intro j n h o s hn ho
    refine Ex.step (fun k=>by rw [bN.l0]) ?_
    refine Ex.ite (fun g=>?_) (fun g=>Ex.now ⟨s,by dsimp only;omega⟩)
    have hw : wrap64 (n - 1) = n - 1:=bJ (by omega) (by omega)
    refine Ex.bind (mH s h p) (fun r hr=>Ex.bind (mH hr.1 _ _) (fun r' hr'=>Ex.bind (Fq hr'.1 _ _ (by simp)) (fun r'' hr''=>?_)))
    refine abI p n r''.1 o r''.2.2 (by omega) ?_ ?_ o.length 0 false (by omega)
    · rw [hw]
      exact Ex.weak (ih _ (n - 1) _ o hr''.1 (by omega) (by omega)) (fun a ha=>⟨ha.1,by have:=ha.2;omega⟩)
    · rw [hw]
      refine Ex.weak (ih _ (n - 1) _ (o ++ [r''.1]) hr''.1 (by omega) (by simp;omega)) (fun a ha=>⟨ha.1,?_⟩)
      have:=ha.2
      simp only [List.length_append,List.length_singleton] at this
      omega
theorem abK (s : St c i) (h p : Int) : Ex (fun k=>bN.f k c i h p 6) (fun r=>St c r.2.1∧r.1.length ≤ 7):=by
  unfold bN.f
  refine Ex.bind (mH s h _) (fun r hr=>?_)
  obtain ⟨s1,h1,h2,_⟩:=hr
  rw [bJ (x:=(6 : Int) + 1) (by omega) (by omega)] at h2
  have h2:=h2 (by omega)
  refine Ex.weak (abJ p 7 _ _ _ [] s1 (by omega) (by simp)) (fun a ha=>⟨ha.1,?_⟩)
  have:=ha.2
  simp only [List.length_nil] at this
  omega
theorem atM {p : Int} (hp : p ≠ 0) (nodes : List Int) (n : Int) (o : List Int) (ho : o.length ≤ 1000) (q : Nat) {P : Int × List Int → Prop} (hq : nodes.length = q) (hq2 : q ≤ 100) (x11 : Int)
    (k : ∀ (ws' : List Int) (s : Int),ws'.length = q → Ex (fun k=>eF.l0 k p nodes n ws' (wrap64 (x11 + 1)) p (o ++ [s])) P) (d : Nat) : ∀ (i : Nat) (s : Int) (ws' : List Int),ws'.length = q → i + d = q →
    Ex (fun k=>eF.l1 k p nodes n ws' x11 s (i : Int) p o) P:=by
  induction d with
  | zero =>
    intro i s ws' hw hi
    refine Ex.step (fun k=>by rw [eF.l1]) ?_
    exact Ex.neg (by omega) (Ex.pos (by omega) (k ws' s hw))
  | succ d ih =>
    intro i s ws' hw hi
    refine Ex.step (fun k=>by rw [eF.l1]) ?_
    refine Ex.pos (by omega) (Ex.pos (by omega) (Ex.pos (by omega) (Ex.neg hp ?_)))
    rw [lC (i:=i) (n:=q) (by omega) (by omega)]
    exact ih (i + 1) _ _ (by rw [List.length_set];exact hw) (by omega)
theorem ah9 {p : Int} (hp : p ≠ 0) (nodes : List Int) (n : Int) (q : Nat) (hq : nodes.length = q) (hq2 : q ≤ 100) (d : Nat) : ∀ (o ws : List Int),ws.length = q → o.length + d ≤ 100 → (n ≤ (o.length : Int)∧d = 0 ∨ (o.length : Int) + d = n) →
    Ex (fun k=>eF.l0 k p nodes n ws (o.length : Int) p o) (fun r=>r.2.length = o.length + d):=by
  induction d with
  | zero =>
    intro o ws hw ho hi
    refine Ex.step (fun k=>by rw [eF.l0]) ?_
    exact Ex.neg (by omega) (Ex.now rfl)
  | succ d ih =>
    intro o ws hw ho hi
    refine Ex.step (fun k=>by rw [eF.l0]) ?_
    refine Ex.pos (by omega) ?_
    refine atM hp nodes n o (by omega) q hq hq2 _ (fun ws' s hw'=>?_) q 0 0 ws hw (by omega)
    rw [lC (i:=o.length) (n:=1000) (by omega) (by omega)]
    have:=ih (o ++ [s]) ws' hw' (by simp;omega) (by simp;omega)
    simp only [List.length_append,List.length_singleton] at this
    exact Ex.weak this (fun r hr=>by omega)
theorem atN {p : Int} (hp : p ≠ 0) (nodes ws : List Int) (n : Int) (hq : ws.length = nodes.length) (hq2 : nodes.length ≤ 100) (hn : n ≤ 100) : Ex (fun k=>eF.f k p nodes ws n) (fun r=>r.2.length ≤ 100):=by
  unfold eF.f
  refine Ex.bind (P:=fun l=>l = ws) (Ex.eq (Jk ws (by unfold Sm;omega)) rfl) (fun l hl=>?_)
  subst hl
  by_cases g : n ≤ 0
  · refine Ex.weak (ah9 hp nodes n nodes.length rfl hq2 0 [] l hq (by simp) (.inl ⟨by simpa using g,rfl⟩)) (fun r hr=>?_)
    simp only [List.length_nil] at hr
    omega
  · refine Ex.weak (ah9 hp nodes n nodes.length rfl hq2 n.toNat [] l hq (by simp;omega) (.inr (by simp;omega))) (fun r hr=>?_)
    simp only [List.length_nil] at hr
    omega
end
theorem afO (l : List Int) (hl : l.length ≤ 1000) (d : Nat) : ∀ (o : List Int),o.length + d = l.length → Ex (fun k=>jg.l0 k l o ((d : Int) - 1)) (fun r=>r.length = l.length):=by
  induction d with
  | zero =>
    intro o ho
    refine Ex.step (fun k=>by rw [jg.l0]) ?_
    exact Ex.neg (by omega) (Ex.now (by omega))
  | succ d ih =>
    intro o ho
    refine Ex.step (fun k=>by rw [jg.l0]) ?_
    refine Ex.pos (by omega) (Ex.pos (by omega) (Ex.pos (by omega) (Ex.pos (by omega) ?_)))
    rw [bJ (x:=((d + 1 : Nat) : Int) - 1 - 1) (by omega) (by omega),show ((d + 1 : Nat) : Int) - 1 - 1 = (d : Int) - 1 from by omega]
    exact ih _ (by simp;omega)
theorem afP (l : List Int) (hl : l.length ≤ 1000) : Ex (fun k=>jg.f k l) (fun r=>r.length = l.length):=by
  unfold jg.f
  rw [bJ (by omega) (by omega)]
  exact afO l hl l.length [] (by simp)
theorem alg {p : Int} (hp : p ≠ 0) (n : Nat) (a b : List Int) (ha : n ≤ a.length) (hb : n ≤ b.length) (hn : n ≤ 1000) (d : Nat) : ∀ (i : Nat) (s : Int),i + d = n → Ex (fun k=>iY.l0 k p (n : Int) a b s (i : Int)) (fun _=>True):=by
  induction d with
  | zero =>
    intro i s hi
    refine Ex.step (fun k=>by rw [iY.l0]) ?_
    exact Ex.neg (by omega) (Ex.now trivial)
  | succ d ih =>
    intro i s hi
    refine Ex.step (fun k=>by rw [iY.l0]) ?_
    refine Ex.pos (by omega) (Ex.pos (by omega) (Ex.pos (by omega) (Ex.pos (by omega) (Ex.neg hp ?_))))
    rw [lC (i:=i) (n:=n) (by omega) (by omega)]
    exact ih (i + 1) _ (by omega)
theorem abL {p : Int} (hp : p ≠ 0) (n : Nat) (a b : List Int) (ha : n ≤ a.length) (hb : n ≤ b.length) (hn : n ≤ 1000) : Ex (fun k=>iY.f k p (n : Int) a b) (fun _=>True):=by
  unfold iY.f
  exact Ex.ite (fun _=>Ex.neg hp (Ex.now trivial)) (fun _=>alg hp n a b ha hb hn n 0 0 (by omega))
theorem XV {p : Int} (hp : p ≠ 0) (l : List Int) (hl : l.length ≤ 1000) (d : Nat) : ∀ (i : Nat) (o : List Int),1 ≤ i → i + d = l.length → o.length = i → Ex (fun k=>dS.l0 k p l o (i : Int)) (fun r=>r.length = l.length + 1):=by
  induction d with
  | zero =>
    intro i o h1 hi ho
    refine Ex.step (fun k=>by rw [dS.l0]) ?_
    exact Ex.neg (by omega) (Ex.neg hp (Ex.pos (by omega) (Ex.now (by simp;omega))))
  | succ d ih =>
    intro i o h1 hi ho
    refine Ex.step (fun k=>by rw [dS.l0]) ?_
    rw [Uk (i:=i) (by omega) (by omega),lC (i:=i) (n:=l.length) (by omega) (by omega)]
    refine Ex.pos (by omega) (Ex.pos (by omega) (Ex.pos (by omega) (Ex.pos (by omega) (Ex.neg hp (Ex.pos (by omega) ?_)))))
    exact ih (i + 1) _ (by omega) (by omega) (by simp;omega)
theorem XW {p : Int} (hp : p ≠ 0) (l : List Int) (h1 : 1 ≤ l.length) (hl : l.length ≤ 1000) : Ex (fun k=>dS.f k p l) (fun r=>r.length = l.length + 1):=by
  unfold dS.f
  exact Ex.neg hp (XV hp l hl (l.length - 1) 1 _ (by omega) (by omega) rfl)
theorem abM {p : Int} (hp : p ≠ 0) (d : Nat) : ∀ (n a b : Int),n ≤ (d : Int) → d ≤ 100000 → Ex (fun k=>fJ.l0 k p n a b) (fun _=>True):=by
  induction d with
  | zero =>
    intro n a b hn _
    refine Ex.step (fun k=>by rw [fJ.l0]) ?_
    exact Ex.neg (by omega) (Ex.neg hp (Ex.now trivial))
  | succ d ih =>
    intro n a b hn hd
    refine Ex.step (fun k=>by rw [fJ.l0]) ?_
    refine Ex.ite (fun g=>?_) (fun _=>Ex.neg hp (Ex.now trivial))
    have e : wrap64 (Int.tdiv n 2) = n / 2:=by
      rw [Int.tdiv_eq_ediv_of_nonneg (by omega),bJ (by omega) (by omega)]
    rw [e]
    exact Ex.ite (fun _=>Ex.neg hp (ih _ _ _ (by omega) (by omega))) (fun _=>Ex.neg hp (ih _ _ _ (by omega) (by omega)))
theorem Tt {p : Int} (hp : Pm p) (x : Int) : Ex (fun k=>gy.f k p x) (fun _=>True):=by
  have ht:=hp.top
  have h2:=hp.two
  unfold gy.f fJ.f
  refine Ex.bind (P:=fun _=>True) (Ex.bind (P:=fun _=>True) (Ex.eq (Ip hp x) trivial) (fun a _=>?_)) (fun a _=>Ex.now trivial)
  rw [bJ (by omega) (by omega)]
  exact abM hp.ne 100000 _ _ _ (by omega) (by omega)
def abN (name : ByteArray) : Prop:=name.toList = ([117,110,105,102,111,114,109] : List UInt8) ∨ name.toList = ([108,97,103,117,101,114,114,101] : List UInt8) ∨ name.toList = ([104,101,114,109,105,116,101] : List UInt8) ∨ name.toList = ([99,97,116,97,108,97,110] : List UInt8)
theorem Q8 {p : Int} (hp : Pm p) (name : ByteArray) (n : Int) (hn : n ≤ 100) (d : Nat) : ∀ (o row : List Int),o.length ≤ 100 → (row.length = max o.length 1 ∨ abN name) → (n ≤ (o.length : Int)∧d = 0 ∨ (o.length : Int) + d = n) →
    Ex (fun k=>dV.l0 k name p n o row (o.length : Int)) (fun r=>r.1.length ≤ 200):=by
  have ht:=hp.top
  have h2:=hp.two
  induction d with
  | zero =>
    intro o row ho hr hi
    refine Ex.step (fun k=>by rw [dV.l0]) ?_
    exact Ex.neg (by omega) (Ex.now (by dsimp only;omega))
  | succ d ih =>
    intro o row ho hr hi
    refine Ex.step (fun k=>by rw [dV.l0]) ?_
    refine Ex.pos (by omega) ?_
    have hw : wrap64 ((o.length : Int) + 1) = ((o.length + 1 : Nat) : Int):=lC (n:=1000) (by omega) (by omega)
    have next : ∀ (x : Int) (row' : List Int),row'.length = o.length + 1 ∨ abN name → Ex (fun k=>dV.l0 k name p n (o ++ [x]) row' (wrap64 ((o.length : Int) + 1))) (fun r=>r.1.length ≤ 200):=by
      intro x row' hr'
      have:=ih (o ++ [x]) row' (by simp;omega) (hr'.imp (fun g=>by simp;omega) id) (by simp;omega)
      simp only [List.length_append,List.length_singleton] at this
      rw [hw]
      exact this
    refine Ex.ite (fun g1=>?_) (fun g1=>?_)
    · refine Ex.neg hp.ne (Ex.ite (fun _=>Ex.now (by dsimp only;simp)) (fun _=>?_))
      exact Ex.bind (Tt hp _) (fun a _=>Ex.pos (by omega) (next _ _ (.inr (.inl g1))))
    refine Ex.ite (fun g2=>?_) (fun g2=>?_)
    · refine Ex.ite (fun g=>?_) (fun _=>Ex.pos (by omega) (next _ _ (.inr (.inr (.inl g2)))))
      rw [bJ (x:=(o.length : Int) - 1) (by omega) (by omega)]
      exact Ex.pos (by omega) (Ex.pos (by omega) (Ex.neg hp.ne (Ex.pos (by omega) (next _ _ (.inr (.inr (.inl g2)))))))
    refine Ex.ite (fun g3=>?_) (fun g3=>?_)
    · refine Ex.ite (fun _=>Ex.pos (by omega) (next _ _ (.inr (.inr (.inr (.inl g3)))))) (fun g=>?_)
      refine Ex.ite (fun g'=>?_) (fun _=>Ex.pos (by omega) (next _ _ (.inr (.inr (.inr (.inl g3))))))
      rw [jY (by omega)] at g'
      rw [bJ (x:=(o.length : Int) - 2) (by omega) (by omega)]
      exact Ex.pos (by omega) (Ex.pos (by omega) (Ex.neg hp.ne (Ex.pos (by omega) (next _ _ (.inr (.inr (.inr (.inl g3))))))))
    refine Ex.ite (fun g4=>?_) (fun g4=>?_)
    · refine Ex.bind (afP o (by omega)) (fun a ha=>Ex.bind (abL hp.ne o.length o a (by omega) (by omega) (by omega)) (fun b _=>?_))
      exact Ex.pos (by omega) (next _ _ (.inr (.inr (.inr (.inr g4)))))
    · have hr : row.length = max o.length 1:=hr.resolve_right (by rintro (g | g | g | g) <;> contradiction)
      refine Ex.bind (abL hp.ne o.length o row (by omega) (by omega) (by omega)) (fun b _=>?_)
      refine Ex.ite (fun g=>?_) (fun g=>Ex.pos (by omega) (next _ _ (.inl (by omega))))
      exact Ex.bind (XW hp.ne row (by omega) (by omega)) (fun a ha=>Ex.pos (by omega) (next _ _ (.inl (by omega))))
theorem abO {p : Int} (hp : Pm p) (name : ByteArray) (n : Int) (hn : n ≤ 100) : Ex (fun k=>dV.f k name p n) (fun r=>r.1.length ≤ 200):=by
  unfold dV.f
  by_cases g : n ≤ 0
  · exact Q8 hp name n hn 0 [] [1] (by simp) (.inl rfl) (.inl ⟨by simpa using g,rfl⟩)
  · exact Q8 hp name n hn n.toNat [] [1] (by simp) (.inl rfl) (.inr (by simp;omega))
section
variable {c : List Int} {i : Int}
theorem XX (s : St c i) (h p n : Int) (hp : gQ p = true) (hn : n ≤ 100) : Ex (fun k=>nM.f k c i h p n) (fun r=>St c r.2.2.1∧r.2.1.length ≤ 200):=by
  have hm:=gQ.pm hp
  unfold nM.f
  refine Ex.bind (mH s h 4) (fun r hr=>?_)
  refine Ex.ite (fun _=>?_) (fun _=>?_)
  · refine Ex.bind (abK hr.1 _ _) (fun a ha=>Ex.bind (D6 ha.1 _ _ _ (by have:=ha.2;omega)) (fun b hb=>Ex.bind (atN hm.ne a.1 b.1 n (by have:=hb.2;omega) (by have:=ha.2;omega) hn) (fun q hq=>Ex.now ⟨hb.1,by dsimp only;omega⟩)))
  · refine Ex.ite (fun _=>?_) (fun _=>?_)
    · refine Ex.bind (P:=fun y=>y.length = 5) (Ex.now rfl) (fun y hy=>Ex.bind (mH hr.1 _ 5) (fun a ha=>?_))
      have h2:=ha.2.2.1 (by omega)
      refine Ex.pos ha.2.1 (Ex.pos (by omega) (Ex.bind (abO hm _ n hn) (fun b hb=>?_)))
      refine Ex.ite (fun _=>Ex.now ⟨ha.1,hb⟩) (fun _=>?_)
      exact Ex.bind (D6 ha.1 _ _ _ hn) (fun q hq=>Ex.now ⟨hq.1,by have:=hq.2;dsimp only;omega⟩)
    · exact Ex.bind (D6 hr.1 _ _ _ hn) (fun q hq=>Ex.now ⟨hq.1,by have:=hq.2;dsimp only;omega⟩)
theorem afQ (s : St c i) (h : Int) : Ex (fun k=>pM.f k c i h) (fun r=>St c r.2.2.1∧r.2.1.length ≤ 200):=by
  unfold pM.f
  refine Ex.bind (abH s h) (fun a ha=>Ex.bind (afM ha.1 _ _) (fun b hb=>Ex.bind (Fq hb _ _ (by simp)) (fun q hq=>?_)))
  refine Ex.bind (XX hq.1 _ _ _ ha.2 (by unfold mn;split <;> omega)) (fun r hr=>Ex.now ⟨hr.1,hr.2⟩)
theorem abP (c : List Int) (j h p : Int) (d : Nat) : ∀ o : List Int,o.length + d = 25 ∨ d = 0∧25 ≤ o.length → o.length ≤ 200 → Ex (fun k=>gJ.l0 k c j h p o) (fun r=>r.2.2.1 = j∧r.2.1.length ≤ 201):=by
  induction d with
  | zero =>
    intro o ho hl
    refine Ex.step (fun k=>by rw [gJ.l0]) ?_
    exact Ex.neg (by omega) (Ex.now ⟨rfl,by dsimp only;omega⟩)
  | succ d ih =>
    intro o ho hl
    refine Ex.step (fun k=>by rw [gJ.l0]) ?_
    refine Ex.pos (by omega) (Ex.bind (P:=fun y=>y = [0]) (Ex.now rfl) (fun y hy=>?_))
    subst hy
    exact Ex.pos (by simp;omega) (ih _ (by simp;omega) (by simp;omega))
theorem alh (s : St c i) (h p : Int) (l : List Int) (hl : l.length ≤ 200) : Ex (fun k=>gJ.f k c i h p l) (fun r=>St c r.2.2.1∧r.2.1.length ≤ 201):=by
  unfold gJ.f
  refine Ex.bind (mH s h 50) (fun r hr=>?_)
  refine Ex.ite (fun _=>?_) (fun _=>?_)
  · exact Ex.bind (Fq hr.1 _ _ (by decide)) (fun a ha=>Ex.now ⟨ha.1,by dsimp only;omega⟩)
  refine Ex.ite (fun _=>?_) (fun _=>?_)
  · refine Ex.bind (P:=fun y=>y = l) (Ex.eq (Jk l (by unfold Sm;omega)) rfl) (fun y hy=>Ex.bind (P:=fun y=>y = [p]) (Ex.now rfl) (fun z hz=>?_))
    subst hy hz
    exact Ex.pos (by simp;omega) (Ex.now ⟨hr.1,by simp;omega⟩)
  refine Ex.ite (fun _=>Ex.now ⟨hr.1,by simp⟩) (fun _=>?_)
  refine Ex.ite (fun _=>?_) (fun _=>Ex.now ⟨hr.1,by dsimp only;omega⟩)
  have st:=hr.1
  by_cases g : l.length ≤ 25
  · exact Ex.weak (abP c _ _ p (25 - l.length) l (by omega) hl) (fun a ha=>⟨by rw [ha.1];exact st,ha.2⟩)
  · exact Ex.weak (abP c _ _ p 0 l (by omega) hl) (fun a ha=>⟨by rw [ha.1];exact st,ha.2⟩)
theorem ZB (s : St c i) (h : Int) : Ex (fun k=>oH.f k c i h) (fun r=>St c r.2.2.1∧r.2.1.length ≤ 201):=by
  unfold oH.f
  exact Ex.bind (afQ s h) (fun a ha=>Ex.bind (alh ha.1 _ _ _ ha.2) (fun b hb=>Ex.now ⟨hb.1,hb.2⟩))
end
/- A Bl divides a product only with one of its factors. -/
theorem gQ.div {p : Int} (h : gQ p = true) {j : Nat} (h2 : 2 ≤ j) (hj : (j : Int) * (j : Int) ≤ p) : ¬ (j : Int) ∣ p:=by
  intro hd
  simp only [gQ,Bool.and_eq_true,decide_eq_true_eq] at h
  have hj1 : j < 101:=by
    apply Decidable.byContradiction
    intro g
    have:=Yj (a:=(101 : Int)) (b:=(101 : Int)) (m:=(j : Int)) (n:=(j : Int)) (by omega) (by omega) (by omega) (by omega)
    omega
  exact h.2 j hj1 h2 hj (Int.emod_eq_zero_of_dvd hd)
theorem gQ.gcd {p : Nat} (h : gQ (p : Int) = true) {a : Nat} (h1 : 1 ≤ a) (ha : a < p) : Nat.gcd p a = 1:=by
  obtain ⟨g,hg⟩ : ∃ g,Nat.gcd p a = g:=⟨_,rfl⟩
  have hp:=(gQ.pm h).two
  have d1 : g ∣ p:=hg ▸ Nat.gcd_dvd_left p a
  have d2 : g ∣ a:=hg ▸ Nat.gcd_dvd_right p a
  have l1 : g ≤ a:=Nat.le_of_dvd (by omega) d2
  have l0 : 0 < g:=hg ▸ Nat.gcd_pos_of_pos_right p (by omega)
  rw [hg]
  apply Decidable.byContradiction
  intro hne
  obtain ⟨q,hq⟩:=d1
  have hq2 : 2 ≤ q:=by
    rcases Nat.lt_or_ge q 2 with g2 | g2
    · exfalso
      have : q = 0 ∨ q = 1:=by omega
      rcases this with rfl | rfl
      · omega
      · omega
    · exact g2
  rcases Nat.le_total g q with hle | hle
  · refine gQ.div h (j:=g) (by omega) ?_ ⟨(q : Int),by rw [hq];simp⟩
    have:=Nat.mul_le_mul_left g hle
    rw [← hq] at this
    exact_mod_cast this
  · refine gQ.div h (j:=q) hq2 ?_ ⟨(g : Int),by rw [hq,Int.natCast_mul];exact Int.mul_comm _ _⟩
    have:=Nat.mul_le_mul_right q hle
    rw [← hq] at this
    exact_mod_cast this
/-- A number that p does not divide may be left out. -/
theorem gQ.cancel {p a d : Int} (h : gQ p = true) (ha : 1 ≤ a∧a < p) (hd : p ∣ a * d) : p ∣ d:=by
  obtain ⟨P,rfl⟩ : ∃ P : Nat,p = (P : Int):=⟨p.toNat,by omega⟩
  obtain ⟨A,rfl⟩ : ∃ A : Nat,a = (A : Int):=⟨a.toNat,by omega⟩
  have hg:=gQ.gcd h (a:=A) (by omega) (by omega)
  have h1:=Int.natAbs_dvd_natAbs.2 hd
  rw [Int.natAbs_mul] at h1
  have h2 : P ∣ d.natAbs:=Nat.Coprime.dvd_of_dvd_mul_left (k:=P) (m:=A) (n:=d.natAbs) hg h1
  exact Int.natAbs_dvd_natAbs.1 h2
/- A call of a function value as a step of a region whose order is drawn; no condition. -/
theorem ali {P : Program} {ops : Array Oper} {Q : Exit → Act → World → Prop} {oi : Oper} {N : Option Tmp} {a : Act} {w : World} {K : Act → World → Prop} {xs : Array Operand} {ts : Array TypeId} {x : Operand} {args : Array Value} (G : FuncId) (fi ca : Array Value)
    (hw : Region.wanted oi (yielded ops a.tmps) = true) (hN : oi.dst = N) (hop : oi.op = .call { callee:=.value x,args:=xs,argTypes:=ts }) (hargs : xs.map a.eval = args) (hx : a.eval x = .func (.func G) fi ca)
    (he : ∀ (args_ : Array Value) (w_ : World),(callFunc G args_).run P w_ = .ok (.enter G args_) w_)
    (h : Calls P G (fi ++ args ++ ca) w fun e w'=>∃ v,e = .returned v∧K (a.put N v) w') : if Region.wanted oi (yielded ops a.tmps) = true then Oper.wp P oi a w K Q else K (a.put N undef) w:=by
  refine call_ G (fi ++ args ++ ca) hw hN ?_ h
  have he:=he (fi ++ args ++ ca) w
  rw [Array.append_assoc] at he
  unfold execOp
  simp [hop,resolve,Deferred.ofValue,invoke,hargs,hx,he]
/-! ### dY: function 50 -/
def dY.f (au : Int) (iR : Int) (nO : List Int) (KW : Int) (afR : Bool) : Option (Bool):=(jC.f au 0 11).bind fun atO=>(if atO = true then ((bV.f iR nO).bind fun Q9=>((dK.f Q9 KW).bind fun atP=>(if atP = true then (some afR) else (some false)))) else (some false))
def dY.T1 : Bool × List (List Nat × List Nat):=(true,[([],[]),([0],[0]),([1,1],[1]),([2],[2]),([3,2,2],[2,3]),([2],[2]),([4,5,4,2],[2,4,5]),([2,6],[2,6]),([7,6],[7]),([8],[8]),([9,8,8],[8,9]),([8,10],[8,10]),([11,10,0,1,2,3,4,5,6,7,8,9,10,11],[11])])
def dY.B1 : List Nat:=[0,1,3,7,15,7,63,127,255,511,1023,2047,4095]
theorem dY.ML : nu .any (opsOf Tryz.f50 1) = dY.T1:=by kernel_rfl
theorem dY.Ej : jO dY.T1.2 dY.B1 = true:=by kernel_rfl
theorem dY.calls (gc0 : Nat) (au : Int) (gc1 : Nat) (iR : Int) (XY : Option Addr) (XZ : Nat) (nO : List Int) (gc2 : Nat) (KW : Int) (gc3 : Nat) (atQ : Value) (afR : Bool) (r : Bool) (w : World) (hb0 : w.heap[gc0]? = some (.cells #[.int .i64 au] 2 (0,0))) (hb1 : w.heap[gc1]? = some (.cells #[.int .i64 iR,.slice XY nO.length XZ] 26 (0,0))) (hr1_1 : Kd.C (Kd.int .i64) w XY nO.length nO) (aia : nO.length ≤ XZ) (hb2 : w.heap[gc2]? = some (.cells #[.int .i64 KW] 2 (0,0))) (hb3 : w.heap[gc3]? = some (.cells #[atQ] 46 (0,0))) (Wp : FnB Tryz.prog w atQ afR) (H : dY.f au iR nO KW afR = some r) :
  Calls Tryz.prog 50 #[.pointer (some ⟨gc0,0,none⟩),.pointer (some ⟨gc1,0,none⟩),.pointer (some ⟨gc2,0,none⟩),.pointer (some ⟨gc3,0,none⟩)] w fun e w'=>e = .returned (.bool r)∧Below w.heap.size w w':=by
 have rF:=Tryz.underlying26;have aib:=zA hr1_1;have aic:=zA aia;clear hr1_1 aia;obtain ⟨afS,abQ,abR,rfl,Tu,Wp⟩:=Wp;have Tu : ∀ (args_ : Array Value) (w_ : World),(callFunc afS args_).run Tryz.prog w_ = .ok (.enter afS args_) w_:=Tu;have atS:=zA Wp;clear Wp;have BK0:=zA hb0;clear hb0;have BK1:=zA hb1;clear hb1;have BK2:=zA hb2;clear hb2;have BK3:=zA hb3;clear hb3;have HB:=zA (Below.refl w.heap.size w);unfold dY.f at H;replace H:=bO H;obtain ⟨atO,A5,H⟩:=H;replace H:=gB H;obtain ⟨rfl,H⟩|⟨rfl,H⟩:=H
 ·replace H:=bO H;obtain ⟨Q9,A7,H⟩:=H;replace H:=bO H;obtain ⟨atP,A8,H⟩:=H;replace H:=gB H;obtain ⟨rfl,H⟩|⟨rfl,H⟩:=H
  ·obtain rfl:=Option.some.inj H;go_enter Tryz.func50,Tryz.ntmps50;(try go_wp2);replace BK0:=zA (bI BK0.out);replace BK1:=zA (bI BK1.out);replace BK2:=zA (bI BK2.out);replace BK3:=zA (bI BK3.out);replace HB:=zA (aW HB.out);refine kE (n:=13) (S:=fun w'=>w'.cell? ⟨gc0,0,none⟩ = some (.int .i64 au)∧w'.cell? ⟨gc1,0,none⟩ = some (.int .i64 iR)∧w'.cell? ⟨gc1,1,none⟩ = some (.slice XY nO.length XZ)∧w'.cell? ⟨gc2,0,none⟩ = some (.int .i64 KW)∧w'.cell? ⟨gc3,0,none⟩ = some ((.func (.func afS) abQ abR))) (ds:=[]) #[false,false,false,false,false,false,false,false,false,false,false,false,false] (by kernel_rfl) rfl rfl ⟨bcu BK0 0,bcu BK1 0,bcu BK1 1,bcu BK2 0,bcu BK3 0⟩ (fun hHeld=>?_);refine gX dY.ML dY.Ej (fun HT_ HW_=>?_);generalize w.drew = w10 at BK0 BK1 BK2 BK3 HB hHeld ⊢;refine ta_ 0 5 (bl 13 1) HT_ HW_ hHeld ?_;refine on_ 1 (some 6) (bl 13 3) HT_ (fun K hK=>?_);refine gS Tryz.func51 #[.int .i64 au,.int .i64 0,.int .i64 11] ?_;(with_reducible refine (jC.calls au 0 11 true _ A5.out).mono ?_);rintro e w' ⟨rfl,⟨nd,rfl⟩⟩;refine ⟨_,rfl,?_⟩;refine hK.out _ _ ⟨bcu BK0 0,bcu BK1 0,bcu BK1 1,bcu BK2 0,bcu BK3 0⟩ (fun hHeld=>?_);clear hK K;refine no_ 6 ?_;refine pu_ 2 7 (bl 13 7) HT_ ?_;refine ta_ 3 8 (bl 13 15) HT_ HW_ hHeld ?_;refine ta_ 5 10 (bl 13 47) HT_ HW_ hHeld ?_;refine on_ 4 (some 9) (bl 13 63) HT_ (fun K hK=>?_);refine gS Tryz.func21 #[.agg #[.int .i64 iR,.slice XY nO.length XZ]] ?_;(with_reducible refine (bV.calls iR _ _ nO Q9 _ ?side1 ?side2 A7.out).mono ?_);(case side1=>repeat (first | exact (Kd.aM aib.out (uH HB.out)) | (with_reducible refine Kd.bW ?_ _) | (with_reducible refine Kd.bY ?_ _) | (with_reducible refine Kd.dH ?_)));(case side2=>exact aic.out);rintro e w11 ⟨rfl,hb⟩;refine ⟨_,rfl,?_⟩;replace BK0:=xB BK0 hb;replace BK1:=xB BK1 hb;replace BK2:=xB BK2 hb;replace BK3:=xB BK3 hb;replace HB:=xH HB hb;(try clear hb);refine hK.out _ _ ⟨bcu BK0 0,bcu BK1 0,bcu BK1 1,bcu BK2 0,bcu BK3 0⟩ (fun hHeld=>?_);clear hK K;refine no_ 9 ?_;refine on_ 6 (some 11) (bl 13 127) HT_ (fun K hK=>?_);refine gS Tryz.func22 #[.int .i64 Q9,.int .i64 KW] ?_;(with_reducible refine (dK.calls Q9 KW true _ A8.out).mono ?_);rintro e w' ⟨rfl,⟨nd,rfl⟩⟩;refine ⟨_,rfl,?_⟩;refine hK.out _ _ ⟨bcu BK0 0,bcu BK1 0,bcu BK1 1,bcu BK2 0,bcu BK3 0⟩ (fun hHeld=>?_);clear hK K;refine no_ 11 ?_;refine pu_ 7 12 (bl 13 255) HT_ ?_;refine pu_ 8 13 (bl 13 511) HT_ ?_;refine ta_ 9 14 (bl 13 1023) HT_ HW_ hHeld ?_;refine on_ 10 (some 15) (bl 13 2047) HT_ (fun K hK=>?_);refine ali afS abQ abR (by rfl) rfl rfl rfl (by first | rfl | (go_simp;done) | (go_simp;with_reducible rfl)) Tu ?_;refine cz (args':=abQ ++ abR) (by simp) ?_;refine (atS.out _ (uH HB.out)).mono ?_;rintro e w12 ⟨rfl,hb⟩;refine ⟨_,rfl,?_⟩;replace BK0:=xB BK0 hb;replace BK1:=xB BK1 hb;replace BK2:=xB BK2 hb;replace BK3:=xB BK3 hb;replace HB:=xH HB hb;(try clear hb);refine hK.out _ _ ⟨bcu BK0 0,bcu BK1 0,bcu BK1 1,bcu BK2 0,bcu BK3 0⟩ (fun hHeld=>?_);clear hK K;refine no_ 15 ?_;refine pu_ 11 16 (bl 13 4095) HT_ ?_;refine pu_ 12 4 (bl 13 8191) HT_ ?_;refine done_ (done_of HT_.out (by kernel_rfl)) ?_;(try go_wp2);go_ret;exact ⟨eX,uH HB.out⟩
  ·obtain rfl:=Option.some.inj H;go_enter Tryz.func50,Tryz.ntmps50;(try go_wp2);replace BK0:=zA (bI BK0.out);replace BK1:=zA (bI BK1.out);replace BK2:=zA (bI BK2.out);replace BK3:=zA (bI BK3.out);replace HB:=zA (aW HB.out);refine kE (n:=13) (S:=fun w'=>w'.cell? ⟨gc0,0,none⟩ = some (.int .i64 au)∧w'.cell? ⟨gc1,0,none⟩ = some (.int .i64 iR)∧w'.cell? ⟨gc1,1,none⟩ = some (.slice XY nO.length XZ)∧w'.cell? ⟨gc2,0,none⟩ = some (.int .i64 KW)) (ds:=[]) #[false,false,false,false,false,false,false,false,false,false,false,false,false] (by kernel_rfl) rfl rfl ⟨bcu BK0 0,bcu BK1 0,bcu BK1 1,bcu BK2 0⟩ (fun hHeld=>?_);refine gX dY.ML dY.Ej (fun HT_ HW_=>?_);generalize w.drew = w13 at BK0 BK1 BK2 BK3 HB hHeld ⊢;refine ta_ 0 5 (bl 13 1) HT_ HW_ hHeld ?_;refine on_ 1 (some 6) (bl 13 3) HT_ (fun K hK=>?_);refine gS Tryz.func51 #[.int .i64 au,.int .i64 0,.int .i64 11] ?_;(with_reducible refine (jC.calls au 0 11 true _ A5.out).mono ?_);rintro e w' ⟨rfl,⟨nd,rfl⟩⟩;refine ⟨_,rfl,?_⟩;refine hK.out _ _ ⟨bcu BK0 0,bcu BK1 0,bcu BK1 1,bcu BK2 0⟩ (fun hHeld=>?_);clear hK K;refine no_ 6 ?_;refine pu_ 2 7 (bl 13 7) HT_ ?_;refine ta_ 3 8 (bl 13 15) HT_ HW_ hHeld ?_;refine ta_ 5 10 (bl 13 47) HT_ HW_ hHeld ?_;refine on_ 4 (some 9) (bl 13 63) HT_ (fun K hK=>?_);refine gS Tryz.func21 #[.agg #[.int .i64 iR,.slice XY nO.length XZ]] ?_;(with_reducible refine (bV.calls iR _ _ nO Q9 _ ?side1 ?side2 A7.out).mono ?_);(case side1=>repeat (first | exact (Kd.aM aib.out (uH HB.out)) | (with_reducible refine Kd.bW ?_ _) | (with_reducible refine Kd.bY ?_ _) | (with_reducible refine Kd.dH ?_)));(case side2=>exact aic.out);rintro e w14 ⟨rfl,hb⟩;refine ⟨_,rfl,?_⟩;replace BK0:=xB BK0 hb;replace BK1:=xB BK1 hb;replace BK2:=xB BK2 hb;replace BK3:=xB BK3 hb;replace HB:=xH HB hb;(try clear hb);refine hK.out _ _ ⟨bcu BK0 0,bcu BK1 0,bcu BK1 1,bcu BK2 0⟩ (fun hHeld=>?_);clear hK K;refine no_ 9 ?_;refine on_ 6 (some 11) (bl 13 127) HT_ (fun K hK=>?_);refine gS Tryz.func22 #[.int .i64 Q9,.int .i64 KW] ?_;(with_reducible refine (dK.calls Q9 KW false _ A8.out).mono ?_);rintro e w' ⟨rfl,⟨nd,rfl⟩⟩;refine ⟨_,rfl,?_⟩;refine hK.out _ _ ⟨bcu BK0 0,bcu BK1 0,bcu BK1 1,bcu BK2 0⟩ (fun hHeld=>?_);clear hK K;refine no_ 11 ?_;refine pu_ 7 12 (bl 13 255) HT_ ?_;refine pu_ 8 13 (bl 13 511) HT_ ?_;refine un_ 9 14 (bl 13 1023) HT_ ?_;refine un_ 10 15 (bl 13 2047) HT_ ?_;refine pu_ 11 16 (bl 13 4095) HT_ ?_;refine pu_ 12 4 (bl 13 8191) HT_ ?_;refine done_ (done_of HT_.out (by kernel_rfl)) ?_;(try go_wp2);go_ret;exact ⟨eX,uH HB.out⟩
 ·obtain rfl:=Option.some.inj H;go_enter Tryz.func50,Tryz.ntmps50;(try go_wp2);replace BK0:=zA (bI BK0.out);replace BK1:=zA (bI BK1.out);replace BK2:=zA (bI BK2.out);replace BK3:=zA (bI BK3.out);replace HB:=zA (aW HB.out);refine kE (n:=13) (S:=fun w'=>w'.cell? ⟨gc0,0,none⟩ = some (.int .i64 au)) (ds:=[]) #[false,false,false,false,false,false,false,false,false,false,false,false,false] (by kernel_rfl) rfl rfl (bcu BK0 0) (fun hHeld=>?_);refine gX dY.ML dY.Ej (fun HT_ HW_=>?_);generalize w.drew = w15 at BK0 BK1 BK2 BK3 HB hHeld ⊢;refine yY (i:=0) (N:=some 5) (v:=?_) (a':=?_) (bl 13 1) rfl rfl (I1 HT_.out HW_.out (by kernel_rfl)) (fun _ _ _ h=>h) (Or.inl ⟨by rfl,?_⟩) hHeld ?_ ?_;rotate_left
  ·intro w' s0;go_simp;(with_reducible rfl)
  rotate_left
  ·simp only [Act.put,ls,lz,ln,iI,kz];rfl
  refine on_ 1 (some 6) (bl 13 3) HT_ (fun K hK=>?_);refine gS Tryz.func51 #[.int .i64 au,.int .i64 0,.int .i64 11] ?_;(with_reducible refine (jC.calls au 0 11 false _ A5.out).mono ?_);rintro e w' ⟨rfl,⟨nd,rfl⟩⟩;refine ⟨_,rfl,?_⟩;refine hK.out _ _ (bcu BK0 0) (fun hHeld=>?_);clear hK K;refine no_ 6 ?_;refine pu_ 2 7 (bl 13 7) HT_ ?_;refine un_ 3 8 (bl 13 15) HT_ ?_;refine un_ 4 9 (bl 13 31) HT_ ?_;refine un_ 5 10 (bl 13 63) HT_ ?_;refine un_ 6 11 (bl 13 127) HT_ ?_;refine pu_ 7 12 (bl 13 255) HT_ ?_;refine pu_ 8 13 (bl 13 511) HT_ ?_;refine un_ 9 14 (bl 13 1023) HT_ ?_;refine un_ 10 15 (bl 13 2047) HT_ ?_;refine pu_ 11 16 (bl 13 4095) HT_ ?_;refine pu_ 12 4 (bl 13 8191) HT_ ?_;refine done_ (done_of HT_.out (by kernel_rfl)) ?_;(try go_wp2);go_ret;exact ⟨eX,uH HB.out⟩
/- Monic polynomials are polynomials. -/
theorem K4 {p : Int} {f : List Int} {k : Nat} (nf : Nm p f) (h : Mon f k) (hk : k ≤ 24) : qb p f = true:=by
  simp only [qb,Kh,Bool.and_eq_true,Bool.or_eq_true,decide_eq_true_eq]
  refine ⟨nf,by have:=h.1;omega,.inr ?_⟩
  rw [h.1,Nat.add_sub_cancel,h.2]
  decide
/- field.value: the value of a polynomial, read from the last number on: what the call answers, for every list within the reach and every p other than 0. -/
open Go.RowKit Go.Shelf Go.Proofs.YtnpepkpogohcmaaGreatW.PrintWords Go.Proofs.YtnpepkpogohcmaaGreatW.PrintLast Go.Proofs.YtnpepkpogohcmaaGreatW.PrintMore
attribute [local go_sem] Oper.semAt_some
/-- One round. -/
def Db (p x o c : Int) : Int:=Int.tmod (wrap64 (Int.tmod (wrap64 (wrap64 (o * x) + c)) p + p)) p
def valOf (p x : Int) (ys : List (Int × Int)) : Int:=ys.foldl (fun o y=>Db p x o y.2) 0
theorem Kl (p x : Int) (ys : List (Int × Int)) (y : Int × Int) : valOf p x (ys ++ [y]) = Db p x (valOf p x ys) y.2:=by simp [valOf]
def iV.f (p : Int) (l : List Int) (x : Int) : Option Int:=if p = 0 then none else if l.length ≤ 17592186040320 then some (valOf p x (upto (bk l l.length) l.length)) else none

theorem KX {W : World} {B : Nat} {v : Value} {t : TypeId} (h : W.heap[B]? = some (.cells #[v] t (0,0))) : W.cell? ⟨B,0,none⟩ = some v∧W.frozen? ⟨B,0,none⟩ = false:=by
  constructor <;> simp [World.cell?,World.frozen?,h]
theorem Au (W : World) (v : Value) (t : TypeId) : (W.alloc (.cells #[v] t)).cell? ⟨W.heap.size,0,none⟩ = some v∧(W.alloc (.cells #[v] t)).frozen? ⟨W.heap.size,0,none⟩ = false :=
  KX (World.alloc_heap_new W _)
theorem sG {W : World} {a : Addr} {v : Value} (o : Obj) (h : W.cell? a = some v) : (W.alloc o).cell? a = some v:=cell_kept h (World.grownBy_alloc W o none) (fun r e=>by cases e)
theorem Km {W : World} {a : Addr} {v : Value} (o : Obj) (h : W.cell? a = some v) (hf : W.frozen? a = false) : (W.alloc o).frozen? a = false:=(frozen_kept h (World.grownBy_alloc W o none) (fun r e=>by cases e)).trans hf

set_option maxRecDepth 100000 in
set_option maxHeartbeats 2000000 in
theorem iV.abS (F : Fence) (n : Nat) (h1 : F.fn 23) (h2 : F.fn 53) (h3 : F.fn 76) (h4 : F.fn 54) (hro : F.round = none) (hn : 4 ≤ n)
    (hmod : ∀ (k m : Nat) (x y r : Int) (W : World),dX.f x y = some r → CallsIn (F.inRound k) m Tryz.prog 54 #[.int .i64 x,.int .i64 y] W fun e W'=>e = .returned (.int .i64 r)∧aQ W W')
    (a0 : Int) (A1 : Option Addr) (c1 : Nat) (l1 : List Int) (a2 : Int) (hp : a0 ≠ 0) (hl : l1.length ≤ 17592186040320) (w : World) (hI : LH w.heap.size w (.slice A1 l1.length c1) l1) :
    CallsIn F n Tryz.prog 23 #[.int .i64 a0,.slice A1 l1.length c1,.int .i64 a2] w fun e W'=>e = .returned (.int .i64 (valOf a0 a2 (upto (bk l1 l1.length) l1.length)))∧Below w.heap.size w W':=by
  have hn1 : 1 ≤ n:=by omega
  refine callsIn_of_wp_marks Tryz.func23 rfl h1 ?_ hro
  simp only [Tryz.ntmps23,List.size_toArray,List.length_cons,List.length_nil,Nat.reduceAdd,Nat.reduceSub,Array.replicate_succ,Array.replicate_zero,List.push_toArray,List.append_toArray,List.nil_append,List.cons_append]
  gi_wp2_with (gi_at_call 53;refine (ae8 F (n - 1) h2 hro _ _ _ _).mono ?_;rintro e w' ⟨rfl,rfl⟩)
  have c0:=Au w (.int .i64 a0) 43
  have c1':=Au (w.alloc (.cells #[.int .i64 a0] 43)) (.int .i64 a2) 2
  have c2:=Au ((w.alloc (.cells #[.int .i64 a0] 43)).alloc (.cells #[.int .i64 a2] 2)) (.int .i64 0) 2
  have c3:=Au (((w.alloc (.cells #[.int .i64 a0] 43)).alloc (.cells #[.int .i64 a2] 2)).alloc (.cells #[.int .i64 0] 2)) (.slice A1 l1.length c1) 24
  simp only [World.size_alloc] at c1' c2 c3
  have hB0 : Below w.heap.size w ((((w.alloc (.cells #[.int .i64 a0] 43)).alloc (.cells #[.int .i64 a2] 2)).alloc (.cells #[.int .i64 0] 2)).alloc (.cells #[.slice A1 l1.length c1] 24)):=((((Below.refl _ w).alloc (Nat.le_refl _) _).alloc (by simp) _).alloc (by simp;omega) _).alloc (by simp;omega) _
  refine wpIn_rangeFunc_ownF hro hn1 (gf:=76) (lb:=#[.pointer (some ⟨w.heap.size + 1 + 1 + 1,0,none⟩)]) rfl h3 (enters_of Tryz.func76 (by kernel_rfl) rfl)
    (SH F (n - 1) h3 hro (by omega) (w.heap.size + 1 + 1 + 1) w.heap.size (.slice A1 l1.length c1) l1 (by omega) _ (by simp) (by simp;omega) c3.1 (hI.below hB0)) (fun h k=>h.trans k)
    (fun W l o o' hl ho hc hw=>⟨belowK_b (by simp;omega) W l o o' hl ho hc hw,fun v hv=>cell_kept hv (grownBy_putObj' _ l o') (fun r e=>by cases e;exact ⟨_,ho,hc⟩)⟩) (Below.refl _ _) (fun _=>rfl)
    (fun pre W=>((W.cell? ⟨w.heap.size,0,none⟩ = some (.int .i64 a0)∧W.cell? ⟨w.heap.size + 1,0,none⟩ = some (.int .i64 a2))∧(W.cell? ⟨w.heap.size + 1 + 1,0,none⟩ = some (.int .i64 (valOf a0 a2 pre))∧W.frozen? ⟨w.heap.size + 1 + 1,0,none⟩ = false))∧Below w.heap.size w W)
    (fun _ _ _=>False)
    (OwnFrom.and (Own.from (fun s A B row hs hg hr=>⟨⟨cell_kept hs.1.1 hg hr,cell_kept hs.1.2 hg hr⟩,cell_kept hs.2.1 hg hr,(frozen_kept hs.2.1 hg hr).trans hs.2.2⟩) _) (ownFrom_below (Nat.le_refl _) (by simp;omega)))
    (fun _ _ _ _ _ hs _ _=>hs)
    ⟨⟨⟨sG _ (sG _ (sG _ c0.1)),sG _ (sG _ c1'.1)⟩,sG _ c2.1,Km _ c2.1 c2.2⟩,hB0⟩
    (fun x=>{ tmps:=#[.int .i64 a0,.slice A1 l1.length c1,.int .i64 a2,.pointer (some ⟨w.heap.size,0,none⟩),undef,.pointer (some ⟨w.heap.size + 1,0,none⟩),.int .i64 0,.pointer (some ⟨w.heap.size + 1 + 1,0,none⟩),undef,.int .i64 x.2,.slice A1 l1.length c1,.func (.func 76) #[] #[.pointer (some ⟨w.heap.size + 1 + 1 + 1,0,none⟩)],.int .i64 x.1,.int .i64 x.2,undef,undef,undef,undef,undef,undef,undef,undef],defers:=[] }) ?assign ?body ?done ?stop
  case assign =>
    intro l x W K hK
    gi_wp2
    exact hK
  case body =>
    rintro l pre x W ⟨⟨⟨hc0,hc1⟩,hc2,hf2⟩,hB⟩ _
    have hm : dX.f a0 (wrap64 (wrap64 (valOf a0 a2 pre * a2) + x.2)) = some (Db a0 a2 (valOf a0 a2 pre) x.2):=by
      unfold dX.f Db
      rw [if_neg hp]
    gi_wp2
    refine ⟨fun _=>by omega,(hmod _ _ _ _ _ _ hm).mono ?_⟩
    rintro e w' ⟨rfl,⟨nd,rfl⟩⟩
    have d0 : (W.drewN nd).cell? ⟨w.heap.size + 1 + 1,0,none⟩ = some (.int .i64 (valOf a0 a2 pre)):=hc2
    have d1 : (W.drewN nd).frozen? ⟨w.heap.size + 1 + 1,0,none⟩ = false:=hf2
    have d2 : (W.drewN nd).cell? ⟨w.heap.size,0,none⟩ = some (.int .i64 a0):=hc0
    have d3 : (W.drewN nd).cell? ⟨w.heap.size + 1,0,none⟩ = some (.int .i64 a2):=hc1
    have kO : KeepsOthers W (W.drewN nd):=⟨Nat.le_refl _,fun _ _ h _=>h⟩
    have kB : Below w.heap.size W (W.drewN nd):=aZ (Below.refl _ _) nd
    have oth : ∀ (g : Nat) (v v' : Value),g ≠ w.heap.size + 1 + 1 → (W.drewN nd).cell? ⟨g,0,none⟩ = some v → ((W.drewN nd).setCell ⟨w.heap.size + 1 + 1,0,none⟩ v').cell? ⟨g,0,none⟩ = some v:=by
      intro g v v' hg hv
      exact (World.cell?_setCell_far _ _ _ _ (fun e=>hg e.symm)).trans hv
    gi_wp2
    exact ⟨kO.trans (KeepsOthers.setCell _ _ _),⟨kB.setCell (p:=⟨w.heap.size + 1 + 1,0,none⟩) (show w.heap.size ≤ w.heap.size + 1 + 1 from by omega) _,fun v hv=>oth _ _ _ (by omega) hv⟩,⟨⟨oth _ _ _ (by omega) d2,oth _ _ _ (by omega) d3⟩,by rw [Kl];exact World.cell?_setCell_same' _ _ _ (by rw [d0];rfl),by rw [World.frozen?_setCell];exact d1⟩,(hB.trans kB).setCell (p:=⟨w.heap.size + 1 + 1,0,none⟩) (show w.heap.size ≤ w.heap.size + 1 + 1 from by omega) _⟩
  case done =>
    rintro D ys W hD rfl ⟨⟨_,hc,_⟩,hB⟩ hK
    gi_wp2
    refine ⟨by simp,.inl ⟨_,_,rfl,run_takeDeferred hK,?_⟩⟩
    exact ⟨_,results_tmp rfl _ _ _,rfl,hB.trans (belowK_b (w:=w) (Nat.le_refl _) W D _ _ (by simp at hD;omega) hK rfl rfl)⟩
  case stop =>
    rintro D c pre W _ _ h _
    exact h.elim
/-- What a slice that came in holds, as the loop wants it. -/
theorem Tv {w : World} {A1 : Option Addr} {c1 : Nat} {l1 : List Int} (hr1 : Kd.C (Kd.int .i64) w A1 l1.length l1) (hc1 : l1.length ≤ c1) : LH w.heap.size w (.slice A1 l1.length c1) l1:=by
  have h:=Kd.tV (enc:=Value.int .i64) (d:=(0 : Int)) (h1:=fun _=>rfl) hr1
  by_cases h0 : l1.length = 0
  · rw [List.length_eq_zero_iff] at h0
    subst h0
    exact .inl ⟨rfl,A1,c1,rfl⟩
  · obtain ⟨ad,rfl,hc⟩:=h.2.2 (by omega)
    refine .inr ⟨ad,c1,rfl,?_,fun j hj=>?_⟩
    · have:=World.block_lt_of_cell? w _ (hc 0 (by omega))
      rwa [add_block] at this
    · have:=hc j hj
      rw [List.getD_eq_getElem?_getD] at this
      exact this
theorem iV.calls (a0 : Int) (A1 : Option Addr) (c1 : Nat) (l1 : List Int) (a2 : Int) (r : Int) (w : World) (hr1 : Kd.C (Kd.int .i64) w A1 l1.length l1) (hc1 : l1.length ≤ c1) (h : iV.f a0 l1 a2 = some r) :
    Calls Tryz.prog 23 #[.int .i64 a0,.slice A1 l1.length c1,.int .i64 a2] w fun e w'=>e = .returned (.int .i64 r)∧Below w.heap.size w w':=by
  unfold iV.f at h
  split at h
  · cases h
  · rename_i hp
    split at h
    · rename_i hl
      cases h
      exact callsIn_wide.1 (iV.abS Fence.wide 4 trivial trivial trivial trivial rfl (by omega) (fun k m x y r W hm=>(CallsIn.inRound k (callsIn_wide.2 (dX.calls x y r W hm)))) a0 A1 c1 l1 a2 hp hl w (Tv hr1 hc1))
    · cases h
/-! ### jG: function 15 -/
def jG.f (k : Nat) (a0 : Int) (l1 : List Int) (a2 : Int) : Option (Int × Int):=(mh.f a0 a2).bind fun afT=>((lw.f k a0 afT (([l1] : List (List Int)))).bind fun abT=>(if abT = 0 then ((iV.f a0 l1 a2).bind fun alj=>(some (alj,0))) else (some (0,abT))))
theorem jG.calls (k : Nat) (a0 : Int) (P1_ : Nat → Prop) (A1 : Option Addr) (c1 : Nat) (l1 : List Int) (a2 : Int) (r1 : Int) (r2 : Int) (w : World) (hs1 : Kd.V (Kd.int .i64) 2 w w.heap.size (fun k_=>P1_ k_) (.slice A1 l1.length c1) l1) (H : jG.f k a0 l1 a2 = some (r1,r2)) :
  Calls Tryz.prog 15 #[.int .i64 a0,.slice A1 l1.length c1,.int .i64 a2] w fun e w'=>e = .returned (.tuple #[.int .i64 r1,.int .i64 r2])∧Below w.heap.size w w':=by
 have hmf : ∀ (fn_ : Fn) (first_ cap_ : Array Value) (w_ : World),(Instr.makeFunc fn_ first_ cap_).run Tryz.prog w_ = .ok (.func fn_ first_ cap_) w_:=fun _ _ _ _=>rfl;have HO1:=zA (show Kd.V (Kd.int .i64) 2 w w.heap.size (fun k_=>(P1_ k_ ∨ w.heap.size ≤ k_)) (.slice A1 l1.length c1) l1 from Kd.iK hs1 (fun k_ hk=>.inl hk));have HB:=zA (Below.refl w.heap.size w);unfold jG.f at H;replace H:=bO H;obtain ⟨afT,A4,H⟩:=H;obtain ⟨afU,Ra⟩:=eY ([l1] : List (List Int));(try rw [←Ra.out] at H);replace H:=bO H;obtain ⟨abT,A5,H⟩:=H;replace H:=gE H;obtain ⟨c6,qo,vW,H⟩|⟨c6,qo,vW,H⟩:=H
 ·simp only [Option.some.injEq,Prod.mk.injEq] at H;obtain ⟨rfl,rfl⟩:=H;go_enter Tryz.func15,Tryz.ntmps15;go_wp2_with (first | (refine bX 3 rfl #[.int .i64 a0] 2 ?_;intro tF w19 hg pU hb;replace HO1:=zA (Kd.jd (Kd.rH (uV HO1.out) tF (Nat.le_of_eq hg.symm)) hb);have abU:=gq HB hg;have:=geI abU;replace HB:=xH HB hb;clear hb hg) | ((with_reducible refine bP (N:=5) rfl ?_);refine bx 5 #[.int .i64 a2] 2 ?_;intro tH hg w20 hbox hb;replace HO1:=zA (Kd.jd (Kd.rH (uV HO1.out) tH (Nat.le_of_eq hg.symm)) hb);have wJ:=zA (hbox);have abV:=gq HB hg;have:=geI abV;have abW:=gq HB hg;replace HB:=xH HB hb;have Gf:=nL pU hg;have Gg:=nG pU hg;replace pU:=xB pU hb;have:=geI abW;clear hb hbox hg;have UX:=Gf.out;have UY:=Gg.out;have EF:=bc pU 0;have EG:=bf pU 0) | ((with_reducible refine bP (N:=12) rfl ?_);refine Kd.U9 (Kd.slice 2 (Kd.int .i64)) _ 24 ?hg (N':=12) ?hd (xs:=([l1] : List (List Int))) (inner:=[.slice A1 l1.length c1]) (ok:=(fun k_=>(P1_ k_ ∨ w.heap.size ≤ k_)∧k_ ≠ tF∧k_ ≠ tH)) (okp:=(fun k_=>(P1_ k_ ∨ w.heap.size ≤ k_)∧k_ ≠ tF∧k_ ≠ tH)) ?hr ?hp (fun _ hk=>hk) ((show ∀ k_,w20.heap.size ≤ k_ → (fun k_=>(P1_ k_ ∨ w.heap.size ≤ k_)∧k_ ≠ tF∧k_ ≠ tH) k_ from fun k_ hk=>⟨(.inr (Nat.le_trans (af (uH HB.out)) hk)),Kd.lI (g:=tF) (o:=.cells #[.int .i64 a0] 2 (0,0)) (uB pU.out) k_ hk,Kd.lI (g:=tH) (o:=.cells #[.int .i64 a2] 2 (0,0)) (uB wJ.out) k_ hk⟩) _ (Nat.le_refl _)) (Below.refl _ _) (Nat.le_refl _) (by simp) ?_;(case hd=>rfl);(case hg=>rfl);(case hr=>first | (go_simp;done) | (go_simp;rfl));(case hp=>exact (dh.one (show Kd.FK (Kd.slice 2 (Kd.int .i64)) _ _ l1 [.slice A1 l1.length c1] from (Kd.qw (Kd.mJ (Kd.iK (ok':=(fun k_=>(P1_ k_ ∨ w.heap.size ≤ k_)∧k_ ≠ tF∧k_ ≠ tH)) (HO1.out) (fun k_ ⟨⟨a,b⟩,c⟩=>⟨a,b,c⟩))).2.1 (Kd.V_F (Kd.iK (ok':=(fun k_=>(P1_ k_ ∨ w.heap.size ≤ k_)∧k_ ≠ tF∧k_ ≠ tH)) (HO1.out) (fun k_ ⟨⟨a,b⟩,c⟩=>⟨a,b,c⟩))))) (dh.none _ _)));intro aBq w23 Hd hb hg_ hnew_;clear hg_ hnew_;(first | rw [← Ra.out] at Hd | (simp only [Int.reduceToNat] at Hd;rw [← Ra.out] at Hd));replace HO1:=zA (Kd.fG (uV HO1.out) (Kd.Mh Hd) hb);have zH:=zA (Kd.yw Hd (af (uH HB.out)));replace pU:=xB pU hb;replace wJ:=xB wJ hb;replace HB:=xH HB hb;clear hb Hd;obtain ⟨nz,nA,PD⟩:=Kd.vQ zH.out;subst PD) | ((with_reducible refine ae (f:=40) rfl ?_);refine gL (some 13) Tryz.func40 #[.int .i64 a0,(.func (.func 41) #[] #[.pointer (some ⟨tF,0,none⟩),.pointer (some ⟨tH,0,none⟩)]),.slice nz afU.length nA] ?_;(with_reducible refine (lw.calls k a0 _ afT _ _ afU abT _ ?side1 ?side2 ?side3 A5.out).mono ?_);(case side1=>exact FnB.of Tryz.func41 (by kernel_rfl) rfl (fun W_ hW_=>cz (args':=#[.pointer (some ⟨tF,0,none⟩),.pointer (some ⟨tH,0,none⟩)]) (by simp) ((mh.calls _ a0 _ a2 _ W_ (bM (g:=tF) (o:=.cells #[.int .i64 a0] 2 (0,0)) (uB pU.out) hW_) (bM (g:=tH) (o:=.cells #[.int .i64 a2] 2 (0,0)) (uB wJ.out) hW_) A4.out).mono fun e_ W2_ h_=>⟨h_.1,h_.2.below⟩)));(case side2=>exact uC ((Kd.jb zH.out).2.2));(case side3=>exact (Kd.jb zH.out).2.1);rintro e w26 ⟨rfl,hb⟩;refine ⟨_,rfl,?_⟩;replace HO1:=zA (Kd.jd (uV HO1.out) hb);replace zH:=zA (Kd.kT (uN zH.out) hb);replace pU:=xB pU hb;replace wJ:=xB wJ hb;replace HB:=xH HB hb;(try clear hb);(try clear hk)));go_ret2;exact ⟨eX,uH HB.out⟩
 clear c6;replace H:=bO H;obtain ⟨alj,A7,H⟩:=H;simp only [Option.some.injEq,Prod.mk.injEq] at H;obtain ⟨rfl,rfl⟩:=H;go_enter Tryz.func15,Tryz.ntmps15;go_wp2_with (first | (refine bX 3 rfl #[.int .i64 a0] 2 ?_;intro tF w8 hg pU hb;replace HO1:=zA (Kd.jd (Kd.rH (uV HO1.out) tF (Nat.le_of_eq hg.symm)) hb);have abU:=gq HB hg;have:=geI abU;replace HB:=xH HB hb;clear hb hg) | ((with_reducible refine bP (N:=5) rfl ?_);refine bx 5 #[.int .i64 a2] 2 ?_;intro tH hg w9 hbox hb;replace HO1:=zA (Kd.jd (Kd.rH (uV HO1.out) tH (Nat.le_of_eq hg.symm)) hb);have wJ:=zA (hbox);have abV:=gq HB hg;have:=geI abV;have abW:=gq HB hg;replace HB:=xH HB hb;have Gf:=nL pU hg;have Gg:=nG pU hg;replace pU:=xB pU hb;have:=geI abW;clear hb hbox hg;have agH:=Gf.out;have agI:=Gg.out;have Em:=bc pU 0;have En:=bf pU 0) | ((with_reducible refine bP (N:=12) rfl ?_);refine Kd.U9 (Kd.slice 2 (Kd.int .i64)) _ 24 ?hg (N':=12) ?hd (xs:=([l1] : List (List Int))) (inner:=[.slice A1 l1.length c1]) (ok:=(fun k_=>(P1_ k_ ∨ w.heap.size ≤ k_)∧k_ ≠ tF∧k_ ≠ tH)) (okp:=(fun k_=>(P1_ k_ ∨ w.heap.size ≤ k_)∧k_ ≠ tF∧k_ ≠ tH)) ?hr ?hp (fun _ hk=>hk) ((show ∀ k_,w9.heap.size ≤ k_ → (fun k_=>(P1_ k_ ∨ w.heap.size ≤ k_)∧k_ ≠ tF∧k_ ≠ tH) k_ from fun k_ hk=>⟨(.inr (Nat.le_trans (af (uH HB.out)) hk)),Kd.lI (g:=tF) (o:=.cells #[.int .i64 a0] 2 (0,0)) (uB pU.out) k_ hk,Kd.lI (g:=tH) (o:=.cells #[.int .i64 a2] 2 (0,0)) (uB wJ.out) k_ hk⟩) _ (Nat.le_refl _)) (Below.refl _ _) (Nat.le_refl _) (by simp) ?_;(case hd=>rfl);(case hg=>rfl);(case hr=>first | (go_simp;done) | (go_simp;rfl));(case hp=>exact (dh.one (show Kd.FK (Kd.slice 2 (Kd.int .i64)) _ _ l1 [.slice A1 l1.length c1] from (Kd.qw (Kd.mJ (Kd.iK (ok':=(fun k_=>(P1_ k_ ∨ w.heap.size ≤ k_)∧k_ ≠ tF∧k_ ≠ tH)) (HO1.out) (fun k_ ⟨⟨a,b⟩,c⟩=>⟨a,b,c⟩))).2.1 (Kd.V_F (Kd.iK (ok':=(fun k_=>(P1_ k_ ∨ w.heap.size ≤ k_)∧k_ ≠ tF∧k_ ≠ tH)) (HO1.out) (fun k_ ⟨⟨a,b⟩,c⟩=>⟨a,b,c⟩))))) (dh.none _ _)));intro aBq w12 He hb hg_ hnew_;clear hg_ hnew_;(first | rw [← Ra.out] at He | (simp only [Int.reduceToNat] at He;rw [← Ra.out] at He));replace HO1:=zA (Kd.fG (uV HO1.out) (Kd.Mh He) hb);have zH:=zA (Kd.yw He (af (uH HB.out)));replace pU:=xB pU hb;replace wJ:=xB wJ hb;replace HB:=xH HB hb;clear hb He;obtain ⟨rA,rC,RZ⟩:=Kd.vQ zH.out;subst RZ) | ((with_reducible refine ae (f:=40) rfl ?_);refine gL (some 13) Tryz.func40 #[.int .i64 a0,(.func (.func 41) #[] #[.pointer (some ⟨tF,0,none⟩),.pointer (some ⟨tH,0,none⟩)]),.slice rA afU.length rC] ?_;(with_reducible refine (lw.calls k a0 _ afT _ _ afU abT _ ?side1 ?side2 ?side3 A5.out).mono ?_);(case side1=>exact FnB.of Tryz.func41 (by kernel_rfl) rfl (fun W_ hW_=>cz (args':=#[.pointer (some ⟨tF,0,none⟩),.pointer (some ⟨tH,0,none⟩)]) (by simp) ((mh.calls _ a0 _ a2 _ W_ (bM (g:=tF) (o:=.cells #[.int .i64 a0] 2 (0,0)) (uB pU.out) hW_) (bM (g:=tH) (o:=.cells #[.int .i64 a2] 2 (0,0)) (uB wJ.out) hW_) A4.out).mono fun e_ W2_ h_=>⟨h_.1,h_.2.below⟩)));(case side2=>exact uC ((Kd.jb zH.out).2.2));(case side3=>exact (Kd.jb zH.out).2.1);rintro e w15 ⟨rfl,hb⟩;refine ⟨_,rfl,?_⟩;replace HO1:=zA (Kd.jd (uV HO1.out) hb);replace zH:=zA (Kd.kT (uN zH.out) hb);replace pU:=xB pU hb;replace wJ:=xB wJ hb;replace HB:=xH HB hb;(try clear hb);(try clear hk);have EH:=bc pU 0;have EI:=bf pU 0;have CO:=bc wJ 0;have CR:=bf wJ 0) | ((with_reducible refine ae (f:=23) rfl ?_);refine gL (some 20) Tryz.func23 #[.int .i64 a0,.slice A1 l1.length c1,.int .i64 a2] ?_;(with_reducible refine (iV.calls a0 _ _ l1 a2 alj _ ?side1 ?side2 A7.out).mono ?_);(case side1=>exact uC ((Kd.mJ HO1.out).2.2));(case side2=>exact (Kd.mJ HO1.out).2.1);rintro e w18 ⟨rfl,hb⟩;refine ⟨_,rfl,?_⟩;replace HO1:=zA (Kd.jd (uV HO1.out) hb);replace zH:=zA (Kd.kT (uN zH.out) hb);replace pU:=xB pU hb;replace wJ:=xB wJ hb;replace HB:=xH HB hb;(try clear hb);(try clear hk)));go_ret2;exact ⟨eX,uH HB.out⟩
/- Values of polynomials: the program's and the reference's come to one number; no condition. -/
/-- The first k numbers from behind taken in. -/
def Kn (p x : Int) (l : List Int) : Nat → Int
  | 0=>0
  | k + 1=>(Kn p x l k * x + l.getD (l.length - 1 - k) 0) % p
theorem OI {p : Int} (hp : Pm p) (x : Int) (l : List Int) (k : Nat) : 0 ≤ Kn p x l k∧Kn p x l k < p:=by
  cases k with
  | zero=>exact ⟨Int.le_refl _,hp.pos⟩
  | succ k=>exact lv hp.pos _
def xJ (p x : Int) (l : List Int) : Int:=Kn p x l l.length
theorem vR {p : Int} (hp : Pm p) (x : Int) (l : List Int) : 0 ≤ xJ p x l∧xJ p x l < p:=OI hp x l _
theorem Tw {p x o c : Int} (hp : Pm p) (hx : 0 ≤ x∧x < p) (ho : 0 ≤ o∧o < p) (hc : 0 ≤ c∧c < p) : Db p x o c = (o * x + c) % p:=by
  have h:=yO hp ho.1 ho.2 hx.1 hx.2
  have ht:=hp.top
  unfold Db
  rw [bJ (x:=o * x) (by omega) (by omega),bJ (x:=o * x + c) (by omega) (by omega),Jh hp]
theorem Tx {p x : Int} (hp : Pm p) (hx : 0 ≤ x∧x < p) (l : List Int) (hl : Nm p l) (k : Nat) (hk : k ≤ l.length) : valOf p x (upto (bk l l.length) k) = Kn p x l k:=by
  induction k with
  | zero=>rfl
  | succ k ih =>
    have hg:=hl.get (i:=l.length - 1 - k) (by omega)
    have hv:=OI hp x l k
    rw [Ga,Kl,ih (by omega),Kn]
    have e : (bk l l.length k).2 = l.getD (l.length - 1 - k) 0:=by simp [bk,List.getD_eq_getElem?_getD]
    rw [e,Tw hp hx hv hg]
theorem zT {p x : Int} (hp : Pm p) (hx : 0 ≤ x∧x < p) (l : List Int) (hl : Nm p l) (hs : Sm l.length) : iV.f p l x = some (xJ p x l):=by
  unfold iV.f
  unfold Sm at hs
  rw [if_neg hp.ne,if_pos (by omega),Tx hp hx l hl l.length (Nat.le_refl _)];rfl
theorem X0 {p x : Int} (hp : Pm p) (hx : 0 ≤ x∧x < p) (l : List Int) (hl : Nm p l) (hs : Sm l.length) (d : Nat) : ∀ k,k + d = l.length →
    Ev (fun n=>jN.l0 n p l x (Kn p x l k) ((l.length : Int) - 1 - (k : Int))) (xJ p x l):=by
  induction d with
  | zero =>
    intro k hk
    refine Ev.step (fun n=>by rw [jN.l0]) ?_
    refine Ev.neg (by omega) (Ev.oh ?_)
    rw [show k = l.length from by omega];rfl
  | succ d ih =>
    intro k hk
    have hv:=OI hp x l k
    have hg:=hl.get (i:=l.length - 1 - k) (by omega)
    have h:=yO hp hv.1 hv.2 hx.1 hx.2
    have ht:=hp.top
    unfold Sm at hs
    have er : rd l ((l.length : Int) - 1 - (k : Int)) = l.getD (l.length - 1 - k) 0:=by
      rw [show (l.length : Int) - 1 - (k : Int) = ((l.length - 1 - k : Nat) : Int) from by omega,mV]
    have ew : wrap64 ((l.length : Int) - 1 - (k : Int) - 1) = (l.length : Int) - 1 - ((k + 1 : Nat) : Int):=by rw [bJ (by omega) (by omega)];omega
    refine Ev.step (fun n=>by rw [jN.l0]) ?_
    rw [er,ew]
    clear er ew
    refine Ev.pos (by omega) (Ev.pos (by omega) (Ev.pos (by omega) (Ev.neg hp.ne ?_)))
    rw [bJ (x:=Kn p x l k * x) (by omega) (by omega),bJ (by omega) (by omega),jY (by omega)]
    exact ih (k + 1) (by omega)
theorem Lc {p x : Int} (hp : Pm p) (hx : 0 ≤ x∧x < p) (l : List Int) (hl : Nm p l) (hs : Sm l.length) : Ev (fun n=>jN.f n p l x) (xJ p x l):=by
  unfold jN.f
  have h:=X0 hp hx l hl hs l.length 0 (by omega)
  have hs':=hs
  unfold Sm at hs'
  rw [bJ (x:=(l.length : Int) - 1) (by omega) (by omega)]
  rw [show (l.length : Int) - 1 - ((0 : Nat) : Int) = (l.length : Int) - 1 from by omega] at h
  exact h
/- Kernels of moments: plain; no condition. -/
/-- The numbers of the kernel of a. -/
def Jw (p : Int) (l : List Int) (a : Int) (k : Nat) : Int:=xJ p a (mP p l k) * qA p (kN p l (mP p l k) 0) % p
def xK (p : Int) (l : List Int) (n : Nat) (a : Int) : List Int:=xc p (mP p l) (Jw p l a) (n + 1)
theorem Ux {p : Int} (hp : Pm p) (l : List Int) (a : Int) (k : Nat) : 0 ≤ Jw p l a k∧Jw p l a k < p:=lv hp.pos _
theorem Nr {p : Int} (hp : Pm p) (l : List Int) (n : Nat) (a : Int) : Nm p (xK p l n a):=Ez hp _ _ _
theorem y9 {p : Int} (hp : Pm p) (l : List Int) (n : Nat) (a : Int) : (xK p l n a).length ≤ n + 1:=Jy _ _ (sP hp l) _
/- The program's ValueAt at a polynomial and a number of the field; monic polynomials are polynomials; no further condition. -/
theorem xI {p : Int} (hq : gQ p = true) {f : List Int} (hf : qb p f = true) (sf : Sm f.length) {x : Int} (hx : 0 ≤ x∧x < p) : Ev (fun k=>jG.f k p f x) (xJ p x f,0):=by
  have hp:=gQ.pm hq
  have h1 : mh.f p x = some true:=by
    unfold mh.f
    rw [has_eq,decide_eq_true hx];rfl
  have hc:=GN p true [f] (by simp [Sm]) (fun l hl=>by
    simp only [List.mem_cons,List.not_mem_nil,or_false] at hl
    rw [hl];exact sf)
  simp only [List.all_cons,List.all_nil,hf,Bool.and_true,hq,if_true] at hc
  unfold jG.f
  exact Ev.iN h1 (Ev.bind hc (Ev.pos rfl (Ev.iN (zT hp hx f (qb.nm hf) sf) (Ev.now _))))
/- Numbers modulo P as a ring of their own; sums there: plain; no condition. -/
section
variable {P : Nat} [NeZero P]
/-- A whole number's rest modulo P. -/
def fz (P : Nat) [NeZero P] (x : Int) : Fin P:=⟨(x % (P : Int)).toNat,by
  have:=Nat.pos_of_neZero P
  have:=Int.emod_nonneg x (show (P : Int) ≠ 0 by omega)
  have:=Int.emod_lt_of_pos x (show 0 < (P : Int) by omega)
  omega⟩
theorem yh (x : Int) : ((fz P x).val : Int) = x % (P : Int):=by
  have:=Nat.pos_of_neZero P
  have:=Int.emod_nonneg x (show (P : Int) ≠ 0 by omega)
  show (((x % (P : Int)).toNat : Nat) : Int) = _
  omega
theorem Ko {x y : Int} : fz P x = fz P y ↔ x % (P : Int) = y % (P : Int):=by
  constructor
  · intro h
    rw [← yh,← yh,h]
  · intro h
    apply Fin.ext
    have h1:=yh (P:=P) x
    have h2:=yh (P:=P) y
    omega
theorem alk (x : Int) : fz P (x % (P : Int)) = fz P x:=Ko.2 (Int.emod_emod _ _)
theorem yV (x y : Int) : fz P (x + y) = fz P x + fz P y:=by
  apply Fin.ext
  apply Int.ofNat.inj
  show (((fz P (x + y)).val : Nat) : Int) = (((fz P x + fz P y).val : Nat) : Int)
  rw [Fin.val_add,Int.natCast_emod,Int.natCast_add,yh,yh,yh,← Int.add_emod]
theorem qZ (x y : Int) : fz P (x * y) = fz P x * fz P y:=by
  apply Fin.ext
  apply Int.ofNat.inj
  show (((fz P (x * y)).val : Nat) : Int) = (((fz P x * fz P y).val : Nat) : Int)
  rw [Fin.val_mul,Int.natCast_emod,Int.natCast_mul,yh,yh,yh,← Int.mul_emod]
theorem vk : fz P 0 = 0:=by
  apply Fin.ext
  show ((0 : Int) % (P : Int)).toNat = (0 : Fin P).val
  simp
theorem yj : fz P 1 = 1:=by
  apply Fin.ext
  apply Int.ofNat.inj
  show (((fz P 1).val : Nat) : Int) = (((1 : Fin P).val : Nat) : Int)
  rw [yh]
  show (1 : Int) % (P : Int) = ((1 % P : Nat) : Int)
  simp
theorem Ty (x : Int) : fz P (-x) = -fz P x:=by
  have h : fz P (-x) + fz P x = 0:=by rw [← yV,Int.add_left_neg,vk]
  grind
theorem Tz (x y : Int) : fz P (x - y) = fz P x - fz P y:=by
  rw [Int.sub_eq_add_neg,yV,Ty]
  grind
theorem Gh {x : Int} : fz P x = 0 ↔ x % (P : Int) = 0:=by
  rw [← vk,Ko,Int.zero_emod]
/-- Sums. -/
def sF (g : Nat → Fin P) : Nat → Fin P
  | 0=>0
  | n + 1=>sF g n + g n
theorem abX (g : Nat → Int) (n : Nat) : fz P (sumTo g n) = sF (fun i=>fz P (g i)) n:=by
  induction n with
  | zero=>exact vk
  | succ n ih=>rw [sumTo,yV,ih];rfl
theorem ji {g h : Nat → Fin P} (n : Nat) (e : ∀ i,i < n → g i = h i) : sF g n = sF h n:=by
  induction n with
  | zero=>rfl
  | succ n ih=>rw [sF,sF,ih (fun i hi=>e i (by omega)),e n (by omega)]
theorem Gi {g : Nat → Fin P} (n : Nat) (e : ∀ i,i < n → g i = 0) : sF g n = 0:=by
  induction n with
  | zero=>rfl
  | succ n ih=>rw [sF,ih (fun i hi=>e i (by omega)),e n (by omega)];grind
theorem Gj (g h : Nat → Fin P) (n : Nat) : sF (fun i=>g i + h i) n = sF g n + sF h n:=by
  induction n with
  | zero=>simp only [sF];grind
  | succ n ih=>simp only [sF];rw [ih];grind
theorem Cb (c : Fin P) (g : Nat → Fin P) (n : Nat) : sF (fun i=>c * g i) n = c * sF g n:=by
  induction n with
  | zero=>simp only [sF];grind
  | succ n ih=>simp only [sF];rw [ih];grind
theorem OJ (c : Fin P) (g : Nat → Fin P) (n : Nat) : sF (fun i=>g i * c) n = sF g n * c:=by
  induction n with
  | zero=>simp only [sF];grind
  | succ n ih=>simp only [sF];rw [ih];grind
theorem Wq (g : Nat → Nat → Fin P) (n m : Nat) : sF (fun i=>sF (fun j=>g i j) m) n = sF (fun j=>sF (fun i=>g i j) n) m:=by
  induction n with
  | zero=>exact (Gi m (fun _ _=>rfl)).symm
  | succ n ih=>simp only [sF];rw [ih,← Gj]
theorem wK (g : Nat → Fin P) (n : Nat) : sF g (n + 1) = g 0 + sF (fun t=>g (t + 1)) n:=by
  induction n with
  | zero=>simp only [sF];grind
  | succ n ih=>rw [sF,ih,sF];grind
theorem afV {g : Nat → Fin P} {n : Nat} (e : ∀ i,n ≤ i → g i = 0) (d : Nat) : sF g (n + d) = sF g n:=by
  induction d with
  | zero=>rfl
  | succ d ih=>rw [← Nat.add_assoc,sF,ih,e _ (by omega)];grind
theorem Ws {g : Nat → Fin P} {n m : Nat} (h : n ≤ m) (e : ∀ i,n ≤ i → g i = 0) : sF g m = sF g n:=by
  obtain ⟨d,rfl⟩:=Nat.le.dest h
  exact afV e d
/-- One place alone. -/
theorem Wt {g : Nat → Fin P} {n k : Nat} (hk : k < n) (e : ∀ i,i < n → i ≠ k → g i = 0) : sF g n = g k:=by
  induction n with
  | zero=>omega
  | succ n ih =>
    rw [sF]
    by_cases c : k = n
    · subst c
      rw [Gi k (fun i hi=>e i (by omega) (by omega))]
      grind
    · rw [ih (by omega) (fun i hi=>e i (by omega)),e n (by omega) (by omega)]
      grind
/-- The numbers of a list. -/
def cf (P : Nat) [NeZero P] (f : List Int) (i : Nat) : Fin P:=fz P (f.getD i 0)
theorem yX {f : List Int} {i : Nat} (h : f.length ≤ i) : cf P f i = 0:=by
  unfold cf
  rw [List.getD_eq_getElem?_getD,List.getElem?_eq_none h]
  exact vk
end
end Go.Proofs.YtnpepkpogohcmaaGreat.Pr
