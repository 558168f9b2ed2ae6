/- Texts of this session in one: what functions of the program compute, and plain facts of it, under the conditions that each theorem names. -/
import Derived.Test.YtilbjbahmilhkaaKgonals1
import Derived.Test.YtilbjbahmilhkaaKgonals2
import Derived.Test.YtilbjbahmilhkaaKgonals3
import Derived.Test.YtilbjbahmilhkaaKgonals7
import Derived.Test.YtilbjbahmilhkaaKgonals9
namespace Go.Proofs.Ytilbjbahmilhkaa.Pr
/- The program's determinant: for square rows of numbers modulo p it computes OC. -/
open Go Go.RowKit Go.Proofs.YtilbjbahmilhkaaW.PrintWords Go.Proofs.YtilbjbahmilhkaaW.PrintLast Go.Proofs.YtilbjbahmilhkaaW.PrintMore
set_option linter.unusedVariables false
set_option linter.unusedSimpArgs false
def aG.f (_k : Nat) (a0 : Int) (l1 : List (List Int)) : Option Int:=if QN a0 l1 then some (OC a0 l1) else none
def aG.T15 : Bool × List (List Nat × List Nat):=(true,[([],[]),([],[]),([],[]),([],[]),([],[]),([3,4],[3,4]),([],[]),([],[]),([],[]),([7,8],[7,8]),([6,9],[6,9]),([10],[10]),([],[]),([],[]),([12,13],[12,13]),([14],[14]),([0,1,0,1,6,7,8,9,10,11,15],[0,1]),([16,11,0,1,6,7,8,9,10,11,15],[11,16]),([2,5,0,1,2,3,4,5,6,7,8,9,10,11,12,13,14,15,16,17],[2,5]),([18,15,17,0,1,2,3,4,5,6,7,8,9,10,11,12,13,14,15,16,17],[15,18])])
def aG.B15 : List Nat:=[0,0,0,0,0,24,0,0,0,384,960,1984,0,0,12288,28672,65475,131011,262143,524287]
theorem aG.atq : nI .any (opsOf Try.f84 15) = aG.T15:=by kernel_rfl
theorem aG.alp : jT aG.T15.2 aG.B15 = true:=by kernel_rfl
def aG.T17 : Bool × List (List Nat × List Nat):=(true,[([],[]),([],[]),([],[]),([],[]),([2,3],[2,3]),([4],[4]),([],[]),([5,6],[5,6]),([7],[7]),([0,1,8],[0,1,8]),([9,9,0,1,2,3,4,5,6,7,8,9],[1,9])])
def aG.B17 : List Nat:=[0,0,0,0,12,28,0,124,252,511,1023]
theorem aG.atr : nI .any (opsOf Try.f84 17) = aG.T17:=by kernel_rfl
theorem aG.alq : jT aG.T17.2 aG.B17 = true:=by kernel_rfl
def aG.T21 : Bool × List (List Nat × List Nat):=(true,[([],[]),([],[]),([],[]),([1,2],[1,2]),([3],[3]),([],[]),([],[]),([5,6],[5,6]),([7],[7]),([],[]),([8,9],[8,9]),([10],[10]),([0,4,11],[0,4,11]),([12,12,0,1,2,3,4,5,6,7,8,9,10,11,12],[12])])
def aG.B21 : List Nat:=[0,0,0,6,14,0,0,96,224,0,992,2016,4095,8191]
theorem aG.att : nI .any (opsOf Try.f84 21) = aG.T21:=by kernel_rfl
theorem aG.alr : jT aG.T21.2 aG.B21 = true:=by kernel_rfl
def aG.T25 : Bool × List (List Nat × List Nat):=(true,[([],[]),([],[]),([],[]),([],[]),([],[]),([3,4],[3,4]),([5],[5]),([],[]),([],[]),([],[]),([8,9],[8,9]),([10],[10]),([],[]),([11,12],[11,12]),([13],[13]),([7,14],[7,14]),([6,15],[6,15]),([2,16],[2,16]),([0,1,0,1,2,3,4,5,6,7,8,9,10,11,12,13,14,15,16,17],[0,1]),([18,17,17,0,1,2,3,4,5,6,7,8,9,10,11,12,13,14,15,16,17],[17,18])])
def aG.B25 : List Nat:=[0,0,0,0,0,24,56,0,0,0,768,1792,0,7936,16128,32640,65528,131068,262143,524287]
theorem aG.atu : nI .any (opsOf Try.f84 25) = aG.T25:=by kernel_rfl
theorem aG.als : jT aG.T25.2 aG.B25 = true:=by kernel_rfl

set_option maxHeartbeats 8000000 in
set_option maxRecDepth 100000 in
theorem aG.calls (k : Nat) (a0 : Int) (A1 : Option Addr) (c1 : Nat) (l1 : List (List Int)) (r : Int) (w : World) (hr1 : Kd.C (Kd.slice 2 (Kd.int .i64)) w A1 l1.length l1) (hc1 : l1.length ≤ c1) (h : aG.f k a0 l1 = some r) :
    Calls Try.prog 84 #[.int .i64 a0,.slice A1 l1.length c1] w fun e w'=>e = .returned (.int .i64 r)∧Below w.heap.size w w':=by
  unfold aG.f at h
  split at h
  case isFalse=>cases h
  rename_i c2
  have HD:=aa.mk (Option.some.inj h)
  clear h
  obtain ⟨⟨hp2,hpt⟩,hn,hrows⟩:=c2
  have HP:=aa.mk (Pm.mk hp2 hpt)
  have HN:=aa.mk hn
  have HROWS:=aa.mk hrows
  have HR1:=aa.mk hr1
  clear hp2 hpt hn hrows hr1 hc1
  have HB:=aa.mk (Below.refl w.heap.size w)
  have hmk : Try.prog.underlying 51 = some (.slice 24):=Try.underlying51
  have HMK:=aa.mk hmk
  clear hmk
  go_enter Try.func84,Try.ntmps84
  go_wp2_with (first | ((with_reducible refine bI (N:=17) rfl ?_);refine acm (e:=24) (e':=2) 17 l1.length HMK.out (by kernel_rfl) HN.out (fun _=>0) (fun _=>0) (fun i=>l1.getD i []) ?_;intro gb hg w3 HM0 hb;have HM:=aa.mk HM0;clear HM0;have HB:=aa.mk hb;clear hb hg))
  go_loopg [20] (l1.length + 1) (fun kq v20 w'=>∃ (i : Nat) (β κ : Nat → Nat),v20 = .int .i64 (i : Int)∧aa (kq + i = l1.length + 1∧i ≤ l1.length)∧aa (Mx 24 2 w' w.heap.size gb l1.length i β κ (fun i=>l1.getD i []))∧aa (Below w.heap.size w w'))
  case atStart=>exact ⟨0,_,_,rfl,⟨by omega,by omega⟩,⟨HM.out.below (by repeat (first | exact Below.refl _ _ | apply aW | apply aZ))⟩,⟨uH HB.out⟩⟩
  case round =>
    clear HM HB
    obtain ⟨i,β,κ,rfl,HI,HM,HB⟩:=hrel
    by_cases ci : i < l1.length
    · have c1 : decide ((i : Int) < (l1.length : Int)) = true:=decide_eq_true (by omega)
      have CI:=aa.mk ci
      clear ci
      obtain ⟨ad,A0,c0,eA,hx,hl,hi⟩:=y7 HR1.out (i : Int) (by omega) (by have:=CI.out;omega)
      cases eA
      replace hx:=(HB.out.cell (World.block_lt_of_cell? w _ hx)).trans hx
      rw [kU] at hx
      have hli : (fw l1 (i : Int)).length = l1.length:=by rw [sQ];exact (HROWS.out _ (xE CI.out)).1
      rw [hli] at hx hl hi
      have HLI:=aa.mk hli
      have HRI:=aa.mk hi
      have HCI:=aa.mk hl
      clear hi hl hli
      have q1 : (0 ≤ (i : Int)) = True:=eq_true (by omega)
      have q2 : ((i : Int) < (l1.length : Int)) = True:=eq_true (by have:=CI.out;omega)
      go_wp2_with (first | ((with_reducible refine ae (f:=91) rfl ?_);refine gL (some 28) Try.func91 #[.slice A0 l1.length c0] ?_;with_reducible refine (OI HLI.out ?s0 HN.out ?sC HCI.out).mono ?_;(case s0=>have:=CI.out;omega);(case sC=>exact uC (Kd.aQ HRI.out HB.out));rintro e w4 ⟨q,c',cur,rfl,hq,hcc,hqb,hqr,hb⟩;refine ⟨_,rfl,?_⟩;have HM1:=aa.mk (HM.out.below hb);have HNE:=aa.mk (fun j (hj : j < i)=>Nat.ne_of_lt (Nat.lt_of_lt_of_le (HM.out.lt hj) hq));have HQ:=aa.mk hqb;have HQR:=aa.mk hqr;have HQL:=aa.mk (Nat.le_trans (af HB.out) hq);have HCC:=aa.mk hcc;have HB1:=xH HB hb;clear HM HB hq hqb hqr hb hcc;have hs:=HM1.out.ahP (Nat.le_refl i) CI.out;have hf:=HM1.out.DC i))
      go_roundg (l1.length - i)
      case measure=>have:=HI.out;have:=CI.out;omega
      case rel =>
        have HMM:=HM1.out.more (by decide) CI.out HQ.out HQL.out HCC.out (fw l1 (i : Int)) HLI.out HQR.out (fun j hj=>HNE.out j hj)
        have eM : (fun j=>if j = i then fw l1 (i : Int) else l1.getD j []) = fun j=>l1.getD j []:=funext fun j=>by
          by_cases hj : j = i
          · rw [if_pos hj,hj,sQ]
          · rw [if_neg hj]
        rw [eM] at HMM
        have:=CI.out
        have:=HI.out
        have:=HN.out
        exact ⟨i + 1,_,_,by rw [kz (n:=1001) (by omega) (by omega)],⟨by omega,by omega⟩,⟨HMM⟩,⟨mO HB1.out (Nat.le_trans HMM.bg (Nat.le_refl _))⟩⟩
    · obtain rfl : i = l1.length:=by have:=HI.out;omega
      have c1 : decide ((l1.length : Int) < (l1.length : Int)) = false:=decide_eq_false (by omega)
      clear ci HI
      go_wp2_with (first | ((with_reducible refine ae (f:=67) rfl ?_);refine gL (some 32) Try.func67 #[.int .i64 a0,.int .i64 1] ?_;refine (EU HP.out 1 _).mono ?_;rintro e w' ⟨rfl,⟨nd,rfl⟩⟩;refine ⟨_,rfl,?_⟩))
      go_loopg [8,35] (l1.length + 1) (fun kq v8 v35 w'=>∃ (c : Nat) (o : Int) (β κ : Nat → Nat) (M : Nat → List Int),v8 = .int .i64 o∧v35 = .int .i64 (c : Int)∧aa (kq + c = l1.length + 1∧c ≤ l1.length)∧aa ((0 ≤ o∧o < a0)∧∀ i,i < l1.length → Nm a0 (M i))∧aa (uw a0 l1.length (l1.length - c) c M o = r)∧aa (Mx 24 2 w' w.heap.size gb l1.length l1.length β κ M)∧aa (Below w.heap.size w w'))
      case atStart =>
        have h1 : (1 : Int) % a0 = 1:=Int.emod_eq_of_lt (by omega) (by have:=HP.out.two;omega)
        exact ⟨0,1,β,κ,_,by rw [h1],rfl,⟨by omega,by omega⟩,⟨⟨by omega,by have:=HP.out.two;omega⟩,fun i hi=>(HROWS.out _ (xE hi)).2⟩,HD,⟨HM.out.below (by repeat (first | exact Below.refl _ _ | apply aW | apply aZ))⟩,⟨uH HB.out⟩⟩
      case round =>
        clear HM HB β κ HD
        obtain ⟨c,o,β,κ,M,rfl,rfl,HC,HO,HG,HM,HB⟩:=hrel
        by_cases cc : c < l1.length
        · have c1 : decide ((c : Int) < (l1.length : Int)) = true:=decide_eq_true (by omega)
          have CC:=aa.mk cc
          clear cc
          obtain ⟨v,hv⟩ : ∃ v : Int,v = if pivot M c (l1.length - c) c = l1.length then -1 else ((pivot M c (l1.length - c) c - c : Nat) : Int):=⟨_,rfl⟩
          have HV:=aa.mk hv
          clear hv
          have hcut:=Tw (P:=Try.prog) HMK.out (by kernel_rfl) gb l1.length c (Nat.le_of_lt CC.out)
          have hmf : ∀ (fn_ : Fn) (first_ cap_ : Array Value) (w_ : World),(Instr.makeFunc fn_ first_ cap_).run Try.prog w_ = .ok (.func fn_ first_ cap_) w_:=fun _ _ _ _=>rfl
          have cc:=CC.out
          go_upto_region 12 with (first | ((with_reducible refine bI (N:=9) rfl ?_);refine bx 9 #[.int .i64 0] 3 ?_;intro gq hq w5 hbox hb;have n0_:=aa.mk (HM.out.below hb);have n1_:=xH HB hb;have BK:=aa.mk hbox;have GE : aa (w.heap.size ≤ gq):=⟨by rw [hq];exact af (uH HB.out)⟩;clear HM HB hbox hb hq;have HM:=n0_;have HB:=n1_;clear n0_ n1_;have hcz : w5.cell? ⟨gq,0,none⟩ = some (.int .i64 0):=(bR BK.out 0).trans rfl;have hfz:=di BK.out 0) | ((with_reducible refine tK (t:=3) (p:=9) rfl ?_);refine rF (t:=3) (p:=9) (v:=?vo) (w1:=(w5.setCell ⟨gq,0,none⟩ (.int .i64 (c : Int)))) ?hg ?ho ?hn ?hr ?_;(case ho=>rfl);(case hg=>rfl);(case hn=>rfl);(case hr=>first | (go_simp;done) | (go_simp;rfl));intro w6 hw;clear hcz hfz;have hne:=HM.out.QO BK.out (by decide) (by decide);have n0_:=aa.mk (HM.out.far hne.1 hne.2 0 (.int .i64 (c : Int)));have n1_:=aa.mk (mO (j:=0) (v:=.int .i64 (c : Int)) HB.out GE.out);have n2_:=aa.mk (bE (cs':=#[.int .i64 (c : Int)]) BK.out 0 (.int .i64 (c : Int)) rfl);rw [← hw] at n0_ n1_ n2_;clear HM HB BK hne hw;have HM:=n0_;have HB:=n1_;have BK:=n2_;clear n0_ n1_ n2_;have hcz : w6.cell? ⟨gq,0,none⟩ = some (.int .i64 (c : Int)):=(bR BK.out 0).trans rfl) | ((with_reducible refine ae (f:=102) rfl ?_);refine gL (some 42) Try.func102 #[.slice (some (cutAt gb l1.length c)) (l1.length - c) (l1.length - c),.func (.func 103) #[] #[.pointer (some ⟨gq,0,none⟩)]] ?_;with_reducible refine (QR HM.out HN.out CC.out BK.out HV.out).mono ?_;rintro e w7 ⟨rfl,hb⟩;refine ⟨_,rfl,?_⟩;have n0_:=aa.mk (HM.out.below hb);have n1_:=xH HB hb;have n2_:=xB BK hb;clear HM HB BK hb hcz;have HM:=n0_;have HB:=n1_;have BK:=n2_;clear n0_ n1_ n2_))
          all_goals clear hcut hmf cc
          by_cases hP : pivot M c (l1.length - c) c = l1.length
          · have hv : v = -1:=by rw [HV.out,if_pos hP]
            have e : (0 : Int) = r:=by
              have h:=HG.out
              rw [show l1.length - c = (l1.length - c - 1) + 1 from by have:=CC.out;omega,uw,if_pos hP] at h
              exact h
            subst e
            clear HV
            subst hv
            have hd : decide ((-1 : Int) < 0) = true:=rfl
            go_wp2
            go_ret
            exact ⟨rfl,uH HB.out⟩
          · have hPc:=XZ M c (l1.length - c) c
            have hv : v = ((pivot M c (l1.length - c) c - c : Nat) : Int):=by rw [HV.out,if_neg hP]
            have hG : uw a0 l1.length (l1.length - (c + 1)) (c + 1) (AY a0 (si a0 ((M (pivot M c (l1.length - c) c)).getD c 0)) l1.length c (rf M c (pivot M c (l1.length - c) c)))
                ((if pivot M c (l1.length - c) c = c then o else (-o) % a0) * (M (pivot M c (l1.length - c) c)).getD c 0 % a0) = r:=by
              have h:=HG.out
              rw [show l1.length - c = (l1.length - c - 1) + 1 from by have:=CC.out;omega,uw,if_neg hP] at h
              rw [show l1.length - (c + 1) = l1.length - c - 1 from by omega]
              exact h
            clear HG HV
            generalize pivot M c (l1.length - c) c = P at hP hPc hv hG
            have HG:=aa.mk hG
            have HPI:=aa.mk (show c ≤ P∧P < l1.length from by have:=CC.out;omega)
            have HVE:=aa.mk hv
            have hv0 : 0 ≤ v:=by omega
            have hv1 : ¬ v < 0:=by omega
            clear hG hPc hP hv
            go_upto_if 46 with (fail)
            all_goals clear hv0 hv1
            go_cut [8] (fun v8 wc=>∃ β κ : Nat → Nat,v8 = .int .i64 (if P = c then o else (-o) % a0)∧aa (Mx 24 2 wc w.heap.size gb l1.length l1.length β κ (rf M c P))∧aa (wc.heap[gq]? = some (.cells #[.int .i64 (c : Int)] 3 (0,0)))∧aa (Below w.heap.size w wc))
            case first =>
              by_cases hpc : P = c
              · have hv : v = 0:=by have:=HVE.out;omega
                clear HVE
                subst hv
                have hd : decide ((0 : Int) > 0) = false:=rfl
                have hd2 : decide ((0 : Int) < 0) = false:=rfl
                go_wp2
                go_meet
                case rel =>
                  have e : rf M c P = M:=funext fun i=>by
                    unfold rf
                    by_cases hi : i = c
                    · rw [if_pos hi,hpc,hi]
                    · rw [if_neg hi,if_neg (by rw [hpc];exact hi)]
                  exact ⟨β,κ,by rw [if_pos hpc],⟨by rw [e];exact HM.out.below (by repeat (first | exact Below.refl _ _ | apply aW | apply aZ))⟩,⟨uB BK.out⟩,⟨uH HB.out⟩⟩
              · have hlt : c < P:=by have:=HPI.out;omega
                have hd : decide (v > 0) = true:=decide_eq_true (by have:=HVE.out;omega)
                have hd2 : decide (0 < v) = true:=hd
                have hd3 : 0 < v:=of_decide_eq_true hd
                go_wp2
                have hadd : IntKind.i64.wrap ((c : Int) + v) = (P : Int):=by rw [jd,HVE.out];have:=HPI.out;have:=HN.out;rw [bM (by omega) (by omega)];omega
                have q0 : (0 ≤ (c : Int)) = True:=eq_true (by omega)
                have q1 : ((c : Int) < (l1.length : Int)) = True:=eq_true (by have:=CC.out;omega)
                have q2 : (0 ≤ (P : Int)) = True:=eq_true (by omega)
                have q3 : ((P : Int) < (l1.length : Int)) = True:=eq_true (by have:=HPI.out;omega)
                refine ky (n:=20) (S:=fun w'=>w'.cell? ⟨gq,0,none⟩ = some (.int .i64 (c : Int))) (ds:=[19]) (bl 20 0) (by kernel_rfl) rfl (by kernel_rfl) ((bR BK.out 0).trans rfl) (fun hHeld=>?_)
                refine gV aG.atq aG.alp (fun HT_ HW_=>?_)
                have n0_:=aa.mk (HM.out.below (aW (Below.refl _ _)))
                have n1_:=aa.mk (aW HB.out)
                have n2_:=aa.mk (bN BK.out)
                clear HM HB BK
                have HM:=n0_;have HB:=n1_;have BK:=n2_
                clear n0_ n1_ n2_
                generalize w7.drew = w8 at HM HB BK hHeld ⊢
                have hne:=HM.out.QO BK.out (by decide) (by decide)
                have hcc:=HM.out.outer CC.out
                have hcp:=HM.out.outer HPI.out.2
                have hfc:=HM.out.DC c
                have hsw : (w8.setCell ⟨gb,c,none⟩ (.slice (some ⟨β P,0,none⟩) l1.length (κ P))).cell? ⟨gb,P,none⟩ = some (.slice (some ⟨β P,0,none⟩) l1.length (κ P)):=by
                  rw [bR (uy HM.out.out c _) P,Array.getElem?_setIfInBounds_ne (by omega),← bR HM.out.out P];exact hcp
                have hswf:=di (uy HM.out.out c (.slice (some ⟨β P,0,none⟩) l1.length (κ P))) P
                refine pu_ 0 47 (bl 20 1) HT_ ?_
                refine pu_ 2 49 (bl 20 5) HT_ ?_
                refine pu_ 4 51 (bl 20 21) HT_ ?_
                refine pu_ 6 53 (bl 20 85) HT_ ?_
                refine pu_ 8 55 (bl 20 341) HT_ ?_
                refine pu_ 12 59 (bl 20 4437) HT_ ?_
                refine ta_ 1 48 (bl 20 4439) HT_ HW_ hHeld ?_
                refine ta_ 3 50 (bl 20 4447) HT_ HW_ hHeld ?_
                refine pu_ 5 52 (bl 20 4479) HT_ ?_
                refine ta_ 7 54 (bl 20 4607) HT_ HW_ hHeld ?_
                refine pu_ 9 56 (bl 20 5119) HT_ ?_
                refine pu_ 10 57 (bl 20 6143) HT_ ?_
                refine ta_ 13 60 (bl 20 14335) HT_ HW_ hHeld ?_
                refine pu_ 14 61 (bl 20 30719) HT_ ?_
                refine av3 11 15 58 62 (bl 20 32767) (bl 20 63487) (bl 20 65535) HT_ hHeld ?_
                refine pu_ 16 63 (bl 20 131071) HT_ ?_
                refine on_ 17 none (bl 20 262143) HT_ (fun K hK=>?_)
                refine yB (w1:=w8.setCell ⟨gb,c,none⟩ (.slice (some ⟨β P,0,none⟩) l1.length (κ P))) (by rfl) rfl (by first | (go_simp;done) | (go_simp;rfl)) ?_
                have hbx : (w8.setCell ⟨gb,c,none⟩ (.slice (some ⟨β P,0,none⟩) l1.length (κ P))).cell? ⟨gq,0,none⟩ = some (.int .i64 (c : Int)):=(bR (bG BK.out hne.1 _) 0).trans rfl
                refine hK.out _ _ hbx (fun hHeld=>?_)
                clear hK K
                refine pu_ 18 64 (bl 20 524287) HT_ ?_
                refine Ae (i:=19) (N:=none) (bl 20 1048575) rfl rfl (um HT_.out (by kernel_rfl)) (by decide) (fun K hK=>?_)
                have hsP : (w8.setCell ⟨gb,c,none⟩ (.slice (some ⟨β P,0,none⟩) l1.length (κ P))).cell? ⟨gb,P,none⟩ = some (.slice (some ⟨β P,0,none⟩) l1.length (κ P)):=hsw
                have hsF : (w8.setCell ⟨gb,c,none⟩ (.slice (some ⟨β P,0,none⟩) l1.length (κ P))).frozen? ⟨gb,P,none⟩ = false:=hswf
                refine yB (w1:=(w8.setCell ⟨gb,c,none⟩ (.slice (some ⟨β P,0,none⟩) l1.length (κ P))).setCell ⟨gb,P,none⟩ (.slice (some ⟨β c,0,none⟩) l1.length (κ c))) (by rfl) rfl (by first | (go_simp;done) | (go_simp;rfl)) ?_
                refine hK.out _ _ ?_
                clear hK K
                refine done_ (done_of HT_.out (by kernel_rfl)) ?_
                have HM9:=HM.out.swap (by decide) CC.out HPI.out.2
                have eM : (fun i=>if i = P then M c else if i = c then M P else M i) = rf M c P:=funext fun i=>by
                  unfold rf
                  by_cases hi : i = c
                  · rw [if_pos hi,if_neg (by omega),if_pos hi]
                  · rw [if_neg hi,if_neg hi]
                rw [eM] at HM9
                have n0_:=aa.mk HM9
                have n1_:=aa.mk (mO (j:=P) (v:=.slice (some ⟨β c,0,none⟩) l1.length (κ c)) (mO (j:=c) (v:=.slice (some ⟨β P,0,none⟩) l1.length (κ P)) HB.out HM.out.bg) HM.out.bg)
                have n2_:=aa.mk (bG (p:=⟨gb,P,none⟩) (bG (p:=⟨gb,c,none⟩) BK.out hne.1 (.slice (some ⟨β P,0,none⟩) l1.length (κ P))) hne.1 (.slice (some ⟨β c,0,none⟩) l1.length (κ c)))
                clear HM9 eM HM HB BK hHeld hbx hsP hsF hsw hswf hcc hcp hfc hne
                have HM:=n0_;have HB:=n1_;have BK:=n2_
                clear n0_ n1_ n2_
                generalize (w8.setCell ⟨gb,c,none⟩ (.slice (some ⟨β P,0,none⟩) l1.length (κ P))).setCell ⟨gb,P,none⟩ (.slice (some ⟨β c,0,none⟩) l1.length (κ c)) = w9 at HM HB BK ⊢
                clear hadd q0 q1 q2 q3 hd hd2 hd3
                go_wp2_with (first | ((with_reducible refine ae (f:=67) rfl ?_);refine gL (some 68) Try.func67 #[.int .i64 a0,.int .i64 (wrap64 (-o))] ?_;refine (EU HP.out (wrap64 (-o)) _).mono ?_;rintro e w' ⟨rfl,⟨nd,rfl⟩⟩;refine ⟨_,rfl,?_⟩))
                go_meet
                case rel =>
                  have ew : wrap64 (-o) = -o:=by have:=HO.out;have:=HP.out.top;rw [bM (by omega) (by omega)]
                  exact ⟨_,_,by rw [if_neg hpc,ew],⟨HM.out.below (by repeat (first | exact Below.refl _ _ | apply aW | apply aZ))⟩,⟨uB BK.out⟩,⟨uH HB.out⟩⟩
            case rest =>
              obtain ⟨β1,κ1,rfl,HM,BK,HB⟩:=hcut
              have hMc : rf M c P c = M P:=by unfold rf;rw [if_pos rfl]
              have hNm : ∀ i,i < l1.length → Nm a0 (rf M c P i):=fun i hi=>by
                unfold rf
                by_cases h1 : i = c
                · rw [if_pos h1];exact HO.out.2 _ HPI.out.2
                · by_cases h2 : i = P
                  · rw [if_neg h1,if_pos h2];exact HO.out.2 _ CC.out
                  · rw [if_neg h1,if_neg h2];exact HO.out.2 _ hi
              have hoB : 0 ≤ (if P = c then o else (-o) % a0)∧(if P = c then o else (-o) % a0) < a0:=by
                by_cases h1 : P = c
                · rw [if_pos h1];exact HO.out.1
                · rw [if_neg h1];exact lQ HP.out.pos _
              have hG:=HG.out
              rw [← hMc] at hG
              clear HG hMc HO
              generalize rf M c P = M1 at HM hNm hG
              generalize (if P = c then o else (-o) % a0) = o1 at hoB hG ⊢
              obtain ⟨y0,hy0⟩ : ∃ y0,(M1 c).getD c 0 = y0:=⟨_,rfl⟩
              obtain ⟨o2,ho2⟩ : ∃ o2,o1 * y0 % a0 = o2:=⟨_,rfl⟩
              have LK:=(hNm c CC.out).Cx HP.out.pos c
              rw [hy0] at LK
              have HY0:=aa.mk hy0
              have atv:=aa.mk LK
              have HO2:=aa.mk ho2
              have ah3 : aa (0 ≤ o2∧o2 < a0):=⟨by rw [← ho2];exact lQ HP.out.pos _⟩
              rw [hy0,ho2] at hG
              clear hy0 LK ho2
              have HNM:=aa.mk hNm
              have HOB:=aa.mk hoB
              have HG:=aa.mk hG
              clear hG hNm hoB HPI HVE
              go_wp2
              have q0 : (0 ≤ (c : Int)) = True:=eq_true (by omega)
              have q1 : ((c : Int) < (l1.length : Int)) = True:=eq_true (by have:=CC.out;omega)
              refine ky (n:=11) (S:=fun w'=>w'.cell? ⟨gq,0,none⟩ = some (.int .i64 (c : Int))∧w'.cell? ⟨gb,c,none⟩ = some (.slice (some ⟨β1 c,0,none⟩) l1.length (κ1 c))∧w'.cell? ⟨β1 c,c,none⟩ = some (.int .i64 y0)) (ds:=[]) (bl 11 0) (by kernel_rfl) rfl (by kernel_rfl) ⟨(bR BK.out 0).trans rfl,HM.out.outer CC.out,(HM.out.cell CC.out CC.out).trans (by rw [HY0.out])⟩ (fun hHeld=>?_)
              refine gV aG.atr aG.alq (fun HT_ HW_=>?_)
              have n0_:=aa.mk (HM.out.below (aW (Below.refl _ _)))
              have n1_:=aa.mk (aW HB.out)
              have n2_:=aa.mk (bN BK.out)
              clear HM HB BK
              have HM:=n0_;have HB:=n1_;have BK:=n2_
              clear n0_ n1_ n2_
              generalize wc.drew = w8 at HM HB BK hHeld ⊢
              refine pu_ 0 69 (bl 11 1) HT_ ?_
              refine pu_ 1 70 (bl 11 3) HT_ ?_
              refine pu_ 2 71 (bl 11 7) HT_ ?_
              refine ta_ 3 72 (bl 11 15) HT_ HW_ hHeld ?_
              refine pu_ 4 73 (bl 11 31) HT_ ?_
              refine ta_ 5 74 (bl 11 63) HT_ HW_ hHeld ?_
              refine ta_ 6 75 (bl 11 127) HT_ HW_ hHeld ?_
              refine pu_ 7 76 (bl 11 255) HT_ ?_
              refine ta_ 8 77 (bl 11 511) HT_ HW_ hHeld ?_
              refine on_ 9 (some 78) (bl 11 1023) HT_ (fun K hK=>?_)
              refine gS Try.func96 #[.int .i64 a0,.int .i64 o1,.int .i64 y0] ?_
              refine (QS HP.out HOB.out atv.out HO2.out _).mono ?_
              rintro e w' ⟨rfl,⟨nd,rfl⟩⟩
              refine ⟨_,rfl,?_⟩
              refine hK.out _ _ hHeld (fun hHeld=>?_)
              clear hK K
              refine no_ 78 ?_
              refine pu_ 10 8 (bl 11 2047) HT_ ?_
              refine done_ (done_of HT_.out (by kernel_rfl)) ?_
              have n0_:=aa.mk (HM.out.below (aZ (Below.refl _ _) nd))
              have n1_:=aa.mk (aZ HB.out nd)
              have n2_:=aa.mk (jW BK.out nd)
              clear HM HB BK
              have HM:=n0_;have HB:=n1_;have BK:=n2_
              clear n0_ n1_ n2_ hHeld
              generalize w8.drewN nd = w9 at HM HB BK ⊢
              clear HOB HO2 q0 q1
              obtain ⟨c',hc'⟩ : ∃ c',c' = c + 1:=⟨_,rfl⟩
              obtain ⟨m,hm⟩ : ∃ m,l1.length - c' = m:=⟨_,rfl⟩
              have hadd : IntKind.i64.wrap ((c : Int) + 1) = (c' : Int):=by rw [jd,hc',kz CC.out (by have:=HN.out;omega)]
              have hcut:=Tw (P:=Try.prog) HMK.out (by kernel_rfl) gb l1.length c' (by have:=CC.out;omega)
              rw [hm] at hcut
              have HCE:=aa.mk hc'
              have HME:=aa.mk hm
              clear hc' hm
              have hcz : w9.cell? ⟨gq,0,none⟩ = some (.int .i64 (c : Int)):=(bR BK.out 0).trans rfl
              go_wp2
              obtain ⟨E,hE⟩ : ∃ E : Nat → List Int,E = fun i=>oh a0 ((M1 i).getD c 0 * si a0 y0 % a0) (M1 i) (M1 c) l1.length:=⟨_,rfl⟩
              have HE:=aa.mk hE
              clear hE hcz hcut
              go_loopg [84] (m + 1) (fun kq v84 w'=>∃ j : Nat,v84 = .int .i64 (j : Int)∧aa (kq + j = m + 1∧j ≤ m)∧aa (Mx 24 2 w' w.heap.size gb l1.length l1.length β1 κ1 (fun t=>if c < t∧t < c' + j then E t else M1 t))∧aa (w'.heap[gq]? = some (.cells #[.int .i64 (c : Int)] 3 (0,0)))∧aa (Below w.heap.size w w'))
              case atStart =>
                refine ⟨0,rfl,⟨by omega,by omega⟩,⟨(HM.out.below (by repeat (first | exact Below.refl _ _ | apply aW | apply aZ))).congr fun t _=>?_⟩,⟨uB BK.out⟩,⟨uH HB.out⟩⟩
                rw [if_neg (by have:=HCE.out;omega)]
              case round =>
                clear HM HB BK hadd
                obtain ⟨j,rfl,HJ,HM,BK,HB⟩:=hrel
                by_cases cj : j < m
                · have c1 : decide ((j : Int) < (m : Int)) = true:=decide_eq_true (by omega)
                  have CJ:=aa.mk cj
                  clear cj
                  obtain ⟨i,hi⟩ : ∃ i,i = c' + j:=⟨_,rfl⟩
                  have HIE:=aa.mk hi
                  have HI:=aa.mk (show c < i∧i < l1.length from by have:=HCE.out;have:=HME.out;have:=CJ.out;omega)
                  have HN1:=aa.mk (show ¬ (c < i∧i < c' + j) from by omega)
                  have HN2:=aa.mk (show ¬ (c < c∧c < c' + j) from by omega)
                  clear hi
                  have hx : wr.cell? ((cutAt gb l1.length c').add j) = some (.slice (some ⟨β1 i,0,none⟩) l1.length (κ1 i)):=by
                    rw [V6 (by have:=HME.out;have:=CJ.out;omega),← HIE.out];exact HM.out.outer HI.out.2
                  have hri : wr.cell? ⟨β1 i,c,none⟩ = some (.int .i64 ((M1 i).getD c 0)):=by have h:=HM.out.cell HI.out.2 CC.out;simp only [if_neg HN1.out] at h;exact h
                  obtain ⟨x0,hx0⟩ : ∃ x0,(M1 i).getD c 0 = x0:=⟨_,rfl⟩
                  obtain ⟨f,hf⟩ : ∃ f,x0 * si a0 y0 % a0 = f:=⟨_,rfl⟩
                  have alu:=(HNM.out i HI.out.2).Cx HP.out.pos c
                  rw [hx0] at hri alu
                  have HF : aa (E i = oh a0 f (M1 i) (M1 c) l1.length):=⟨by rw [HE.out,← hf,← hx0]⟩
                  have HFB : aa (0 ≤ f∧f < a0):=⟨by rw [← hf];exact lQ HP.out.pos _⟩
                  have azW:=aa.mk alu
                  have HFE:=aa.mk hf
                  clear hx0 alu hf
                  have hrc : wr.cell? ⟨β1 c,c,none⟩ = some (.int .i64 y0):=by have h:=HM.out.cell CC.out CC.out;simp only [if_neg HN2.out] at h;rw [HY0.out] at h;exact h
                  have HRI:=aa.mk hri
                  have HRC:=aa.mk hrc
                  clear hri hrc
                  have qj0 : (0 ≤ (j : Int)) = True:=eq_true (by omega)
                  have qj1 : ((j : Int) < (m : Int)) = True:=eq_true (by have:=CJ.out;omega)
                  go_wp2
                  clear hx qj0 qj1
                  have q0 : (0 ≤ (c : Int)) = True:=eq_true (by omega)
                  have q1 : ((c : Int) < (l1.length : Int)) = True:=eq_true (by have:=CC.out;omega)
                  refine ky (n:=14) (S:=fun w'=>w'.cell? ⟨gq,0,none⟩ = some (.int .i64 (c : Int))∧w'.cell? ⟨gb,c,none⟩ = some (.slice (some ⟨β1 c,0,none⟩) l1.length (κ1 c))∧w'.cell? ⟨β1 c,c,none⟩ = some (.int .i64 y0)∧w'.cell? ⟨β1 i,c,none⟩ = some (.int .i64 x0)) (ds:=[]) (bl 14 0) (by kernel_rfl) rfl (by kernel_rfl) ⟨(bR BK.out 0).trans rfl,HM.out.outer CC.out,HRC.out,HRI.out⟩ (fun hHeld=>?_)
                  refine gV aG.att aG.alr (fun HT_ HW_=>?_)
                  have n0_:=aa.mk (HM.out.below (aW (Below.refl _ _)))
                  have n1_:=aa.mk (aW HB.out)
                  have n2_:=aa.mk (bN BK.out)
                  clear HM HB BK
                  have HM:=n0_;have HB:=n1_;have BK:=n2_
                  clear n0_ n1_ n2_
                  clear HRI HRC
                  generalize wr.drew = w10 at HM HB BK hHeld ⊢
                  refine pu_ 0 88 (bl 14 1) HT_ ?_
                  refine pu_ 1 89 (bl 14 3) HT_ ?_
                  refine pu_ 5 93 (bl 14 35) HT_ ?_
                  refine ta_ 2 90 (bl 14 39) HT_ HW_ hHeld ?_
                  refine pu_ 3 91 (bl 14 47) HT_ ?_
                  refine ta_ 4 92 (bl 14 63) HT_ HW_ hHeld ?_
                  refine ta_ 6 94 (bl 14 127) HT_ HW_ hHeld ?_
                  refine pu_ 7 95 (bl 14 255) HT_ ?_
                  refine ta_ 8 96 (bl 14 511) HT_ HW_ hHeld ?_
                  refine ta_ 9 97 (bl 14 1023) HT_ HW_ hHeld ?_
                  refine pu_ 10 98 (bl 14 2047) HT_ ?_
                  refine ta_ 11 99 (bl 14 4095) HT_ HW_ hHeld ?_
                  refine on_ 12 (some 100) (bl 14 8191) HT_ (fun K hK=>?_)
                  refine gS Try.func72 #[.int .i64 a0,.int .i64 x0,.int .i64 y0] ?_
                  refine (QT HP.out azW.out atv.out HFE.out _).mono ?_
                  rintro e w' ⟨rfl,⟨nd,rfl⟩⟩
                  refine ⟨_,rfl,?_⟩
                  refine hK.out _ _ hHeld (fun hHeld=>?_)
                  clear hK K
                  refine no_ 100 ?_
                  refine pu_ 13 13 (bl 14 16383) HT_ ?_
                  refine done_ (done_of HT_.out (by kernel_rfl)) ?_
                  have n0_:=aa.mk (HM.out.below (aZ (Below.refl _ _) nd))
                  have n1_:=aa.mk (aZ HB.out nd)
                  have n2_:=aa.mk (jW BK.out nd)
                  clear HM HB BK
                  have HM:=n0_;have HB:=n1_;have BK:=n2_
                  clear n0_ n1_ n2_
                  clear hHeld q0 q1
                  generalize w10.drewN nd = w11 at HM HB BK ⊢
                  go_wp2
                  go_loopg [103] (l1.length + 1) (fun kq azX w'=>∃ q : Nat,azX = .int .i64 (q : Int)∧aa (kq + q = l1.length + 1∧q ≤ l1.length)∧aa (Mx 24 2 w' w.heap.size gb l1.length l1.length β1 κ1 (fun t=>if t = i then rq a0 f (M1 i) (M1 c) l1.length q else if c < t∧t < c' + j then E t else M1 t))∧aa (w'.heap[gq]? = some (.cells #[.int .i64 (c : Int)] 3 (0,0)))∧aa (Below w.heap.size w w'))
                  case atStart =>
                    refine ⟨0,rfl,⟨by omega,by omega⟩,⟨(HM.out.below (by repeat (first | exact Below.refl _ _ | apply aW | apply aZ))).congr fun t ht=>?_⟩,⟨uB BK.out⟩,⟨uH HB.out⟩⟩
                    by_cases hti : t = i
                    · have hl:=HM.out.len i HI.out.2
                      simp only [if_neg HN1.out] at hl
                      rw [if_pos hti,Li a0 f (M1 c) hl,hti,if_neg HN1.out]
                    · rw [if_neg hti]
                  case round =>
                    clear HM HB BK
                    obtain ⟨q,rfl,HQ,HM,BK,HB⟩:=hrel
                    by_cases cq : q < l1.length
                    · have c1 : decide ((q : Int) < (l1.length : Int)) = true:=decide_eq_true (by omega)
                      have CQ:=aa.mk cq
                      clear cq
                      obtain ⟨x1,hx1⟩ : ∃ x1,(M1 i).getD q 0 = x1:=⟨_,rfl⟩
                      obtain ⟨y1,hy1⟩ : ∃ y1,(M1 c).getD q 0 = y1:=⟨_,rfl⟩
                      have HRI : aa (wr.cell? ⟨β1 i,q,none⟩ = some (.int .i64 x1)):=⟨by have h:=HM.out.cell HI.out.2 CQ.out;rw [← hx1];simp only [if_true,OE _ _ _ _ CQ.out,Nat.lt_irrefl,if_false] at h;exact h⟩
                      have HRC : aa (wr.cell? ⟨β1 c,q,none⟩ = some (.int .i64 y1)):=⟨by have h:=HM.out.cell CC.out CQ.out;rw [← hy1];simp only [if_neg (show ¬ c = i from by have:=HI.out;omega),if_neg HN2.out] at h;exact h⟩
                      have Q9:=(HNM.out i HI.out.2).Cx HP.out.pos q
                      have Ra:=(HNM.out c CC.out).Cx HP.out.pos q
                      rw [hx1] at Q9
                      rw [hy1] at Ra
                      have HX1:=aa.mk hx1
                      have HY1:=aa.mk hy1
                      have azY:=aa.mk Q9
                      have azZ:=aa.mk Ra
                      clear hx1 hy1 Q9 Ra
                      have cq1:=CQ.out
                      go_wp2
                      clear cq1
                      have q0 : (0 ≤ (c : Int)) = True:=eq_true (by omega)
                      have q1 : ((c : Int) < (l1.length : Int)) = True:=eq_true (by have:=CC.out;omega)
                      have q2 : (0 ≤ (q : Int)) = True:=eq_true (by omega)
                      have q3 : ((q : Int) < (l1.length : Int)) = True:=eq_true (by have:=CQ.out;omega)
                      refine ky (n:=20) (S:=fun w'=>w'.cell? ⟨gq,0,none⟩ = some (.int .i64 (c : Int))∧w'.cell? ⟨gb,c,none⟩ = some (.slice (some ⟨β1 c,0,none⟩) l1.length (κ1 c))∧w'.cell? ⟨β1 c,q,none⟩ = some (.int .i64 y1)∧w'.cell? ⟨β1 i,q,none⟩ = some (.int .i64 x1)) (ds:=[19]) (bl 20 0) (by kernel_rfl) rfl (by kernel_rfl) ⟨(bR BK.out 0).trans rfl,HM.out.outer CC.out,HRC.out,HRI.out⟩ (fun hHeld=>?_)
                      refine gV aG.atu aG.als (fun HT_ HW_=>?_)
                      have n0_:=aa.mk (HM.out.below (aW (Below.refl _ _)))
                      have n1_:=aa.mk (aW HB.out)
                      have n2_:=aa.mk (bN BK.out)
                      clear HM HB BK
                      have HM:=n0_;have HB:=n1_;have BK:=n2_
                      clear n0_ n1_ n2_
                      clear HRI HRC
                      generalize wr.drew = w12 at HM HB BK hHeld ⊢
                      refine pu_ 0 106 (bl 20 1) HT_ ?_
                      refine pu_ 1 107 (bl 20 3) HT_ ?_
                      refine pu_ 2 108 (bl 20 7) HT_ ?_
                      refine pu_ 3 109 (bl 20 15) HT_ ?_
                      refine pu_ 4 110 (bl 20 31) HT_ ?_
                      refine pu_ 5 111 (bl 20 63) HT_ ?_
                      refine pu_ 7 113 (bl 20 191) HT_ ?_
                      refine pu_ 8 114 (bl 20 447) HT_ ?_
                      refine pu_ 12 118 (bl 20 4543) HT_ ?_
                      refine ta_ 6 112 (bl 20 4607) HT_ HW_ hHeld ?_
                      refine ta_ 9 115 (bl 20 5119) HT_ HW_ hHeld ?_
                      refine pu_ 10 116 (bl 20 6143) HT_ ?_
                      refine ta_ 11 117 (bl 20 8191) HT_ HW_ hHeld ?_
                      refine pu_ 13 119 (bl 20 16383) HT_ ?_
                      refine ta_ 14 120 (bl 20 32767) HT_ HW_ hHeld ?_
                      refine pu_ 15 121 (bl 20 65535) HT_ ?_
                      refine pu_ 16 122 (bl 20 131071) HT_ ?_
                      refine on_ 17 (some 123) (bl 20 262143) HT_ (fun K hK=>?_)
                      refine gS Try.func67 #[.int .i64 a0,.int .i64 (wrap64 (x1 - wrap64 (f * y1)))] ?_
                      refine (QQ HP.out (y:=(x1 - f * y1) % a0) ?wv _).mono ?_
                      (case wv=>have h1:=azY.out;have h2:=azZ.out;have h3:=Cc HP.out HFB.out.1 HFB.out.2 h2.1 h2.2;have h4:=HP.out.top;rw [bM (x:=f * y1) (by omega) (by omega),bM (by omega) (by omega)])
                      rintro e w' ⟨rfl,⟨nd,rfl⟩⟩
                      refine ⟨_,rfl,?_⟩
                      refine hK.out _ _ hHeld (fun hHeld=>?_)
                      clear hK K
                      refine no_ 123 ?_
                      have n0_:=aa.mk (HM.out.below (aZ (Below.refl _ _) nd))
                      have n1_:=aa.mk (aZ HB.out nd)
                      have n2_:=aa.mk (jW BK.out nd)
                      clear HM HB BK
                      have HM:=n0_;have HB:=n1_;have BK:=n2_
                      clear n0_ n1_ n2_
                      generalize w12.drewN nd = w13 at HM HB BK hHeld ⊢
                      refine pu_ 18 124 (bl 20 524287) HT_ ?_
                      refine Ae (i:=19) (N:=none) (bl 20 1048575) rfl rfl (um HT_.out (by kernel_rfl)) (by decide) (fun K hK=>?_)
                      have hsr : w13.cell? ⟨β1 i,q,none⟩ = some (.int .i64 x1):=hHeld.2.2.2
                      have hsf : w13.frozen? ⟨β1 i,q,none⟩ = false:=HM.out.frozen HI.out.2 q
                      refine yB (w1:=w13.setCell ⟨β1 i,q,none⟩ (.int .i64 ((x1 - f * y1) % a0))) (by rfl) rfl (by first | (go_simp;done) | (go_simp;rfl)) ?_
                      refine hK.out _ _ ?_
                      clear hK K
                      refine done_ (done_of HT_.out (by kernel_rfl)) ?_
                      have hne:=HM.out.QO BK.out (by decide) (by decide)
                      have n0_:=aa.mk ((HM.out.put (by decide) HI.out.2 CQ.out ((x1 - f * y1) % a0)).congr (M':=fun t=>if t = i then rq a0 f (M1 i) (M1 c) l1.length (q + 1) else if c < t∧t < c' + j then E t else M1 t) (fun t ht=>by
                        by_cases hti : t = i
                        · simp only [if_pos hti,if_true]
                          rw [← HX1.out,← HY1.out]
                          exact OH a0 f (M1 i) (M1 c) l1.length q
                        · simp only [if_neg hti]))
                      have n1_:=aa.mk (mO (j:=q) (v:=.int .i64 ((x1 - f * y1) % a0)) HB.out (HM.out.bb i HI.out.2))
                      have n2_:=aa.mk (bG (p:=⟨β1 i,q,none⟩) BK.out (hne.2 i HI.out.2) (.int .i64 ((x1 - f * y1) % a0)))
                      clear HM HB BK hHeld hsr hsf hne q0 q1 q2 q3
                      have HM:=n0_;have HB:=n1_;have BK:=n2_
                      clear n0_ n1_ n2_
                      generalize w13.setCell ⟨β1 i,q,none⟩ (.int .i64 ((x1 - f * y1) % a0)) = w14 at HM HB BK ⊢
                      go_wp2
                      go_roundg (l1.length - q)
                      case measure=>have:=HQ.out;have:=CQ.out;omega
                      case rel=>exact ⟨q + 1,by rw [kz CQ.out (by have:=HN.out;omega)],⟨by have:=HQ.out;have:=CQ.out;omega,CQ.out⟩,⟨HM.out.below (by repeat (first | exact Below.refl _ _ | apply aW | apply aZ))⟩,⟨uB BK.out⟩,⟨uH HB.out⟩⟩
                    · obtain rfl : q = l1.length:=by have:=HQ.out;omega
                      have c1 : decide ((l1.length : Int) < (l1.length : Int)) = false:=decide_eq_false (by omega)
                      go_wp2
                      go_roundg (m - j)
                      case measure=>have:=HJ.out;have:=CJ.out;omega
                      case rel =>
                        refine ⟨j + 1,by rw [kz CJ.out (by have:=HN.out;have:=HME.out;omega)],⟨by have:=HJ.out;have:=CJ.out;omega,CJ.out⟩,⟨(HM.out.below (by repeat (first | exact Below.refl _ _ | apply aW | apply aZ))).congr fun t ht=>?_⟩,⟨uB BK.out⟩,⟨uH HB.out⟩⟩
                        by_cases hti : t = i
                        · rw [if_pos hti,OG,← HF.out,hti,if_pos (by have:=HI.out;have:=HIE.out;omega)]
                        · rw [if_neg hti]
                          by_cases hc2 : c < t∧t < c' + j
                          · rw [if_pos hc2,if_pos (by omega)]
                          · rw [if_neg hc2,if_neg (by have:=HIE.out;omega)]
                · obtain rfl : j = m:=by have:=HJ.out;omega
                  have c1 : decide ((j : Int) < (j : Int)) = false:=decide_eq_false (by omega)
                  go_wp2
                  go_roundg (l1.length - c)
                  case measure=>have:=HC.out;have:=CC.out;omega
                  case rel =>
                    have hcc:=HCE.out
                    have hmm:=HME.out
                    have hcl:=CC.out
                    subst hcc
                    refine ⟨c + 1,o2,β1,κ1,AY a0 (si a0 y0) l1.length c M1,rfl,by rw [kz CC.out (by have:=HN.out;omega)],⟨by have:=HC.out;omega,CC.out⟩,⟨ah3.out,fun t ht=>?_⟩,HG,⟨(HM.out.below (by repeat (first | exact Below.refl _ _ | apply aW | apply aZ))).congr fun t ht=>?_⟩,⟨uH HB.out⟩⟩
                    · unfold AY
                      by_cases h1 : c < t
                      · rw [if_pos h1];exact CK HP.out.pos _ _ _ _
                      · rw [if_neg h1];exact HNM.out t ht
                    · unfold AY
                      by_cases h1 : c < t
                      · rw [if_pos h1,if_pos (by omega),HE.out]
                      · rw [if_neg h1,if_neg (by omega)]
        · obtain rfl : c = l1.length:=by have:=HC.out;omega
          have c1 : decide ((l1.length : Int) < (l1.length : Int)) = false:=decide_eq_false (by omega)
          have e : o = r:=by have:=HG.out;rw [Nat.sub_self,uw] at this;exact this
          subst e
          go_wp2
          go_ret
          exact ⟨rfl,uH HB.out⟩
open Go.RowKit Go.Proofs.YtilbjbahmilhkaaW.PrintWords Go.Proofs.YtilbjbahmilhkaaW.PrintLast Go.Proofs.YtilbjbahmilhkaaW.PrintMore
attribute [local go_sem] o9 pg qX qY nM nN pq pu   -- for this text's walks alone
set_option maxHeartbeats 8000000
set_option maxRecDepth 100000
/-! ### dI: function 57 -/
def dI.l0 : Nat → Int → List (List Int) → Int → Int → Int → List Int → Option (Int)
 | 0,_,_,_,_,_,_=>none
 | k + 1,x1,x5,x7,x8,VE,Ib=>if x8 < x7 then (if 0 ≤ x8 then (if x8 ≤ (wrap64 (x8 + x1)) then (if (wrap64 (x8 + x1)) ≤ (Ib.length : Int) then (if x5.length < 5864062014805 then (dI.l0 k x1 (x5 ++ [((Ib.take ((wrap64 (x8 + x1)) : Int).toNat).drop (x8 : Int).toNat)]) x7 (wrap64 (x8 + 1)) VE Ib) else (none)) else (none)) else (none)) else (none)) else ((gU.f VE Ib).bind fun abC=>((aG.f k abC x5).bind fun t152=>(some t152)))
def dI.f (k : Nat) (av : Int) (ah : List Int) (a1 : Int) : Option (Int):=dI.l0 k a1 ([] : List (List Int)) a1 0 av ah
theorem dI.calls (k : Nat) (av : Int) (Cw : Nat → Prop) (bz : Option Addr) (bu : Nat) (ah : List Int) (a1 : Int) (r : Int) (w : World) (atw : Kd.V (Kd.int .i64) 2 w w.heap.size (fun k_=>Cw k_) (.slice bz ah.length bu) ah) (H : dI.f k av ah a1 = some r) :
  Calls Try.prog 57 #[.agg #[.int .i64 av,.slice bz ah.length bu],.int .i64 a1] w fun e w'=>e = .returned (.int .i64 r)∧Below w.heap.size w w':=by
 have qV:=Try.underlying26;have abD:=zA (show Kd.V (Kd.int .i64) 2 w w.heap.size (fun k_=>(Cw k_ ∨ w.heap.size ≤ k_)) (.slice bz ah.length bu) ah from Kd.fM atw (fun k_ hk=>.inl hk));have HB:=zA (Below.refl w.heap.size w);unfold dI.f at H;have H':=zA H;clear H;go_enter Try.func57,Try.ntmps57;go_wp2_with (first | (refine bX 2 rfl #[.int .i64 av,.slice bz ah.length bu] 26 ?_;intro Az w3 hg uP hb;replace abD:=zA (Kd.jZ (Kd.yZ (uV abD.out) Az (Nat.le_of_eq hg.symm)) hb);have atx:=gq HB hg;have:=geI atx;replace HB:=xH HB hb;clear hb hg));go_loopg [5,8] k (fun kq v5 v8 w'=>∃ (eT : List (List Int)) (dN : Int),v8 = .int .i64 dN∧aa (dI.l0 kq a1 eT a1 dN av ah = some r)∧aa (kq ≤ k)∧aa (Kd.N (Kd.slice 2 (Kd.int .i64)) 24 w' w.heap.size (fun k_=>(Cw k_ ∨ w.heap.size ≤ k_)∧k_ ≠ Az) v5 eT)∧aa (Kd.V (Kd.int .i64) 2 w' w.heap.size (fun k_=>(Cw k_ ∨ w.heap.size ≤ k_)∧ax k_ v5∧k_ ≠ Az) (.slice bz ah.length bu) ah)∧aa (w'.heap[Az]? = some (.cells #[.int .i64 av,(.slice bz ah.length bu)] 26 (0,0)))∧aa (Below w.heap.size w w'));(case atStart=>exact ⟨(([] : List (List Int))),(0),eS,H',⟨Nat.le_refl _⟩,⟨by first | exact Kd.Aa _ _ _ _ _ | exact Kd.J6 _ _ _ _ _ | exact Kd.yf _ _ _ _ _ | exact Kd.Ab _ _ _ _ _ | exact Kd.qZ _ _ _ _ _⟩,⟨by (with_reducible repeat (first | apply Kd.iN | apply Kd.iO | apply Kd.iC));exact Kd.fM abD.out (fun _ hk=>⟨hk.1,⟨(by simp [Value.ownBlock]),hk.2⟩⟩)⟩,⟨uB uP.out⟩,⟨uH HB.out⟩⟩)
 case round =>
  clear H';(try clear p2);obtain ⟨eT,dN,rfl,HA,HK1,ek,qg,uP,HB⟩:=hrel
  cases gk with
  | zero=>exact absurd HA.out (by simp [dI.l0])
  | succ k1 =>
   have H:=HA.out;clear HA;simp only [dI.l0] at H;replace H:=gF H;obtain ⟨rz,H⟩|⟨rz,H⟩:=H
   ·replace H:=bO H;obtain ⟨abC,A12,H⟩:=H;replace H:=bO H;obtain ⟨t152,A13,H⟩:=H;obtain rfl:=Option.some.inj H;have D7:=bc uP 0;have Mr:=bc uP 1;have D8:=bf uP 0;have Mt:=bf uP 1;go_wp2_with (first | ((with_reducible refine ae (f:=38) rfl ?_);refine gL (some 23) Try.func38 #[.agg #[.int .i64 av,.slice bz ah.length bu]] ?_;(with_reducible refine (gU.calls av _ _ ah abC _ ?side1 ?side2 A12.out).mono ?_);(case side1=>exact uC ((Kd.mE qg.out).2.2));(case side2=>exact (Kd.mE qg.out).2.1);rintro e w15 ⟨rfl,hb⟩;refine ⟨_,rfl,?_⟩;replace ek:=zA (Kd.oO (uN ek.out) hb);replace qg:=zA (Kd.jZ (uV qg.out) hb);replace uP:=xB uP hb;replace HB:=xH HB hb;(try clear hb);obtain ⟨acO,XB,VP⟩:=Kd.wY ek.out;subst VP) | ((with_reducible refine ae (f:=84) rfl ?_);refine gL (some 25) Try.func84 #[.int .i64 abC,.slice acO eT.length XB] ?_;(with_reducible refine (aG.calls k1 abC _ _ eT t152 _ ?side1 ?side2 A13.out).mono ?_);(case side1=>exact uC ((Kd.kN ek.out).2.2));(case side2=>exact (Kd.kN ek.out).2.1);rintro e w17 ⟨rfl,hb⟩;refine ⟨_,rfl,?_⟩;replace ek:=zA (Kd.oO (uN ek.out) hb);replace qg:=zA (Kd.jZ (uV qg.out) hb);replace uP:=xB uP hb;replace HB:=xH HB hb;(try clear hb)));go_ret;exact ⟨eX,uH HB.out⟩
   replace H:=gN H;obtain ⟨c5,H⟩:=H;have mZ:=eq_true c5;have uS : decide (0 ≤ dN) = true:=decide_eq_true c5;clear c5;replace H:=gN H;obtain ⟨c6,H⟩:=H;have pU:=eq_true c6;have uQ : decide (dN ≤ (wrap64 (dN + a1))) = true:=decide_eq_true c6;replace H:=gN H;obtain ⟨c7,H⟩:=H;have Ce:=eq_true c7;have EP : decide ((wrap64 (dN + a1)) ≤ (ah.length : Int)) = true:=decide_eq_true c7;obtain ⟨JX,abE⟩:=eY ((ah.take ((wrap64 (dN + a1)) : Int).toNat).drop (dN : Int).toNat : List Int);(try rw [←abE.out] at H);replace H:=gZ H;obtain ⟨az0,H⟩:=H;obtain ⟨az1,ag6⟩:=eY (eT ++ [JX] : List (List Int));(try rw [←ag6.out] at H);have H':=zA H;clear H;have vJ:=bc uP 0;have vK:=bc uP 1;have wP:=bf uP 0;have vL:=bf uP 1;have q10 : ((wrap64 (dN + a1)) : Int) ≤ ((ah.length : Int) : Int):=oD;obtain ⟨ayc,Pv,_,Pw,_⟩:=info_parts lm;have hroom10 : ah.length ≤ bu:=(Kd.mE qg.out).2.1;have Z0 : Kd.F (Kd.int .i64) _ _ bz ah.length ah:=(Kd.WW (base:=w.heap.size) qg.out).2.2;have az2 : (dN : Int) ≤ ((wrap64 (dN + a1)) : Int):=oD;have az3 : (0 : Int) ≤ (dN : Int):=oD;have ZZ:=aeo (P:=Try.prog) 24 2 .i64 .i64 Try.underlying24 Pv 1 Pw bz ah.length bu dN (wrap64 (dN + a1)) az3 az2 q10 hroom10;have hr10:=Kd.alF (lo:=(dN : Int).toNat) (hi:=((wrap64 (dN + a1)) : Int).toNat) (c:=bu) Z0 (by omega) (by omega) hroom10;obtain ⟨A10,RX⟩ : ∃ A1,A1 = (if bu = (dN : Int).toNat then bz else (bz : Option Addr).map (·.add ((dN : Int).toNat * 1))):=⟨_,rfl⟩;obtain ⟨c10,aeI⟩ : ∃ c1,c1 = bu - (dN : Int).toNat:=⟨_,rfl⟩;have abF : JX.length = ((wrap64 (dN + a1)) : Int).toNat - (dN : Int).toNat:=(by rw [abE.out,List.length_drop,List.length_take] <;> omega);rw [show ((ah).take ((wrap64 (dN + a1)) : Int).toNat).drop (dN : Int).toNat = JX from abE.out.symm] at hr10;replace hr10 : Kd.F (Kd.int .i64) _ _ A10 JX.length JX:=(by rw [RX];exact hr10);rw [← abF,← RX,← aeI] at ZZ;have VF:=zA (show Kd.V (Kd.int .i64) 2 _ w.heap.size _ (.slice A10 JX.length c10) JX from Kd.EF (by rw [abF,aeI];exact Nat.sub_le_sub_right (Nat.le_trans (by omega) hroom10) _) hr10);have aCh:=zA (show JX.length ≤ c10 from by rw [abF,aeI];exact Nat.sub_le_sub_right (Nat.le_trans (by omega) hroom10) _);clear hr10 Z0 hroom10 Pv Pw aeI;have aEx:=zA abF;have aEy:=zA RX;clear abF RX;replace q10:=eq_true q10;go_wp2_with (first | ((with_reducible refine eO (b:=.append) (xs:=#[.tmp 11,.tmp 19]) rfl ?_);at_builtin;refine Kd.Jm (Kd.slice 2 (Kd.int .i64)) (w0:=w) w.heap.size rfl (.tmp 11) (.tmp 19) 51 24 (.slice none 0 0) 24 rfl Try.underlying51 Iw rfl (by decide) (by omega) u5 eT JX [.slice A10 JX.length c10] (fun k_=>(Cw k_ ∨ w.heap.size ≤ k_)∧k_ ≠ Az) (fun k_=>((fun k_=>(Cw k_ ∨ w.heap.size ≤ k_)∧k_ ≠ Az)) k_∧ax k_ u5) rfl rfl ?aP (fun _ hk=>hk) ?aF ?aO ?aB ?aS ?aL ?_;(case aP=>exact (Kd.tQ (Kd.mE (Kd.fM (ok':=(fun k_=>((fun k_=>(Cw k_ ∨ w.heap.size ≤ k_)∧k_ ≠ Az)) k_∧ax k_ u5)) (VF.out) (fun k_ ⟨a,c,b⟩=>⟨⟨a,b⟩,c⟩))).2.1 (Kd.V_F (Kd.fM (ok':=(fun k_=>((fun k_=>(Cw k_ ∨ w.heap.size ≤ k_)∧k_ ≠ Az)) k_∧ax k_ u5)) (VF.out) (fun k_ ⟨a,c,b⟩=>⟨⟨a,b⟩,c⟩)))));(case aB=>exact (uH HB.out));(case aF=>exact (fun k_ hk=>⟨(.inr (Nat.le_trans (af (uH HB.out)) hk)),Kd.kX (g:=Az) (o:=.cells #[.int .i64 av,.slice bz ah.length bu] 26 (0,0)) (uB uP.out) k_ hk⟩));(case aO=>exact (uN ek.out));(case aS=>exact (af (uH HB.out)));(case aL=>have:=az0.out;omega);intro aEz w11 ho hb hg hat;rw [← ag6.out] at ho;replace qg:=zA (Kd.mF (ok:=(fun k_=>(Cw k_ ∨ w.heap.size ≤ k_)∧k_ ≠ Az)) (by (with_reducible repeat (first | apply Kd.iN | apply Kd.iO | apply Kd.iC));exact Kd.fM qg.out (fun _ ⟨a,c,b⟩=>⟨⟨a,b⟩,c⟩)) hg hat);replace uP:=zA (xz (g:=Az) (o:=.cells #[.int .i64 av,.slice bz ah.length bu] 26 (0,0)) (uB uP.out) hg (Kd.adM ek.out uP.out (by decide)));replace VF:=zA (Kd.mF (ok:=(fun k_=>(Cw k_ ∨ w.heap.size ≤ k_)∧k_ ≠ Az)) (by (with_reducible repeat (first | apply Kd.iN | apply Kd.iO | apply Kd.iC));exact Kd.fM VF.out (fun _ ⟨a,c,b⟩=>⟨⟨a,b⟩,c⟩)) hg hat);replace HB:=zA (hb);have aty:=zA (ho);clear ek ho hb hg hat));go_roundg k1;(case measure=>have:=HK1.out;omega);(case rel=>exact ⟨(az1),(wrap64 (dN + 1)),eS,H',⟨by have:=HK1.out;omega⟩,⟨uN aty.out⟩,⟨by (with_reducible repeat (first | apply Kd.iN | apply Kd.iO | apply Kd.iC));exact Kd.fM qg.out (fun _ ⟨⟨a,c⟩,b⟩=>⟨a,b,c⟩)⟩,⟨uB uP.out⟩,⟨uH HB.out⟩⟩)
/-! ### iE: function 19 -/
def iE.f (k : Nat) (av : Int) (ah : List Int) (a1 : Int) : Option (Int × Int):=(iD.f av ah a1).bind fun aeJ=>((dC.f k av ah aeJ ([] : List (List Int))).bind fun t156=>(if t156 = 0 then ((dI.f k av ah a1).bind fun t157=>(some (t157,0))) else (some (0,t156))))
theorem iE.calls (k : Nat) (av : Int) (bz : Option Addr) (bu : Nat) (ah : List Int) (a1 : Int) (r1 : Int) (r2 : Int) (w : World) (hr0_1 : Kd.C (Kd.int .i64) w bz ah.length ah) (gy : ah.length ≤ bu) (H : iE.f k av ah a1 = some (r1,r2)) :
  Calls Try.prog 19 #[.agg #[.int .i64 av,.slice bz ah.length bu],.int .i64 a1] w fun e w'=>e = .returned (.tuple #[.int .i64 r1,.int .i64 r2])∧Below w.heap.size w w':=by
 have qV:=Try.underlying26;have hmf : ∀ (fn_ : Fn) (first_ cap_ : Array Value) (w_ : World),(Instr.makeFunc fn_ first_ cap_).run Try.prog w_ = .ok (.func fn_ first_ cap_) w_:=fun _ _ _ _=>rfl;have dS:=zA hr0_1;have dY:=zA gy;clear hr0_1 gy;have HB:=zA (Below.refl w.heap.size w);unfold iE.f at H;replace H:=bO H;obtain ⟨aeJ,A3,H⟩:=H;replace H:=bO H;obtain ⟨t156,A4,H⟩:=H;replace H:=gE H;obtain ⟨c5,mZ,uS,H⟩|⟨c5,mZ,uS,H⟩:=H
 ·simp only [Option.some.injEq,Prod.mk.injEq] at H;obtain ⟨rfl,rfl⟩:=H;go_enter Try.func19,Try.ntmps19;go_wp2_with (first | (refine bX 2 rfl #[.int .i64 av,.slice bz ah.length bu] 26 ?_;intro JC w15 hg pK hb;have abG:=gq HB hg;have:=geI abG;replace HB:=xH HB hb;clear hb hg) | ((with_reducible refine bI (N:=3) rfl ?_);refine bx 3 #[.int .i64 a1] 2 ?_;intro JD hg w16 hbox hb;have BI:=zA (hbox);have abH:=gq HB hg;have:=geI abH;have abI:=gq HB hg;replace HB:=xH HB hb;have Fz:=nL pK hg;have FB:=nG pK hg;replace pK:=xB pK hb;have:=geI abI;clear hb hbox hg;have apE:=Fz.out;have apF:=FB.out;have DV:=bc pK 0;have DW:=bc pK 1;have DX:=bf pK 0;have DY:=bf pK 1) | ((with_reducible refine ae (f:=29) rfl ?_);refine gL (some 9) Try.func29 #[.agg #[.int .i64 av,.slice bz ah.length bu],(.func (.func 55) #[] #[.pointer (some ⟨JC,0,none⟩),.pointer (some ⟨JD,0,none⟩)]),.slice none 0 0] ?_;(refine (dC.calls k av _ _ ah _ aeJ _ _ ([] : List (List Int)) t156 _ ?side1 ?side2 ?side3 ?side4 ?side5 A4.out).mono ?_);(case side1=>exact uC ((Kd.aQ dS.out HB.out)));(case side2=>exact dY.out);(case side3=>exact FnB.of Try.func55 (by kernel_rfl) rfl (fun W_ hW_=>dA (args':=#[.pointer (some ⟨JC,0,none⟩),.pointer (some ⟨JD,0,none⟩)]) (by simp) ((iD.calls _ av _ _ ah _ a1 _ W_ (bW (g:=JC) (o:=.cells #[.int .i64 av,.slice bz ah.length bu] 26 (0,0)) (uB pK.out) hW_) (Kd.aQ (by exact uC ((Kd.aQ dS.out HB.out))) hW_) (by exact dY.out) (bW (g:=JD) (o:=.cells #[.int .i64 a1] 2 (0,0)) (uB BI.out) hW_) A3.out).mono fun e_ W2_ h_=>⟨h_.1,h_.2⟩)));(case side4=>exact Kd.Cr _ _);(case side5=>exact Nat.le_refl _);rintro e w19 ⟨rfl,hb⟩;refine ⟨_,rfl,?_⟩;replace pK:=xB pK hb;replace BI:=xB BI hb;replace HB:=xH HB hb;(try clear hb)));go_ret2;exact ⟨eX,uH HB.out⟩
 clear c5;replace H:=bO H;obtain ⟨t157,A6,H⟩:=H;simp only [Option.some.injEq,Prod.mk.injEq] at H;obtain ⟨rfl,rfl⟩:=H;go_enter Try.func19,Try.ntmps19;go_wp2_with (first | (refine bX 2 rfl #[.int .i64 av,.slice bz ah.length bu] 26 ?_;intro JC w7 hg pK hb;have abG:=gq HB hg;have:=geI abG;replace HB:=xH HB hb;clear hb hg) | ((with_reducible refine bI (N:=3) rfl ?_);refine bx 3 #[.int .i64 a1] 2 ?_;intro JD hg w8 hbox hb;have BI:=zA (hbox);have abH:=gq HB hg;have:=geI abH;have abI:=gq HB hg;replace HB:=xH HB hb;have Fz:=nL pK hg;have FB:=nG pK hg;replace pK:=xB pK hb;have:=geI abI;clear hb hbox hg;have aEA:=Fz.out;have aEB:=FB.out;have qy:=bc pK 0;have qz:=bc pK 1;have qA:=bf pK 0;have qB:=bf pK 1) | ((with_reducible refine ae (f:=29) rfl ?_);refine gL (some 9) Try.func29 #[.agg #[.int .i64 av,.slice bz ah.length bu],(.func (.func 55) #[] #[.pointer (some ⟨JC,0,none⟩),.pointer (some ⟨JD,0,none⟩)]),.slice none 0 0] ?_;(refine (dC.calls k av _ _ ah _ aeJ _ _ ([] : List (List Int)) t156 _ ?side1 ?side2 ?side3 ?side4 ?side5 A4.out).mono ?_);(case side1=>exact uC ((Kd.aQ dS.out HB.out)));(case side2=>exact dY.out);(case side3=>exact FnB.of Try.func55 (by kernel_rfl) rfl (fun W_ hW_=>dA (args':=#[.pointer (some ⟨JC,0,none⟩),.pointer (some ⟨JD,0,none⟩)]) (by simp) ((iD.calls _ av _ _ ah _ a1 _ W_ (bW (g:=JC) (o:=.cells #[.int .i64 av,.slice bz ah.length bu] 26 (0,0)) (uB pK.out) hW_) (Kd.aQ (by exact uC ((Kd.aQ dS.out HB.out))) hW_) (by exact dY.out) (bW (g:=JD) (o:=.cells #[.int .i64 a1] 2 (0,0)) (uB BI.out) hW_) A3.out).mono fun e_ W2_ h_=>⟨h_.1,h_.2⟩)));(case side4=>exact Kd.Cr _ _);(case side5=>exact Nat.le_refl _);rintro e w11 ⟨rfl,hb⟩;refine ⟨_,rfl,?_⟩;replace pK:=xB pK hb;replace BI:=xB BI hb;replace HB:=xH HB hb;(try clear hb);have sV:=bc pK 0;have sW:=bc pK 1;have sZ:=bf pK 0;have tq:=bf pK 1;have lI:=bc BI 0;have lJ:=bf BI 0) | ((with_reducible refine ae (f:=57) rfl ?_);refine gL (some 15) Try.func57 #[.agg #[.int .i64 av,.slice bz ah.length bu],.int .i64 a1] ?_;(with_reducible refine (dI.calls k av (fun k_=>k_ < w.heap.size) _ _ ah a1 t157 _ ?side1 A6.out).mono ?_);(case side1=>exact Kd.EF dY.out (Kd.zo (Kd.C_F (Kd.JE .i64) dS.out) (uH HB.out)));rintro e w14 ⟨rfl,hb⟩;refine ⟨_,rfl,?_⟩;replace pK:=xB pK hb;replace BI:=xB BI hb;replace HB:=xH HB hb;(try clear hb)));go_ret2;exact ⟨eX,uH HB.out⟩
/-! ### dW: function 44 -/
def dW.l0 : Nat → Int → Int → List Int → Option (Int)
 | 0,_,_,_=>none
 | k + 1,x3,N8,N9=>(iB.f N8 N9 (wrap64 (x3 + 1))).bind fun atz=>(if atz = true then ((dI.f k N8 N9 (wrap64 (x3 + 1))).bind fun aeK=>(if aeK = 0 then (some x3) else (dW.l0 k (wrap64 (x3 + 1)) N8 N9))) else (some x3))
def dW.f (k : Nat) (av : Int) (ah : List Int) : Option (Int):=dW.l0 k 0 av ah
theorem dW.calls (k : Nat) (av : Int) (bz : Option Addr) (bu : Nat) (ah : List Int) (r : Int) (w : World) (hr0_1 : Kd.C (Kd.int .i64) w bz ah.length ah) (gy : ah.length ≤ bu) (H : dW.f k av ah = some r) :
  Calls Try.prog 44 #[.agg #[.int .i64 av,.slice bz ah.length bu]] w fun e w'=>e = .returned (.int .i64 r)∧Below w.heap.size w w':=by
 have qV:=Try.underlying26;have dS:=zA hr0_1;have dY:=zA gy;clear hr0_1 gy;have HB:=zA (Below.refl w.heap.size w);unfold dW.f at H;have H':=zA H;clear H;go_enter Try.func44,Try.ntmps44;go_wp2_with (first | (refine bX 1 rfl #[.int .i64 av,.slice bz ah.length bu] 26 ?_;intro atA w2 hg nY hb;have atB:=gq HB hg;have:=geI atB;replace HB:=xH HB hb;clear hb hg));go_loopg [3] k (fun kq v3 w'=>∃ (lv : Int),v3 = .int .i64 lv∧aa (dW.l0 kq lv av ah = some r)∧aa (kq ≤ k)∧aa (w'.heap[atA]? = some (.cells #[.int .i64 av,(.slice bz ah.length bu)] 26 (0,0)))∧aa (Below w.heap.size w w'));(case atStart=>exact ⟨(0),eS,H',⟨Nat.le_refl _⟩,⟨uB nY.out⟩,⟨uH HB.out⟩⟩)
 case round =>
  clear H';(try clear p2);obtain ⟨lv,rfl,HA,HK1,nY,HB⟩:=hrel
  cases gk with
  | zero=>exact absurd HA.out (by simp [dW.l0])
  | succ k1 =>
   have H:=HA.out;clear HA;simp only [dW.l0] at H;replace H:=bO H;obtain ⟨atz,A3,H⟩:=H;replace H:=gB H;obtain ⟨rfl,H⟩|⟨rfl,H⟩:=H
   ·replace H:=bO H;obtain ⟨aeK,A5,H⟩:=H;replace H:=gE H;obtain ⟨c6,pU,uQ,H⟩|⟨c6,pU,uQ,H⟩:=H
    ·have H':=zA H;clear H;have wZ:=bc nY 0;have yj:=bc nY 1;have xc:=bf nY 0;have yl:=bf nY 1;go_wp2_with (first | ((with_reducible refine ae (f:=56) rfl ?_);refine gL (some 7) Try.func56 #[.agg #[.int .i64 av,.slice bz ah.length bu],.int .i64 (wrap64 (lv + 1))] ?_;(with_reducible refine (iB.calls av _ _ ah (wrap64 (lv + 1)) true _ ?side1 ?side2 A3.out).mono ?_);(case side1=>exact uC ((Kd.aQ dS.out HB.out)));(case side2=>exact dY.out);rintro e w12 ⟨rfl,hb⟩;refine ⟨_,rfl,?_⟩;replace nY:=xB nY hb;replace HB:=xH HB hb;(try clear hb);have lI:=bc nY 0;have lU:=bc nY 1;have lJ:=bf nY 0;have lV:=bf nY 1) | (go_at_call 57;(with_reducible refine (dI.calls k1 av (fun k_=>k_ < w.heap.size) _ _ ah (wrap64 (lv + 1)) aeK _ ?side1 A5.out).mono ?_);(case side1=>exact Kd.EF dY.out (Kd.zo (Kd.C_F (Kd.JE .i64) dS.out) (uH HB.out)));rintro e w14 ⟨rfl,hb⟩;replace nY:=xB nY hb;replace HB:=xH HB hb;(try clear hb)));go_roundg k1;(case measure=>have:=HK1.out;omega);(case rel=>exact ⟨(wrap64 (lv + 1)),eS,H',⟨by have:=HK1.out;omega⟩,⟨uB nY.out⟩,⟨uH HB.out⟩⟩)
    clear c6;obtain rfl:=Option.some.inj H;have IV:=bc nY 0;have IW:=bc nY 1;have Mg:=bf nY 0;have IX:=bf nY 1;go_wp2_with (first | ((with_reducible refine ae (f:=56) rfl ?_);refine gL (some 7) Try.func56 #[.agg #[.int .i64 av,.slice bz ah.length bu],.int .i64 (wrap64 (lv + 1))] ?_;(with_reducible refine (iB.calls av _ _ ah (wrap64 (lv + 1)) true _ ?side1 ?side2 A3.out).mono ?_);(case side1=>exact uC ((Kd.aQ dS.out HB.out)));(case side2=>exact dY.out);rintro e w8 ⟨rfl,hb⟩;refine ⟨_,rfl,?_⟩;replace nY:=xB nY hb;replace HB:=xH HB hb;(try clear hb);have vJ:=bc nY 0;have vK:=bc nY 1;have wP:=bf nY 0;have vL:=bf nY 1) | (go_at_call 57;(with_reducible refine (dI.calls k1 av (fun k_=>k_ < w.heap.size) _ _ ah (wrap64 (lv + 1)) aeK _ ?side1 A5.out).mono ?_);(case side1=>exact Kd.EF dY.out (Kd.zo (Kd.C_F (Kd.JE .i64) dS.out) (uH HB.out)));rintro e w10 ⟨rfl,hb⟩;replace nY:=xB nY hb;replace HB:=xH HB hb;(try clear hb)));go_ret;exact ⟨eX,uH HB.out⟩
   ·obtain rfl:=Option.some.inj H;have Mv:=bc nY 0;have Uv:=bc nY 1;have Mw:=bf nY 0;have Uw:=bf nY 1;go_wp2_with (first | ((with_reducible refine ae (f:=56) rfl ?_);refine gL (some 7) Try.func56 #[.agg #[.int .i64 av,.slice bz ah.length bu],.int .i64 (wrap64 (lv + 1))] ?_;(with_reducible refine (iB.calls av _ _ ah (wrap64 (lv + 1)) false _ ?side1 ?side2 A3.out).mono ?_);(case side1=>exact uC ((Kd.aQ dS.out HB.out)));(case side2=>exact dY.out);rintro e w16 ⟨rfl,hb⟩;refine ⟨_,rfl,?_⟩;replace nY:=xB nY hb;replace HB:=xH HB hb;(try clear hb)));go_ret;exact ⟨eX,uH HB.out⟩
/- A list of rows of one's own in memory, of which the rows are read and the slots are set (rows may share their blocks); the reference's callees in plain form. -/
/-- The block q holds a row. -/
def Row (e' : TypeId) (w : World) (b q n : Nat) (l : List Int) : Prop:=b ≤ q∧∃ cur : Array Value,w.heap[q]? = some (.cells cur e' (0,0))∧∀ k,k < n → cur[k]? = some (.int .i64 (l.getD k 0))
section
variable {e e' : TypeId} {w w1 : World} {b g n q : Nat} {l : List Int} {M : Nat → List Int}
theorem Row.cell (h : Row e' w b q n l) {k : Nat} (hk : k < n) : w.cell? ⟨q,k,none⟩ = some (.int .i64 (l.getD k 0)):=by
  obtain ⟨_,cur,hc,hr⟩:=h
  rw [bR hc k]
  exact hr k hk
theorem Row.step (h : Row e' w b q n l) (hm : w1.heap[q]? = w.heap[q]?) : Row e' w1 b q n l:=by
  obtain ⟨hb,cur,hc,hr⟩:=h
  exact ⟨hb,cur,hm.trans hc,hr⟩
theorem Row.below (h : Row e' w b q n l) (hb : Below w.heap.size w w1) : Row e' w1 b q n l:=h.step (by
  obtain ⟨_,cur,hc,_⟩:=h
  exact hb.block _ (tJ hc))
theorem Row.far (h : Row e' w b q n l) {cs : Array Value} (hg : w.heap[g]? = some (.cells cs e (0,0))) (he : e ≠ e') (i : Nat) (u : Value) : Row e' (w.setCell ⟨g,i,none⟩ u) b q n l:=h.step (by
  obtain ⟨_,cur,hc,_⟩:=h
  exact Below.heap_setCell w ⟨g,i,none⟩ u q (QP hc hg (Ne.symm he)))
theorem Row.low {b' : Nat} (h : Row e' w b q n l) (hb : b' ≤ b) : Row e' w b' q n l:=⟨Nat.le_trans hb h.1,h.2⟩
structure Ms (e e' : TypeId) (w : World) (b g n : Nat) (M : Nat → List Int) : Prop where
  bg : b ≤ g
  out : ∃ cs : Array Value,w.heap[g]? = some (.cells cs e (0,0))∧∀ i,i < n → ∃ q c,cs[i]? = some (.slice (some ⟨q,0,none⟩) n c)∧Row e' w b q n (M i)
theorem Ms.get (h : Ms e e' w b g n M) {i : Nat} (hi : i < n) : ∃ q c,w.cell? ⟨g,i,none⟩ = some (.slice (some ⟨q,0,none⟩) n c)∧Row e' w b q n (M i):=by
  obtain ⟨cs,hc,hr⟩:=h.out
  obtain ⟨q,c,hq,hR⟩:=hr i hi
  exact ⟨q,c,by rw [bR hc i];exact hq,hR⟩
theorem Ms.frozen (h : Ms e e' w b g n M) (i : Nat) : w.frozen? ⟨g,i,none⟩ = false:=by
  obtain ⟨cs,hc,_⟩:=h.out
  exact di hc i
theorem Ms.below (h : Ms e e' w b g n M) (hb : Below w.heap.size w w1) : Ms e e' w1 b g n M:=by
  obtain ⟨cs,hc,hr⟩:=h.out
  exact ⟨h.bg,cs,bW hc hb,fun i hi=>by
    obtain ⟨q,c,hq,hR⟩:=hr i hi
    exact ⟨q,c,hq,hR.below hb⟩⟩
theorem Ms.far (h : Ms e e' w b g n M) (he : e ≠ e') {q' : Nat} {l' : List Int} (hR : Row e' w b q' n l') (i : Nat) (u : Value) : Row e' (w.setCell ⟨g,i,none⟩ u) b q' n l':=by
  obtain ⟨cs,hc,_⟩:=h.out
  exact hR.far hc he i u
theorem Ms.set (h : Ms e e' w b g n M) (he : e ≠ e') {i c : Nat} (hi : i < n) (hR : Row e' w b q n l) :
    Ms e e' (w.setCell ⟨g,i,none⟩ (.slice (some ⟨q,0,none⟩) n c)) b g n (fun t=>if t = i then l else M t):=by
  obtain ⟨cs,hc,hr⟩:=h.out
  refine ⟨h.bg,_,uy hc i _,fun t ht=>?_⟩
  obtain ⟨q1,c1,hq,hR1⟩:=hr t ht
  by_cases ti : t = i
  · subst ti
    refine ⟨q,c,?_,?_⟩
    · rw [Array.getElem?_setIfInBounds_self_of_lt (Array.getElem?_eq_some_iff.1 hq).1]
    · simp only [if_true]
      exact hR.far hc he t _
  · refine ⟨q1,c1,?_,?_⟩
    · rw [Array.getElem?_setIfInBounds_ne (Ne.symm ti)];exact hq
    · simp only [if_neg ti]
      exact hR1.far hc he i _
theorem Ms.congr {M' : Nat → List Int} (h : Ms e e' w b g n M) (hM : ∀ i,i < n → M i = M' i) : Ms e e' w b g n M':=by
  obtain ⟨cs,hc,hr⟩:=h.out
  exact ⟨h.bg,cs,hc,fun i hi=>by
    obtain ⟨q,c,hq,hR⟩:=hr i hi
    exact ⟨q,c,hq,by rw [← hM i hi];exact hR⟩⟩
/-- A row of rows, each as long as there are rows. -/
theorem aol {ok : Nat → Prop} {v : Value} {rows : List (List Int)} {base : Nat} (h : Kd.R (Kd.slice e' (Kd.int .i64)) e w base ok v rows) (h0 : 0 < rows.length) (hl : ∀ r ∈ rows,r.length = rows.length) :
    ∃ g c,v = .slice (some ⟨g,0,none⟩) rows.length c∧Ms e e' w base g rows.length (fun i=>rows.getD i []):=by
  obtain ⟨g,c,rfl,hb,_,cs,hc⟩:=Kd.AQ h h0
  refine ⟨g,c,rfl,hb,cs,hc,fun i hi=>?_⟩
  obtain ⟨cl,hcl,⟨v1,rfl,hR⟩,hcc⟩:=Kd.alA h ([] : List Int) (i : Int) (by omega) (by omega)
  simp only [kU] at hR hcc
  have hlen : (rows.getD i []).length = rows.length:=hl _ (xE hi)
  obtain ⟨q,c',cur,rfl,h1,h2,h3,h4⟩:=IC hR (by rw [hlen];exact h0)
  rw [hlen] at h4
  refine ⟨q,c',?_,h1,cur,h3,h4⟩
  have h5:=hcc 0 _ rfl
  have he : (⟨g,0,none⟩ : Addr).add (i * (Kd.slice e' (Kd.int .i64)).sz + 0) = ⟨g,i,none⟩:=by rw [addr_add];show (⟨g,0 + (i * 1 + 0),none⟩ : Addr) = _;rw [show 0 + (i * 1 + 0) = i from by omega]
  rw [he,bR hc,hlen] at h5
  exact h5
end
theorem IM {p : Int} (hp : Pm p) {x y : Int} (h : x % p = y) (w : World) : Calls Try.prog 76 #[.int .i64 p,.int .i64 x] w fun e w'=>e = .returned (.int .i64 y)∧aT w w' :=
  jG.calls p x y w (by unfold jG.f;rw [if_neg hp.ne,KY hp,h])
theorem Q8 {p : Int} (hp : Pm p) {x y : Int} (hx : 0 ≤ x∧x < p) (h : si p x = y) (w : World) : Calls Try.prog 75 #[.int .i64 p,.int .i64 x] w fun e w'=>e = .returned (.int .i64 y)∧aT w w':=by
  obtain ⟨K,hK⟩:=CG hp hx
  subst h
  exact iA.calls K p x _ w (hK K (Nat.le_refl _))
end Go.Proofs.Ytilbjbahmilhkaa.Pr
