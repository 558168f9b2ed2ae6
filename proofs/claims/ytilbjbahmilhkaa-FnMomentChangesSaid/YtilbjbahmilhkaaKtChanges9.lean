/- Texts of this session in one: what functions of the program compute, and plain facts of it, under the conditions that each theorem names. -/
import Derived.Test.YtilbjbahmilhkaaKtChanges1
import Derived.Test.YtilbjbahmilhkaaKtChanges2
import Derived.Test.YtilbjbahmilhkaaKtChanges3
import Derived.Test.YtilbjbahmilhkaaKtChanges7
import Derived.Test.YtilbjbahmilhkaaKtChanges8
namespace Go.Proofs.Ytilbjbahmilhkaa.Pr
/- The program's determinant: for square rows of numbers modulo p it computes M5. -/
open Go Go.RowKit Go.Proofs.YtilbjbahmilhkaaW.PrintWords Go.Proofs.YtilbjbahmilhkaaW.PrintLast Go.Proofs.YtilbjbahmilhkaaW.PrintMore
set_option linter.unusedVariables false
set_option linter.unusedSimpArgs false
def aH.f (_k : Nat) (a0 : Int) (l1 : List (List Int)) : Option Int:=if Q6 a0 l1 then some (M5 a0 l1) else none
def aH.T15 : Bool × List (List Nat × List Nat):=(true,[([],[]),([],[]),([],[]),([],[]),([],[]),([3,4],[3,4]),([],[]),([],[]),([],[]),([7,8],[7,8]),([6,9],[6,9]),([10],[10]),([],[]),([],[]),([12,13],[12,13]),([14],[14]),([0,1,0,1,6,7,8,9,10,11,15],[0,1]),([16,11,0,1,6,7,8,9,10,11,15],[11,16]),([2,5,0,1,2,3,4,5,6,7,8,9,10,11,12,13,14,15,16,17],[2,5]),([18,15,17,0,1,2,3,4,5,6,7,8,9,10,11,12,13,14,15,16,17],[15,18])])
def aH.B15 : List Nat:=[0,0,0,0,0,24,0,0,0,384,960,1984,0,0,12288,28672,65475,131011,262143,524287]
theorem aH.amt : l6 .any (opsOf Try.f84 15) = aH.T15:=by kernel_rfl
theorem aH.afM : jV aH.T15.2 aH.B15 = true:=by kernel_rfl
def aH.T17 : Bool × List (List Nat × List Nat):=(true,[([],[]),([],[]),([],[]),([],[]),([2,3],[2,3]),([4],[4]),([],[]),([5,6],[5,6]),([7],[7]),([0,1,8],[0,1,8]),([9,9,0,1,2,3,4,5,6,7,8,9],[1,9])])
def aH.B17 : List Nat:=[0,0,0,0,12,28,0,124,252,511,1023]
theorem aH.Wd : l6 .any (opsOf Try.f84 17) = aH.T17:=by kernel_rfl
theorem aH.OL : jV aH.T17.2 aH.B17 = true:=by kernel_rfl
def aH.T21 : Bool × List (List Nat × List Nat):=(true,[([],[]),([],[]),([],[]),([1,2],[1,2]),([3],[3]),([],[]),([],[]),([5,6],[5,6]),([7],[7]),([],[]),([8,9],[8,9]),([10],[10]),([0,4,11],[0,4,11]),([12,12,0,1,2,3,4,5,6,7,8,9,10,11,12],[12])])
def aH.B21 : List Nat:=[0,0,0,6,14,0,0,96,224,0,992,2016,4095,8191]
theorem aH.amu : l6 .any (opsOf Try.f84 21) = aH.T21:=by kernel_rfl
theorem aH.afN : jV aH.T21.2 aH.B21 = true:=by kernel_rfl
def aH.T25 : Bool × List (List Nat × List Nat):=(true,[([],[]),([],[]),([],[]),([],[]),([],[]),([3,4],[3,4]),([5],[5]),([],[]),([],[]),([],[]),([8,9],[8,9]),([10],[10]),([],[]),([11,12],[11,12]),([13],[13]),([7,14],[7,14]),([6,15],[6,15]),([2,16],[2,16]),([0,1,0,1,2,3,4,5,6,7,8,9,10,11,12,13,14,15,16,17],[0,1]),([18,17,17,0,1,2,3,4,5,6,7,8,9,10,11,12,13,14,15,16,17],[17,18])])
def aH.B25 : List Nat:=[0,0,0,0,0,24,56,0,0,0,768,1792,0,7936,16128,32640,65528,131068,262143,524287]
theorem aH.amv : l6 .any (opsOf Try.f84 25) = aH.T25:=by kernel_rfl
theorem aH.afO : jV aH.T25.2 aH.B25 = true:=by kernel_rfl

set_option maxHeartbeats 8000000 in
set_option maxRecDepth 100000 in
theorem aH.calls (k : Nat) (a0 : Int) (A1 : Option Addr) (c1 : Nat) (l1 : List (List Int)) (r : Int) (w : World) (hr1 : Kd.C (Kd.slice 2 (Kd.int .i64)) w A1 l1.length l1) (hc1 : l1.length ≤ c1) (h : aH.f k a0 l1 = some r) :
    Calls Try.prog 84 #[.int .i64 a0,.slice A1 l1.length c1] w fun e w'=>e = .returned (.int .i64 r)∧Below w.heap.size w w':=by
  unfold aH.f at h
  split at h
  case isFalse=>cases h
  rename_i c2
  have HD:=aa.mk (Option.some.inj h)
  clear h
  obtain ⟨⟨hp2,hpt⟩,hn,hrows⟩:=c2
  have HP:=aa.mk (Pm.mk hp2 hpt)
  have HN:=aa.mk hn
  have HROWS:=aa.mk hrows
  have HR1:=aa.mk hr1
  clear hp2 hpt hn hrows hr1 hc1
  have HB:=aa.mk (Below.refl w.heap.size w)
  have hmk : Try.prog.underlying 51 = some (.slice 24):=Try.underlying51
  have HMK:=aa.mk hmk
  clear hmk
  go_enter Try.func84,Try.ntmps84
  go_wp2_with (first | ((with_reducible refine dz (N:=17) rfl ?_);refine Yq (e:=24) (e':=2) 17 l1.length HMK.out (by kernel_rfl) HN.out (fun _=>0) (fun _=>0) (fun i=>l1.getD i []) ?_;intro gb hg w3 HM0 hb;have HM:=aa.mk HM0;clear HM0;have HB:=aa.mk hb;clear hb hg))
  go_loopg [20] (l1.length + 1) (fun kq v20 w'=>∃ (i : Nat) (β κ : Nat → Nat),v20 = .int .i64 (i : Int)∧aa (kq + i = l1.length + 1∧i ≤ l1.length)∧aa (Mx 24 2 w' w.heap.size gb l1.length i β κ (fun i=>l1.getD i []))∧aa (Below w.heap.size w w'))
  case atStart=>exact ⟨0,_,_,rfl,⟨by omega,by omega⟩,⟨HM.out.below (by repeat (first | exact Below.refl _ _ | apply aU | apply bn))⟩,⟨uH HB.out⟩⟩
  case round =>
    clear HM HB
    obtain ⟨i,β,κ,rfl,HI,HM,HB⟩:=hrel
    by_cases ci : i < l1.length
    · have c1 : decide ((i : Int) < (l1.length : Int)) = true:=decide_eq_true (by omega)
      have CI:=aa.mk ci
      clear ci
      obtain ⟨ad,A0,c0,eA,hx,hl,hi⟩:=Ut HR1.out (i : Int) (by omega) (by have:=CI.out;omega)
      cases eA
      replace hx:=(HB.out.cell (World.block_lt_of_cell? w _ hx)).trans hx
      rw [mZ] at hx
      have hli : (uq l1 (i : Int)).length = l1.length:=by rw [JX];exact (HROWS.out _ (vY CI.out)).1
      rw [hli] at hx hl hi
      have HLI:=aa.mk hli
      have HRI:=aa.mk hi
      have HCI:=aa.mk hl
      clear hi hl hli
      have q1 : (0 ≤ (i : Int)) = True:=eq_true (by omega)
      have q2 : ((i : Int) < (l1.length : Int)) = True:=eq_true (by have:=CI.out;omega)
      go_wp2_with (first | ((with_reducible refine ag (f:=91) rfl ?_);refine gL (some 28) Try.func91 #[.slice A0 l1.length c0] ?_;with_reducible refine (LC HLI.out ?s0 HN.out ?sC HCI.out).mono ?_;(case s0=>have:=CI.out;omega);(case sC=>exact uC (Kd.dH HRI.out HB.out));rintro e w4 ⟨q,c',cur,rfl,hq,hcc,hqb,hqr,hb⟩;refine ⟨_,rfl,?_⟩;have HM1:=aa.mk (HM.out.below hb);have HNE:=aa.mk (fun j (hj : j < i)=>Nat.ne_of_lt (Nat.lt_of_lt_of_le (HM.out.lt hj) hq));have HQ:=aa.mk hqb;have HQR:=aa.mk hqr;have HQL:=aa.mk (Nat.le_trans (av HB.out) hq);have HCC:=aa.mk hcc;have HB1:=xH HB hb;clear HM HB hq hqb hqr hb hcc;have hs:=HM1.out.aeq (Nat.le_refl i) CI.out;have hf:=HM1.out.BZ i))
      go_roundg (l1.length - i)
      case measure=>have:=HI.out;have:=CI.out;omega
      case rel =>
        have HMM:=HM1.out.more (by decide) CI.out HQ.out HQL.out HCC.out (uq l1 (i : Int)) HLI.out HQR.out (fun j hj=>HNE.out j hj)
        have eM : (fun j=>if j = i then uq l1 (i : Int) else l1.getD j []) = fun j=>l1.getD j []:=funext fun j=>by
          by_cases hj : j = i
          · rw [if_pos hj,hj,JX]
          · rw [if_neg hj]
        rw [eM] at HMM
        have:=CI.out
        have:=HI.out
        have:=HN.out
        exact ⟨i + 1,_,_,by rw [lW (n:=1001) (by omega) (by omega)],⟨by omega,by omega⟩,⟨HMM⟩,⟨mG HB1.out (Nat.le_trans HMM.bg (Nat.le_refl _))⟩⟩
    · obtain rfl : i = l1.length:=by have:=HI.out;omega
      have c1 : decide ((l1.length : Int) < (l1.length : Int)) = false:=decide_eq_false (by omega)
      clear ci HI
      go_wp2_with (first | ((with_reducible refine ag (f:=67) rfl ?_);refine gL (some 32) Try.func67 #[.int .i64 a0,.int .i64 1] ?_;refine (DF HP.out 1 _).mono ?_;rintro e w' ⟨rfl,⟨nd,rfl⟩⟩;refine ⟨_,rfl,?_⟩))
      go_loopg [8,35] (l1.length + 1) (fun kq v8 v35 w'=>∃ (c : Nat) (o : Int) (β κ : Nat → Nat) (M : Nat → List Int),v8 = .int .i64 o∧v35 = .int .i64 (c : Int)∧aa (kq + c = l1.length + 1∧c ≤ l1.length)∧aa ((0 ≤ o∧o < a0)∧∀ i,i < l1.length → Nm a0 (M i))∧aa (ry a0 l1.length (l1.length - c) c M o = r)∧aa (Mx 24 2 w' w.heap.size gb l1.length l1.length β κ M)∧aa (Below w.heap.size w w'))
      case atStart =>
        have h1 : (1 : Int) % a0 = 1:=Int.emod_eq_of_lt (by omega) (by have:=HP.out.two;omega)
        exact ⟨0,1,β,κ,_,by rw [h1],rfl,⟨by omega,by omega⟩,⟨⟨by omega,by have:=HP.out.two;omega⟩,fun i hi=>(HROWS.out _ (vY hi)).2⟩,HD,⟨HM.out.below (by repeat (first | exact Below.refl _ _ | apply aU | apply bn))⟩,⟨uH HB.out⟩⟩
      case round =>
        clear HM HB β κ HD
        obtain ⟨c,o,β,κ,M,rfl,rfl,HC,HO,HG,HM,HB⟩:=hrel
        by_cases cc : c < l1.length
        · have c1 : decide ((c : Int) < (l1.length : Int)) = true:=decide_eq_true (by omega)
          have CC:=aa.mk cc
          clear cc
          obtain ⟨v,hv⟩ : ∃ v : Int,v = if pivot M c (l1.length - c) c = l1.length then -1 else ((pivot M c (l1.length - c) c - c : Nat) : Int):=⟨_,rfl⟩
          have HV:=aa.mk hv
          clear hv
          have hcut:=PK (P:=Try.prog) HMK.out (by kernel_rfl) gb l1.length c (Nat.le_of_lt CC.out)
          have hmf : ∀ (fn_ : Fn) (first_ cap_ : Array Value) (w_ : World),(Instr.makeFunc fn_ first_ cap_).run Try.prog w_ = .ok (.func fn_ first_ cap_) w_:=fun _ _ _ _=>rfl
          have cc:=CC.out
          go_upto_region 12 with (first | ((with_reducible refine dz (N:=9) rfl ?_);refine bx 9 #[.int .i64 0] 3 ?_;intro gq hq w5 hbox hb;have n0_:=aa.mk (HM.out.below hb);have n1_:=xH HB hb;have BK:=aa.mk hbox;have GE : aa (w.heap.size ≤ gq):=⟨by rw [hq];exact av (uH HB.out)⟩;clear HM HB hbox hb hq;have HM:=n0_;have HB:=n1_;clear n0_ n1_;have hcz : w5.cell? ⟨gq,0,none⟩ = some (.int .i64 0):=(bG BK.out 0).trans rfl;have hfz:=ko BK.out 0) | ((with_reducible refine Bo (t:=3) (p:=9) rfl ?_);refine yX (t:=3) (p:=9) (v:=?vo) (w1:=(w5.setCell ⟨gq,0,none⟩ (.int .i64 (c : Int)))) ?hg ?ho ?hn ?hr ?_;(case ho=>rfl);(case hg=>rfl);(case hn=>rfl);(case hr=>first | (go_simp;done) | (go_simp;rfl));intro w6 hw;clear hcz hfz;have hne:=HM.out.NP BK.out (by decide) (by decide);have n0_:=aa.mk (HM.out.far hne.1 hne.2 0 (.int .i64 (c : Int)));have n1_:=aa.mk (mG (j:=0) (v:=.int .i64 (c : Int)) HB.out GE.out);have n2_:=aa.mk (aX (cs':=#[.int .i64 (c : Int)]) BK.out 0 (.int .i64 (c : Int)) rfl);rw [← hw] at n0_ n1_ n2_;clear HM HB BK hne hw;have HM:=n0_;have HB:=n1_;have BK:=n2_;clear n0_ n1_ n2_;have hcz : w6.cell? ⟨gq,0,none⟩ = some (.int .i64 (c : Int)):=(bG BK.out 0).trans rfl) | ((with_reducible refine ag (f:=102) rfl ?_);refine gL (some 42) Try.func102 #[.slice (some (cutAt gb l1.length c)) (l1.length - c) (l1.length - c),.func (.func 103) #[] #[.pointer (some ⟨gq,0,none⟩)]] ?_;with_reducible refine (NS HM.out HN.out CC.out BK.out HV.out).mono ?_;rintro e w7 ⟨rfl,hb⟩;refine ⟨_,rfl,?_⟩;have n0_:=aa.mk (HM.out.below hb);have n1_:=xH HB hb;have n2_:=xB BK hb;clear HM HB BK hb hcz;have HM:=n0_;have HB:=n1_;have BK:=n2_;clear n0_ n1_ n2_))
          all_goals clear hcut hmf cc
          by_cases hP : pivot M c (l1.length - c) c = l1.length
          · have hv : v = -1:=by rw [HV.out,if_pos hP]
            have e : (0 : Int) = r:=by
              have h:=HG.out
              rw [show l1.length - c = (l1.length - c - 1) + 1 from by have:=CC.out;omega,ry,if_pos hP] at h
              exact h
            subst e
            clear HV
            subst hv
            have hd : decide ((-1 : Int) < 0) = true:=rfl
            go_wp2
            go_ret
            exact ⟨rfl,uH HB.out⟩
          · have hPc:=Lc M c (l1.length - c) c
            have hv : v = ((pivot M c (l1.length - c) c - c : Nat) : Int):=by rw [HV.out,if_neg hP]
            have hG : ry a0 l1.length (l1.length - (c + 1)) (c + 1) (yD a0 (vM a0 ((M (pivot M c (l1.length - c) c)).getD c 0)) l1.length c (lh M c (pivot M c (l1.length - c) c)))
                ((if pivot M c (l1.length - c) c = c then o else (-o) % a0) * (M (pivot M c (l1.length - c) c)).getD c 0 % a0) = r:=by
              have h:=HG.out
              rw [show l1.length - c = (l1.length - c - 1) + 1 from by have:=CC.out;omega,ry,if_neg hP] at h
              rw [show l1.length - (c + 1) = l1.length - c - 1 from by omega]
              exact h
            clear HG HV
            generalize pivot M c (l1.length - c) c = P at hP hPc hv hG
            have HG:=aa.mk hG
            have HPI:=aa.mk (show c ≤ P∧P < l1.length from by have:=CC.out;omega)
            have HVE:=aa.mk hv
            have hv0 : 0 ≤ v:=by omega
            have hv1 : ¬ v < 0:=by omega
            clear hG hPc hP hv
            go_upto_if 46 with (fail)
            all_goals clear hv0 hv1
            go_cut [8] (fun v8 wc=>∃ β κ : Nat → Nat,v8 = .int .i64 (if P = c then o else (-o) % a0)∧aa (Mx 24 2 wc w.heap.size gb l1.length l1.length β κ (lh M c P))∧aa (wc.heap[gq]? = some (.cells #[.int .i64 (c : Int)] 3 (0,0)))∧aa (Below w.heap.size w wc))
            case first =>
              by_cases hpc : P = c
              · have hv : v = 0:=by have:=HVE.out;omega
                clear HVE
                subst hv
                have hd : decide ((0 : Int) > 0) = false:=rfl
                have hd2 : decide ((0 : Int) < 0) = false:=rfl
                go_wp2
                go_meet
                case rel =>
                  have e : lh M c P = M:=funext fun i=>by
                    unfold lh
                    by_cases hi : i = c
                    · rw [if_pos hi,hpc,hi]
                    · rw [if_neg hi,if_neg (by rw [hpc];exact hi)]
                  exact ⟨β,κ,by rw [if_pos hpc],⟨by rw [e];exact HM.out.below (by repeat (first | exact Below.refl _ _ | apply aU | apply bn))⟩,⟨uB BK.out⟩,⟨uH HB.out⟩⟩
              · have hlt : c < P:=by have:=HPI.out;omega
                have hd : decide (v > 0) = true:=decide_eq_true (by have:=HVE.out;omega)
                have hd2 : decide (0 < v) = true:=hd
                have hd3 : 0 < v:=of_decide_eq_true hd
                go_wp2
                have hadd : IntKind.i64.wrap ((c : Int) + v) = (P : Int):=by rw [jZ,HVE.out];have:=HPI.out;have:=HN.out;rw [dQ (by omega) (by omega)];omega
                have q0 : (0 ≤ (c : Int)) = True:=eq_true (by omega)
                have q1 : ((c : Int) < (l1.length : Int)) = True:=eq_true (by have:=CC.out;omega)
                have q2 : (0 ≤ (P : Int)) = True:=eq_true (by omega)
                have q3 : ((P : Int) < (l1.length : Int)) = True:=eq_true (by have:=HPI.out;omega)
                refine ll (n:=20) (S:=fun w'=>w'.cell? ⟨gq,0,none⟩ = some (.int .i64 (c : Int))) (ds:=[19]) (bl 20 0) (by kernel_rfl) rfl (by kernel_rfl) ((bG BK.out 0).trans rfl) (fun hHeld=>?_)
                refine ig aH.amt aH.afM (fun HT_ HW_=>?_)
                have n0_:=aa.mk (HM.out.below (aU (Below.refl _ _)))
                have n1_:=aa.mk (aU HB.out)
                have n2_:=aa.mk (cO BK.out)
                clear HM HB BK
                have HM:=n0_;have HB:=n1_;have BK:=n2_
                clear n0_ n1_ n2_
                generalize w7.drew = w8 at HM HB BK hHeld ⊢
                have hne:=HM.out.NP BK.out (by decide) (by decide)
                have hcc:=HM.out.outer CC.out
                have hcp:=HM.out.outer HPI.out.2
                have hfc:=HM.out.BZ c
                have hsw : (w8.setCell ⟨gb,c,none⟩ (.slice (some ⟨β P,0,none⟩) l1.length (κ P))).cell? ⟨gb,P,none⟩ = some (.slice (some ⟨β P,0,none⟩) l1.length (κ P)):=by
                  rw [bG (rG HM.out.out c _) P,Array.getElem?_setIfInBounds_ne (by omega),← bG HM.out.out P];exact hcp
                have hswf:=ko (rG HM.out.out c (.slice (some ⟨β P,0,none⟩) l1.length (κ P))) P
                refine pu_ 0 47 (bl 20 1) HT_ ?_
                refine pu_ 2 49 (bl 20 5) HT_ ?_
                refine pu_ 4 51 (bl 20 21) HT_ ?_
                refine pu_ 6 53 (bl 20 85) HT_ ?_
                refine pu_ 8 55 (bl 20 341) HT_ ?_
                refine pu_ 12 59 (bl 20 4437) HT_ ?_
                refine ta_ 1 48 (bl 20 4439) HT_ HW_ hHeld ?_
                refine ta_ 3 50 (bl 20 4447) HT_ HW_ hHeld ?_
                refine pu_ 5 52 (bl 20 4479) HT_ ?_
                refine ta_ 7 54 (bl 20 4607) HT_ HW_ hHeld ?_
                refine pu_ 9 56 (bl 20 5119) HT_ ?_
                refine pu_ 10 57 (bl 20 6143) HT_ ?_
                refine ta_ 13 60 (bl 20 14335) HT_ HW_ hHeld ?_
                refine pu_ 14 61 (bl 20 30719) HT_ ?_
                refine arA 11 15 58 62 (bl 20 32767) (bl 20 63487) (bl 20 65535) HT_ hHeld ?_
                refine pu_ 16 63 (bl 20 131071) HT_ ?_
                refine on_ 17 none (bl 20 262143) HT_ (fun K hK=>?_)
                refine qi (w1:=w8.setCell ⟨gb,c,none⟩ (.slice (some ⟨β P,0,none⟩) l1.length (κ P))) (by rfl) rfl (by first | (go_simp;done) | (go_simp;rfl)) ?_
                have hbx : (w8.setCell ⟨gb,c,none⟩ (.slice (some ⟨β P,0,none⟩) l1.length (κ P))).cell? ⟨gq,0,none⟩ = some (.int .i64 (c : Int)):=(bG (aC BK.out hne.1 _) 0).trans rfl
                refine hK.out _ _ hbx (fun hHeld=>?_)
                clear hK K
                refine pu_ 18 64 (bl 20 524287) HT_ ?_
                refine AJ (i:=19) (N:=none) (bl 20 1048575) rfl rfl (uj HT_.out (by kernel_rfl)) (by decide) (fun K hK=>?_)
                have hsP : (w8.setCell ⟨gb,c,none⟩ (.slice (some ⟨β P,0,none⟩) l1.length (κ P))).cell? ⟨gb,P,none⟩ = some (.slice (some ⟨β P,0,none⟩) l1.length (κ P)):=hsw
                have hsF : (w8.setCell ⟨gb,c,none⟩ (.slice (some ⟨β P,0,none⟩) l1.length (κ P))).frozen? ⟨gb,P,none⟩ = false:=hswf
                refine qi (w1:=(w8.setCell ⟨gb,c,none⟩ (.slice (some ⟨β P,0,none⟩) l1.length (κ P))).setCell ⟨gb,P,none⟩ (.slice (some ⟨β c,0,none⟩) l1.length (κ c))) (by rfl) rfl (by first | (go_simp;done) | (go_simp;rfl)) ?_
                refine hK.out _ _ ?_
                clear hK K
                refine done_ (done_of HT_.out (by kernel_rfl)) ?_
                have HM9:=HM.out.swap (by decide) CC.out HPI.out.2
                have eM : (fun i=>if i = P then M c else if i = c then M P else M i) = lh M c P:=funext fun i=>by
                  unfold lh
                  by_cases hi : i = c
                  · rw [if_pos hi,if_neg (by omega),if_pos hi]
                  · rw [if_neg hi,if_neg hi]
                rw [eM] at HM9
                have n0_:=aa.mk HM9
                have n1_:=aa.mk (mG (j:=P) (v:=.slice (some ⟨β c,0,none⟩) l1.length (κ c)) (mG (j:=c) (v:=.slice (some ⟨β P,0,none⟩) l1.length (κ P)) HB.out HM.out.bg) HM.out.bg)
                have n2_:=aa.mk (aC (p:=⟨gb,P,none⟩) (aC (p:=⟨gb,c,none⟩) BK.out hne.1 (.slice (some ⟨β P,0,none⟩) l1.length (κ P))) hne.1 (.slice (some ⟨β c,0,none⟩) l1.length (κ c)))
                clear HM9 eM HM HB BK hHeld hbx hsP hsF hsw hswf hcc hcp hfc hne
                have HM:=n0_;have HB:=n1_;have BK:=n2_
                clear n0_ n1_ n2_
                generalize (w8.setCell ⟨gb,c,none⟩ (.slice (some ⟨β P,0,none⟩) l1.length (κ P))).setCell ⟨gb,P,none⟩ (.slice (some ⟨β c,0,none⟩) l1.length (κ c)) = w9 at HM HB BK ⊢
                clear hadd q0 q1 q2 q3 hd hd2 hd3
                go_wp2_with (first | ((with_reducible refine ag (f:=67) rfl ?_);refine gL (some 68) Try.func67 #[.int .i64 a0,.int .i64 (wrap64 (-o))] ?_;refine (DF HP.out (wrap64 (-o)) _).mono ?_;rintro e w' ⟨rfl,⟨nd,rfl⟩⟩;refine ⟨_,rfl,?_⟩))
                go_meet
                case rel =>
                  have ew : wrap64 (-o) = -o:=by have:=HO.out;have:=HP.out.top;rw [dQ (by omega) (by omega)]
                  exact ⟨_,_,by rw [if_neg hpc,ew],⟨HM.out.below (by repeat (first | exact Below.refl _ _ | apply aU | apply bn))⟩,⟨uB BK.out⟩,⟨uH HB.out⟩⟩
            case rest =>
              obtain ⟨β1,κ1,rfl,HM,BK,HB⟩:=hcut
              have hMc : lh M c P c = M P:=by unfold lh;rw [if_pos rfl]
              have hNm : ∀ i,i < l1.length → Nm a0 (lh M c P i):=fun i hi=>by
                unfold lh
                by_cases h1 : i = c
                · rw [if_pos h1];exact HO.out.2 _ HPI.out.2
                · by_cases h2 : i = P
                  · rw [if_neg h1,if_pos h2];exact HO.out.2 _ CC.out
                  · rw [if_neg h1,if_neg h2];exact HO.out.2 _ hi
              have hoB : 0 ≤ (if P = c then o else (-o) % a0)∧(if P = c then o else (-o) % a0) < a0:=by
                by_cases h1 : P = c
                · rw [if_pos h1];exact HO.out.1
                · rw [if_neg h1];exact nI HP.out.pos _
              have hG:=HG.out
              rw [← hMc] at hG
              clear HG hMc HO
              generalize lh M c P = M1 at HM hNm hG
              generalize (if P = c then o else (-o) % a0) = o1 at hoB hG ⊢
              obtain ⟨y0,hy0⟩ : ∃ y0,(M1 c).getD c 0 = y0:=⟨_,rfl⟩
              obtain ⟨o2,ho2⟩ : ∃ o2,o1 * y0 % a0 = o2:=⟨_,rfl⟩
              have KR:=(hNm c CC.out).BA HP.out.pos c
              rw [hy0] at KR
              have HY0:=aa.mk hy0
              have amw:=aa.mk KR
              have HO2:=aa.mk ho2
              have afP : aa (0 ≤ o2∧o2 < a0):=⟨by rw [← ho2];exact nI HP.out.pos _⟩
              rw [hy0,ho2] at hG
              clear hy0 KR ho2
              have HNM:=aa.mk hNm
              have HOB:=aa.mk hoB
              have HG:=aa.mk hG
              clear hG hNm hoB HPI HVE
              go_wp2
              have q0 : (0 ≤ (c : Int)) = True:=eq_true (by omega)
              have q1 : ((c : Int) < (l1.length : Int)) = True:=eq_true (by have:=CC.out;omega)
              refine ll (n:=11) (S:=fun w'=>w'.cell? ⟨gq,0,none⟩ = some (.int .i64 (c : Int))∧w'.cell? ⟨gb,c,none⟩ = some (.slice (some ⟨β1 c,0,none⟩) l1.length (κ1 c))∧w'.cell? ⟨β1 c,c,none⟩ = some (.int .i64 y0)) (ds:=[]) (bl 11 0) (by kernel_rfl) rfl (by kernel_rfl) ⟨(bG BK.out 0).trans rfl,HM.out.outer CC.out,(HM.out.cell CC.out CC.out).trans (by rw [HY0.out])⟩ (fun hHeld=>?_)
              refine ig aH.Wd aH.OL (fun HT_ HW_=>?_)
              have n0_:=aa.mk (HM.out.below (aU (Below.refl _ _)))
              have n1_:=aa.mk (aU HB.out)
              have n2_:=aa.mk (cO BK.out)
              clear HM HB BK
              have HM:=n0_;have HB:=n1_;have BK:=n2_
              clear n0_ n1_ n2_
              generalize wc.drew = w8 at HM HB BK hHeld ⊢
              refine pu_ 0 69 (bl 11 1) HT_ ?_
              refine pu_ 1 70 (bl 11 3) HT_ ?_
              refine pu_ 2 71 (bl 11 7) HT_ ?_
              refine ta_ 3 72 (bl 11 15) HT_ HW_ hHeld ?_
              refine pu_ 4 73 (bl 11 31) HT_ ?_
              refine ta_ 5 74 (bl 11 63) HT_ HW_ hHeld ?_
              refine ta_ 6 75 (bl 11 127) HT_ HW_ hHeld ?_
              refine pu_ 7 76 (bl 11 255) HT_ ?_
              refine ta_ 8 77 (bl 11 511) HT_ HW_ hHeld ?_
              refine on_ 9 (some 78) (bl 11 1023) HT_ (fun K hK=>?_)
              refine gS Try.func96 #[.int .i64 a0,.int .i64 o1,.int .i64 y0] ?_
              refine (NT HP.out HOB.out amw.out HO2.out _).mono ?_
              rintro e w' ⟨rfl,⟨nd,rfl⟩⟩
              refine ⟨_,rfl,?_⟩
              refine hK.out _ _ hHeld (fun hHeld=>?_)
              clear hK K
              refine no_ 78 ?_
              refine pu_ 10 8 (bl 11 2047) HT_ ?_
              refine done_ (done_of HT_.out (by kernel_rfl)) ?_
              have n0_:=aa.mk (HM.out.below (bn (Below.refl _ _) nd))
              have n1_:=aa.mk (bn HB.out nd)
              have n2_:=aa.mk (El BK.out nd)
              clear HM HB BK
              have HM:=n0_;have HB:=n1_;have BK:=n2_
              clear n0_ n1_ n2_ hHeld
              generalize w8.drewN nd = w9 at HM HB BK ⊢
              clear HOB HO2 q0 q1
              obtain ⟨c',hc'⟩ : ∃ c',c' = c + 1:=⟨_,rfl⟩
              obtain ⟨m,hm⟩ : ∃ m,l1.length - c' = m:=⟨_,rfl⟩
              have hadd : IntKind.i64.wrap ((c : Int) + 1) = (c' : Int):=by rw [jZ,hc',lW CC.out (by have:=HN.out;omega)]
              have hcut:=PK (P:=Try.prog) HMK.out (by kernel_rfl) gb l1.length c' (by have:=CC.out;omega)
              rw [hm] at hcut
              have HCE:=aa.mk hc'
              have HME:=aa.mk hm
              clear hc' hm
              have hcz : w9.cell? ⟨gq,0,none⟩ = some (.int .i64 (c : Int)):=(bG BK.out 0).trans rfl
              go_wp2
              obtain ⟨E,hE⟩ : ∃ E : Nat → List Int,E = fun i=>mR a0 ((M1 i).getD c 0 * vM a0 y0 % a0) (M1 i) (M1 c) l1.length:=⟨_,rfl⟩
              have HE:=aa.mk hE
              clear hE hcz hcut
              go_loopg [84] (m + 1) (fun kq v84 w'=>∃ j : Nat,v84 = .int .i64 (j : Int)∧aa (kq + j = m + 1∧j ≤ m)∧aa (Mx 24 2 w' w.heap.size gb l1.length l1.length β1 κ1 (fun t=>if c < t∧t < c' + j then E t else M1 t))∧aa (w'.heap[gq]? = some (.cells #[.int .i64 (c : Int)] 3 (0,0)))∧aa (Below w.heap.size w w'))
              case atStart =>
                refine ⟨0,rfl,⟨by omega,by omega⟩,⟨(HM.out.below (by repeat (first | exact Below.refl _ _ | apply aU | apply bn))).congr fun t _=>?_⟩,⟨uB BK.out⟩,⟨uH HB.out⟩⟩
                rw [if_neg (by have:=HCE.out;omega)]
              case round =>
                clear HM HB BK hadd
                obtain ⟨j,rfl,HJ,HM,BK,HB⟩:=hrel
                by_cases cj : j < m
                · have c1 : decide ((j : Int) < (m : Int)) = true:=decide_eq_true (by omega)
                  have CJ:=aa.mk cj
                  clear cj
                  obtain ⟨i,hi⟩ : ∃ i,i = c' + j:=⟨_,rfl⟩
                  have HIE:=aa.mk hi
                  have HI:=aa.mk (show c < i∧i < l1.length from by have:=HCE.out;have:=HME.out;have:=CJ.out;omega)
                  have HN1:=aa.mk (show ¬ (c < i∧i < c' + j) from by omega)
                  have HN2:=aa.mk (show ¬ (c < c∧c < c' + j) from by omega)
                  clear hi
                  have hx : wr.cell? ((cutAt gb l1.length c').add j) = some (.slice (some ⟨β1 i,0,none⟩) l1.length (κ1 i)):=by
                    rw [Rk (by have:=HME.out;have:=CJ.out;omega),← HIE.out];exact HM.out.outer HI.out.2
                  have hri : wr.cell? ⟨β1 i,c,none⟩ = some (.int .i64 ((M1 i).getD c 0)):=by have h:=HM.out.cell HI.out.2 CC.out;simp only [if_neg HN1.out] at h;exact h
                  obtain ⟨x0,hx0⟩ : ∃ x0,(M1 i).getD c 0 = x0:=⟨_,rfl⟩
                  obtain ⟨f,hf⟩ : ∃ f,x0 * vM a0 y0 % a0 = f:=⟨_,rfl⟩
                  have afQ:=(HNM.out i HI.out.2).BA HP.out.pos c
                  rw [hx0] at hri afQ
                  have HF : aa (E i = mR a0 f (M1 i) (M1 c) l1.length):=⟨by rw [HE.out,← hf,← hx0]⟩
                  have HFB : aa (0 ≤ f∧f < a0):=⟨by rw [← hf];exact nI HP.out.pos _⟩
                  have avD:=aa.mk afQ
                  have HFE:=aa.mk hf
                  clear hx0 afQ hf
                  have hrc : wr.cell? ⟨β1 c,c,none⟩ = some (.int .i64 y0):=by have h:=HM.out.cell CC.out CC.out;simp only [if_neg HN2.out] at h;rw [HY0.out] at h;exact h
                  have HRI:=aa.mk hri
                  have HRC:=aa.mk hrc
                  clear hri hrc
                  have qj0 : (0 ≤ (j : Int)) = True:=eq_true (by omega)
                  have qj1 : ((j : Int) < (m : Int)) = True:=eq_true (by have:=CJ.out;omega)
                  go_wp2
                  clear hx qj0 qj1
                  have q0 : (0 ≤ (c : Int)) = True:=eq_true (by omega)
                  have q1 : ((c : Int) < (l1.length : Int)) = True:=eq_true (by have:=CC.out;omega)
                  refine ll (n:=14) (S:=fun w'=>w'.cell? ⟨gq,0,none⟩ = some (.int .i64 (c : Int))∧w'.cell? ⟨gb,c,none⟩ = some (.slice (some ⟨β1 c,0,none⟩) l1.length (κ1 c))∧w'.cell? ⟨β1 c,c,none⟩ = some (.int .i64 y0)∧w'.cell? ⟨β1 i,c,none⟩ = some (.int .i64 x0)) (ds:=[]) (bl 14 0) (by kernel_rfl) rfl (by kernel_rfl) ⟨(bG BK.out 0).trans rfl,HM.out.outer CC.out,HRC.out,HRI.out⟩ (fun hHeld=>?_)
                  refine ig aH.amu aH.afN (fun HT_ HW_=>?_)
                  have n0_:=aa.mk (HM.out.below (aU (Below.refl _ _)))
                  have n1_:=aa.mk (aU HB.out)
                  have n2_:=aa.mk (cO BK.out)
                  clear HM HB BK
                  have HM:=n0_;have HB:=n1_;have BK:=n2_
                  clear n0_ n1_ n2_
                  clear HRI HRC
                  generalize wr.drew = w10 at HM HB BK hHeld ⊢
                  refine pu_ 0 88 (bl 14 1) HT_ ?_
                  refine pu_ 1 89 (bl 14 3) HT_ ?_
                  refine pu_ 5 93 (bl 14 35) HT_ ?_
                  refine ta_ 2 90 (bl 14 39) HT_ HW_ hHeld ?_
                  refine pu_ 3 91 (bl 14 47) HT_ ?_
                  refine ta_ 4 92 (bl 14 63) HT_ HW_ hHeld ?_
                  refine ta_ 6 94 (bl 14 127) HT_ HW_ hHeld ?_
                  refine pu_ 7 95 (bl 14 255) HT_ ?_
                  refine ta_ 8 96 (bl 14 511) HT_ HW_ hHeld ?_
                  refine ta_ 9 97 (bl 14 1023) HT_ HW_ hHeld ?_
                  refine pu_ 10 98 (bl 14 2047) HT_ ?_
                  refine ta_ 11 99 (bl 14 4095) HT_ HW_ hHeld ?_
                  refine on_ 12 (some 100) (bl 14 8191) HT_ (fun K hK=>?_)
                  refine gS Try.func72 #[.int .i64 a0,.int .i64 x0,.int .i64 y0] ?_
                  refine (NU HP.out avD.out amw.out HFE.out _).mono ?_
                  rintro e w' ⟨rfl,⟨nd,rfl⟩⟩
                  refine ⟨_,rfl,?_⟩
                  refine hK.out _ _ hHeld (fun hHeld=>?_)
                  clear hK K
                  refine no_ 100 ?_
                  refine pu_ 13 13 (bl 14 16383) HT_ ?_
                  refine done_ (done_of HT_.out (by kernel_rfl)) ?_
                  have n0_:=aa.mk (HM.out.below (bn (Below.refl _ _) nd))
                  have n1_:=aa.mk (bn HB.out nd)
                  have n2_:=aa.mk (El BK.out nd)
                  clear HM HB BK
                  have HM:=n0_;have HB:=n1_;have BK:=n2_
                  clear n0_ n1_ n2_
                  clear hHeld q0 q1
                  generalize w10.drewN nd = w11 at HM HB BK ⊢
                  go_wp2
                  go_loopg [103] (l1.length + 1) (fun kq avE w'=>∃ q : Nat,avE = .int .i64 (q : Int)∧aa (kq + q = l1.length + 1∧q ≤ l1.length)∧aa (Mx 24 2 w' w.heap.size gb l1.length l1.length β1 κ1 (fun t=>if t = i then oV a0 f (M1 i) (M1 c) l1.length q else if c < t∧t < c' + j then E t else M1 t))∧aa (w'.heap[gq]? = some (.cells #[.int .i64 (c : Int)] 3 (0,0)))∧aa (Below w.heap.size w w'))
                  case atStart =>
                    refine ⟨0,rfl,⟨by omega,by omega⟩,⟨(HM.out.below (by repeat (first | exact Below.refl _ _ | apply aU | apply bn))).congr fun t ht=>?_⟩,⟨uB BK.out⟩,⟨uH HB.out⟩⟩
                    by_cases hti : t = i
                    · have hl:=HM.out.len i HI.out.2
                      simp only [if_neg HN1.out] at hl
                      rw [if_pos hti,JW a0 f (M1 c) hl,hti,if_neg HN1.out]
                    · rw [if_neg hti]
                  case round =>
                    clear HM HB BK
                    obtain ⟨q,rfl,HQ,HM,BK,HB⟩:=hrel
                    by_cases cq : q < l1.length
                    · have c1 : decide ((q : Int) < (l1.length : Int)) = true:=decide_eq_true (by omega)
                      have CQ:=aa.mk cq
                      clear cq
                      obtain ⟨x1,hx1⟩ : ∃ x1,(M1 i).getD q 0 = x1:=⟨_,rfl⟩
                      obtain ⟨y1,hy1⟩ : ∃ y1,(M1 c).getD q 0 = y1:=⟨_,rfl⟩
                      have HRI : aa (wr.cell? ⟨β1 i,q,none⟩ = some (.int .i64 x1)):=⟨by have h:=HM.out.cell HI.out.2 CQ.out;rw [← hx1];simp only [if_true,Lx _ _ _ _ CQ.out,Nat.lt_irrefl,if_false] at h;exact h⟩
                      have HRC : aa (wr.cell? ⟨β1 c,q,none⟩ = some (.int .i64 y1)):=⟨by have h:=HM.out.cell CC.out CQ.out;rw [← hy1];simp only [if_neg (show ¬ c = i from by have:=HI.out;omega),if_neg HN2.out] at h;exact h⟩
                      have OU:=(HNM.out i HI.out.2).BA HP.out.pos q
                      have OV:=(HNM.out c CC.out).BA HP.out.pos q
                      rw [hx1] at OU
                      rw [hy1] at OV
                      have HX1:=aa.mk hx1
                      have HY1:=aa.mk hy1
                      have avF:=aa.mk OU
                      have avG:=aa.mk OV
                      clear hx1 hy1 OU OV
                      have cq1:=CQ.out
                      go_wp2
                      clear cq1
                      have q0 : (0 ≤ (c : Int)) = True:=eq_true (by omega)
                      have q1 : ((c : Int) < (l1.length : Int)) = True:=eq_true (by have:=CC.out;omega)
                      have q2 : (0 ≤ (q : Int)) = True:=eq_true (by omega)
                      have q3 : ((q : Int) < (l1.length : Int)) = True:=eq_true (by have:=CQ.out;omega)
                      refine ll (n:=20) (S:=fun w'=>w'.cell? ⟨gq,0,none⟩ = some (.int .i64 (c : Int))∧w'.cell? ⟨gb,c,none⟩ = some (.slice (some ⟨β1 c,0,none⟩) l1.length (κ1 c))∧w'.cell? ⟨β1 c,q,none⟩ = some (.int .i64 y1)∧w'.cell? ⟨β1 i,q,none⟩ = some (.int .i64 x1)) (ds:=[19]) (bl 20 0) (by kernel_rfl) rfl (by kernel_rfl) ⟨(bG BK.out 0).trans rfl,HM.out.outer CC.out,HRC.out,HRI.out⟩ (fun hHeld=>?_)
                      refine ig aH.amv aH.afO (fun HT_ HW_=>?_)
                      have n0_:=aa.mk (HM.out.below (aU (Below.refl _ _)))
                      have n1_:=aa.mk (aU HB.out)
                      have n2_:=aa.mk (cO BK.out)
                      clear HM HB BK
                      have HM:=n0_;have HB:=n1_;have BK:=n2_
                      clear n0_ n1_ n2_
                      clear HRI HRC
                      generalize wr.drew = w12 at HM HB BK hHeld ⊢
                      refine pu_ 0 106 (bl 20 1) HT_ ?_
                      refine pu_ 1 107 (bl 20 3) HT_ ?_
                      refine pu_ 2 108 (bl 20 7) HT_ ?_
                      refine pu_ 3 109 (bl 20 15) HT_ ?_
                      refine pu_ 4 110 (bl 20 31) HT_ ?_
                      refine pu_ 5 111 (bl 20 63) HT_ ?_
                      refine pu_ 7 113 (bl 20 191) HT_ ?_
                      refine pu_ 8 114 (bl 20 447) HT_ ?_
                      refine pu_ 12 118 (bl 20 4543) HT_ ?_
                      refine ta_ 6 112 (bl 20 4607) HT_ HW_ hHeld ?_
                      refine ta_ 9 115 (bl 20 5119) HT_ HW_ hHeld ?_
                      refine pu_ 10 116 (bl 20 6143) HT_ ?_
                      refine ta_ 11 117 (bl 20 8191) HT_ HW_ hHeld ?_
                      refine pu_ 13 119 (bl 20 16383) HT_ ?_
                      refine ta_ 14 120 (bl 20 32767) HT_ HW_ hHeld ?_
                      refine pu_ 15 121 (bl 20 65535) HT_ ?_
                      refine pu_ 16 122 (bl 20 131071) HT_ ?_
                      refine on_ 17 (some 123) (bl 20 262143) HT_ (fun K hK=>?_)
                      refine gS Try.func67 #[.int .i64 a0,.int .i64 (wrap64 (x1 - wrap64 (f * y1)))] ?_
                      refine (NR HP.out (y:=(x1 - f * y1) % a0) ?wv _).mono ?_
                      (case wv=>have h1:=avF.out;have h2:=avG.out;have h3:=Bj HP.out HFB.out.1 HFB.out.2 h2.1 h2.2;have h4:=HP.out.top;rw [dQ (x:=f * y1) (by omega) (by omega),dQ (by omega) (by omega)])
                      rintro e w' ⟨rfl,⟨nd,rfl⟩⟩
                      refine ⟨_,rfl,?_⟩
                      refine hK.out _ _ hHeld (fun hHeld=>?_)
                      clear hK K
                      refine no_ 123 ?_
                      have n0_:=aa.mk (HM.out.below (bn (Below.refl _ _) nd))
                      have n1_:=aa.mk (bn HB.out nd)
                      have n2_:=aa.mk (El BK.out nd)
                      clear HM HB BK
                      have HM:=n0_;have HB:=n1_;have BK:=n2_
                      clear n0_ n1_ n2_
                      generalize w12.drewN nd = w13 at HM HB BK hHeld ⊢
                      refine pu_ 18 124 (bl 20 524287) HT_ ?_
                      refine AJ (i:=19) (N:=none) (bl 20 1048575) rfl rfl (uj HT_.out (by kernel_rfl)) (by decide) (fun K hK=>?_)
                      have hsr : w13.cell? ⟨β1 i,q,none⟩ = some (.int .i64 x1):=hHeld.2.2.2
                      have hsf : w13.frozen? ⟨β1 i,q,none⟩ = false:=HM.out.frozen HI.out.2 q
                      refine qi (w1:=w13.setCell ⟨β1 i,q,none⟩ (.int .i64 ((x1 - f * y1) % a0))) (by rfl) rfl (by first | (go_simp;done) | (go_simp;rfl)) ?_
                      refine hK.out _ _ ?_
                      clear hK K
                      refine done_ (done_of HT_.out (by kernel_rfl)) ?_
                      have hne:=HM.out.NP BK.out (by decide) (by decide)
                      have n0_:=aa.mk ((HM.out.put (by decide) HI.out.2 CQ.out ((x1 - f * y1) % a0)).congr (M':=fun t=>if t = i then oV a0 f (M1 i) (M1 c) l1.length (q + 1) else if c < t∧t < c' + j then E t else M1 t) (fun t ht=>by
                        by_cases hti : t = i
                        · simp only [if_pos hti,if_true]
                          rw [← HX1.out,← HY1.out]
                          exact LB a0 f (M1 i) (M1 c) l1.length q
                        · simp only [if_neg hti]))
                      have n1_:=aa.mk (mG (j:=q) (v:=.int .i64 ((x1 - f * y1) % a0)) HB.out (HM.out.bb i HI.out.2))
                      have n2_:=aa.mk (aC (p:=⟨β1 i,q,none⟩) BK.out (hne.2 i HI.out.2) (.int .i64 ((x1 - f * y1) % a0)))
                      clear HM HB BK hHeld hsr hsf hne q0 q1 q2 q3
                      have HM:=n0_;have HB:=n1_;have BK:=n2_
                      clear n0_ n1_ n2_
                      generalize w13.setCell ⟨β1 i,q,none⟩ (.int .i64 ((x1 - f * y1) % a0)) = w14 at HM HB BK ⊢
                      go_wp2
                      go_roundg (l1.length - q)
                      case measure=>have:=HQ.out;have:=CQ.out;omega
                      case rel=>exact ⟨q + 1,by rw [lW CQ.out (by have:=HN.out;omega)],⟨by have:=HQ.out;have:=CQ.out;omega,CQ.out⟩,⟨HM.out.below (by repeat (first | exact Below.refl _ _ | apply aU | apply bn))⟩,⟨uB BK.out⟩,⟨uH HB.out⟩⟩
                    · obtain rfl : q = l1.length:=by have:=HQ.out;omega
                      have c1 : decide ((l1.length : Int) < (l1.length : Int)) = false:=decide_eq_false (by omega)
                      go_wp2
                      go_roundg (m - j)
                      case measure=>have:=HJ.out;have:=CJ.out;omega
                      case rel =>
                        refine ⟨j + 1,by rw [lW CJ.out (by have:=HN.out;have:=HME.out;omega)],⟨by have:=HJ.out;have:=CJ.out;omega,CJ.out⟩,⟨(HM.out.below (by repeat (first | exact Below.refl _ _ | apply aU | apply bn))).congr fun t ht=>?_⟩,⟨uB BK.out⟩,⟨uH HB.out⟩⟩
                        by_cases hti : t = i
                        · rw [if_pos hti,LA,← HF.out,hti,if_pos (by have:=HI.out;have:=HIE.out;omega)]
                        · rw [if_neg hti]
                          by_cases hc2 : c < t∧t < c' + j
                          · rw [if_pos hc2,if_pos (by omega)]
                          · rw [if_neg hc2,if_neg (by have:=HIE.out;omega)]
                · obtain rfl : j = m:=by have:=HJ.out;omega
                  have c1 : decide ((j : Int) < (j : Int)) = false:=decide_eq_false (by omega)
                  go_wp2
                  go_roundg (l1.length - c)
                  case measure=>have:=HC.out;have:=CC.out;omega
                  case rel =>
                    have hcc:=HCE.out
                    have hmm:=HME.out
                    have hcl:=CC.out
                    subst hcc
                    refine ⟨c + 1,o2,β1,κ1,yD a0 (vM a0 y0) l1.length c M1,rfl,by rw [lW CC.out (by have:=HN.out;omega)],⟨by have:=HC.out;omega,CC.out⟩,⟨afP.out,fun t ht=>?_⟩,HG,⟨(HM.out.below (by repeat (first | exact Below.refl _ _ | apply aU | apply bn))).congr fun t ht=>?_⟩,⟨uH HB.out⟩⟩
                    · unfold yD
                      by_cases h1 : c < t
                      · rw [if_pos h1];exact Be HP.out.pos _ _ _ _
                      · rw [if_neg h1];exact HNM.out t ht
                    · unfold yD
                      by_cases h1 : c < t
                      · rw [if_pos h1,if_pos (by omega),HE.out]
                      · rw [if_neg h1,if_neg (by omega)]
        · obtain rfl : c = l1.length:=by have:=HC.out;omega
          have c1 : decide ((l1.length : Int) < (l1.length : Int)) = false:=decide_eq_false (by omega)
          have e : o = r:=by have:=HG.out;rw [Nat.sub_self,ry] at this;exact this
          subst e
          go_wp2
          go_ret
          exact ⟨rfl,uH HB.out⟩
open Go.RowKit Go.Proofs.YtilbjbahmilhkaaW.PrintWords Go.Proofs.YtilbjbahmilhkaaW.PrintLast Go.Proofs.YtilbjbahmilhkaaW.PrintMore
attribute [local go_sem] oz oC qG qH mX mY oF oG   -- for this text's walks alone
set_option maxHeartbeats 8000000
set_option maxRecDepth 100000
/-! ### dY: function 57 -/
def dY.l0 : Nat → Int → List (List Int) → Int → Int → Int → List Int → Option (Int)
 | 0,_,_,_,_,_,_=>none
 | k + 1,x1,x5,x7,x8,QN,F4=>if x8 < x7 then (if 0 ≤ x8 then (if x8 ≤ (wrap64 (x8 + x1)) then (if (wrap64 (x8 + x1)) ≤ (F4.length : Int) then (if x5.length < 5864062014805 then (dY.l0 k x1 (x5 ++ [((F4.take ((wrap64 (x8 + x1)) : Int).toNat).drop (x8 : Int).toNat)]) x7 (wrap64 (x8 + 1)) QN F4) else (none)) else (none)) else (none)) else (none)) else ((di.f QN F4).bind fun WH=>((aH.f k WH x5).bind fun t152=>(some t152)))
def dY.f (k : Nat) (aD : Int) (aA : List Int) (a1 : Int) : Option (Int):=dY.l0 k a1 ([] : List (List Int)) a1 0 aD aA
theorem dY.calls (k : Nat) (aD : Int) (Ba : Nat → Prop) (bE : Option Addr) (bC : Nat) (aA : List Int) (a1 : Int) (r : Int) (w : World) (amx : Kd.V (Kd.int .i64) 2 w w.heap.size (fun k_=>Ba k_) (.slice bE aA.length bC) aA) (H : dY.f k aD aA a1 = some r) :
  Calls Try.prog 57 #[.agg #[.int .i64 aD,.slice bE aA.length bC],.int .i64 a1] w fun e w'=>e = .returned (.int .i64 r)∧Below w.heap.size w w':=by
 have uz:=Try.underlying26;have WI:=zA (show Kd.V (Kd.int .i64) 2 w w.heap.size (fun k_=>(Ba k_ ∨ w.heap.size ≤ k_)) (.slice bE aA.length bC) aA from Kd.Bf amx (fun k_ hk=>.inl hk));have HB:=zA (Below.refl w.heap.size w);unfold dY.f at H;have H':=zA H;clear H;go_enter Try.func57,Try.ntmps57;go_wp2_with (first | (refine bX 2 rfl #[.int .i64 aD,.slice bE aA.length bC] 26 ?_;intro yG w3 hg rO hb;replace WI:=zA (Kd.Fb (Kd.S9 (uV WI.out) yG (Nat.le_of_eq hg.symm)) hb);have amy:=gq HB hg;have:=geI amy;replace HB:=xH HB hb;clear hb hg));go_loopg [5,8] k (fun kq v5 v8 w'=>∃ (jg : List (List Int)) (eO : Int),v8 = .int .i64 eO∧aa (dY.l0 kq a1 jg a1 eO aD aA = some r)∧aa (kq ≤ k)∧aa (Kd.N (Kd.slice 2 (Kd.int .i64)) 24 w' w.heap.size (fun k_=>(Ba k_ ∨ w.heap.size ≤ k_)∧k_ ≠ yG) v5 jg)∧aa (Kd.V (Kd.int .i64) 2 w' w.heap.size (fun k_=>(Ba k_ ∨ w.heap.size ≤ k_)∧ax k_ v5∧k_ ≠ yG) (.slice bE aA.length bC) aA)∧aa (w'.heap[yG]? = some (.cells #[.int .i64 aD,(.slice bE aA.length bC)] 26 (0,0)))∧aa (Below w.heap.size w w'));(case atStart=>exact ⟨(([] : List (List Int))),(0),eS,H',⟨Nat.le_refl _⟩,⟨by first | exact Kd.uo _ _ _ _ _ | exact Kd.ut _ _ _ _ _ | exact Kd.um _ _ _ _ _ | exact Kd.uu _ _ _ _ _ | exact Kd.qM _ _ _ _ _⟩,⟨by (with_reducible repeat (first | apply Kd.Fe | apply Kd.Ff | apply Kd.JB));exact Kd.Bf WI.out (fun _ hk=>⟨hk.1,⟨(by simp [Value.ownBlock]),hk.2⟩⟩)⟩,⟨uB rO.out⟩,⟨uH HB.out⟩⟩)
 case round =>
  clear H';(try clear p2);obtain ⟨jg,eO,rfl,HA,HK1,q8,nW,rO,HB⟩:=hrel
  cases gk with
  | zero=>exact absurd HA.out (by simp [dY.l0])
  | succ k1 =>
   have H:=HA.out;clear HA;simp only [dY.l0] at H;replace H:=gF H;obtain ⟨pJ,H⟩|⟨pJ,H⟩:=H
   ·replace H:=bO H;obtain ⟨WH,A12,H⟩:=H;replace H:=bO H;obtain ⟨t152,A13,H⟩:=H;obtain rfl:=Option.some.inj H;have JE:=bc rO 0;have JF:=bc rO 1;have JG:=bf rO 0;have JH:=bf rO 1;go_wp2_with (first | ((with_reducible refine ag (f:=38) rfl ?_);refine gL (some 23) Try.func38 #[.agg #[.int .i64 aD,.slice bE aA.length bC]] ?_;(with_reducible refine (di.calls aD _ _ aA WH _ ?side1 ?side2 A12.out).mono ?_);(case side1=>exact uC ((Kd.BB nW.out).2.2));(case side2=>exact (Kd.BB nW.out).2.1);rintro e w15 ⟨rfl,hb⟩;refine ⟨_,rfl,?_⟩;replace q8:=zA (Kd.J2 (uN q8.out) hb);replace nW:=zA (Kd.Fb (uV nW.out) hb);replace rO:=xB rO hb;replace HB:=xH HB hb;(try clear hb);obtain ⟨iN,iO,Sn⟩:=Kd.aad q8.out;subst Sn) | ((with_reducible refine ag (f:=84) rfl ?_);refine gL (some 25) Try.func84 #[.int .i64 WH,.slice iN jg.length iO] ?_;(with_reducible refine (aH.calls k1 WH _ _ jg t152 _ ?side1 ?side2 A13.out).mono ?_);(case side1=>exact uC ((Kd.MO q8.out).2.2));(case side2=>exact (Kd.MO q8.out).2.1);rintro e w17 ⟨rfl,hb⟩;refine ⟨_,rfl,?_⟩;replace q8:=zA (Kd.J2 (uN q8.out) hb);replace nW:=zA (Kd.Fb (uV nW.out) hb);replace rO:=xB rO hb;replace HB:=xH HB hb;(try clear hb)));go_ret;exact ⟨eX,uH HB.out⟩
   replace H:=gN H;obtain ⟨c5,H⟩:=H;have mF:=eq_true c5;have wz : decide (0 ≤ eO) = true:=decide_eq_true c5;clear c5;replace H:=gN H;obtain ⟨c6,H⟩:=H;have qo:=eq_true c6;have xE : decide (eO ≤ (wrap64 (eO + a1))) = true:=decide_eq_true c6;replace H:=gN H;obtain ⟨c7,H⟩:=H;have Ih:=eq_true c7;have K5 : decide ((wrap64 (eO + a1)) ≤ (aA.length : Int)) = true:=decide_eq_true c7;obtain ⟨Iq,WJ⟩:=eY ((aA.take ((wrap64 (eO + a1)) : Int).toNat).drop (eO : Int).toNat : List Int);(try rw [←WJ.out] at H);replace H:=gZ H;obtain ⟨avH,H⟩:=H;obtain ⟨avI,acP⟩:=eY (jg ++ [Iq] : List (List Int));(try rw [←acP.out] at H);have H':=zA H;clear H;have Nn:=bc rO 0;have Np:=bc rO 1;have Ty:=bf rO 0;have Nq:=bf rO 1;have q10 : ((wrap64 (eO + a1)) : Int) ≤ ((aA.length : Int) : Int):=oD;obtain ⟨ark,Lr,_,Ls,_⟩:=info_parts mf;have hroom10 : aA.length ≤ bC:=(Kd.BB nW.out).2.1;have TJ : Kd.F (Kd.int .i64) _ _ bE aA.length aA:=(Kd.SY (base:=w.heap.size) nW.out).2.2;have avJ : (eO : Int) ≤ ((wrap64 (eO + a1)) : Int):=oD;have avK : (0 : Int) ≤ (eO : Int):=oD;have TI:=aae (P:=Try.prog) 24 2 .i64 .i64 Try.underlying24 Lr 1 Ls bE aA.length bC eO (wrap64 (eO + a1)) avK avJ q10 hroom10;have hr10:=Kd.ahd (lo:=(eO : Int).toNat) (hi:=((wrap64 (eO + a1)) : Int).toNat) (c:=bC) TJ (by omega) (by omega) hroom10;obtain ⟨A10,Ny⟩ : ∃ A1,A1 = (if bC = (eO : Int).toNat then bE else (bE : Option Addr).map (·.add ((eO : Int).toNat * 1))):=⟨_,rfl⟩;obtain ⟨c10,aaf⟩ : ∃ c1,c1 = bC - (eO : Int).toNat:=⟨_,rfl⟩;have WK : Iq.length = ((wrap64 (eO + a1)) : Int).toNat - (eO : Int).toNat:=(by rw [WJ.out,List.length_drop,List.length_take] <;> omega);rw [show ((aA).take ((wrap64 (eO + a1)) : Int).toNat).drop (eO : Int).toNat = Iq from WJ.out.symm] at hr10;replace hr10 : Kd.F (Kd.int .i64) _ _ A10 Iq.length Iq:=(by rw [Ny];exact hr10);rw [← WK,← Ny,← aaf] at TI;have QO:=zA (show Kd.V (Kd.int .i64) 2 _ w.heap.size _ (.slice A10 Iq.length c10) Iq from Kd.aha (by rw [WK,aaf];exact Nat.sub_le_sub_right (Nat.le_trans (by omega) hroom10) _) hr10);have ax0:=zA (show Iq.length ≤ c10 from by rw [WK,aaf];exact Nat.sub_le_sub_right (Nat.le_trans (by omega) hroom10) _);clear hr10 TJ hroom10 Lr Ls aaf;have azI:=zA WK;have azJ:=zA Ny;clear WK Ny;replace q10:=eq_true q10;go_wp2_with (first | ((with_reducible refine fJ (b:=.append) (xs:=#[.tmp 11,.tmp 19]) rfl ?_);at_builtin;refine Kd.WL (Kd.slice 2 (Kd.int .i64)) (w0:=w) w.heap.size rfl (.tmp 11) (.tmp 19) 51 24 (.slice none 0 0) 24 rfl Try.underlying51 Sr rfl (by decide) (by omega) u5 jg Iq [.slice A10 Iq.length c10] (fun k_=>(Ba k_ ∨ w.heap.size ≤ k_)∧k_ ≠ yG) (fun k_=>((fun k_=>(Ba k_ ∨ w.heap.size ≤ k_)∧k_ ≠ yG)) k_∧ax k_ u5) rfl rfl ?aP (fun _ hk=>hk) ?aF ?aO ?aB ?aS ?aL ?_;(case aP=>exact (Kd.Lg (Kd.BB (Kd.Bf (ok':=(fun k_=>((fun k_=>(Ba k_ ∨ w.heap.size ≤ k_)∧k_ ≠ yG)) k_∧ax k_ u5)) (QO.out) (fun k_ ⟨a,c,b⟩=>⟨⟨a,b⟩,c⟩))).2.1 (Kd.V_F (Kd.Bf (ok':=(fun k_=>((fun k_=>(Ba k_ ∨ w.heap.size ≤ k_)∧k_ ≠ yG)) k_∧ax k_ u5)) (QO.out) (fun k_ ⟨a,c,b⟩=>⟨⟨a,b⟩,c⟩)))));(case aB=>exact (uH HB.out));(case aF=>exact (fun k_ hk=>⟨(.inr (Nat.le_trans (av (uH HB.out)) hk)),Kd.D7 (g:=yG) (o:=.cells #[.int .i64 aD,.slice bE aA.length bC] 26 (0,0)) (uB rO.out) k_ hk⟩));(case aO=>exact (uN q8.out));(case aS=>exact (av (uH HB.out)));(case aL=>have:=avH.out;omega);intro azK w11 ho hb hg hat;rw [← acP.out] at ho;replace nW:=zA (Kd.Lf (ok:=(fun k_=>(Ba k_ ∨ w.heap.size ≤ k_)∧k_ ≠ yG)) (by (with_reducible repeat (first | apply Kd.Fe | apply Kd.Ff | apply Kd.JB));exact Kd.Bf nW.out (fun _ ⟨a,c,b⟩=>⟨⟨a,b⟩,c⟩)) hg hat);replace rO:=zA (uO (g:=yG) (o:=.cells #[.int .i64 aD,.slice bE aA.length bC] 26 (0,0)) (uB rO.out) hg (Kd.ajJ q8.out rO.out (by decide)));replace QO:=zA (Kd.Lf (ok:=(fun k_=>(Ba k_ ∨ w.heap.size ≤ k_)∧k_ ≠ yG)) (by (with_reducible repeat (first | apply Kd.Fe | apply Kd.Ff | apply Kd.JB));exact Kd.Bf QO.out (fun _ ⟨a,c,b⟩=>⟨⟨a,b⟩,c⟩)) hg hat);replace HB:=zA (hb);have amz:=zA (ho);clear q8 ho hb hg hat));go_roundg k1;(case measure=>have:=HK1.out;omega);(case rel=>exact ⟨(avI),(wrap64 (eO + 1)),eS,H',⟨by have:=HK1.out;omega⟩,⟨uN amz.out⟩,⟨by (with_reducible repeat (first | apply Kd.Fe | apply Kd.Ff | apply Kd.JB));exact Kd.Bf nW.out (fun _ ⟨⟨a,c⟩,b⟩=>⟨a,b,c⟩)⟩,⟨uB rO.out⟩,⟨uH HB.out⟩⟩)
/-! ### fo: function 19 -/
def fo.f (k : Nat) (aD : Int) (aA : List Int) (a1 : Int) : Option (Int × Int):=(gz.f aD aA a1).bind fun aag=>((iX.f k aD aA aag ([] : List (List Int))).bind fun t156=>(if t156 = 0 then ((dY.f k aD aA a1).bind fun t157=>(some (t157,0))) else (some (0,t156))))
theorem fo.calls (k : Nat) (aD : Int) (bE : Option Addr) (bC : Nat) (aA : List Int) (a1 : Int) (r1 : Int) (r2 : Int) (w : World) (hr0_1 : Kd.C (Kd.int .i64) w bE aA.length aA) (jN : aA.length ≤ bC) (H : fo.f k aD aA a1 = some (r1,r2)) :
  Calls Try.prog 19 #[.agg #[.int .i64 aD,.slice bE aA.length bC],.int .i64 a1] w fun e w'=>e = .returned (.tuple #[.int .i64 r1,.int .i64 r2])∧Below w.heap.size w w':=by
 have uz:=Try.underlying26;have hmf : ∀ (fn_ : Fn) (first_ cap_ : Array Value) (w_ : World),(Instr.makeFunc fn_ first_ cap_).run Try.prog w_ = .ok (.func fn_ first_ cap_) w_:=fun _ _ _ _=>rfl;have iY:=zA hr0_1;have jo:=zA jN;clear hr0_1 jN;have HB:=zA (Below.refl w.heap.size w);unfold fo.f at H;replace H:=bO H;obtain ⟨aag,A3,H⟩:=H;replace H:=bO H;obtain ⟨t156,A4,H⟩:=H;replace H:=gE H;obtain ⟨c5,mF,wz,H⟩|⟨c5,mF,wz,H⟩:=H
 ·simp only [Option.some.injEq,Prod.mk.injEq] at H;obtain ⟨rfl,rfl⟩:=H;go_enter Try.func19,Try.ntmps19;go_wp2_with (first | (refine bX 2 rfl #[.int .i64 aD,.slice bE aA.length bC] 26 ?_;intro Ht w15 hg nE hb;have WM:=gq HB hg;have:=geI WM;replace HB:=xH HB hb;clear hb hg) | ((with_reducible refine dz (N:=3) rfl ?_);refine bx 3 #[.int .i64 a1] 2 ?_;intro Hu hg w16 hbox hb;have zn:=zA (hbox);have WN:=gq HB hg;have:=geI WN;have WO:=gq HB hg;replace HB:=xH HB hb;have Em:=nL nE hg;have En:=nG nE hg;replace nE:=xB nE hb;have:=geI WO;clear hb hbox hg;have amA:=Em.out;have amB:=En.out;have Jn:=bc nE 0;have Jo:=bc nE 1;have Jp:=bf nE 0;have Jq:=bf nE 1) | ((with_reducible refine ag (f:=29) rfl ?_);refine gL (some 9) Try.func29 #[.agg #[.int .i64 aD,.slice bE aA.length bC],(.func (.func 55) #[] #[.pointer (some ⟨Ht,0,none⟩),.pointer (some ⟨Hu,0,none⟩)]),.slice none 0 0] ?_;(refine (iX.calls k aD _ _ aA _ aag _ _ ([] : List (List Int)) t156 _ ?side1 ?side2 ?side3 ?side4 ?side5 A4.out).mono ?_);(case side1=>exact uC ((Kd.dH iY.out HB.out)));(case side2=>exact jo.out);(case side3=>exact FnB.of Try.func55 (by kernel_rfl) rfl (fun W_ hW_=>eD (args':=#[.pointer (some ⟨Ht,0,none⟩),.pointer (some ⟨Hu,0,none⟩)]) (by simp) ((gz.calls _ aD _ _ aA _ a1 _ W_ (bu (g:=Ht) (o:=.cells #[.int .i64 aD,.slice bE aA.length bC] 26 (0,0)) (uB nE.out) hW_) (Kd.dH (by exact uC ((Kd.dH iY.out HB.out))) hW_) (by exact jo.out) (bu (g:=Hu) (o:=.cells #[.int .i64 a1] 2 (0,0)) (uB zn.out) hW_) A3.out).mono fun e_ W2_ h_=>⟨h_.1,h_.2⟩)));(case side4=>exact Kd.Mq _ _);(case side5=>exact Nat.le_refl _);rintro e w19 ⟨rfl,hb⟩;refine ⟨_,rfl,?_⟩;replace nE:=xB nE hb;replace zn:=xB zn hb;replace HB:=xH HB hb;(try clear hb)));go_ret2;exact ⟨eX,uH HB.out⟩
 clear c5;replace H:=bO H;obtain ⟨t157,A6,H⟩:=H;simp only [Option.some.injEq,Prod.mk.injEq] at H;obtain ⟨rfl,rfl⟩:=H;go_enter Try.func19,Try.ntmps19;go_wp2_with (first | (refine bX 2 rfl #[.int .i64 aD,.slice bE aA.length bC] 26 ?_;intro Ht w7 hg nE hb;have WM:=gq HB hg;have:=geI WM;replace HB:=xH HB hb;clear hb hg) | ((with_reducible refine dz (N:=3) rfl ?_);refine bx 3 #[.int .i64 a1] 2 ?_;intro Hu hg w8 hbox hb;have zn:=zA (hbox);have WN:=gq HB hg;have:=geI WN;have WO:=gq HB hg;replace HB:=xH HB hb;have Em:=nL nE hg;have En:=nG nE hg;replace nE:=xB nE hb;have:=geI WO;clear hb hbox hg;have azL:=Em.out;have azM:=En.out;have wH:=bc nE 0;have wI:=bc nE 1;have wJ:=bf nE 0;have wK:=bf nE 1) | ((with_reducible refine ag (f:=29) rfl ?_);refine gL (some 9) Try.func29 #[.agg #[.int .i64 aD,.slice bE aA.length bC],(.func (.func 55) #[] #[.pointer (some ⟨Ht,0,none⟩),.pointer (some ⟨Hu,0,none⟩)]),.slice none 0 0] ?_;(refine (iX.calls k aD _ _ aA _ aag _ _ ([] : List (List Int)) t156 _ ?side1 ?side2 ?side3 ?side4 ?side5 A4.out).mono ?_);(case side1=>exact uC ((Kd.dH iY.out HB.out)));(case side2=>exact jo.out);(case side3=>exact FnB.of Try.func55 (by kernel_rfl) rfl (fun W_ hW_=>eD (args':=#[.pointer (some ⟨Ht,0,none⟩),.pointer (some ⟨Hu,0,none⟩)]) (by simp) ((gz.calls _ aD _ _ aA _ a1 _ W_ (bu (g:=Ht) (o:=.cells #[.int .i64 aD,.slice bE aA.length bC] 26 (0,0)) (uB nE.out) hW_) (Kd.dH (by exact uC ((Kd.dH iY.out HB.out))) hW_) (by exact jo.out) (bu (g:=Hu) (o:=.cells #[.int .i64 a1] 2 (0,0)) (uB zn.out) hW_) A3.out).mono fun e_ W2_ h_=>⟨h_.1,h_.2⟩)));(case side4=>exact Kd.Mq _ _);(case side5=>exact Nat.le_refl _);rintro e w11 ⟨rfl,hb⟩;refine ⟨_,rfl,?_⟩;replace nE:=xB nE hb;replace zn:=xB zn hb;replace HB:=xH HB hb;(try clear hb);have O9:=bc nE 0;have Pb:=bc nE 1;have Pd:=bf nE 0;have Pe:=bf nE 1;have rA:=bc zn 0;have rC:=bf zn 0) | ((with_reducible refine ag (f:=57) rfl ?_);refine gL (some 15) Try.func57 #[.agg #[.int .i64 aD,.slice bE aA.length bC],.int .i64 a1] ?_;(with_reducible refine (dY.calls k aD (fun k_=>k_ < w.heap.size) _ _ aA a1 t157 _ ?side1 A6.out).mono ?_);(case side1=>exact Kd.aha jo.out (Kd.BC (Kd.C_F (Kd.WP .i64) iY.out) (uH HB.out)));rintro e w14 ⟨rfl,hb⟩;refine ⟨_,rfl,?_⟩;replace nE:=xB nE hb;replace zn:=xB zn hb;replace HB:=xH HB hb;(try clear hb)));go_ret2;exact ⟨eX,uH HB.out⟩
/- A list of rows of one's own in memory, of which the rows are read and the slots are set (rows may share their blocks); the reference's callees in plain form. -/
/-- The block q holds a row. -/
def Row (e' : TypeId) (w : World) (b q n : Nat) (l : List Int) : Prop:=b ≤ q∧∃ cur : Array Value,w.heap[q]? = some (.cells cur e' (0,0))∧∀ k,k < n → cur[k]? = some (.int .i64 (l.getD k 0))
section
variable {e e' : TypeId} {w w1 : World} {b g n q : Nat} {l : List Int} {M : Nat → List Int}
theorem Row.cell (h : Row e' w b q n l) {k : Nat} (hk : k < n) : w.cell? ⟨q,k,none⟩ = some (.int .i64 (l.getD k 0)):=by
  obtain ⟨_,cur,hc,hr⟩:=h
  rw [bG hc k]
  exact hr k hk
theorem Row.step (h : Row e' w b q n l) (hm : w1.heap[q]? = w.heap[q]?) : Row e' w1 b q n l:=by
  obtain ⟨hb,cur,hc,hr⟩:=h
  exact ⟨hb,cur,hm.trans hc,hr⟩
theorem Row.below (h : Row e' w b q n l) (hb : Below w.heap.size w w1) : Row e' w1 b q n l:=h.step (by
  obtain ⟨_,cur,hc,_⟩:=h
  exact hb.block _ (qK hc))
theorem Row.far (h : Row e' w b q n l) {cs : Array Value} (hg : w.heap[g]? = some (.cells cs e (0,0))) (he : e ≠ e') (i : Nat) (u : Value) : Row e' (w.setCell ⟨g,i,none⟩ u) b q n l:=h.step (by
  obtain ⟨_,cur,hc,_⟩:=h
  exact Below.heap_setCell w ⟨g,i,none⟩ u q (NQ hc hg (Ne.symm he)))
structure Ms (e e' : TypeId) (w : World) (b g n : Nat) (M : Nat → List Int) : Prop where
  bg : b ≤ g
  out : ∃ cs : Array Value,w.heap[g]? = some (.cells cs e (0,0))∧∀ i,i < n → ∃ q c,cs[i]? = some (.slice (some ⟨q,0,none⟩) n c)∧Row e' w b q n (M i)
theorem Ms.get (h : Ms e e' w b g n M) {i : Nat} (hi : i < n) : ∃ q c,w.cell? ⟨g,i,none⟩ = some (.slice (some ⟨q,0,none⟩) n c)∧Row e' w b q n (M i):=by
  obtain ⟨cs,hc,hr⟩:=h.out
  obtain ⟨q,c,hq,hR⟩:=hr i hi
  exact ⟨q,c,by rw [bG hc i];exact hq,hR⟩
theorem Ms.frozen (h : Ms e e' w b g n M) (i : Nat) : w.frozen? ⟨g,i,none⟩ = false:=by
  obtain ⟨cs,hc,_⟩:=h.out
  exact ko hc i
theorem Ms.below (h : Ms e e' w b g n M) (hb : Below w.heap.size w w1) : Ms e e' w1 b g n M:=by
  obtain ⟨cs,hc,hr⟩:=h.out
  exact ⟨h.bg,cs,bu hc hb,fun i hi=>by
    obtain ⟨q,c,hq,hR⟩:=hr i hi
    exact ⟨q,c,hq,hR.below hb⟩⟩
theorem Ms.far (h : Ms e e' w b g n M) (he : e ≠ e') {q' : Nat} {l' : List Int} (hR : Row e' w b q' n l') (i : Nat) (u : Value) : Row e' (w.setCell ⟨g,i,none⟩ u) b q' n l':=by
  obtain ⟨cs,hc,_⟩:=h.out
  exact hR.far hc he i u
theorem Ms.set (h : Ms e e' w b g n M) (he : e ≠ e') {i c : Nat} (hi : i < n) (hR : Row e' w b q n l) :
    Ms e e' (w.setCell ⟨g,i,none⟩ (.slice (some ⟨q,0,none⟩) n c)) b g n (fun t=>if t = i then l else M t):=by
  obtain ⟨cs,hc,hr⟩:=h.out
  refine ⟨h.bg,_,rG hc i _,fun t ht=>?_⟩
  obtain ⟨q1,c1,hq,hR1⟩:=hr t ht
  by_cases ti : t = i
  · subst ti
    refine ⟨q,c,?_,?_⟩
    · rw [Array.getElem?_setIfInBounds_self_of_lt (Array.getElem?_eq_some_iff.1 hq).1]
    · simp only [if_true]
      exact hR.far hc he t _
  · refine ⟨q1,c1,?_,?_⟩
    · rw [Array.getElem?_setIfInBounds_ne (Ne.symm ti)];exact hq
    · simp only [if_neg ti]
      exact hR1.far hc he i _
theorem Ms.congr {M' : Nat → List Int} (h : Ms e e' w b g n M) (hM : ∀ i,i < n → M i = M' i) : Ms e e' w b g n M':=by
  obtain ⟨cs,hc,hr⟩:=h.out
  exact ⟨h.bg,cs,hc,fun i hi=>by
    obtain ⟨q,c,hq,hR⟩:=hr i hi
    exact ⟨q,c,hq,by rw [← hM i hi];exact hR⟩⟩
/-- A row of rows, each as long as there are rows. -/
theorem amC {ok : Nat → Prop} {v : Value} {rows : List (List Int)} {base : Nat} (h : Kd.R (Kd.slice e' (Kd.int .i64)) e w base ok v rows) (h0 : 0 < rows.length) (hl : ∀ r ∈ rows,r.length = rows.length) :
    ∃ g c,v = .slice (some ⟨g,0,none⟩) rows.length c∧Ms e e' w base g rows.length (fun i=>rows.getD i []):=by
  obtain ⟨g,c,rfl,hb,_,cs,hc⟩:=Kd.Dx h h0
  refine ⟨g,c,rfl,hb,cs,hc,fun i hi=>?_⟩
  obtain ⟨cl,hcl,⟨v1,rfl,hR⟩,hcc⟩:=Kd.ag7 h ([] : List Int) (i : Int) (by omega) (by omega)
  simp only [mZ] at hR hcc
  have hlen : (rows.getD i []).length = rows.length:=hl _ (vY hi)
  obtain ⟨q,c',cur,rfl,h1,h2,h3,h4⟩:=GD hR (by rw [hlen];exact h0)
  rw [hlen] at h4
  refine ⟨q,c',?_,h1,cur,h3,h4⟩
  have h5:=hcc 0 _ rfl
  have he : (⟨g,0,none⟩ : Addr).add (i * (Kd.slice e' (Kd.int .i64)).sz + 0) = ⟨g,i,none⟩:=by rw [addr_add];show (⟨g,0 + (i * 1 + 0),none⟩ : Addr) = _;rw [show 0 + (i * 1 + 0) = i from by omega]
  rw [he,bG hc,hlen] at h5
  exact h5
end
theorem Hw {p : Int} (hp : Pm p) {x y : Int} (h : x % p = y) (w : World) : Calls Try.prog 76 #[.int .i64 p,.int .i64 x] w fun e w'=>e = .returned (.int .i64 y)∧aQ w w' :=
  lY.calls p x y w (by unfold lY.f;rw [if_neg hp.ne,JS hp,h])
theorem OW {p : Int} (hp : Pm p) {x y : Int} (hx : 0 ≤ x∧x < p) (h : vM p x = y) (w : World) : Calls Try.prog 75 #[.int .i64 p,.int .i64 x] w fun e w'=>e = .returned (.int .i64 y)∧aQ w w':=by
  obtain ⟨K,hK⟩:=NM hp hx
  subst h
  exact jK.calls K p x _ w (hK K (Nat.le_refl _))
/- The reference's determinant: for own square rows of numbers modulo p it computes M5. -/
def ku.f (_k : Nat) (a0 : Int) (l1 : List (List Int)) : Option Int:=if Q6 a0 l1 then some (M5 a0 l1) else none
def ku.T24 : Bool × List (List Nat × List Nat):=(true,[([],[]),([],[]),([],[]),([],[]),([2,3],[2,3]),([4],[4]),([],[]),([5,6],[5,6]),([7],[7]),([],[]),([],[]),([],[]),([10,11],[10,11]),([12],[12]),([9,13],[9,13]),([8,14],[8,14]),([1,15],[1,15]),([16],[16]),([0,17,16],[0,17]),([18,18,0,1,2,3,4,5,6,7,8,9,10,11,12,13,14,15,16,17,18],[0,18])])
def ku.B24 : List Nat:=[0,0,0,0,12,28,0,124,252,0,0,0,3072,7168,15872,32764,65534,131070,262143,524287]
theorem ku.We : l6 .any (opsOf Try.f101 24) = ku.T24:=by kernel_rfl
theorem ku.OM : jV ku.T24.2 ku.B24 = true:=by kernel_rfl

set_option maxHeartbeats 8000000 in
set_option maxRecDepth 100000 in
theorem ku.calls (k : Nat) (a0 : Int) (v1 : Value) (l1 : List (List Int)) (r : Int) (w W : World) (ok : Nat → Prop) (hB : Below w.heap.size w W) (hR : Kd.R (Kd.slice 2 (Kd.int .i64)) 24 W w.heap.size ok v1 l1) (h : ku.f k a0 l1 = some r) :
    Calls Try.prog 101 #[.int .i64 a0,v1] W fun e w'=>e = .returned (.int .i64 r)∧Below w.heap.size w w':=by
  unfold ku.f at h
  split at h
  case isFalse=>cases h
  rename_i c2
  have HD:=aa.mk (Option.some.inj h)
  clear h
  obtain ⟨⟨hp2,hpt⟩,hn,hrows⟩:=c2
  have HP:=aa.mk (Pm.mk hp2 hpt)
  have HN:=aa.mk hn
  have HROWS:=aa.mk hrows
  have HB:=aa.mk hB
  clear hp2 hpt hn hB
  have HMK : aa (Try.prog.underlying 24 = some (.slice 2)):=⟨Try.underlying24⟩
  have HIN : aa ((Try.prog.info? 2).map (fun i=>(i.zero,i.size,i.bytes)) = some (some (.int .i64 0),1,8)):=⟨by kernel_rfl⟩
  by_cases h0 : 0 < l1.length
  case neg =>
    obtain rfl : l1 = []:=List.length_eq_zero_iff.1 (by omega)
    obtain ⟨A,c,rfl⟩:=Kd.aW hR
    clear hR hrows h0
    have e : (1 : Int) = r:=HD.out
    subst e
    go_enter Try.func101,Try.ntmps101
    go_wp2
    go_loopg [5,7] 1 (fun kq v5 v7 w'=>v5 = .int .i64 1∧v7 = .int .i64 0∧aa (Below w.heap.size w w'))
    case atStart=>exact ⟨rfl,rfl,⟨uH HB.out⟩⟩
    case round =>
      clear HB
      obtain ⟨rfl,rfl,HB⟩:=hrel
      have c1 : decide ((0 : Int) < 0) = false:=rfl
      go_wp2
      go_ret
      exact ⟨rfl,uH HB.out⟩
  case pos =>
    obtain ⟨g,cap,rfl,hM⟩:=amC hR h0 (fun x hx=>(hrows x hx).1)
    have HM:=aa.mk hM
    have H0:=aa.mk h0
    clear hM hR hrows h0
    go_enter Try.func101,Try.ntmps101
    go_wp2
    go_loopg [5,7] (l1.length + 1) (fun kq v5 v7 w'=>∃ (c : Nat) (o : Int) (M : Nat → List Int),v5 = .int .i64 o∧v7 = .int .i64 (c : Int)∧aa (kq + c = l1.length + 1∧c ≤ l1.length)∧aa ((0 ≤ o∧o < a0)∧∀ i,i < l1.length → Nm a0 (M i))∧aa (ry a0 l1.length (l1.length - c) c M o = r)∧aa (Ms 24 2 w' w.heap.size g l1.length (M))∧aa (Below w.heap.size w w'))
    case atStart=>exact ⟨0,1,_,rfl,rfl,⟨by omega,by omega⟩,⟨⟨by omega,by have:=HP.out.two;omega⟩,fun i hi=>(HROWS.out _ (vY hi)).2⟩,HD,⟨HM.out.below (by repeat (first | exact Below.refl _ _ | apply aU | apply bn))⟩,⟨uH HB.out⟩⟩
    case round =>
      clear HM HB HD
      obtain ⟨c,o,M,rfl,rfl,HC,HO,HG,HM,HB⟩:=hrel
      by_cases cc : c < l1.length
      case neg =>
        obtain rfl : c = l1.length:=by have:=HC.out;omega
        have c1 : decide ((l1.length : Int) < (l1.length : Int)) = false:=decide_eq_false (by omega)
        have e : o = r:=by have:=HG.out;rw [Nat.sub_self,ry] at this;exact this
        subst e
        go_wp2
        go_ret
        exact ⟨rfl,uH HB.out⟩
      case pos =>
        have c1 : decide ((c : Int) < (l1.length : Int)) = true:=decide_eq_true (by omega)
        have CC:=aa.mk cc
        obtain ⟨P,hP⟩ : ∃ P,pivot M c (l1.length - c) c = P:=⟨_,rfl⟩
        have HPE:=aa.mk hP
        clear hP
        go_wp2
        clear cc c1
        go_loopg [8] (l1.length + 1 - c) (fun kq v8 w'=>∃ s : Nat,v8 = .int .i64 (s : Int)∧aa (kq + s = l1.length + 1∧c ≤ s∧s ≤ l1.length)∧aa (pivot M c (l1.length - s) s = P)∧aa (Ms 24 2 w' w.heap.size g l1.length (M))∧aa (Below w.heap.size w w'))
        case atStart=>exact ⟨c,rfl,⟨by have:=CC.out;omega,by omega,by have:=CC.out;omega⟩,HPE,⟨HM.out.below (by repeat (first | exact Below.refl _ _ | apply aU | apply bn))⟩,⟨uH HB.out⟩⟩
        case round =>
          clear HM HB
          obtain ⟨s,rfl,HS,HPS,HM,HB⟩:=hrel
          by_cases cs : s < l1.length
          case neg =>
            obtain rfl : s = l1.length:=by have:=HS.out;omega
            have c1 : decide ((l1.length : Int) < (l1.length : Int)) = false:=decide_eq_false (by omega)
            have hP : P = l1.length:=by have:=HPS.out;rw [Nat.sub_self,pivot] at this;exact this.symm
            have e : (0 : Int) = r:=by
              have h:=HG.out
              rw [show l1.length - c = (l1.length - c - 1) + 1 from by have:=CC.out;omega,ry,if_pos (by rw [HPE.out,hP])] at h
              exact h
            subst e
            clear hP
            go_wp2
            go_ret
            exact ⟨rfl,uH HB.out⟩
          case pos =>
            have c1 : decide ((s : Int) < (l1.length : Int)) = true:=decide_eq_true (by omega)
            obtain ⟨q,cq,hx,hrow⟩:=HM.out.get cs
            have HROW:=aa.mk hrow
            obtain ⟨y0,hy0⟩ : ∃ y0,(M s).getD c 0 = y0:=⟨_,rfl⟩
            have hcell:=hrow.cell CC.out
            rw [hy0] at hcell
            have CS:=aa.mk cs
            have HY:=aa.mk hy0
            clear hrow hy0
            have q0 : (0 ≤ (s : Int)) = True:=eq_true (by omega)
            have q1 : ((s : Int) < (l1.length : Int)) = True:=eq_true (by omega)
            have q2 : (0 ≤ (c : Int)) = True:=eq_true (by omega)
            have q3 : ((c : Int) < (l1.length : Int)) = True:=eq_true (by have:=CC.out;omega)
            by_cases hy : y0 = 0
            case pos =>
              subst hy
              have e0 : ((0 : Int) == 0) = true:=rfl
              go_wp2
              go_roundg (l1.length - s)
              case measure=>have:=HS.out;have:=CS.out;omega
              case rel =>
                refine ⟨s + 1,by rw [lW CS.out (by have:=HN.out;omega)],⟨by have:=HS.out;have:=CS.out;omega,by have:=HS.out;omega,CS.out⟩,⟨?_⟩,⟨HM.out.below (by repeat (first | exact Below.refl _ _ | apply aU | apply bn))⟩,⟨uH HB.out⟩⟩
                have h:=HPS.out
                rw [show l1.length - s = (l1.length - (s + 1)) + 1 from by have:=CS.out;omega,pivot,if_pos HY.out] at h
                exact h
            case neg =>
              have e0 : (y0 == 0) = false:=beq_eq_false_iff_ne.mpr hy
              have hP : P = s:=by
                have h:=HPS.out
                rw [show l1.length - s = (l1.length - (s + 1)) + 1 from by have:=CS.out;omega,pivot,if_neg (by rw [HY.out];exact hy)] at h
                exact h.symm
              subst hP
              have hG : ry a0 l1.length (l1.length - (c + 1)) (c + 1) (yD a0 (vM a0 ((M P).getD c 0)) l1.length c (lh M c P)) ((if P = c then o else (-o) % a0) * (M P).getD c 0 % a0) = r:=by
                have h:=HG.out
                rw [show l1.length - c = (l1.length - c - 1) + 1 from by have:=CC.out;omega,ry,if_neg (by rw [HPE.out];have:=CS.out;omega),HPE.out] at h
                rw [show l1.length - (c + 1) = l1.length - c - 1 from by omega]
                exact h
              clear HG HPE HPS
              have HG:=aa.mk hG
              have hsn : ((P : Int) == (l1.length : Int)) = false:=beq_eq_false_iff_ne.mpr (by omega)
              clear hG
              go_upto_if 47 with (fail)
              clear e0 hsn q0 q1 q2 q3 c1
              go_cut [5] (fun v5 wc=>v5 = .int .i64 (if P = c then o else (-o) % a0)∧aa (Ms 24 2 wc w.heap.size g l1.length (lh M c P))∧aa (Row 2 wc w.heap.size q l1.length (M P))∧aa (Below w.heap.size w wc))
              case first =>
                clear hx hcell
                by_cases hpc : P = c
                case pos =>
                  have e1 : ((P : Int) != (c : Int)) = false:=bne_eq_false_iff_eq.mpr (by rw [hpc])
                  have e2 : ((P : Int) == (c : Int)) = true:=beq_iff_eq.mpr (by rw [hpc])
                  have hpi : (P : Int) = (c : Int):=by rw [hpc]
                  go_wp2
                  go_meet
                  case rel =>
                    have e : lh M c P = M:=funext fun i=>by
                      unfold lh
                      by_cases hi : i = c
                      · rw [if_pos hi,hpc,hi]
                      · rw [if_neg hi,if_neg (by rw [hpc];exact hi)]
                    exact ⟨by rw [if_pos hpc],⟨by rw [e];exact HM.out.below (by repeat (first | exact Below.refl _ _ | apply aU | apply bn))⟩,⟨HROW.out.below (by repeat (first | exact Below.refl _ _ | apply aU | apply bn))⟩,⟨uH HB.out⟩⟩
                case neg =>
                  have e1 : ((P : Int) != (c : Int)) = true:=bne_iff_ne.mpr (by omega)
                  have e2 : ((P : Int) == (c : Int)) = false:=beq_eq_false_iff_ne.mpr (by omega)
                  have hpi : ¬ (P : Int) = (c : Int):=by omega
                  obtain ⟨qc,kc,hxc,hrowc⟩:=HM.out.get CC.out
                  have HROWC:=aa.mk hrowc
                  obtain ⟨qp,kp,hxp,_⟩:=HM.out.get CS.out
                  have hfp:=HM.out.frozen P
                  clear hrowc
                  have q0 : (0 ≤ (P : Int)) = True:=eq_true (by omega)
                  have q1 : ((P : Int) < (l1.length : Int)) = True:=eq_true (by omega)
                  have q2 : (0 ≤ (c : Int)) = True:=eq_true (by omega)
                  have q3 : ((c : Int) < (l1.length : Int)) = True:=eq_true (by have:=CC.out;omega)
                  go_wp2_with (first | ((with_reducible refine Bo (t:=24) (p:=54) rfl ?_);refine yX (t:=24) (p:=54) (v:=?vo) (w1:=(wr.setCell ⟨g,P,none⟩ (.slice (some ⟨qc,0,none⟩) l1.length kc))) ?hg ?ho ?hn ?hr ?_;(case ho=>rfl);(case hg=>rfl);(case hn=>rfl);(case hr=>first | (go_simp;done) | (go_simp;rfl));intro w2 hw;have n0_:=aa.mk (HM.out.set (c:=kc) (by decide) CS.out HROWC.out);have n1_:=aa.mk (HM.out.far (by decide) HROW.out P (.slice (some ⟨qc,0,none⟩) l1.length kc));have n2_:=aa.mk (mG (j:=P) (v:=.slice (some ⟨qc,0,none⟩) l1.length kc) HB.out HM.out.bg);rw [← hw] at n0_ n1_ n2_;clear HM HB HROW hw hxc hxp hfp HROWC;have HM:=n0_;have HROW:=n1_;have HB:=n2_;clear n0_ n1_ n2_;obtain ⟨qd,kd,hxd,_⟩:=HM.out.get CC.out;have hfc:=HM.out.frozen c) | ((with_reducible refine ag (f:=76) rfl ?_);refine gL (some 62) Try.func76 #[.int .i64 a0,.int .i64 (wrap64 (-o))] ?_;refine (Hw HP.out (y:=(-o) % a0) ?wv _).mono ?_;(case wv=>have:=HO.out;have:=HP.out.top;rw [dQ (by omega) (by omega)]);rintro e w' ⟨rfl,⟨nd,rfl⟩⟩;refine ⟨_,rfl,?_⟩))
                  go_meet
                  case rel =>
                    have n0_:=(HM.out.set (c:=cq) (by decide) CC.out HROW.out).congr (M':=lh M c P) (fun i _=>rfl)
                    have n1_:=HM.out.far (by decide) HROW.out c (.slice (some ⟨q,0,none⟩) l1.length cq)
                    have n2_:=mG (j:=c) (v:=.slice (some ⟨q,0,none⟩) l1.length cq) HB.out HM.out.bg
                    exact ⟨by rw [if_neg hpc],⟨n0_.below (by repeat (first | exact Below.refl _ _ | apply aU | apply bn))⟩,⟨n1_.below (by repeat (first | exact Below.refl _ _ | apply aU | apply bn))⟩,⟨uH n2_⟩⟩
              case rest =>
                clear HM HB HROW hx hcell
                obtain ⟨rfl,HM,HROW,HB⟩:=hcut
                have hMc : lh M c P c = M P:=by unfold lh;rw [if_pos rfl]
                have hNm : ∀ i,i < l1.length → Nm a0 (lh M c P i):=fun i hi=>by
                  unfold lh
                  by_cases h1 : i = c
                  · rw [if_pos h1];exact HO.out.2 _ CS.out
                  · by_cases h2 : i = P
                    · rw [if_neg h1,if_pos h2];exact HO.out.2 _ CC.out
                    · rw [if_neg h1,if_neg h2];exact HO.out.2 _ hi
                have hoB : 0 ≤ (if P = c then o else (-o) % a0)∧(if P = c then o else (-o) % a0) < a0:=by
                  by_cases h1 : P = c
                  · rw [if_pos h1];exact HO.out.1
                  · rw [if_neg h1];exact nI HP.out.pos _
                have hG:=HG.out
                have hR1:=HROW.out
                have hy1:=HY.out
                rw [← hMc] at hG hR1 hy1
                clear HG hMc HO HROW HY hy
                generalize lh M c P = M1 at HM hNm hG hR1 hy1
                generalize (if P = c then o else (-o) % a0) = o1 at hoB hG ⊢
                have KR:=(hNm c CC.out).BA HP.out.pos c
                rw [hy1] at KR hG
                obtain ⟨o2,ho2⟩ : ∃ o2,o1 * y0 % a0 = o2:=⟨_,rfl⟩
                obtain ⟨iv,hiv⟩ : ∃ iv,vM a0 y0 = iv:=⟨_,rfl⟩
                have hivB:=JU HP.out y0
                rw [hiv] at hivB
                rw [ho2,hiv] at hG
                have hm1:=Bj HP.out hoB.1 hoB.2 KR.1 KR.2
                have hmul : IntKind.i64.wrap (o1 * y0) = o1 * y0:=by rw [jZ,dQ (by omega) (by omega)]
                have htm : Int.tmod (o1 * y0) a0 = o2:=by rw [j6 hm1.1,ho2]
                have afP : aa (0 ≤ o2∧o2 < a0):=⟨by rw [← ho2];exact nI HP.out.pos _⟩
                have HG:=aa.mk hG
                have HNM:=aa.mk hNm
                have HROW:=aa.mk hR1
                have HY:=aa.mk hy1
                have HYB:=aa.mk KR
                have HIV:=aa.mk hiv
                have HIVB:=aa.mk hivB
                have hcell : wc.cell? ⟨q,c,none⟩ = some (.int .i64 y0):=by rw [← hy1];exact hR1.cell CC.out
                clear hG hNm hR1 hy1 KR hiv hivB hm1 ho2 hoB HS CS cs
                have hpz : (a0 == 0) = false:=beq_eq_false_iff_ne.mpr HP.out.ne
                have hpz2 : ¬ a0 = 0:=HP.out.ne
                have q2 : (0 ≤ (c : Int)) = True:=eq_true (by omega)
                have q3 : ((c : Int) < (l1.length : Int)) = True:=eq_true (by have:=CC.out;omega)
                have hadd : IntKind.i64.wrap ((c : Int) + 1) = ((c + 1 : Nat) : Int):=by rw [jZ,lW CC.out (by have:=HN.out;omega)]
                go_wp2_with (first | ((with_reducible refine ag (f:=75) rfl ?_);refine gL (some 76) Try.func75 #[.int .i64 a0,.int .i64 y0] ?_;refine (OW HP.out HYB.out HIV.out _).mono ?_;rintro e w' ⟨rfl,⟨nd,rfl⟩⟩;refine ⟨_,rfl,?_⟩))
                have n0_:=aa.mk (HM.out.below (bn (Below.refl _ _) nd))
                have n1_:=aa.mk (HROW.out.below (bn (Below.refl _ _) nd))
                have n2_:=aa.mk (bn HB.out nd)
                clear HM HROW HB hcell hmul htm q2 q3 hadd
                have HM:=n0_;have HROW:=n1_;have HB:=n2_
                clear n0_ n1_ n2_
                generalize wc.drewN nd = w4 at HM HROW HB ⊢
                obtain ⟨E,hE⟩ : ∃ E : Nat → List Int,E = fun i=>mR a0 ((M1 i).getD c 0 * iv % a0) (M1 i) (M1 c) l1.length:=⟨_,rfl⟩
                have HE:=aa.mk hE
                clear hE
                go_loopg [11] (l1.length - c) (fun kq v11 w'=>∃ s : Nat,v11 = .int .i64 (s : Int)∧aa (kq + s = l1.length + 1∧c < s∧s ≤ l1.length)∧aa (Ms 24 2 w' w.heap.size g l1.length (fun t=>if c < t∧t < s then E t else M1 t))∧aa (Row 2 w' w.heap.size q l1.length (M1 c))∧aa (Below w.heap.size w w'))
                case atStart =>
                  refine ⟨c + 1,rfl,⟨by have:=CC.out;omega,by omega,CC.out⟩,⟨(HM.out.below (by repeat (first | exact Below.refl _ _ | apply aU | apply bn))).congr fun t _=>?_⟩,⟨HROW.out.below (by repeat (first | exact Below.refl _ _ | apply aU | apply bn))⟩,⟨uH HB.out⟩⟩
                  rw [if_neg (by omega)]
                case round =>
                  clear HM HROW HB
                  obtain ⟨s,rfl,HS,HM,HROW,HB⟩:=hrel
                  by_cases cs : s < l1.length
                  case neg =>
                    obtain rfl : s = l1.length:=by have:=HS.out;omega
                    have c1 : decide ((l1.length : Int) < (l1.length : Int)) = false:=decide_eq_false (by omega)
                    go_wp2
                    go_roundg (l1.length - c)
                    case measure=>have:=HC.out;have:=CC.out;omega
                    case rel =>
                      refine ⟨c + 1,o2,yD a0 iv l1.length c M1,rfl,by rw [lW CC.out (by have:=HN.out;omega)],⟨by have:=HC.out;have:=CC.out;omega,CC.out⟩,⟨afP.out,fun t ht=>?_⟩,HG,⟨(HM.out.below (by repeat (first | exact Below.refl _ _ | apply aU | apply bn))).congr fun t ht=>?_⟩,⟨uH HB.out⟩⟩
                      · unfold yD
                        by_cases h1 : c < t
                        · rw [if_pos h1];exact Be HP.out.pos _ _ _ _
                        · rw [if_neg h1];exact HNM.out t ht
                      · unfold yD
                        by_cases h1 : c < t
                        · rw [if_pos h1,if_pos (by omega),HE.out]
                        · rw [if_neg h1,if_neg (by omega)]
                  case pos =>
                    have CS:=aa.mk cs
                    have c1 : decide ((s : Int) < (l1.length : Int)) = true:=decide_eq_true (by omega)
                    obtain ⟨qs,ks,hx,hrow⟩:=HM.out.get cs
                    simp only [if_neg (show ¬ (c < s∧s < s) from by omega)] at hrow
                    obtain ⟨x0,hx0⟩ : ∃ x0,(M1 s).getD c 0 = x0:=⟨_,rfl⟩
                    have hcell:=hrow.cell CC.out
                    have hxB:=(HNM.out s cs).BA HP.out.pos c
                    rw [hx0] at hcell hxB
                    obtain ⟨f,hf⟩ : ∃ f,x0 * iv % a0 = f:=⟨_,rfl⟩
                    have hm1:=Bj HP.out hxB.1 hxB.2 HIVB.out.1 HIVB.out.2
                    have hmul : IntKind.i64.wrap (x0 * iv) = x0 * iv:=by rw [jZ,dQ (by omega) (by omega)]
                    have htm : Int.tmod (x0 * iv) a0 = f:=by rw [j6 hm1.1,hf]
                    have HF : aa (E s = mR a0 f (M1 s) (M1 c) l1.length):=⟨by rw [HE.out,← hf,← hx0]⟩
                    have HFB : aa (0 ≤ f∧f < a0):=⟨by rw [← hf];exact nI HP.out.pos _⟩
                    have HRS:=aa.mk hrow
                    clear hrow hx0 hxB hf hm1
                    have q0 : (0 ≤ (s : Int)) = True:=eq_true (by omega)
                    have q1 : ((s : Int) < (l1.length : Int)) = True:=eq_true (by omega)
                    have q2 : (0 ≤ (c : Int)) = True:=eq_true (by omega)
                    have q3 : ((c : Int) < (l1.length : Int)) = True:=eq_true (by have:=CC.out;omega)
                    obtain ⟨W1,hW1⟩ : ∃ W1,W1 = wr:=⟨_,rfl⟩
                    subst hW1
                    go_wp2_with (first | ((with_reducible refine dz (N:=95) rfl ?_);refine Kd.rD (Kd.int .i64) _ 2 ?hg (N:=95) ?hd (xs:=([] : List Int)) (inner:=[]) (ok:=fun _=>True) (okp:=fun _=>True) ?hr ?hp (fun _ hk=>hk) trivial (Below.refl _ _) (Nat.le_refl _) (by simp) ?_;(case hd=>rfl);(case hg=>rfl);(case hr=>first | (go_simp;done) | (go_simp;rfl));(case hp=>exact (cB.none _ _));intro v95 w5 ho hb hg_ hnew_;clear hg_ hnew_;have HN0:=aa.mk ho;have HB0:=aa.mk hb;clear ho hb))
                    clear hmul htm hcell q2 q3 c1 hpz hpz2
                    have HX:=aa.mk hx
                    clear hx
                    go_loopg [13,14] (l1.length + 1) (fun kq v13 v14 w'=>∃ (z13 : Value) (p : Nat),v13 = z13∧v14 = .int .i64 (p : Int)∧aa (kq + p = l1.length + 1∧p ≤ l1.length)∧aa (Kd.R (Kd.int .i64) 2 w' W1.heap.size (fun _=>True) z13 (mR a0 f (M1 s) (M1 c) p))∧aa (Below W1.heap.size W1 w'))
                    case atStart=>exact ⟨_,0,rfl,rfl,⟨by omega,by omega⟩,⟨uR HN0.out⟩,⟨uH HB0.out⟩⟩
                    case round =>
                      clear HN0 HB0
                      obtain ⟨z13,p,amD,rfl,HPP,HN0,HB0⟩:=hrel
                      rw [amD]
                      clear amD
                      by_cases cp : p < l1.length
                      case neg =>
                        obtain rfl : p = l1.length:=by have:=HPP.out;omega
                        have c1 : decide ((l1.length : Int) < (l1.length : Int)) = false:=decide_eq_false (by omega)
                        obtain ⟨q2,k2,cur,rfl,hb2,hl2,hc2,hr2⟩:=GD HN0.out (by rw [yS];exact H0.out)
                        rw [yS] at hr2 hl2 ⊢
                        have n0_:=aa.mk (HM.out.below HB0.out)
                        have n1_:=aa.mk (HROW.out.below HB0.out)
                        have n2_:=xH HB HB0.out
                        have HR2 : aa (Row 2 wr w.heap.size q2 l1.length (E s)):=⟨Nat.le_trans (av HB.out) hb2,cur,hc2,by rw [HF.out];exact hr2⟩
                        have hx2:=je HB0.out HX.out
                        clear HM HROW HB hb2 hl2 hc2 hr2 HN0
                        have HM:=n0_;have HROW:=n1_;have HB:=n2_
                        clear n0_ n1_ n2_
                        have hfs:=HM.out.frozen s
                        go_wp2
                        go_roundg (l1.length - s)
                        case measure=>have:=HS.out;have:=CS.out;omega
                        case rel =>
                          have n0_:=(HM.out.set (c:=k2) (by decide) CS.out HR2.out).congr (M':=fun t=>if c < t∧t < s + 1 then E t else M1 t) (fun t ht=>by
                            by_cases hts : t = s
                            · rw [if_pos hts,if_pos (by have:=HS.out;omega),hts]
                            · rw [if_neg hts]
                              by_cases h2 : c < t∧t < s
                              · rw [if_pos h2,if_pos (by omega)]
                              · rw [if_neg h2,if_neg (by omega)])
                          have n1_:=HM.out.far (by decide) HROW.out s (.slice (some ⟨q2,0,none⟩) l1.length k2)
                          have n2_:=mG (j:=s) (v:=.slice (some ⟨q2,0,none⟩) l1.length k2) HB.out HM.out.bg
                          exact ⟨s + 1,by rw [lW CS.out (by have:=HN.out;omega)],⟨by have:=HS.out;have:=CS.out;omega,by have:=HS.out;omega,CS.out⟩,⟨n0_.below (by repeat (first | exact Below.refl _ _ | apply aU | apply bn))⟩,⟨n1_.below (by repeat (first | exact Below.refl _ _ | apply aU | apply bn))⟩,⟨uH n2_⟩⟩
                      case pos =>
                        have CP:=aa.mk cp
                        have c1 : decide ((p : Int) < (l1.length : Int)) = true:=decide_eq_true (by omega)
                        obtain ⟨x1,hx1⟩ : ∃ x1,(M1 s).getD p 0 = x1:=⟨_,rfl⟩
                        obtain ⟨y1,hy1⟩ : ∃ y1,(M1 c).getD p 0 = y1:=⟨_,rfl⟩
                        have hA:=HX.out
                        have hB1:=HRS.out.cell cp
                        have hC1:=HROW.out.cell cp
                        have OU:=(HNM.out s CS.out).BA HP.out.pos p
                        have OV:=(HNM.out c CC.out).BA HP.out.pos p
                        rw [hx1] at hB1 OU
                        rw [hy1] at hC1 OV
                        obtain ⟨z,hz⟩ : ∃ z,(x1 - f * y1) % a0 = z:=⟨_,rfl⟩
                        have HZ : aa (mR a0 f (M1 s) (M1 c) (p + 1) = mR a0 f (M1 s) (M1 c) p ++ [z]):=⟨by unfold mR;rw [List.range_succ,List.map_append,List.map_singleton,hx1,hy1,hz]⟩
                        have HZE:=aa.mk hz
                        have HXB:=aa.mk OU
                        have avL:=aa.mk OV
                        have HA:=aa.mk hA
                        have HB1:=aa.mk hB1
                        have HC1:=aa.mk hC1
                        have HLEN:=aa.mk (yS a0 f (M1 s) (M1 c) p)
                        clear hx1 hy1 hz OU OV hA hB1 hC1 cp
                        generalize mR a0 f (M1 s) (M1 c) p = L at HN0 HZ HLEN
                        have cp1:=CP.out
                        go_wp2
                        clear cp1
                        have q2 : (0 ≤ (p : Int)) = True:=eq_true (by omega)
                        have q3 : ((p : Int) < (l1.length : Int)) = True:=eq_true (by have:=CP.out;omega)
                        have n0_:=aa.mk (Kd.jJ HN0.out)
                        have n1_:=aa.mk (aU HB0.out)
                        clear HN0 HB0
                        have HN0:=n0_;have HB0:=n1_
                        clear n0_ n1_
                        refine ll (n:=20) (S:=fun w'=>w'.cell? ⟨g,s,none⟩ = some (.slice (some ⟨qs,0,none⟩) l1.length ks)∧w'.cell? ⟨qs,p,none⟩ = some (.int .i64 x1)∧w'.cell? ⟨q,p,none⟩ = some (.int .i64 y1)) (ds:=[]) (bl 20 0) (by kernel_rfl) rfl (by kernel_rfl) ⟨je HB0.out HA.out,je HB0.out HB1.out,je HB0.out HC1.out⟩ (fun hHeld=>?_)
                        refine ig ku.We ku.OM (fun HT_ HW_=>?_)
                        generalize wr.drew = w6 at HN0 HB0 hHeld ⊢
                        refine pu_ 0 101 (bl 20 1) HT_ ?_
                        refine pu_ 1 102 (bl 20 3) HT_ ?_
                        refine pu_ 2 103 (bl 20 7) HT_ ?_
                        refine pu_ 3 104 (bl 20 15) HT_ ?_
                        refine pu_ 4 105 (bl 20 31) HT_ ?_
                        refine ta_ 5 106 (bl 20 63) HT_ HW_ hHeld ?_
                        refine pu_ 6 107 (bl 20 127) HT_ ?_
                        refine pu_ 7 108 (bl 20 255) HT_ ?_
                        refine ta_ 8 109 (bl 20 511) HT_ HW_ hHeld ?_
                        refine pu_ 9 110 (bl 20 1023) HT_ ?_
                        refine pu_ 10 111 (bl 20 2047) HT_ ?_
                        refine pu_ 11 112 (bl 20 4095) HT_ ?_
                        refine pu_ 12 113 (bl 20 8191) HT_ ?_
                        refine ta_ 13 114 (bl 20 16383) HT_ HW_ hHeld ?_
                        refine pu_ 14 115 (bl 20 32767) HT_ ?_
                        refine pu_ 15 116 (bl 20 65535) HT_ ?_
                        refine on_ 16 (some 117) (bl 20 131071) HT_ (fun K hK=>?_)
                        refine gS Try.func76 #[.int .i64 a0,.int .i64 (wrap64 (x1 - wrap64 (f * y1)))] ?_
                        refine (Hw HP.out (y:=z) ?wv _).mono ?_
                        (case wv=>have h1:=HXB.out;have h2:=avL.out;have h3:=Bj HP.out HFB.out.1 HFB.out.2 h2.1 h2.2;have h4:=HP.out.top;rw [dQ (x:=f * y1) (by omega) (by omega),dQ (by omega) (by omega),HZE.out])
                        rintro e w' ⟨rfl,⟨nd,rfl⟩⟩
                        refine ⟨_,rfl,?_⟩
                        refine hK.out _ _ hHeld (fun hHeld=>?_)
                        clear hK K
                        refine no_ 117 ?_
                        have n0_:=aa.mk (Kd.JZ HN0.out nd)
                        have n1_:=aa.mk (bn HB0.out nd)
                        clear HN0 HB0
                        have HN0:=n0_;have HB0:=n1_
                        clear n0_ n1_
                        generalize w6.drewN nd = w7 at HN0 HB0 hHeld ⊢
                        refine on_ 17 (some 118) (bl 20 262143) HT_ (fun K hK=>?_)
                        refine yT (w1:=?_) (v:=?_) (by rfl) rfl ?_ ?_
                        rotate_left 2
                        · go_simp
                          constructor
                          · rfl
                          · rfl
                        refine hK.out _ _ ⟨je (fF (Below.refl _ _) _) hHeld.1,je (fF (Below.refl _ _) _) hHeld.2.1,je (fF (Below.refl _ _) _) hHeld.2.2⟩ (fun hHeld=>?_)
                        clear hK K
                        refine no_ 118 ?_
                        refine on_ 18 (some 119) (bl 20 524287) HT_ (fun K hK=>?_)
                        refine Kd.qC (Kd.int .i64) (w0:=W1) W1.heap.size (by rfl) (.tmp 101) (.tmp 118) 24 2 (.int .i64 0) 8 rfl HMK.out HIN.out rfl (by decide) (by omega) z13 L z [.int .i64 z] (fun _=>True) (fun _=>False) rfl rfl ?aP (fun _ hk=>hk.elim) ?aF ?aO ?aB ?aS ?aL ?_
                        (case aP=>exact rfl)
                        (case aB=>exact (uH HB0.out))
                        (case aF=>exact (fun _ _=>trivial))
                        (case aO=>exact (uR HN0.out))
                        (case aS=>exact (av (uH HB0.out)))
                        (case aL=>have:=HLEN.out;have:=CP.out;have:=HN.out;omega)
                        intro azN w8 ho hb hg hat
                        rw [← HZ.out] at ho
                        have n0_:=aa.mk ho
                        have n1_:=aa.mk hb
                        clear HN0 HB0 ho hb hg hat
                        have HN0:=n0_;have HB0:=n1_
                        clear n0_ n1_
                        refine hK.out _ _ ⟨je HB0.out HA.out,je HB0.out HB1.out,je HB0.out HC1.out⟩ (fun hHeld=>?_)
                        clear hK K
                        refine no_ 119 ?_
                        refine pu_ 19 13 (bl 20 1048575) HT_ ?_
                        refine done_ (done_of HT_.out (by kernel_rfl)) ?_
                        clear hHeld q2 q3
                        go_wp2
                        go_roundg (l1.length - p)
                        case measure=>have:=HPP.out;have:=CP.out;omega
                        case rel=>exact ⟨_,p + 1,rfl,by rw [lW CP.out (by have:=HN.out;omega)],⟨by have:=HPP.out;have:=CP.out;omega,CP.out⟩,⟨uR HN0.out⟩,⟨uH HB0.out⟩⟩
end Go.Proofs.Ytilbjbahmilhkaa.Pr
