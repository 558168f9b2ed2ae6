/- Texts of this session in one: what functions of the program compute, and plain facts of it, under the conditions that each theorem names. -/
import Derived.Test.YtnpepkpogohcmaaGreatKls1
import Derived.Test.YtnpepkpogohcmaaGreatKls2
import Derived.Test.YtnpepkpogohcmaaGreatKls3
import Derived.Test.YtnpepkpogohcmaaGreatKls6
namespace Go.Proofs.YtnpepkpogohcmaaGreat.Pr
/- The program's determinant: for square rows of numbers modulo p it computes Ps. -/
open Go Go.RowKit Go.Proofs.YtnpepkpogohcmaaGreatW.PrintWords Go.Proofs.YtnpepkpogohcmaaGreatW.PrintLast Go.Proofs.YtnpepkpogohcmaaGreatW.PrintMore
set_option linter.unusedVariables false
set_option linter.unusedSimpArgs false
def aG.f (_k : Nat) (a0 : Int) (l1 : List (List Int)) : Option Int:=if RB a0 l1 then some (Ps a0 l1) else none
def aG.T15 : Bool × List (List Nat × List Nat):=(true,[([],[]),([],[]),([],[]),([],[]),([],[]),([3,4],[3,4]),([],[]),([],[]),([],[]),([7,8],[7,8]),([6,9],[6,9]),([10],[10]),([],[]),([],[]),([12,13],[12,13]),([14],[14]),([0,1,0,1,6,7,8,9,10,11,15],[0,1]),([16,11,0,1,6,7,8,9,10,11,15],[11,16]),([2,5,0,1,2,3,4,5,6,7,8,9,10,11,12,13,14,15,16,17],[2,5]),([18,15,17,0,1,2,3,4,5,6,7,8,9,10,11,12,13,14,15,16,17],[15,18])])
def aG.B15 : List Nat:=[0,0,0,0,0,24,0,0,0,384,960,1984,0,0,12288,28672,65475,131011,262143,524287]
theorem aG.anj : nu .any (opsOf Tryz.f96 15) = aG.T15:=by kernel_rfl
theorem aG.aiF : jO aG.T15.2 aG.B15 = true:=by kernel_rfl
def aG.T17 : Bool × List (List Nat × List Nat):=(true,[([],[]),([],[]),([],[]),([],[]),([2,3],[2,3]),([4],[4]),([],[]),([5,6],[5,6]),([7],[7]),([0,1,8],[0,1,8]),([9,9,0,1,2,3,4,5,6,7,8,9],[1,9])])
def aG.B17 : List Nat:=[0,0,0,0,12,28,0,124,252,511,1023]
theorem aG.ank : nu .any (opsOf Tryz.f96 17) = aG.T17:=by kernel_rfl
theorem aG.aiG : jO aG.T17.2 aG.B17 = true:=by kernel_rfl
def aG.T21 : Bool × List (List Nat × List Nat):=(true,[([],[]),([],[]),([],[]),([1,2],[1,2]),([3],[3]),([],[]),([],[]),([5,6],[5,6]),([7],[7]),([],[]),([8,9],[8,9]),([10],[10]),([0,4,11],[0,4,11]),([12,12,0,1,2,3,4,5,6,7,8,9,10,11,12],[12])])
def aG.B21 : List Nat:=[0,0,0,6,14,0,0,96,224,0,992,2016,4095,8191]
theorem aG.anl : nu .any (opsOf Tryz.f96 21) = aG.T21:=by kernel_rfl
theorem aG.aiH : jO aG.T21.2 aG.B21 = true:=by kernel_rfl
def aG.T25 : Bool × List (List Nat × List Nat):=(true,[([],[]),([],[]),([],[]),([],[]),([],[]),([3,4],[3,4]),([5],[5]),([],[]),([],[]),([],[]),([8,9],[8,9]),([10],[10]),([],[]),([11,12],[11,12]),([13],[13]),([7,14],[7,14]),([6,15],[6,15]),([2,16],[2,16]),([0,1,0,1,2,3,4,5,6,7,8,9,10,11,12,13,14,15,16,17],[0,1]),([18,17,17,0,1,2,3,4,5,6,7,8,9,10,11,12,13,14,15,16,17],[17,18])])
def aG.B25 : List Nat:=[0,0,0,0,0,24,56,0,0,0,768,1792,0,7936,16128,32640,65528,131068,262143,524287]
theorem aG.anm : nu .any (opsOf Tryz.f96 25) = aG.T25:=by kernel_rfl
theorem aG.aiI : jO aG.T25.2 aG.B25 = true:=by kernel_rfl

set_option maxHeartbeats 8000000 in
set_option maxRecDepth 100000 in
theorem aG.calls (k : Nat) (a0 : Int) (A1 : Option Addr) (c1 : Nat) (l1 : List (List Int)) (r : Int) (w : World) (hr1 : Kd.C (Kd.slice 2 (Kd.int .i64)) w A1 l1.length l1) (hc1 : l1.length ≤ c1) (h : aG.f k a0 l1 = some r) :
    Calls Tryz.prog 96 #[.int .i64 a0,.slice A1 l1.length c1] w fun e w'=>e = .returned (.int .i64 r)∧Below w.heap.size w w':=by
  unfold aG.f at h
  split at h
  case isFalse=>cases h
  rename_i c2
  have HD:=aa.mk (Option.some.inj h)
  clear h
  obtain ⟨⟨hp2,hpt⟩,hn,hrows⟩:=c2
  have HP:=aa.mk (Pm.mk hp2 hpt)
  have HN:=aa.mk hn
  have HROWS:=aa.mk hrows
  have HR1:=aa.mk hr1
  clear hp2 hpt hn hrows hr1 hc1
  have HB:=aa.mk (Below.refl w.heap.size w)
  have hmk : Tryz.prog.underlying 64 = some (.slice 24):=Tryz.underlying64
  have HMK:=aa.mk hmk
  clear hmk
  go_enter Tryz.func96,Tryz.ntmps96
  go_wp2_with (first | ((with_reducible refine bP (N:=17) rfl ?_);refine ada (e:=24) (e':=2) 17 l1.length HMK.out (by kernel_rfl) HN.out (fun _=>0) (fun _=>0) (fun i=>l1.getD i []) ?_;intro gb hg w3 HM0 hb;have HM:=aa.mk HM0;clear HM0;have HB:=aa.mk hb;clear hb hg))
  go_loopg [20] (l1.length + 1) (fun kq v20 w'=>∃ (i : Nat) (β κ : Nat → Nat),v20 = .int .i64 (i : Int)∧aa (kq + i = l1.length + 1∧i ≤ l1.length)∧aa (Mx 24 2 w' w.heap.size gb l1.length i β κ (fun i=>l1.getD i []))∧aa (Below w.heap.size w w'))
  case atStart=>exact ⟨0,_,_,rfl,⟨by omega,by omega⟩,⟨HM.out.below (by repeat (first | exact Below.refl _ _ | apply aW | apply aZ))⟩,⟨uH HB.out⟩⟩
  case round =>
    clear HM HB
    obtain ⟨i,β,κ,rfl,HI,HM,HB⟩:=hrel
    by_cases ci : i < l1.length
    · have c1 : decide ((i : Int) < (l1.length : Int)) = true:=decide_eq_true (by omega)
      have CI:=aa.mk ci
      clear ci
      obtain ⟨ad,A0,c0,eA,hx,hl,hi⟩:=xL HR1.out (i : Int) (by omega) (by have:=CI.out;omega)
      cases eA
      replace hx:=(HB.out.cell (World.block_lt_of_cell? w _ hx)).trans hx
      rw [jI] at hx
      have hli : (dQ l1 (i : Int)).length = l1.length:=by rw [uF];exact (HROWS.out _ (xO CI.out)).1
      rw [hli] at hx hl hi
      have HLI:=aa.mk hli
      have HRI:=aa.mk hi
      have HCI:=aa.mk hl
      clear hi hl hli
      have q1 : (0 ≤ (i : Int)) = True:=eq_true (by omega)
      have q2 : ((i : Int) < (l1.length : Int)) = True:=eq_true (by have:=CI.out;omega)
      go_wp2_with (first | ((with_reducible refine ae (f:=103) rfl ?_);refine gL (some 28) Tryz.func103 #[.slice A0 l1.length c0] ?_;with_reducible refine (Pt HLI.out ?s0 HN.out ?sC HCI.out).mono ?_;(case s0=>have:=CI.out;omega);(case sC=>exact uC (Kd.aM HRI.out HB.out));rintro e w4 ⟨q,c',cur,rfl,hq,hcc,hqb,hqr,hb⟩;refine ⟨_,rfl,?_⟩;have HM1:=aa.mk (HM.out.below hb);have HNE:=aa.mk (fun j (hj : j < i)=>Nat.ne_of_lt (Nat.lt_of_lt_of_le (HM.out.lt hj) hq));have HQ:=aa.mk hqb;have HQR:=aa.mk hqr;have HQL:=aa.mk (Nat.le_trans (af HB.out) hq);have HCC:=aa.mk hcc;have HB1:=xH HB hb;clear HM HB hq hqb hqr hb hcc;have hs:=HM1.out.aiJ (Nat.le_refl i) CI.out;have hf:=HM1.out.Es i))
      go_roundg (l1.length - i)
      case measure=>have:=HI.out;have:=CI.out;omega
      case rel =>
        have HMM:=HM1.out.more (by decide) CI.out HQ.out HQL.out HCC.out (dQ l1 (i : Int)) HLI.out HQR.out (fun j hj=>HNE.out j hj)
        have eM : (fun j=>if j = i then dQ l1 (i : Int) else l1.getD j []) = fun j=>l1.getD j []:=funext fun j=>by
          by_cases hj : j = i
          · rw [if_pos hj,hj,uF]
          · rw [if_neg hj]
        rw [eM] at HMM
        have:=CI.out
        have:=HI.out
        have:=HN.out
        exact ⟨i + 1,_,_,by rw [lC (n:=1001) (by omega) (by omega)],⟨by omega,by omega⟩,⟨HMM⟩,⟨mW HB1.out (Nat.le_trans HMM.bg (Nat.le_refl _))⟩⟩
    · obtain rfl : i = l1.length:=by have:=HI.out;omega
      have c1 : decide ((l1.length : Int) < (l1.length : Int)) = false:=decide_eq_false (by omega)
      clear ci HI
      go_wp2_with (first | ((with_reducible refine ae (f:=54) rfl ?_);refine gL (some 32) Tryz.func54 #[.int .i64 a0,.int .i64 1] ?_;refine (FO HP.out 1 _).mono ?_;rintro e w' ⟨rfl,⟨nd,rfl⟩⟩;refine ⟨_,rfl,?_⟩))
      go_loopg [8,35] (l1.length + 1) (fun kq v8 v35 w'=>∃ (c : Nat) (o : Int) (β κ : Nat → Nat) (M : Nat → List Int),v8 = .int .i64 o∧v35 = .int .i64 (c : Int)∧aa (kq + c = l1.length + 1∧c ≤ l1.length)∧aa ((0 ≤ o∧o < a0)∧∀ i,i < l1.length → Nm a0 (M i))∧aa (uJ a0 l1.length (l1.length - c) c M o = r)∧aa (Mx 24 2 w' w.heap.size gb l1.length l1.length β κ M)∧aa (Below w.heap.size w w'))
      case atStart =>
        have h1 : (1 : Int) % a0 = 1:=Int.emod_eq_of_lt (by omega) (by have:=HP.out.two;omega)
        exact ⟨0,1,β,κ,_,by rw [h1],rfl,⟨by omega,by omega⟩,⟨⟨by omega,by have:=HP.out.two;omega⟩,fun i hi=>(HROWS.out _ (xO hi)).2⟩,HD,⟨HM.out.below (by repeat (first | exact Below.refl _ _ | apply aW | apply aZ))⟩,⟨uH HB.out⟩⟩
      case round =>
        clear HM HB β κ HD
        obtain ⟨c,o,β,κ,M,rfl,rfl,HC,HO,HG,HM,HB⟩:=hrel
        by_cases cc : c < l1.length
        · have c1 : decide ((c : Int) < (l1.length : Int)) = true:=decide_eq_true (by omega)
          have CC:=aa.mk cc
          clear cc
          obtain ⟨v,hv⟩ : ∃ v : Int,v = if pivot M c (l1.length - c) c = l1.length then -1 else ((pivot M c (l1.length - c) c - c : Nat) : Int):=⟨_,rfl⟩
          have HV:=aa.mk hv
          clear hv
          have hcut:=Ul (P:=Tryz.prog) HMK.out (by kernel_rfl) gb l1.length c (Nat.le_of_lt CC.out)
          have hmf : ∀ (fn_ : Fn) (first_ cap_ : Array Value) (w_ : World),(Instr.makeFunc fn_ first_ cap_).run Tryz.prog w_ = .ok (.func fn_ first_ cap_) w_:=fun _ _ _ _=>rfl
          have cc:=CC.out
          go_upto_region 12 with (first | ((with_reducible refine bP (N:=9) rfl ?_);refine bx 9 #[.int .i64 0] 3 ?_;intro gq hq w5 hbox hb;have n0_:=aa.mk (HM.out.below hb);have n1_:=xH HB hb;have BK:=aa.mk hbox;have GE : aa (w.heap.size ≤ gq):=⟨by rw [hq];exact af (uH HB.out)⟩;clear HM HB hbox hb hq;have HM:=n0_;have HB:=n1_;clear n0_ n1_;have hcz : w5.cell? ⟨gq,0,none⟩ = some (.int .i64 0):=(bT BK.out 0).trans rfl;have hfz:=dz BK.out 0) | ((with_reducible refine tN (t:=3) (p:=9) rfl ?_);refine rG (t:=3) (p:=9) (v:=?vo) (w1:=(w5.setCell ⟨gq,0,none⟩ (.int .i64 (c : Int)))) ?hg ?ho ?hn ?hr ?_;(case ho=>rfl);(case hg=>rfl);(case hn=>rfl);(case hr=>first | (go_simp;done) | (go_simp;rfl));intro w6 hw;clear hcz hfz;have hne:=HM.out.RD BK.out (by decide) (by decide);have n0_:=aa.mk (HM.out.far hne.1 hne.2 0 (.int .i64 (c : Int)));have n1_:=aa.mk (mW (j:=0) (v:=.int .i64 (c : Int)) HB.out GE.out);have n2_:=aa.mk (bH (cs':=#[.int .i64 (c : Int)]) BK.out 0 (.int .i64 (c : Int)) rfl);rw [← hw] at n0_ n1_ n2_;clear HM HB BK hne hw;have HM:=n0_;have HB:=n1_;have BK:=n2_;clear n0_ n1_ n2_;have hcz : w6.cell? ⟨gq,0,none⟩ = some (.int .i64 (c : Int)):=(bT BK.out 0).trans rfl) | ((with_reducible refine ae (f:=93) rfl ?_);refine gL (some 42) Tryz.func93 #[.slice (some (cutAt gb l1.length c)) (l1.length - c) (l1.length - c),.func (.func 104) #[] #[.pointer (some ⟨gq,0,none⟩)]] ?_;with_reducible refine (RF HM.out HN.out CC.out BK.out HV.out).mono ?_;rintro e w7 ⟨rfl,hb⟩;refine ⟨_,rfl,?_⟩;have n0_:=aa.mk (HM.out.below hb);have n1_:=xH HB hb;have n2_:=xB BK hb;clear HM HB BK hb hcz;have HM:=n0_;have HB:=n1_;have BK:=n2_;clear n0_ n1_ n2_))
          all_goals clear hcut hmf cc
          by_cases hP : pivot M c (l1.length - c) c = l1.length
          · have hv : v = -1:=by rw [HV.out,if_pos hP]
            have e : (0 : Int) = r:=by
              have h:=HG.out
              rw [show l1.length - c = (l1.length - c - 1) + 1 from by have:=CC.out;omega,uJ,if_pos hP] at h
              exact h
            subst e
            clear HV
            subst hv
            have hd : decide ((-1 : Int) < 0) = true:=rfl
            go_wp2
            go_ret
            exact ⟨rfl,uH HB.out⟩
          · have hPc:=YB M c (l1.length - c) c
            have hv : v = ((pivot M c (l1.length - c) c - c : Nat) : Int):=by rw [HV.out,if_neg hP]
            have hG : uJ a0 l1.length (l1.length - (c + 1)) (c + 1) (Br a0 (qA a0 ((M (pivot M c (l1.length - c) c)).getD c 0)) l1.length c (rq M c (pivot M c (l1.length - c) c)))
                ((if pivot M c (l1.length - c) c = c then o else (-o) % a0) * (M (pivot M c (l1.length - c) c)).getD c 0 % a0) = r:=by
              have h:=HG.out
              rw [show l1.length - c = (l1.length - c - 1) + 1 from by have:=CC.out;omega,uJ,if_neg hP] at h
              rw [show l1.length - (c + 1) = l1.length - c - 1 from by omega]
              exact h
            clear HG HV
            generalize pivot M c (l1.length - c) c = P at hP hPc hv hG
            have HG:=aa.mk hG
            have HPI:=aa.mk (show c ≤ P∧P < l1.length from by have:=CC.out;omega)
            have HVE:=aa.mk hv
            have hv0 : 0 ≤ v:=by omega
            have hv1 : ¬ v < 0:=by omega
            clear hG hPc hP hv
            go_upto_if 46 with (fail)
            all_goals clear hv0 hv1
            go_cut [8] (fun v8 wc=>∃ β κ : Nat → Nat,v8 = .int .i64 (if P = c then o else (-o) % a0)∧aa (Mx 24 2 wc w.heap.size gb l1.length l1.length β κ (rq M c P))∧aa (wc.heap[gq]? = some (.cells #[.int .i64 (c : Int)] 3 (0,0)))∧aa (Below w.heap.size w wc))
            case first =>
              by_cases hpc : P = c
              · have hv : v = 0:=by have:=HVE.out;omega
                clear HVE
                subst hv
                have hd : decide ((0 : Int) > 0) = false:=rfl
                have hd2 : decide ((0 : Int) < 0) = false:=rfl
                go_wp2
                go_meet
                case rel =>
                  have e : rq M c P = M:=funext fun i=>by
                    unfold rq
                    by_cases hi : i = c
                    · rw [if_pos hi,hpc,hi]
                    · rw [if_neg hi,if_neg (by rw [hpc];exact hi)]
                  exact ⟨β,κ,by rw [if_pos hpc],⟨by rw [e];exact HM.out.below (by repeat (first | exact Below.refl _ _ | apply aW | apply aZ))⟩,⟨uB BK.out⟩,⟨uH HB.out⟩⟩
              · have hlt : c < P:=by have:=HPI.out;omega
                have hd : decide (v > 0) = true:=decide_eq_true (by have:=HVE.out;omega)
                have hd2 : decide (0 < v) = true:=hd
                have hd3 : 0 < v:=of_decide_eq_true hd
                go_wp2
                have hadd : IntKind.i64.wrap ((c : Int) + v) = (P : Int):=by rw [iI,HVE.out];have:=HPI.out;have:=HN.out;rw [bJ (by omega) (by omega)];omega
                have q0 : (0 ≤ (c : Int)) = True:=eq_true (by omega)
                have q1 : ((c : Int) < (l1.length : Int)) = True:=eq_true (by have:=CC.out;omega)
                have q2 : (0 ≤ (P : Int)) = True:=eq_true (by omega)
                have q3 : ((P : Int) < (l1.length : Int)) = True:=eq_true (by have:=HPI.out;omega)
                refine kE (n:=20) (S:=fun w'=>w'.cell? ⟨gq,0,none⟩ = some (.int .i64 (c : Int))) (ds:=[19]) (bl 20 0) (by kernel_rfl) rfl (by kernel_rfl) ((bT BK.out 0).trans rfl) (fun hHeld=>?_)
                refine gX aG.anj aG.aiF (fun HT_ HW_=>?_)
                have n0_:=aa.mk (HM.out.below (aW (Below.refl _ _)))
                have n1_:=aa.mk (aW HB.out)
                have n2_:=aa.mk (bI BK.out)
                clear HM HB BK
                have HM:=n0_;have HB:=n1_;have BK:=n2_
                clear n0_ n1_ n2_
                generalize w7.drew = w8 at HM HB BK hHeld ⊢
                have hne:=HM.out.RD BK.out (by decide) (by decide)
                have hcc:=HM.out.outer CC.out
                have hcp:=HM.out.outer HPI.out.2
                have hfc:=HM.out.Es c
                have hsw : (w8.setCell ⟨gb,c,none⟩ (.slice (some ⟨β P,0,none⟩) l1.length (κ P))).cell? ⟨gb,P,none⟩ = some (.slice (some ⟨β P,0,none⟩) l1.length (κ P)):=by
                  rw [bT (uL HM.out.out c _) P,Array.getElem?_setIfInBounds_ne (by omega),← bT HM.out.out P];exact hcp
                have hswf:=dz (uL HM.out.out c (.slice (some ⟨β P,0,none⟩) l1.length (κ P))) P
                refine pu_ 0 47 (bl 20 1) HT_ ?_
                refine pu_ 2 49 (bl 20 5) HT_ ?_
                refine pu_ 4 51 (bl 20 21) HT_ ?_
                refine pu_ 6 53 (bl 20 85) HT_ ?_
                refine pu_ 8 55 (bl 20 341) HT_ ?_
                refine pu_ 12 59 (bl 20 4437) HT_ ?_
                refine ta_ 1 48 (bl 20 4439) HT_ HW_ hHeld ?_
                refine ta_ 3 50 (bl 20 4447) HT_ HW_ hHeld ?_
                refine pu_ 5 52 (bl 20 4479) HT_ ?_
                refine ta_ 7 54 (bl 20 4607) HT_ HW_ hHeld ?_
                refine pu_ 9 56 (bl 20 5119) HT_ ?_
                refine pu_ 10 57 (bl 20 6143) HT_ ?_
                refine ta_ 13 60 (bl 20 14335) HT_ HW_ hHeld ?_
                refine pu_ 14 61 (bl 20 30719) HT_ ?_
                refine axT 11 15 58 62 (bl 20 32767) (bl 20 63487) (bl 20 65535) HT_ hHeld ?_
                refine pu_ 16 63 (bl 20 131071) HT_ ?_
                refine on_ 17 none (bl 20 262143) HT_ (fun K hK=>?_)
                refine yZ (w1:=w8.setCell ⟨gb,c,none⟩ (.slice (some ⟨β P,0,none⟩) l1.length (κ P))) (by rfl) rfl (by first | (go_simp;done) | (go_simp;rfl)) ?_
                have hbx : (w8.setCell ⟨gb,c,none⟩ (.slice (some ⟨β P,0,none⟩) l1.length (κ P))).cell? ⟨gq,0,none⟩ = some (.int .i64 (c : Int)):=(bT (bL BK.out hne.1 _) 0).trans rfl
                refine hK.out _ _ hbx (fun hHeld=>?_)
                clear hK K
                refine pu_ 18 64 (bl 20 524287) HT_ ?_
                refine Dk (i:=19) (N:=none) (bl 20 1048575) rfl rfl (wM HT_.out (by kernel_rfl)) (by decide) (fun K hK=>?_)
                have hsP : (w8.setCell ⟨gb,c,none⟩ (.slice (some ⟨β P,0,none⟩) l1.length (κ P))).cell? ⟨gb,P,none⟩ = some (.slice (some ⟨β P,0,none⟩) l1.length (κ P)):=hsw
                have hsF : (w8.setCell ⟨gb,c,none⟩ (.slice (some ⟨β P,0,none⟩) l1.length (κ P))).frozen? ⟨gb,P,none⟩ = false:=hswf
                refine yZ (w1:=(w8.setCell ⟨gb,c,none⟩ (.slice (some ⟨β P,0,none⟩) l1.length (κ P))).setCell ⟨gb,P,none⟩ (.slice (some ⟨β c,0,none⟩) l1.length (κ c))) (by rfl) rfl (by first | (go_simp;done) | (go_simp;rfl)) ?_
                refine hK.out _ _ ?_
                clear hK K
                refine done_ (done_of HT_.out (by kernel_rfl)) ?_
                have HM9:=HM.out.swap (by decide) CC.out HPI.out.2
                have eM : (fun i=>if i = P then M c else if i = c then M P else M i) = rq M c P:=funext fun i=>by
                  unfold rq
                  by_cases hi : i = c
                  · rw [if_pos hi,if_neg (by omega),if_pos hi]
                  · rw [if_neg hi,if_neg hi]
                rw [eM] at HM9
                have n0_:=aa.mk HM9
                have n1_:=aa.mk (mW (j:=P) (v:=.slice (some ⟨β c,0,none⟩) l1.length (κ c)) (mW (j:=c) (v:=.slice (some ⟨β P,0,none⟩) l1.length (κ P)) HB.out HM.out.bg) HM.out.bg)
                have n2_:=aa.mk (bL (p:=⟨gb,P,none⟩) (bL (p:=⟨gb,c,none⟩) BK.out hne.1 (.slice (some ⟨β P,0,none⟩) l1.length (κ P))) hne.1 (.slice (some ⟨β c,0,none⟩) l1.length (κ c)))
                clear HM9 eM HM HB BK hHeld hbx hsP hsF hsw hswf hcc hcp hfc hne
                have HM:=n0_;have HB:=n1_;have BK:=n2_
                clear n0_ n1_ n2_
                generalize (w8.setCell ⟨gb,c,none⟩ (.slice (some ⟨β P,0,none⟩) l1.length (κ P))).setCell ⟨gb,P,none⟩ (.slice (some ⟨β c,0,none⟩) l1.length (κ c)) = w9 at HM HB BK ⊢
                clear hadd q0 q1 q2 q3 hd hd2 hd3
                go_wp2_with (first | ((with_reducible refine ae (f:=54) rfl ?_);refine gL (some 68) Tryz.func54 #[.int .i64 a0,.int .i64 (wrap64 (-o))] ?_;refine (FO HP.out (wrap64 (-o)) _).mono ?_;rintro e w' ⟨rfl,⟨nd,rfl⟩⟩;refine ⟨_,rfl,?_⟩))
                go_meet
                case rel =>
                  have ew : wrap64 (-o) = -o:=by have:=HO.out;have:=HP.out.top;rw [bJ (by omega) (by omega)]
                  exact ⟨_,_,by rw [if_neg hpc,ew],⟨HM.out.below (by repeat (first | exact Below.refl _ _ | apply aW | apply aZ))⟩,⟨uB BK.out⟩,⟨uH HB.out⟩⟩
            case rest =>
              obtain ⟨β1,κ1,rfl,HM,BK,HB⟩:=hcut
              have hMc : rq M c P c = M P:=by unfold rq;rw [if_pos rfl]
              have hNm : ∀ i,i < l1.length → Nm a0 (rq M c P i):=fun i hi=>by
                unfold rq
                by_cases h1 : i = c
                · rw [if_pos h1];exact HO.out.2 _ HPI.out.2
                · by_cases h2 : i = P
                  · rw [if_neg h1,if_pos h2];exact HO.out.2 _ CC.out
                  · rw [if_neg h1,if_neg h2];exact HO.out.2 _ hi
              have hoB : 0 ≤ (if P = c then o else (-o) % a0)∧(if P = c then o else (-o) % a0) < a0:=by
                by_cases h1 : P = c
                · rw [if_pos h1];exact HO.out.1
                · rw [if_neg h1];exact lv HP.out.pos _
              have hG:=HG.out
              rw [← hMc] at hG
              clear HG hMc HO
              generalize rq M c P = M1 at HM hNm hG
              generalize (if P = c then o else (-o) % a0) = o1 at hoB hG ⊢
              obtain ⟨y0,hy0⟩ : ∃ y0,(M1 c).getD c 0 = y0:=⟨_,rfl⟩
              obtain ⟨o2,ho2⟩ : ∃ o2,o1 * y0 % a0 = o2:=⟨_,rfl⟩
              have MU:=(hNm c CC.out).DL HP.out.pos c
              rw [hy0] at MU
              have HY0:=aa.mk hy0
              have ann:=aa.mk MU
              have HO2:=aa.mk ho2
              have aiK : aa (0 ≤ o2∧o2 < a0):=⟨by rw [← ho2];exact lv HP.out.pos _⟩
              rw [hy0,ho2] at hG
              clear hy0 MU ho2
              have HNM:=aa.mk hNm
              have HOB:=aa.mk hoB
              have HG:=aa.mk hG
              clear hG hNm hoB HPI HVE
              go_wp2
              have q0 : (0 ≤ (c : Int)) = True:=eq_true (by omega)
              have q1 : ((c : Int) < (l1.length : Int)) = True:=eq_true (by have:=CC.out;omega)
              refine kE (n:=11) (S:=fun w'=>w'.cell? ⟨gq,0,none⟩ = some (.int .i64 (c : Int))∧w'.cell? ⟨gb,c,none⟩ = some (.slice (some ⟨β1 c,0,none⟩) l1.length (κ1 c))∧w'.cell? ⟨β1 c,c,none⟩ = some (.int .i64 y0)) (ds:=[]) (bl 11 0) (by kernel_rfl) rfl (by kernel_rfl) ⟨(bT BK.out 0).trans rfl,HM.out.outer CC.out,(HM.out.cell CC.out CC.out).trans (by rw [HY0.out])⟩ (fun hHeld=>?_)
              refine gX aG.ank aG.aiG (fun HT_ HW_=>?_)
              have n0_:=aa.mk (HM.out.below (aW (Below.refl _ _)))
              have n1_:=aa.mk (aW HB.out)
              have n2_:=aa.mk (bI BK.out)
              clear HM HB BK
              have HM:=n0_;have HB:=n1_;have BK:=n2_
              clear n0_ n1_ n2_
              generalize wc.drew = w8 at HM HB BK hHeld ⊢
              refine pu_ 0 69 (bl 11 1) HT_ ?_
              refine pu_ 1 70 (bl 11 3) HT_ ?_
              refine pu_ 2 71 (bl 11 7) HT_ ?_
              refine ta_ 3 72 (bl 11 15) HT_ HW_ hHeld ?_
              refine pu_ 4 73 (bl 11 31) HT_ ?_
              refine ta_ 5 74 (bl 11 63) HT_ HW_ hHeld ?_
              refine ta_ 6 75 (bl 11 127) HT_ HW_ hHeld ?_
              refine pu_ 7 76 (bl 11 255) HT_ ?_
              refine ta_ 8 77 (bl 11 511) HT_ HW_ hHeld ?_
              refine on_ 9 (some 78) (bl 11 1023) HT_ (fun K hK=>?_)
              refine gS Tryz.func85 #[.int .i64 a0,.int .i64 o1,.int .i64 y0] ?_
              refine (RG HP.out HOB.out ann.out HO2.out _).mono ?_
              rintro e w' ⟨rfl,⟨nd,rfl⟩⟩
              refine ⟨_,rfl,?_⟩
              refine hK.out _ _ hHeld (fun hHeld=>?_)
              clear hK K
              refine no_ 78 ?_
              refine pu_ 10 8 (bl 11 2047) HT_ ?_
              refine done_ (done_of HT_.out (by kernel_rfl)) ?_
              have n0_:=aa.mk (HM.out.below (aZ (Below.refl _ _) nd))
              have n1_:=aa.mk (aZ HB.out nd)
              have n2_:=aa.mk (ko BK.out nd)
              clear HM HB BK
              have HM:=n0_;have HB:=n1_;have BK:=n2_
              clear n0_ n1_ n2_ hHeld
              generalize w8.drewN nd = w9 at HM HB BK ⊢
              clear HOB HO2 q0 q1
              obtain ⟨c',hc'⟩ : ∃ c',c' = c + 1:=⟨_,rfl⟩
              obtain ⟨m,hm⟩ : ∃ m,l1.length - c' = m:=⟨_,rfl⟩
              have hadd : IntKind.i64.wrap ((c : Int) + 1) = (c' : Int):=by rw [iI,hc',lC CC.out (by have:=HN.out;omega)]
              have hcut:=Ul (P:=Tryz.prog) HMK.out (by kernel_rfl) gb l1.length c' (by have:=CC.out;omega)
              rw [hm] at hcut
              have HCE:=aa.mk hc'
              have HME:=aa.mk hm
              clear hc' hm
              have hcz : w9.cell? ⟨gq,0,none⟩ = some (.int .i64 (c : Int)):=(bT BK.out 0).trans rfl
              go_wp2
              obtain ⟨E,hE⟩ : ∃ E : Nat → List Int,E = fun i=>ou a0 ((M1 i).getD c 0 * qA a0 y0 % a0) (M1 i) (M1 c) l1.length:=⟨_,rfl⟩
              have HE:=aa.mk hE
              clear hE hcz hcut
              go_loopg [84] (m + 1) (fun kq v84 w'=>∃ j : Nat,v84 = .int .i64 (j : Int)∧aa (kq + j = m + 1∧j ≤ m)∧aa (Mx 24 2 w' w.heap.size gb l1.length l1.length β1 κ1 (fun t=>if c < t∧t < c' + j then E t else M1 t))∧aa (w'.heap[gq]? = some (.cells #[.int .i64 (c : Int)] 3 (0,0)))∧aa (Below w.heap.size w w'))
              case atStart =>
                refine ⟨0,rfl,⟨by omega,by omega⟩,⟨(HM.out.below (by repeat (first | exact Below.refl _ _ | apply aW | apply aZ))).congr fun t _=>?_⟩,⟨uB BK.out⟩,⟨uH HB.out⟩⟩
                rw [if_neg (by have:=HCE.out;omega)]
              case round =>
                clear HM HB BK hadd
                obtain ⟨j,rfl,HJ,HM,BK,HB⟩:=hrel
                by_cases cj : j < m
                · have c1 : decide ((j : Int) < (m : Int)) = true:=decide_eq_true (by omega)
                  have CJ:=aa.mk cj
                  clear cj
                  obtain ⟨i,hi⟩ : ∃ i,i = c' + j:=⟨_,rfl⟩
                  have HIE:=aa.mk hi
                  have HI:=aa.mk (show c < i∧i < l1.length from by have:=HCE.out;have:=HME.out;have:=CJ.out;omega)
                  have HN1:=aa.mk (show ¬ (c < i∧i < c' + j) from by omega)
                  have HN2:=aa.mk (show ¬ (c < c∧c < c' + j) from by omega)
                  clear hi
                  have hx : wr.cell? ((cutAt gb l1.length c').add j) = some (.slice (some ⟨β1 i,0,none⟩) l1.length (κ1 i)):=by
                    rw [WS (by have:=HME.out;have:=CJ.out;omega),← HIE.out];exact HM.out.outer HI.out.2
                  have hri : wr.cell? ⟨β1 i,c,none⟩ = some (.int .i64 ((M1 i).getD c 0)):=by have h:=HM.out.cell HI.out.2 CC.out;simp only [if_neg HN1.out] at h;exact h
                  obtain ⟨x0,hx0⟩ : ∃ x0,(M1 i).getD c 0 = x0:=⟨_,rfl⟩
                  obtain ⟨f,hf⟩ : ∃ f,x0 * qA a0 y0 % a0 = f:=⟨_,rfl⟩
                  have aiL:=(HNM.out i HI.out.2).DL HP.out.pos c
                  rw [hx0] at hri aiL
                  have HF : aa (E i = ou a0 f (M1 i) (M1 c) l1.length):=⟨by rw [HE.out,← hf,← hx0]⟩
                  have HFB : aa (0 ≤ f∧f < a0):=⟨by rw [← hf];exact lv HP.out.pos _⟩
                  have axU:=aa.mk aiL
                  have HFE:=aa.mk hf
                  clear hx0 aiL hf
                  have hrc : wr.cell? ⟨β1 c,c,none⟩ = some (.int .i64 y0):=by have h:=HM.out.cell CC.out CC.out;simp only [if_neg HN2.out] at h;rw [HY0.out] at h;exact h
                  have HRI:=aa.mk hri
                  have HRC:=aa.mk hrc
                  clear hri hrc
                  have qj0 : (0 ≤ (j : Int)) = True:=eq_true (by omega)
                  have qj1 : ((j : Int) < (m : Int)) = True:=eq_true (by have:=CJ.out;omega)
                  go_wp2
                  clear hx qj0 qj1
                  have q0 : (0 ≤ (c : Int)) = True:=eq_true (by omega)
                  have q1 : ((c : Int) < (l1.length : Int)) = True:=eq_true (by have:=CC.out;omega)
                  refine kE (n:=14) (S:=fun w'=>w'.cell? ⟨gq,0,none⟩ = some (.int .i64 (c : Int))∧w'.cell? ⟨gb,c,none⟩ = some (.slice (some ⟨β1 c,0,none⟩) l1.length (κ1 c))∧w'.cell? ⟨β1 c,c,none⟩ = some (.int .i64 y0)∧w'.cell? ⟨β1 i,c,none⟩ = some (.int .i64 x0)) (ds:=[]) (bl 14 0) (by kernel_rfl) rfl (by kernel_rfl) ⟨(bT BK.out 0).trans rfl,HM.out.outer CC.out,HRC.out,HRI.out⟩ (fun hHeld=>?_)
                  refine gX aG.anl aG.aiH (fun HT_ HW_=>?_)
                  have n0_:=aa.mk (HM.out.below (aW (Below.refl _ _)))
                  have n1_:=aa.mk (aW HB.out)
                  have n2_:=aa.mk (bI BK.out)
                  clear HM HB BK
                  have HM:=n0_;have HB:=n1_;have BK:=n2_
                  clear n0_ n1_ n2_
                  clear HRI HRC
                  generalize wr.drew = w10 at HM HB BK hHeld ⊢
                  refine pu_ 0 88 (bl 14 1) HT_ ?_
                  refine pu_ 1 89 (bl 14 3) HT_ ?_
                  refine pu_ 5 93 (bl 14 35) HT_ ?_
                  refine ta_ 2 90 (bl 14 39) HT_ HW_ hHeld ?_
                  refine pu_ 3 91 (bl 14 47) HT_ ?_
                  refine ta_ 4 92 (bl 14 63) HT_ HW_ hHeld ?_
                  refine ta_ 6 94 (bl 14 127) HT_ HW_ hHeld ?_
                  refine pu_ 7 95 (bl 14 255) HT_ ?_
                  refine ta_ 8 96 (bl 14 511) HT_ HW_ hHeld ?_
                  refine ta_ 9 97 (bl 14 1023) HT_ HW_ hHeld ?_
                  refine pu_ 10 98 (bl 14 2047) HT_ ?_
                  refine ta_ 11 99 (bl 14 4095) HT_ HW_ hHeld ?_
                  refine on_ 12 (some 100) (bl 14 8191) HT_ (fun K hK=>?_)
                  refine gS Tryz.func70 #[.int .i64 a0,.int .i64 x0,.int .i64 y0] ?_
                  refine (RH HP.out axU.out ann.out HFE.out _).mono ?_
                  rintro e w' ⟨rfl,⟨nd,rfl⟩⟩
                  refine ⟨_,rfl,?_⟩
                  refine hK.out _ _ hHeld (fun hHeld=>?_)
                  clear hK K
                  refine no_ 100 ?_
                  refine pu_ 13 13 (bl 14 16383) HT_ ?_
                  refine done_ (done_of HT_.out (by kernel_rfl)) ?_
                  have n0_:=aa.mk (HM.out.below (aZ (Below.refl _ _) nd))
                  have n1_:=aa.mk (aZ HB.out nd)
                  have n2_:=aa.mk (ko BK.out nd)
                  clear HM HB BK
                  have HM:=n0_;have HB:=n1_;have BK:=n2_
                  clear n0_ n1_ n2_
                  clear hHeld q0 q1
                  generalize w10.drewN nd = w11 at HM HB BK ⊢
                  go_wp2
                  go_loopg [103] (l1.length + 1) (fun kq axV w'=>∃ q : Nat,axV = .int .i64 (q : Int)∧aa (kq + q = l1.length + 1∧q ≤ l1.length)∧aa (Mx 24 2 w' w.heap.size gb l1.length l1.length β1 κ1 (fun t=>if t = i then ru a0 f (M1 i) (M1 c) l1.length q else if c < t∧t < c' + j then E t else M1 t))∧aa (w'.heap[gq]? = some (.cells #[.int .i64 (c : Int)] 3 (0,0)))∧aa (Below w.heap.size w w'))
                  case atStart =>
                    refine ⟨0,rfl,⟨by omega,by omega⟩,⟨(HM.out.below (by repeat (first | exact Below.refl _ _ | apply aW | apply aZ))).congr fun t ht=>?_⟩,⟨uB BK.out⟩,⟨uH HB.out⟩⟩
                    by_cases hti : t = i
                    · have hl:=HM.out.len i HI.out.2
                      simp only [if_neg HN1.out] at hl
                      rw [if_pos hti,MV a0 f (M1 c) hl,hti,if_neg HN1.out]
                    · rw [if_neg hti]
                  case round =>
                    clear HM HB BK
                    obtain ⟨q,rfl,HQ,HM,BK,HB⟩:=hrel
                    by_cases cq : q < l1.length
                    · have c1 : decide ((q : Int) < (l1.length : Int)) = true:=decide_eq_true (by omega)
                      have CQ:=aa.mk cq
                      clear cq
                      obtain ⟨x1,hx1⟩ : ∃ x1,(M1 i).getD q 0 = x1:=⟨_,rfl⟩
                      obtain ⟨y1,hy1⟩ : ∃ y1,(M1 c).getD q 0 = y1:=⟨_,rfl⟩
                      have HRI : aa (wr.cell? ⟨β1 i,q,none⟩ = some (.int .i64 x1)):=⟨by have h:=HM.out.cell HI.out.2 CQ.out;rw [← hx1];simp only [if_true,Pv _ _ _ _ CQ.out,Nat.lt_irrefl,if_false] at h;exact h⟩
                      have HRC : aa (wr.cell? ⟨β1 c,q,none⟩ = some (.int .i64 y1)):=⟨by have h:=HM.out.cell CC.out CQ.out;rw [← hy1];simp only [if_neg (show ¬ c = i from by have:=HI.out;omega),if_neg HN2.out] at h;exact h⟩
                      have RI:=(HNM.out i HI.out.2).DL HP.out.pos q
                      have RJ:=(HNM.out c CC.out).DL HP.out.pos q
                      rw [hx1] at RI
                      rw [hy1] at RJ
                      have HX1:=aa.mk hx1
                      have HY1:=aa.mk hy1
                      have axW:=aa.mk RI
                      have axX:=aa.mk RJ
                      clear hx1 hy1 RI RJ
                      have cq1:=CQ.out
                      go_wp2
                      clear cq1
                      have q0 : (0 ≤ (c : Int)) = True:=eq_true (by omega)
                      have q1 : ((c : Int) < (l1.length : Int)) = True:=eq_true (by have:=CC.out;omega)
                      have q2 : (0 ≤ (q : Int)) = True:=eq_true (by omega)
                      have q3 : ((q : Int) < (l1.length : Int)) = True:=eq_true (by have:=CQ.out;omega)
                      refine kE (n:=20) (S:=fun w'=>w'.cell? ⟨gq,0,none⟩ = some (.int .i64 (c : Int))∧w'.cell? ⟨gb,c,none⟩ = some (.slice (some ⟨β1 c,0,none⟩) l1.length (κ1 c))∧w'.cell? ⟨β1 c,q,none⟩ = some (.int .i64 y1)∧w'.cell? ⟨β1 i,q,none⟩ = some (.int .i64 x1)) (ds:=[19]) (bl 20 0) (by kernel_rfl) rfl (by kernel_rfl) ⟨(bT BK.out 0).trans rfl,HM.out.outer CC.out,HRC.out,HRI.out⟩ (fun hHeld=>?_)
                      refine gX aG.anm aG.aiI (fun HT_ HW_=>?_)
                      have n0_:=aa.mk (HM.out.below (aW (Below.refl _ _)))
                      have n1_:=aa.mk (aW HB.out)
                      have n2_:=aa.mk (bI BK.out)
                      clear HM HB BK
                      have HM:=n0_;have HB:=n1_;have BK:=n2_
                      clear n0_ n1_ n2_
                      clear HRI HRC
                      generalize wr.drew = w12 at HM HB BK hHeld ⊢
                      refine pu_ 0 106 (bl 20 1) HT_ ?_
                      refine pu_ 1 107 (bl 20 3) HT_ ?_
                      refine pu_ 2 108 (bl 20 7) HT_ ?_
                      refine pu_ 3 109 (bl 20 15) HT_ ?_
                      refine pu_ 4 110 (bl 20 31) HT_ ?_
                      refine pu_ 5 111 (bl 20 63) HT_ ?_
                      refine pu_ 7 113 (bl 20 191) HT_ ?_
                      refine pu_ 8 114 (bl 20 447) HT_ ?_
                      refine pu_ 12 118 (bl 20 4543) HT_ ?_
                      refine ta_ 6 112 (bl 20 4607) HT_ HW_ hHeld ?_
                      refine ta_ 9 115 (bl 20 5119) HT_ HW_ hHeld ?_
                      refine pu_ 10 116 (bl 20 6143) HT_ ?_
                      refine ta_ 11 117 (bl 20 8191) HT_ HW_ hHeld ?_
                      refine pu_ 13 119 (bl 20 16383) HT_ ?_
                      refine ta_ 14 120 (bl 20 32767) HT_ HW_ hHeld ?_
                      refine pu_ 15 121 (bl 20 65535) HT_ ?_
                      refine pu_ 16 122 (bl 20 131071) HT_ ?_
                      refine on_ 17 (some 123) (bl 20 262143) HT_ (fun K hK=>?_)
                      refine gS Tryz.func54 #[.int .i64 a0,.int .i64 (wrap64 (x1 - wrap64 (f * y1)))] ?_
                      refine (RL HP.out (y:=(x1 - f * y1) % a0) ?wv _).mono ?_
                      (case wv=>have h1:=axW.out;have h2:=axX.out;have h3:=yO HP.out HFB.out.1 HFB.out.2 h2.1 h2.2;have h4:=HP.out.top;rw [bJ (x:=f * y1) (by omega) (by omega),bJ (by omega) (by omega)])
                      rintro e w' ⟨rfl,⟨nd,rfl⟩⟩
                      refine ⟨_,rfl,?_⟩
                      refine hK.out _ _ hHeld (fun hHeld=>?_)
                      clear hK K
                      refine no_ 123 ?_
                      have n0_:=aa.mk (HM.out.below (aZ (Below.refl _ _) nd))
                      have n1_:=aa.mk (aZ HB.out nd)
                      have n2_:=aa.mk (ko BK.out nd)
                      clear HM HB BK
                      have HM:=n0_;have HB:=n1_;have BK:=n2_
                      clear n0_ n1_ n2_
                      generalize w12.drewN nd = w13 at HM HB BK hHeld ⊢
                      refine pu_ 18 124 (bl 20 524287) HT_ ?_
                      refine Dk (i:=19) (N:=none) (bl 20 1048575) rfl rfl (wM HT_.out (by kernel_rfl)) (by decide) (fun K hK=>?_)
                      have hsr : w13.cell? ⟨β1 i,q,none⟩ = some (.int .i64 x1):=hHeld.2.2.2
                      have hsf : w13.frozen? ⟨β1 i,q,none⟩ = false:=HM.out.frozen HI.out.2 q
                      refine yZ (w1:=w13.setCell ⟨β1 i,q,none⟩ (.int .i64 ((x1 - f * y1) % a0))) (by rfl) rfl (by first | (go_simp;done) | (go_simp;rfl)) ?_
                      refine hK.out _ _ ?_
                      clear hK K
                      refine done_ (done_of HT_.out (by kernel_rfl)) ?_
                      have hne:=HM.out.RD BK.out (by decide) (by decide)
                      have n0_:=aa.mk ((HM.out.put (by decide) HI.out.2 CQ.out ((x1 - f * y1) % a0)).congr (M':=fun t=>if t = i then ru a0 f (M1 i) (M1 c) l1.length (q + 1) else if c < t∧t < c' + j then E t else M1 t) (fun t ht=>by
                        by_cases hti : t = i
                        · simp only [if_pos hti,if_true]
                          rw [← HX1.out,← HY1.out]
                          exact Pw a0 f (M1 i) (M1 c) l1.length q
                        · simp only [if_neg hti]))
                      have n1_:=aa.mk (mW (j:=q) (v:=.int .i64 ((x1 - f * y1) % a0)) HB.out (HM.out.bb i HI.out.2))
                      have n2_:=aa.mk (bL (p:=⟨β1 i,q,none⟩) BK.out (hne.2 i HI.out.2) (.int .i64 ((x1 - f * y1) % a0)))
                      clear HM HB BK hHeld hsr hsf hne q0 q1 q2 q3
                      have HM:=n0_;have HB:=n1_;have BK:=n2_
                      clear n0_ n1_ n2_
                      generalize w13.setCell ⟨β1 i,q,none⟩ (.int .i64 ((x1 - f * y1) % a0)) = w14 at HM HB BK ⊢
                      go_wp2
                      go_roundg (l1.length - q)
                      case measure=>have:=HQ.out;have:=CQ.out;omega
                      case rel=>exact ⟨q + 1,by rw [lC CQ.out (by have:=HN.out;omega)],⟨by have:=HQ.out;have:=CQ.out;omega,CQ.out⟩,⟨HM.out.below (by repeat (first | exact Below.refl _ _ | apply aW | apply aZ))⟩,⟨uB BK.out⟩,⟨uH HB.out⟩⟩
                    · obtain rfl : q = l1.length:=by have:=HQ.out;omega
                      have c1 : decide ((l1.length : Int) < (l1.length : Int)) = false:=decide_eq_false (by omega)
                      go_wp2
                      go_roundg (m - j)
                      case measure=>have:=HJ.out;have:=CJ.out;omega
                      case rel =>
                        refine ⟨j + 1,by rw [lC CJ.out (by have:=HN.out;have:=HME.out;omega)],⟨by have:=HJ.out;have:=CJ.out;omega,CJ.out⟩,⟨(HM.out.below (by repeat (first | exact Below.refl _ _ | apply aW | apply aZ))).congr fun t ht=>?_⟩,⟨uB BK.out⟩,⟨uH HB.out⟩⟩
                        by_cases hti : t = i
                        · rw [if_pos hti,Px,← HF.out,hti,if_pos (by have:=HI.out;have:=HIE.out;omega)]
                        · rw [if_neg hti]
                          by_cases hc2 : c < t∧t < c' + j
                          · rw [if_pos hc2,if_pos (by omega)]
                          · rw [if_neg hc2,if_neg (by have:=HIE.out;omega)]
                · obtain rfl : j = m:=by have:=HJ.out;omega
                  have c1 : decide ((j : Int) < (j : Int)) = false:=decide_eq_false (by omega)
                  go_wp2
                  go_roundg (l1.length - c)
                  case measure=>have:=HC.out;have:=CC.out;omega
                  case rel =>
                    have hcc:=HCE.out
                    have hmm:=HME.out
                    have hcl:=CC.out
                    subst hcc
                    refine ⟨c + 1,o2,β1,κ1,Br a0 (qA a0 y0) l1.length c M1,rfl,by rw [lC CC.out (by have:=HN.out;omega)],⟨by have:=HC.out;omega,CC.out⟩,⟨aiK.out,fun t ht=>?_⟩,HG,⟨(HM.out.below (by repeat (first | exact Below.refl _ _ | apply aW | apply aZ))).congr fun t ht=>?_⟩,⟨uH HB.out⟩⟩
                    · unfold Br
                      by_cases h1 : c < t
                      · rw [if_pos h1];exact DN HP.out.pos _ _ _ _
                      · rw [if_neg h1];exact HNM.out t ht
                    · unfold Br
                      by_cases h1 : c < t
                      · rw [if_pos h1,if_pos (by omega),HE.out]
                      · rw [if_neg h1,if_neg (by omega)]
        · obtain rfl : c = l1.length:=by have:=HC.out;omega
          have c1 : decide ((l1.length : Int) < (l1.length : Int)) = false:=decide_eq_false (by omega)
          have e : o = r:=by have:=HG.out;rw [Nat.sub_self,uJ] at this;exact this
          subst e
          go_wp2
          go_ret
          exact ⟨rfl,uH HB.out⟩
open Go.RowKit Go.Proofs.YtnpepkpogohcmaaGreatW.PrintWords Go.Proofs.YtnpepkpogohcmaaGreatW.PrintLast Go.Proofs.YtnpepkpogohcmaaGreatW.PrintMore
attribute [local go_sem] pE pF q8 rf nP nQ pG pI   -- for this text's walks alone
set_option maxHeartbeats 8000000
set_option maxRecDepth 100000
/-! ### ed: function 84 -/
def ed.l0 : Nat → Int → List (List Int) → Int → Int → Int → List Int → Option (Int)
 | 0,_,_,_,_,_,_=>none
 | k + 1,x1,x5,x7,x8,Um,Hu=>if x8 < x7 then (if 0 ≤ x8 then (if x8 ≤ (wrap64 (x8 + x1)) then (if (wrap64 (x8 + x1)) ≤ (Hu.length : Int) then (if x5.length < 5864062014805 then (ed.l0 k x1 (x5 ++ [((Hu.take ((wrap64 (x8 + x1)) : Int).toNat).drop (x8 : Int).toNat)]) x7 (wrap64 (x8 + 1)) Um Hu) else (none)) else (none)) else (none)) else (none)) else ((bV.f Um Hu).bind fun YC=>((aG.f k YC x5).bind fun aiM=>(some aiM)))
def ed.f (k : Nat) (au : Int) (av : List Int) (a1 : Int) : Option (Int):=ed.l0 k a1 ([] : List (List Int)) a1 0 au av
theorem ed.calls (k : Nat) (au : Int) (Dn : Nat → Prop) (bE : Option Addr) (bD : Nat) (av : List Int) (a1 : Int) (r : Int) (w : World) (ano : Kd.V (Kd.int .i64) 2 w w.heap.size (fun k_=>Dn k_) (.slice bE av.length bD) av) (H : ed.f k au av a1 = some r) :
  Calls Tryz.prog 84 #[.agg #[.int .i64 au,.slice bE av.length bD],.int .i64 a1] w fun e w'=>e = .returned (.int .i64 r)∧Below w.heap.size w w':=by
 have rF:=Tryz.underlying26;have YD:=zA (show Kd.V (Kd.int .i64) 2 w w.heap.size (fun k_=>(Dn k_ ∨ w.heap.size ≤ k_)) (.slice bE av.length bD) av from Kd.iK ano (fun k_ hk=>.inl hk));have HB:=zA (Below.refl w.heap.size w);unfold ed.f at H;have H':=zA H;clear H;go_enter Tryz.func84,Tryz.ntmps84;go_wp2_with (first | (refine bX 2 rfl #[.int .i64 au,.slice bE av.length bD] 26 ?_;intro AA w3 hg uM hb;replace YD:=zA (Kd.jd (Kd.rH (uV YD.out) AA (Nat.le_of_eq hg.symm)) hb);have anp:=gq HB hg;have:=geI anp;replace HB:=xH HB hb;clear hb hg));go_loopg [5,8] k (fun kq v5 v8 w'=>∃ (gu : List (List Int)) (dE : Int),v8 = .int .i64 dE∧aa (ed.l0 kq a1 gu a1 dE au av = some r)∧aa (kq ≤ k)∧aa (Kd.N (Kd.slice 2 (Kd.int .i64)) 24 w' w.heap.size (fun k_=>(Dn k_ ∨ w.heap.size ≤ k_)∧k_ ≠ AA) v5 gu)∧aa (Kd.V (Kd.int .i64) 2 w' w.heap.size (fun k_=>(Dn k_ ∨ w.heap.size ≤ k_)∧ax k_ v5∧k_ ≠ AA) (.slice bE av.length bD) av)∧aa (w'.heap[AA]? = some (.cells #[.int .i64 au,(.slice bE av.length bD)] 26 (0,0)))∧aa (Below w.heap.size w w'));(case atStart=>exact ⟨(([] : List (List Int))),(0),eS,H',⟨Nat.le_refl _⟩,⟨by first | exact Kd.vU _ _ _ _ _ | exact Kd.Bi _ _ _ _ _ | exact Kd.vz _ _ _ _ _ | exact Kd.vX _ _ _ _ _ | exact Kd.pq _ _ _ _ _⟩,⟨by (with_reducible repeat (first | apply Kd.jE | apply Kd.jF | apply Kd.jA));exact Kd.iK YD.out (fun _ hk=>⟨hk.1,⟨(by simp [Value.ownBlock]),hk.2⟩⟩)⟩,⟨uB uM.out⟩,⟨uH HB.out⟩⟩)
 case round =>
  clear H';(try clear p2);obtain ⟨gu,dE,rfl,HA,HK1,jJ,qa,uM,HB⟩:=hrel
  cases gk with
  | zero=>exact absurd HA.out (by simp [ed.l0])
  | succ k1 =>
   have H:=HA.out;clear HA;simp only [ed.l0] at H;replace H:=gF H;obtain ⟨qO,H⟩|⟨qO,H⟩:=H
   ·replace H:=bO H;obtain ⟨YC,A12,H⟩:=H;replace H:=bO H;obtain ⟨aiM,A13,H⟩:=H;obtain rfl:=Option.some.inj H;have Hw:=bc uM 0;have Un:=bc uM 1;have Hy:=bf uM 0;have Uo:=bf uM 1;go_wp2_with (first | ((with_reducible refine ae (f:=21) rfl ?_);refine gL (some 23) Tryz.func21 #[.agg #[.int .i64 au,.slice bE av.length bD]] ?_;(with_reducible refine (bV.calls au _ _ av YC _ ?side1 ?side2 A12.out).mono ?_);(case side1=>exact uC ((Kd.mJ qa.out).2.2));(case side2=>exact (Kd.mJ qa.out).2.1);rintro e w15 ⟨rfl,hb⟩;refine ⟨_,rfl,?_⟩;replace jJ:=zA (Kd.kT (uN jJ.out) hb);replace qa:=zA (Kd.jd (uV qa.out) hb);replace uM:=xB uM hb;replace HB:=xH HB hb;(try clear hb);obtain ⟨adb,YE,WT⟩:=Kd.vQ jJ.out;subst WT) | ((with_reducible refine ae (f:=96) rfl ?_);refine gL (some 25) Tryz.func96 #[.int .i64 YC,.slice adb gu.length YE] ?_;(with_reducible refine (aG.calls k1 YC _ _ gu aiM _ ?side1 ?side2 A13.out).mono ?_);(case side1=>exact uC ((Kd.jb jJ.out).2.2));(case side2=>exact (Kd.jb jJ.out).2.1);rintro e w17 ⟨rfl,hb⟩;refine ⟨_,rfl,?_⟩;replace jJ:=zA (Kd.kT (uN jJ.out) hb);replace qa:=zA (Kd.jd (uV qa.out) hb);replace uM:=xB uM hb;replace HB:=xH HB hb;(try clear hb)));go_ret;exact ⟨eX,uH HB.out⟩
   replace H:=gN H;obtain ⟨c5,H⟩:=H;have ny:=eq_true c5;have vY : decide (0 ≤ dE) = true:=decide_eq_true c5;clear c5;replace H:=gN H;obtain ⟨c6,H⟩:=H;have qo:=eq_true c6;have vW : decide (dE ≤ (wrap64 (dE + a1))) = true:=decide_eq_true c6;replace H:=gN H;obtain ⟨c7,H⟩:=H;have yQ:=eq_true c7;have Bb : decide ((wrap64 (dE + a1)) ≤ (av.length : Int)) = true:=decide_eq_true c7;obtain ⟨KD,YF⟩:=eY ((av.take ((wrap64 (dE + a1)) : Int).toNat).drop (dE : Int).toNat : List Int);(try rw [←YF.out] at H);replace H:=gZ H;obtain ⟨axY,H⟩:=H;obtain ⟨axZ,agl⟩:=eY (gu ++ [KD] : List (List Int));(try rw [←agl.out] at H);have H':=zA H;clear H;have MW:=bc uM 0;have MX:=bc uM 1;have RN:=bf uM 0;have MZ:=bf uM 1;have q10 : ((wrap64 (dE + a1)) : Int) ≤ ((av.length : Int) : Int):=oD;obtain ⟨ax0,Py,_,Pz,_⟩:=info_parts l6;have hroom10 : av.length ≤ bD:=(Kd.mJ qa.out).2.1;have YG : Kd.F (Kd.int .i64) _ _ bE av.length av:=(Kd.YH (base:=w.heap.size) qa.out).2.2;have ax1 : (dE : Int) ≤ ((wrap64 (dE + a1)) : Int):=oD;have ax2 : (0 : Int) ≤ (dE : Int):=oD;have YI:=adc (P:=Tryz.prog) 24 2 .i64 .i64 Tryz.underlying24 Py 1 Pz bE av.length bD dE (wrap64 (dE + a1)) ax2 ax1 q10 hroom10;have hr10:=Kd.anq (lo:=(dE : Int).toNat) (hi:=((wrap64 (dE + a1)) : Int).toNat) (c:=bD) YG (by omega) (by omega) hroom10;obtain ⟨A10,RO⟩ : ∃ A1,A1 = (if bD = (dE : Int).toNat then bE else (bE : Option Addr).map (·.add ((dE : Int).toNat * 1))):=⟨_,rfl⟩;obtain ⟨c10,ade⟩ : ∃ c1,c1 = bD - (dE : Int).toNat:=⟨_,rfl⟩;have YJ : KD.length = ((wrap64 (dE + a1)) : Int).toNat - (dE : Int).toNat:=(by rw [YF.out,List.length_drop,List.length_take] <;> omega);rw [show ((av).take ((wrap64 (dE + a1)) : Int).toNat).drop (dE : Int).toNat = KD from YF.out.symm] at hr10;replace hr10 : Kd.F (Kd.int .i64) _ _ A10 KD.length KD:=(by rw [RO];exact hr10);rw [← YJ,← RO,← ade] at YI;have Uq:=zA (show Kd.V (Kd.int .i64) 2 _ w.heap.size _ (.slice A10 KD.length c10) KD from Kd.FM (by rw [YJ,ade];exact Nat.sub_le_sub_right (Nat.le_trans (by omega) hroom10) _) hr10);have aCz:=zA (show KD.length ≤ c10 from by rw [YJ,ade];exact Nat.sub_le_sub_right (Nat.le_trans (by omega) hroom10) _);clear hr10 YG hroom10 Py Pz ade;have aEx:=zA YJ;have aEy:=zA RO;clear YJ RO;replace q10:=eq_true q10;go_wp2_with (first | ((with_reducible refine fe (b:=.append) (xs:=#[.tmp 11,.tmp 19]) rfl ?_);at_builtin;refine Kd.Jc (Kd.slice 2 (Kd.int .i64)) (w0:=w) w.heap.size rfl (.tmp 11) (.tmp 19) 64 24 (.slice none 0 0) 24 rfl Tryz.underlying64 Jd rfl (by decide) (by omega) u5 gu KD [.slice A10 KD.length c10] (fun k_=>(Dn k_ ∨ w.heap.size ≤ k_)∧k_ ≠ AA) (fun k_=>((fun k_=>(Dn k_ ∨ w.heap.size ≤ k_)∧k_ ≠ AA)) k_∧ax k_ u5) rfl rfl ?aP (fun _ hk=>hk) ?aF ?aO ?aB ?aS ?aL ?_;(case aP=>exact (Kd.qw (Kd.mJ (Kd.iK (ok':=(fun k_=>((fun k_=>(Dn k_ ∨ w.heap.size ≤ k_)∧k_ ≠ AA)) k_∧ax k_ u5)) (Uq.out) (fun k_ ⟨a,c,b⟩=>⟨⟨a,b⟩,c⟩))).2.1 (Kd.V_F (Kd.iK (ok':=(fun k_=>((fun k_=>(Dn k_ ∨ w.heap.size ≤ k_)∧k_ ≠ AA)) k_∧ax k_ u5)) (Uq.out) (fun k_ ⟨a,c,b⟩=>⟨⟨a,b⟩,c⟩)))));(case aB=>exact (uH HB.out));(case aF=>exact (fun k_ hk=>⟨(.inr (Nat.le_trans (af (uH HB.out)) hk)),Kd.lI (g:=AA) (o:=.cells #[.int .i64 au,.slice bE av.length bD] 26 (0,0)) (uB uM.out) k_ hk⟩));(case aO=>exact (uN jJ.out));(case aS=>exact (af (uH HB.out)));(case aL=>have:=axY.out;omega);intro aEz w11 ho hb hg hat;rw [← agl.out] at ho;replace qa:=zA (Kd.mI (ok:=(fun k_=>(Dn k_ ∨ w.heap.size ≤ k_)∧k_ ≠ AA)) (by (with_reducible repeat (first | apply Kd.jE | apply Kd.jF | apply Kd.jA));exact Kd.iK qa.out (fun _ ⟨a,c,b⟩=>⟨⟨a,b⟩,c⟩)) hg hat);replace uM:=zA (xx (g:=AA) (o:=.cells #[.int .i64 au,.slice bE av.length bD] 26 (0,0)) (uB uM.out) hg (Kd.acS jJ.out uM.out (by decide)));replace Uq:=zA (Kd.mI (ok:=(fun k_=>(Dn k_ ∨ w.heap.size ≤ k_)∧k_ ≠ AA)) (by (with_reducible repeat (first | apply Kd.jE | apply Kd.jF | apply Kd.jA));exact Kd.iK Uq.out (fun _ ⟨a,c,b⟩=>⟨⟨a,b⟩,c⟩)) hg hat);replace HB:=zA (hb);have anr:=zA (ho);clear jJ ho hb hg hat));go_roundg k1;(case measure=>have:=HK1.out;omega);(case rel=>exact ⟨(axZ),(wrap64 (dE + 1)),eS,H',⟨by have:=HK1.out;omega⟩,⟨uN anr.out⟩,⟨by (with_reducible repeat (first | apply Kd.jE | apply Kd.jF | apply Kd.jA));exact Kd.iK qa.out (fun _ ⟨⟨a,c⟩,b⟩=>⟨a,b,c⟩)⟩,⟨uB uM.out⟩,⟨uH HB.out⟩⟩)
/-! ### dU: function 69 -/
def dU.l0 : Nat → Int → Int → List Int → Option (Int)
 | 0,_,_,_=>none
 | k + 1,x3,M0,M3=>(ja.f M0 M3 (wrap64 (x3 + 1))).bind fun ant=>(if ant = true then ((ed.f k M0 M3 (wrap64 (x3 + 1))).bind fun adf=>(if adf = 0 then (some x3) else (dU.l0 k (wrap64 (x3 + 1)) M0 M3))) else (some x3))
def dU.f (k : Nat) (au : Int) (av : List Int) : Option (Int):=dU.l0 k 0 au av
theorem dU.calls (k : Nat) (au : Int) (bE : Option Addr) (bD : Nat) (av : List Int) (r : Int) (w : World) (hr0_1 : Kd.C (Kd.int .i64) w bE av.length av) (gY : av.length ≤ bD) (H : dU.f k au av = some r) :
  Calls Tryz.prog 69 #[.agg #[.int .i64 au,.slice bE av.length bD]] w fun e w'=>e = .returned (.int .i64 r)∧Below w.heap.size w w':=by
 have rF:=Tryz.underlying26;have d9:=zA hr0_1;have eD:=zA gY;clear hr0_1 gY;have HB:=zA (Below.refl w.heap.size w);unfold dU.f at H;have H':=zA H;clear H;go_enter Tryz.func69,Tryz.ntmps69;go_wp2_with (first | (refine bX 1 rfl #[.int .i64 au,.slice bE av.length bD] 26 ?_;intro anu w2 hg ol hb;have anv:=gq HB hg;have:=geI anv;replace HB:=xH HB hb;clear hb hg));go_loopg [3] k (fun kq v3 w'=>∃ (lK : Int),v3 = .int .i64 lK∧aa (dU.l0 kq lK au av = some r)∧aa (kq ≤ k)∧aa (w'.heap[anu]? = some (.cells #[.int .i64 au,(.slice bE av.length bD)] 26 (0,0)))∧aa (Below w.heap.size w w'));(case atStart=>exact ⟨(0),eS,H',⟨Nat.le_refl _⟩,⟨uB ol.out⟩,⟨uH HB.out⟩⟩)
 case round =>
  clear H';(try clear p2);obtain ⟨lK,rfl,HA,HK1,ol,HB⟩:=hrel
  cases gk with
  | zero=>exact absurd HA.out (by simp [dU.l0])
  | succ k1 =>
   have H:=HA.out;clear HA;simp only [dU.l0] at H;replace H:=bO H;obtain ⟨ant,A3,H⟩:=H;replace H:=gB H;obtain ⟨rfl,H⟩|⟨rfl,H⟩:=H
   ·replace H:=bO H;obtain ⟨adf,A5,H⟩:=H;replace H:=gE H;obtain ⟨c6,qo,vW,H⟩|⟨c6,qo,vW,H⟩:=H
    ·have H':=zA H;clear H;have Em:=bc ol 0;have M4:=bc ol 1;have En:=bf ol 0;have M5:=bf ol 1;go_wp2_with (first | ((with_reducible refine ae (f:=83) rfl ?_);refine gL (some 7) Tryz.func83 #[.agg #[.int .i64 au,.slice bE av.length bD],.int .i64 (wrap64 (lK + 1))] ?_;(with_reducible refine (ja.calls au _ _ av (wrap64 (lK + 1)) true _ ?side1 ?side2 A3.out).mono ?_);(case side1=>exact uC ((Kd.aM d9.out HB.out)));(case side2=>exact eD.out);rintro e w12 ⟨rfl,hb⟩;refine ⟨_,rfl,?_⟩;replace ol:=xB ol hb;replace HB:=xH HB hb;(try clear hb);have mD:=bc ol 0;have mE:=bc ol 1;have mF:=bf ol 0;have mG:=bf ol 1) | (go_at_call 84;(with_reducible refine (ed.calls k1 au (fun k_=>k_ < w.heap.size) _ _ av (wrap64 (lK + 1)) adf _ ?side1 A5.out).mono ?_);(case side1=>exact Kd.FM eD.out (Kd.Cs (Kd.C_F (Kd.Pq .i64) d9.out) (uH HB.out)));rintro e w14 ⟨rfl,hb⟩;replace ol:=xB ol hb;replace HB:=xH HB hb;(try clear hb)));go_roundg k1;(case measure=>have:=HK1.out;omega);(case rel=>exact ⟨(wrap64 (lK + 1)),eS,H',⟨by have:=HK1.out;omega⟩,⟨uB ol.out⟩,⟨uH HB.out⟩⟩)
    clear c6;obtain rfl:=Option.some.inj H;have Jn:=bc ol 0;have Jo:=bc ol 1;have M6:=bf ol 0;have Jp:=bf ol 1;go_wp2_with (first | ((with_reducible refine ae (f:=83) rfl ?_);refine gL (some 7) Tryz.func83 #[.agg #[.int .i64 au,.slice bE av.length bD],.int .i64 (wrap64 (lK + 1))] ?_;(with_reducible refine (ja.calls au _ _ av (wrap64 (lK + 1)) true _ ?side1 ?side2 A3.out).mono ?_);(case side1=>exact uC ((Kd.aM d9.out HB.out)));(case side2=>exact eD.out);rintro e w8 ⟨rfl,hb⟩;refine ⟨_,rfl,?_⟩;replace ol:=xB ol hb;replace HB:=xH HB hb;(try clear hb);have MW:=bc ol 0;have MX:=bc ol 1;have RN:=bf ol 0;have MZ:=bf ol 1) | (go_at_call 84;(with_reducible refine (ed.calls k1 au (fun k_=>k_ < w.heap.size) _ _ av (wrap64 (lK + 1)) adf _ ?side1 A5.out).mono ?_);(case side1=>exact Kd.FM eD.out (Kd.Cs (Kd.C_F (Kd.Pq .i64) d9.out) (uH HB.out)));rintro e w10 ⟨rfl,hb⟩;replace ol:=xB ol hb;replace HB:=xH HB hb;(try clear hb)));go_ret;exact ⟨eX,uH HB.out⟩
   ·obtain rfl:=Option.some.inj H;have Ui:=bc ol 0;have adg:=bc ol 1;have Uj:=bf ol 0;have adh:=bf ol 1;go_wp2_with (first | ((with_reducible refine ae (f:=83) rfl ?_);refine gL (some 7) Tryz.func83 #[.agg #[.int .i64 au,.slice bE av.length bD],.int .i64 (wrap64 (lK + 1))] ?_;(with_reducible refine (ja.calls au _ _ av (wrap64 (lK + 1)) false _ ?side1 ?side2 A3.out).mono ?_);(case side1=>exact uC ((Kd.aM d9.out HB.out)));(case side2=>exact eD.out);rintro e w16 ⟨rfl,hb⟩;refine ⟨_,rfl,?_⟩;replace ol:=xB ol hb;replace HB:=xH HB hb;(try clear hb)));go_ret;exact ⟨eX,uH HB.out⟩
/- A list of rows of one's own in memory, of which the rows are read and the slots are set (rows may share their blocks); the reference's callees in plain form. -/
/-- The block q holds a row. -/
def Row (e' : TypeId) (w : World) (b q n : Nat) (l : List Int) : Prop:=b ≤ q∧∃ cur : Array Value,w.heap[q]? = some (.cells cur e' (0,0))∧∀ k,k < n → cur[k]? = some (.int .i64 (l.getD k 0))
section
variable {e e' : TypeId} {w w1 : World} {b g n q : Nat} {l : List Int} {M : Nat → List Int}
theorem Row.cell (h : Row e' w b q n l) {k : Nat} (hk : k < n) : w.cell? ⟨q,k,none⟩ = some (.int .i64 (l.getD k 0)):=by
  obtain ⟨_,cur,hc,hr⟩:=h
  rw [bT hc k]
  exact hr k hk
theorem Row.step (h : Row e' w b q n l) (hm : w1.heap[q]? = w.heap[q]?) : Row e' w1 b q n l:=by
  obtain ⟨hb,cur,hc,hr⟩:=h
  exact ⟨hb,cur,hm.trans hc,hr⟩
theorem Row.below (h : Row e' w b q n l) (hb : Below w.heap.size w w1) : Row e' w1 b q n l:=h.step (by
  obtain ⟨_,cur,hc,_⟩:=h
  exact hb.block _ (tO hc))
theorem Row.far (h : Row e' w b q n l) {cs : Array Value} (hg : w.heap[g]? = some (.cells cs e (0,0))) (he : e ≠ e') (i : Nat) (u : Value) : Row e' (w.setCell ⟨g,i,none⟩ u) b q n l:=h.step (by
  obtain ⟨_,cur,hc,_⟩:=h
  exact Below.heap_setCell w ⟨g,i,none⟩ u q (RP hc hg (Ne.symm he)))
structure Ms (e e' : TypeId) (w : World) (b g n : Nat) (M : Nat → List Int) : Prop where
  bg : b ≤ g
  out : ∃ cs : Array Value,w.heap[g]? = some (.cells cs e (0,0))∧∀ i,i < n → ∃ q c,cs[i]? = some (.slice (some ⟨q,0,none⟩) n c)∧Row e' w b q n (M i)
theorem Ms.get (h : Ms e e' w b g n M) {i : Nat} (hi : i < n) : ∃ q c,w.cell? ⟨g,i,none⟩ = some (.slice (some ⟨q,0,none⟩) n c)∧Row e' w b q n (M i):=by
  obtain ⟨cs,hc,hr⟩:=h.out
  obtain ⟨q,c,hq,hR⟩:=hr i hi
  exact ⟨q,c,by rw [bT hc i];exact hq,hR⟩
theorem Ms.frozen (h : Ms e e' w b g n M) (i : Nat) : w.frozen? ⟨g,i,none⟩ = false:=by
  obtain ⟨cs,hc,_⟩:=h.out
  exact dz hc i
theorem Ms.below (h : Ms e e' w b g n M) (hb : Below w.heap.size w w1) : Ms e e' w1 b g n M:=by
  obtain ⟨cs,hc,hr⟩:=h.out
  exact ⟨h.bg,cs,bM hc hb,fun i hi=>by
    obtain ⟨q,c,hq,hR⟩:=hr i hi
    exact ⟨q,c,hq,hR.below hb⟩⟩
theorem Ms.far (h : Ms e e' w b g n M) (he : e ≠ e') {q' : Nat} {l' : List Int} (hR : Row e' w b q' n l') (i : Nat) (u : Value) : Row e' (w.setCell ⟨g,i,none⟩ u) b q' n l':=by
  obtain ⟨cs,hc,_⟩:=h.out
  exact hR.far hc he i u
theorem Ms.set (h : Ms e e' w b g n M) (he : e ≠ e') {i c : Nat} (hi : i < n) (hR : Row e' w b q n l) :
    Ms e e' (w.setCell ⟨g,i,none⟩ (.slice (some ⟨q,0,none⟩) n c)) b g n (fun t=>if t = i then l else M t):=by
  obtain ⟨cs,hc,hr⟩:=h.out
  refine ⟨h.bg,_,uL hc i _,fun t ht=>?_⟩
  obtain ⟨q1,c1,hq,hR1⟩:=hr t ht
  by_cases ti : t = i
  · subst ti
    refine ⟨q,c,?_,?_⟩
    · rw [Array.getElem?_setIfInBounds_self_of_lt (Array.getElem?_eq_some_iff.1 hq).1]
    · simp only [if_true]
      exact hR.far hc he t _
  · refine ⟨q1,c1,?_,?_⟩
    · rw [Array.getElem?_setIfInBounds_ne (Ne.symm ti)];exact hq
    · simp only [if_neg ti]
      exact hR1.far hc he i _
theorem Ms.congr {M' : Nat → List Int} (h : Ms e e' w b g n M) (hM : ∀ i,i < n → M i = M' i) : Ms e e' w b g n M':=by
  obtain ⟨cs,hc,hr⟩:=h.out
  exact ⟨h.bg,cs,hc,fun i hi=>by
    obtain ⟨q,c,hq,hR⟩:=hr i hi
    exact ⟨q,c,hq,by rw [← hM i hi];exact hR⟩⟩
/-- A row of rows, each as long as there are rows. -/
theorem anw {ok : Nat → Prop} {v : Value} {rows : List (List Int)} {base : Nat} (h : Kd.R (Kd.slice e' (Kd.int .i64)) e w base ok v rows) (h0 : 0 < rows.length) (hl : ∀ r ∈ rows,r.length = rows.length) :
    ∃ g c,v = .slice (some ⟨g,0,none⟩) rows.length c∧Ms e e' w base g rows.length (fun i=>rows.getD i []):=by
  obtain ⟨g,c,rfl,hb,_,cs,hc⟩:=Kd.Bt h h0
  refine ⟨g,c,rfl,hb,cs,hc,fun i hi=>?_⟩
  obtain ⟨cl,hcl,⟨v1,rfl,hR⟩,hcc⟩:=Kd.anx h ([] : List Int) (i : Int) (by omega) (by omega)
  simp only [jI] at hR hcc
  have hlen : (rows.getD i []).length = rows.length:=hl _ (xO hi)
  obtain ⟨q,c',cur,rfl,h1,h2,h3,h4⟩:=Jq hR (by rw [hlen];exact h0)
  rw [hlen] at h4
  refine ⟨q,c',?_,h1,cur,h3,h4⟩
  have h5:=hcc 0 _ rfl
  have he : (⟨g,0,none⟩ : Addr).add (i * (Kd.slice e' (Kd.int .i64)).sz + 0) = ⟨g,i,none⟩:=by rw [addr_add];show (⟨g,0 + (i * 1 + 0),none⟩ : Addr) = _;rw [show 0 + (i * 1 + 0) = i from by omega]
  rw [he,bT hc,hlen] at h5
  exact h5
end
theorem Jr {p : Int} (hp : Pm p) {x y : Int} (h : x % p = y) (w : World) : Calls Tryz.prog 77 #[.int .i64 p,.int .i64 x] w fun e w'=>e = .returned (.int .i64 y)∧aQ w w' :=
  jB.calls p x y w (by unfold jB.f;rw [if_neg hp.ne,Jh hp,h])
theorem RQ {p : Int} (hp : Pm p) {x y : Int} (hx : 0 ≤ x∧x < p) (h : qA p x = y) (w : World) : Calls Tryz.prog 56 #[.int .i64 p,.int .i64 x] w fun e w'=>e = .returned (.int .i64 y)∧aQ w w':=by
  obtain ⟨K,hK⟩:=zN hp hx
  subst h
  exact gy.calls K p x _ w (hK K (Nat.le_refl _))
/- The reference's determinant: for own square rows of numbers modulo p it computes Ps. -/
def kC.f (_k : Nat) (a0 : Int) (l1 : List (List Int)) : Option Int:=if RB a0 l1 then some (Ps a0 l1) else none
def kC.T24 : Bool × List (List Nat × List Nat):=(true,[([],[]),([],[]),([],[]),([],[]),([2,3],[2,3]),([4],[4]),([],[]),([5,6],[5,6]),([7],[7]),([],[]),([],[]),([],[]),([10,11],[10,11]),([12],[12]),([9,13],[9,13]),([8,14],[8,14]),([1,15],[1,15]),([16],[16]),([0,17,16],[0,17]),([18,18,0,1,2,3,4,5,6,7,8,9,10,11,12,13,14,15,16,17,18],[0,18])])
def kC.B24 : List Nat:=[0,0,0,0,12,28,0,124,252,0,0,0,3072,7168,15872,32764,65534,131070,262143,524287]
theorem kC.anz : nu .any (opsOf Tryz.f92 24) = kC.T24:=by kernel_rfl
theorem kC.aiN : jO kC.T24.2 kC.B24 = true:=by kernel_rfl

set_option maxHeartbeats 8000000 in
set_option maxRecDepth 100000 in
theorem kC.calls (k : Nat) (a0 : Int) (v1 : Value) (l1 : List (List Int)) (r : Int) (w W : World) (ok : Nat → Prop) (hB : Below w.heap.size w W) (hR : Kd.R (Kd.slice 2 (Kd.int .i64)) 24 W w.heap.size ok v1 l1) (h : kC.f k a0 l1 = some r) :
    Calls Tryz.prog 92 #[.int .i64 a0,v1] W fun e w'=>e = .returned (.int .i64 r)∧Below w.heap.size w w':=by
  unfold kC.f at h
  split at h
  case isFalse=>cases h
  rename_i c2
  have HD:=aa.mk (Option.some.inj h)
  clear h
  obtain ⟨⟨hp2,hpt⟩,hn,hrows⟩:=c2
  have HP:=aa.mk (Pm.mk hp2 hpt)
  have HN:=aa.mk hn
  have HROWS:=aa.mk hrows
  have HB:=aa.mk hB
  clear hp2 hpt hn hB
  have HMK : aa (Tryz.prog.underlying 24 = some (.slice 2)):=⟨Tryz.underlying24⟩
  have HIN : aa ((Tryz.prog.info? 2).map (fun i=>(i.zero,i.size,i.bytes)) = some (some (.int .i64 0),1,8)):=⟨by kernel_rfl⟩
  by_cases h0 : 0 < l1.length
  case neg =>
    obtain rfl : l1 = []:=List.length_eq_zero_iff.1 (by omega)
    obtain ⟨A,c,rfl⟩:=Kd.aV hR
    clear hR hrows h0
    have e : (1 : Int) = r:=HD.out
    subst e
    go_enter Tryz.func92,Tryz.ntmps92
    go_wp2
    go_loopg [5,7] 1 (fun kq v5 v7 w'=>v5 = .int .i64 1∧v7 = .int .i64 0∧aa (Below w.heap.size w w'))
    case atStart=>exact ⟨rfl,rfl,⟨uH HB.out⟩⟩
    case round =>
      clear HB
      obtain ⟨rfl,rfl,HB⟩:=hrel
      have c1 : decide ((0 : Int) < 0) = false:=rfl
      go_wp2
      go_ret
      exact ⟨rfl,uH HB.out⟩
  case pos =>
    obtain ⟨g,cap,rfl,hM⟩:=anw hR h0 (fun x hx=>(hrows x hx).1)
    have HM:=aa.mk hM
    have H0:=aa.mk h0
    clear hM hR hrows h0
    go_enter Tryz.func92,Tryz.ntmps92
    go_wp2
    go_loopg [5,7] (l1.length + 1) (fun kq v5 v7 w'=>∃ (c : Nat) (o : Int) (M : Nat → List Int),v5 = .int .i64 o∧v7 = .int .i64 (c : Int)∧aa (kq + c = l1.length + 1∧c ≤ l1.length)∧aa ((0 ≤ o∧o < a0)∧∀ i,i < l1.length → Nm a0 (M i))∧aa (uJ a0 l1.length (l1.length - c) c M o = r)∧aa (Ms 24 2 w' w.heap.size g l1.length (M))∧aa (Below w.heap.size w w'))
    case atStart=>exact ⟨0,1,_,rfl,rfl,⟨by omega,by omega⟩,⟨⟨by omega,by have:=HP.out.two;omega⟩,fun i hi=>(HROWS.out _ (xO hi)).2⟩,HD,⟨HM.out.below (by repeat (first | exact Below.refl _ _ | apply aW | apply aZ))⟩,⟨uH HB.out⟩⟩
    case round =>
      clear HM HB HD
      obtain ⟨c,o,M,rfl,rfl,HC,HO,HG,HM,HB⟩:=hrel
      by_cases cc : c < l1.length
      case neg =>
        obtain rfl : c = l1.length:=by have:=HC.out;omega
        have c1 : decide ((l1.length : Int) < (l1.length : Int)) = false:=decide_eq_false (by omega)
        have e : o = r:=by have:=HG.out;rw [Nat.sub_self,uJ] at this;exact this
        subst e
        go_wp2
        go_ret
        exact ⟨rfl,uH HB.out⟩
      case pos =>
        have c1 : decide ((c : Int) < (l1.length : Int)) = true:=decide_eq_true (by omega)
        have CC:=aa.mk cc
        obtain ⟨P,hP⟩ : ∃ P,pivot M c (l1.length - c) c = P:=⟨_,rfl⟩
        have HPE:=aa.mk hP
        clear hP
        go_wp2
        clear cc c1
        go_loopg [8] (l1.length + 1 - c) (fun kq v8 w'=>∃ s : Nat,v8 = .int .i64 (s : Int)∧aa (kq + s = l1.length + 1∧c ≤ s∧s ≤ l1.length)∧aa (pivot M c (l1.length - s) s = P)∧aa (Ms 24 2 w' w.heap.size g l1.length (M))∧aa (Below w.heap.size w w'))
        case atStart=>exact ⟨c,rfl,⟨by have:=CC.out;omega,by omega,by have:=CC.out;omega⟩,HPE,⟨HM.out.below (by repeat (first | exact Below.refl _ _ | apply aW | apply aZ))⟩,⟨uH HB.out⟩⟩
        case round =>
          clear HM HB
          obtain ⟨s,rfl,HS,HPS,HM,HB⟩:=hrel
          by_cases cs : s < l1.length
          case neg =>
            obtain rfl : s = l1.length:=by have:=HS.out;omega
            have c1 : decide ((l1.length : Int) < (l1.length : Int)) = false:=decide_eq_false (by omega)
            have hP : P = l1.length:=by have:=HPS.out;rw [Nat.sub_self,pivot] at this;exact this.symm
            have e : (0 : Int) = r:=by
              have h:=HG.out
              rw [show l1.length - c = (l1.length - c - 1) + 1 from by have:=CC.out;omega,uJ,if_pos (by rw [HPE.out,hP])] at h
              exact h
            subst e
            clear hP
            go_wp2
            go_ret
            exact ⟨rfl,uH HB.out⟩
          case pos =>
            have c1 : decide ((s : Int) < (l1.length : Int)) = true:=decide_eq_true (by omega)
            obtain ⟨q,cq,hx,hrow⟩:=HM.out.get cs
            have HROW:=aa.mk hrow
            obtain ⟨y0,hy0⟩ : ∃ y0,(M s).getD c 0 = y0:=⟨_,rfl⟩
            have hcell:=hrow.cell CC.out
            rw [hy0] at hcell
            have CS:=aa.mk cs
            have HY:=aa.mk hy0
            clear hrow hy0
            have q0 : (0 ≤ (s : Int)) = True:=eq_true (by omega)
            have q1 : ((s : Int) < (l1.length : Int)) = True:=eq_true (by omega)
            have q2 : (0 ≤ (c : Int)) = True:=eq_true (by omega)
            have q3 : ((c : Int) < (l1.length : Int)) = True:=eq_true (by have:=CC.out;omega)
            by_cases hy : y0 = 0
            case pos =>
              subst hy
              have e0 : ((0 : Int) == 0) = true:=rfl
              go_wp2
              go_roundg (l1.length - s)
              case measure=>have:=HS.out;have:=CS.out;omega
              case rel =>
                refine ⟨s + 1,by rw [lC CS.out (by have:=HN.out;omega)],⟨by have:=HS.out;have:=CS.out;omega,by have:=HS.out;omega,CS.out⟩,⟨?_⟩,⟨HM.out.below (by repeat (first | exact Below.refl _ _ | apply aW | apply aZ))⟩,⟨uH HB.out⟩⟩
                have h:=HPS.out
                rw [show l1.length - s = (l1.length - (s + 1)) + 1 from by have:=CS.out;omega,pivot,if_pos HY.out] at h
                exact h
            case neg =>
              have e0 : (y0 == 0) = false:=beq_eq_false_iff_ne.mpr hy
              have hP : P = s:=by
                have h:=HPS.out
                rw [show l1.length - s = (l1.length - (s + 1)) + 1 from by have:=CS.out;omega,pivot,if_neg (by rw [HY.out];exact hy)] at h
                exact h.symm
              subst hP
              have hG : uJ a0 l1.length (l1.length - (c + 1)) (c + 1) (Br a0 (qA a0 ((M P).getD c 0)) l1.length c (rq M c P)) ((if P = c then o else (-o) % a0) * (M P).getD c 0 % a0) = r:=by
                have h:=HG.out
                rw [show l1.length - c = (l1.length - c - 1) + 1 from by have:=CC.out;omega,uJ,if_neg (by rw [HPE.out];have:=CS.out;omega),HPE.out] at h
                rw [show l1.length - (c + 1) = l1.length - c - 1 from by omega]
                exact h
              clear HG HPE HPS
              have HG:=aa.mk hG
              have hsn : ((P : Int) == (l1.length : Int)) = false:=beq_eq_false_iff_ne.mpr (by omega)
              clear hG
              go_upto_if 47 with (fail)
              clear e0 hsn q0 q1 q2 q3 c1
              go_cut [5] (fun v5 wc=>v5 = .int .i64 (if P = c then o else (-o) % a0)∧aa (Ms 24 2 wc w.heap.size g l1.length (rq M c P))∧aa (Row 2 wc w.heap.size q l1.length (M P))∧aa (Below w.heap.size w wc))
              case first =>
                clear hx hcell
                by_cases hpc : P = c
                case pos =>
                  have e1 : ((P : Int) != (c : Int)) = false:=bne_eq_false_iff_eq.mpr (by rw [hpc])
                  have e2 : ((P : Int) == (c : Int)) = true:=beq_iff_eq.mpr (by rw [hpc])
                  have hpi : (P : Int) = (c : Int):=by rw [hpc]
                  go_wp2
                  go_meet
                  case rel =>
                    have e : rq M c P = M:=funext fun i=>by
                      unfold rq
                      by_cases hi : i = c
                      · rw [if_pos hi,hpc,hi]
                      · rw [if_neg hi,if_neg (by rw [hpc];exact hi)]
                    exact ⟨by rw [if_pos hpc],⟨by rw [e];exact HM.out.below (by repeat (first | exact Below.refl _ _ | apply aW | apply aZ))⟩,⟨HROW.out.below (by repeat (first | exact Below.refl _ _ | apply aW | apply aZ))⟩,⟨uH HB.out⟩⟩
                case neg =>
                  have e1 : ((P : Int) != (c : Int)) = true:=bne_iff_ne.mpr (by omega)
                  have e2 : ((P : Int) == (c : Int)) = false:=beq_eq_false_iff_ne.mpr (by omega)
                  have hpi : ¬ (P : Int) = (c : Int):=by omega
                  obtain ⟨qc,kc,hxc,hrowc⟩:=HM.out.get CC.out
                  have HROWC:=aa.mk hrowc
                  obtain ⟨qp,kp,hxp,_⟩:=HM.out.get CS.out
                  have hfp:=HM.out.frozen P
                  clear hrowc
                  have q0 : (0 ≤ (P : Int)) = True:=eq_true (by omega)
                  have q1 : ((P : Int) < (l1.length : Int)) = True:=eq_true (by omega)
                  have q2 : (0 ≤ (c : Int)) = True:=eq_true (by omega)
                  have q3 : ((c : Int) < (l1.length : Int)) = True:=eq_true (by have:=CC.out;omega)
                  go_wp2_with (first | ((with_reducible refine tN (t:=24) (p:=54) rfl ?_);refine rG (t:=24) (p:=54) (v:=?vo) (w1:=(wr.setCell ⟨g,P,none⟩ (.slice (some ⟨qc,0,none⟩) l1.length kc))) ?hg ?ho ?hn ?hr ?_;(case ho=>rfl);(case hg=>rfl);(case hn=>rfl);(case hr=>first | (go_simp;done) | (go_simp;rfl));intro w2 hw;have n0_:=aa.mk (HM.out.set (c:=kc) (by decide) CS.out HROWC.out);have n1_:=aa.mk (HM.out.far (by decide) HROW.out P (.slice (some ⟨qc,0,none⟩) l1.length kc));have n2_:=aa.mk (mW (j:=P) (v:=.slice (some ⟨qc,0,none⟩) l1.length kc) HB.out HM.out.bg);rw [← hw] at n0_ n1_ n2_;clear HM HB HROW hw hxc hxp hfp HROWC;have HM:=n0_;have HROW:=n1_;have HB:=n2_;clear n0_ n1_ n2_;obtain ⟨qd,kd,hxd,_⟩:=HM.out.get CC.out;have hfc:=HM.out.frozen c) | ((with_reducible refine ae (f:=77) rfl ?_);refine gL (some 62) Tryz.func77 #[.int .i64 a0,.int .i64 (wrap64 (-o))] ?_;refine (Jr HP.out (y:=(-o) % a0) ?wv _).mono ?_;(case wv=>have:=HO.out;have:=HP.out.top;rw [bJ (by omega) (by omega)]);rintro e w' ⟨rfl,⟨nd,rfl⟩⟩;refine ⟨_,rfl,?_⟩))
                  go_meet
                  case rel =>
                    have n0_:=(HM.out.set (c:=cq) (by decide) CC.out HROW.out).congr (M':=rq M c P) (fun i _=>rfl)
                    have n1_:=HM.out.far (by decide) HROW.out c (.slice (some ⟨q,0,none⟩) l1.length cq)
                    have n2_:=mW (j:=c) (v:=.slice (some ⟨q,0,none⟩) l1.length cq) HB.out HM.out.bg
                    exact ⟨by rw [if_neg hpc],⟨n0_.below (by repeat (first | exact Below.refl _ _ | apply aW | apply aZ))⟩,⟨n1_.below (by repeat (first | exact Below.refl _ _ | apply aW | apply aZ))⟩,⟨uH n2_⟩⟩
              case rest =>
                clear HM HB HROW hx hcell
                obtain ⟨rfl,HM,HROW,HB⟩:=hcut
                have hMc : rq M c P c = M P:=by unfold rq;rw [if_pos rfl]
                have hNm : ∀ i,i < l1.length → Nm a0 (rq M c P i):=fun i hi=>by
                  unfold rq
                  by_cases h1 : i = c
                  · rw [if_pos h1];exact HO.out.2 _ CS.out
                  · by_cases h2 : i = P
                    · rw [if_neg h1,if_pos h2];exact HO.out.2 _ CC.out
                    · rw [if_neg h1,if_neg h2];exact HO.out.2 _ hi
                have hoB : 0 ≤ (if P = c then o else (-o) % a0)∧(if P = c then o else (-o) % a0) < a0:=by
                  by_cases h1 : P = c
                  · rw [if_pos h1];exact HO.out.1
                  · rw [if_neg h1];exact lv HP.out.pos _
                have hG:=HG.out
                have hR1:=HROW.out
                have hy1:=HY.out
                rw [← hMc] at hG hR1 hy1
                clear HG hMc HO HROW HY hy
                generalize rq M c P = M1 at HM hNm hG hR1 hy1
                generalize (if P = c then o else (-o) % a0) = o1 at hoB hG ⊢
                have MU:=(hNm c CC.out).DL HP.out.pos c
                rw [hy1] at MU hG
                obtain ⟨o2,ho2⟩ : ∃ o2,o1 * y0 % a0 = o2:=⟨_,rfl⟩
                obtain ⟨iv,hiv⟩ : ∃ iv,qA a0 y0 = iv:=⟨_,rfl⟩
                have hivB:=Et HP.out y0
                rw [hiv] at hivB
                rw [ho2,hiv] at hG
                have hm1:=yO HP.out hoB.1 hoB.2 MU.1 MU.2
                have hmul : IntKind.i64.wrap (o1 * y0) = o1 * y0:=by rw [iI,bJ (by omega) (by omega)]
                have htm : Int.tmod (o1 * y0) a0 = o2:=by rw [jY hm1.1,ho2]
                have aiK : aa (0 ≤ o2∧o2 < a0):=⟨by rw [← ho2];exact lv HP.out.pos _⟩
                have HG:=aa.mk hG
                have HNM:=aa.mk hNm
                have HROW:=aa.mk hR1
                have HY:=aa.mk hy1
                have HYB:=aa.mk MU
                have HIV:=aa.mk hiv
                have HIVB:=aa.mk hivB
                have hcell : wc.cell? ⟨q,c,none⟩ = some (.int .i64 y0):=by rw [← hy1];exact hR1.cell CC.out
                clear hG hNm hR1 hy1 MU hiv hivB hm1 ho2 hoB HS CS cs
                have hpz : (a0 == 0) = false:=beq_eq_false_iff_ne.mpr HP.out.ne
                have hpz2 : ¬ a0 = 0:=HP.out.ne
                have q2 : (0 ≤ (c : Int)) = True:=eq_true (by omega)
                have q3 : ((c : Int) < (l1.length : Int)) = True:=eq_true (by have:=CC.out;omega)
                have hadd : IntKind.i64.wrap ((c : Int) + 1) = ((c + 1 : Nat) : Int):=by rw [iI,lC CC.out (by have:=HN.out;omega)]
                go_wp2_with (first | ((with_reducible refine ae (f:=56) rfl ?_);refine gL (some 76) Tryz.func56 #[.int .i64 a0,.int .i64 y0] ?_;refine (RQ HP.out HYB.out HIV.out _).mono ?_;rintro e w' ⟨rfl,⟨nd,rfl⟩⟩;refine ⟨_,rfl,?_⟩))
                have n0_:=aa.mk (HM.out.below (aZ (Below.refl _ _) nd))
                have n1_:=aa.mk (HROW.out.below (aZ (Below.refl _ _) nd))
                have n2_:=aa.mk (aZ HB.out nd)
                clear HM HROW HB hcell hmul htm q2 q3 hadd
                have HM:=n0_;have HROW:=n1_;have HB:=n2_
                clear n0_ n1_ n2_
                generalize wc.drewN nd = w4 at HM HROW HB ⊢
                obtain ⟨E,hE⟩ : ∃ E : Nat → List Int,E = fun i=>ou a0 ((M1 i).getD c 0 * iv % a0) (M1 i) (M1 c) l1.length:=⟨_,rfl⟩
                have HE:=aa.mk hE
                clear hE
                go_loopg [11] (l1.length - c) (fun kq v11 w'=>∃ s : Nat,v11 = .int .i64 (s : Int)∧aa (kq + s = l1.length + 1∧c < s∧s ≤ l1.length)∧aa (Ms 24 2 w' w.heap.size g l1.length (fun t=>if c < t∧t < s then E t else M1 t))∧aa (Row 2 w' w.heap.size q l1.length (M1 c))∧aa (Below w.heap.size w w'))
                case atStart =>
                  refine ⟨c + 1,rfl,⟨by have:=CC.out;omega,by omega,CC.out⟩,⟨(HM.out.below (by repeat (first | exact Below.refl _ _ | apply aW | apply aZ))).congr fun t _=>?_⟩,⟨HROW.out.below (by repeat (first | exact Below.refl _ _ | apply aW | apply aZ))⟩,⟨uH HB.out⟩⟩
                  rw [if_neg (by omega)]
                case round =>
                  clear HM HROW HB
                  obtain ⟨s,rfl,HS,HM,HROW,HB⟩:=hrel
                  by_cases cs : s < l1.length
                  case neg =>
                    obtain rfl : s = l1.length:=by have:=HS.out;omega
                    have c1 : decide ((l1.length : Int) < (l1.length : Int)) = false:=decide_eq_false (by omega)
                    go_wp2
                    go_roundg (l1.length - c)
                    case measure=>have:=HC.out;have:=CC.out;omega
                    case rel =>
                      refine ⟨c + 1,o2,Br a0 iv l1.length c M1,rfl,by rw [lC CC.out (by have:=HN.out;omega)],⟨by have:=HC.out;have:=CC.out;omega,CC.out⟩,⟨aiK.out,fun t ht=>?_⟩,HG,⟨(HM.out.below (by repeat (first | exact Below.refl _ _ | apply aW | apply aZ))).congr fun t ht=>?_⟩,⟨uH HB.out⟩⟩
                      · unfold Br
                        by_cases h1 : c < t
                        · rw [if_pos h1];exact DN HP.out.pos _ _ _ _
                        · rw [if_neg h1];exact HNM.out t ht
                      · unfold Br
                        by_cases h1 : c < t
                        · rw [if_pos h1,if_pos (by omega),HE.out]
                        · rw [if_neg h1,if_neg (by omega)]
                  case pos =>
                    have CS:=aa.mk cs
                    have c1 : decide ((s : Int) < (l1.length : Int)) = true:=decide_eq_true (by omega)
                    obtain ⟨qs,ks,hx,hrow⟩:=HM.out.get cs
                    simp only [if_neg (show ¬ (c < s∧s < s) from by omega)] at hrow
                    obtain ⟨x0,hx0⟩ : ∃ x0,(M1 s).getD c 0 = x0:=⟨_,rfl⟩
                    have hcell:=hrow.cell CC.out
                    have hxB:=(HNM.out s cs).DL HP.out.pos c
                    rw [hx0] at hcell hxB
                    obtain ⟨f,hf⟩ : ∃ f,x0 * iv % a0 = f:=⟨_,rfl⟩
                    have hm1:=yO HP.out hxB.1 hxB.2 HIVB.out.1 HIVB.out.2
                    have hmul : IntKind.i64.wrap (x0 * iv) = x0 * iv:=by rw [iI,bJ (by omega) (by omega)]
                    have htm : Int.tmod (x0 * iv) a0 = f:=by rw [jY hm1.1,hf]
                    have HF : aa (E s = ou a0 f (M1 s) (M1 c) l1.length):=⟨by rw [HE.out,← hf,← hx0]⟩
                    have HFB : aa (0 ≤ f∧f < a0):=⟨by rw [← hf];exact lv HP.out.pos _⟩
                    have HRS:=aa.mk hrow
                    clear hrow hx0 hxB hf hm1
                    have q0 : (0 ≤ (s : Int)) = True:=eq_true (by omega)
                    have q1 : ((s : Int) < (l1.length : Int)) = True:=eq_true (by omega)
                    have q2 : (0 ≤ (c : Int)) = True:=eq_true (by omega)
                    have q3 : ((c : Int) < (l1.length : Int)) = True:=eq_true (by have:=CC.out;omega)
                    obtain ⟨W1,hW1⟩ : ∃ W1,W1 = wr:=⟨_,rfl⟩
                    subst hW1
                    go_wp2_with (first | ((with_reducible refine bP (N:=95) rfl ?_);refine Kd.rE (Kd.int .i64) _ 2 ?hg (N:=95) ?hd (xs:=([] : List Int)) (inner:=[]) (ok:=fun _=>True) (okp:=fun _=>True) ?hr ?hp (fun _ hk=>hk) trivial (Below.refl _ _) (Nat.le_refl _) (by simp) ?_;(case hd=>rfl);(case hg=>rfl);(case hr=>first | (go_simp;done) | (go_simp;rfl));(case hp=>exact (dh.none _ _));intro v95 w5 ho hb hg_ hnew_;clear hg_ hnew_;have HN0:=aa.mk ho;have HB0:=aa.mk hb;clear ho hb))
                    clear hmul htm hcell q2 q3 c1 hpz hpz2
                    have HX:=aa.mk hx
                    clear hx
                    go_loopg [13,14] (l1.length + 1) (fun kq v13 v14 w'=>∃ (z13 : Value) (p : Nat),v13 = z13∧v14 = .int .i64 (p : Int)∧aa (kq + p = l1.length + 1∧p ≤ l1.length)∧aa (Kd.R (Kd.int .i64) 2 w' W1.heap.size (fun _=>True) z13 (ou a0 f (M1 s) (M1 c) p))∧aa (Below W1.heap.size W1 w'))
                    case atStart=>exact ⟨_,0,rfl,rfl,⟨by omega,by omega⟩,⟨uR HN0.out⟩,⟨uH HB0.out⟩⟩
                    case round =>
                      clear HN0 HB0
                      obtain ⟨z13,p,anA,rfl,HPP,HN0,HB0⟩:=hrel
                      rw [anA]
                      clear anA
                      by_cases cp : p < l1.length
                      case neg =>
                        obtain rfl : p = l1.length:=by have:=HPP.out;omega
                        have c1 : decide ((l1.length : Int) < (l1.length : Int)) = false:=decide_eq_false (by omega)
                        obtain ⟨q2,k2,cur,rfl,hb2,hl2,hc2,hr2⟩:=Jq HN0.out (by rw [Bu];exact H0.out)
                        rw [Bu] at hr2 hl2 ⊢
                        have n0_:=aa.mk (HM.out.below HB0.out)
                        have n1_:=aa.mk (HROW.out.below HB0.out)
                        have n2_:=xH HB HB0.out
                        have HR2 : aa (Row 2 wr w.heap.size q2 l1.length (E s)):=⟨Nat.le_trans (af HB.out) hb2,cur,hc2,by rw [HF.out];exact hr2⟩
                        have hx2:=jq HB0.out HX.out
                        clear HM HROW HB hb2 hl2 hc2 hr2 HN0
                        have HM:=n0_;have HROW:=n1_;have HB:=n2_
                        clear n0_ n1_ n2_
                        have hfs:=HM.out.frozen s
                        go_wp2
                        go_roundg (l1.length - s)
                        case measure=>have:=HS.out;have:=CS.out;omega
                        case rel =>
                          have n0_:=(HM.out.set (c:=k2) (by decide) CS.out HR2.out).congr (M':=fun t=>if c < t∧t < s + 1 then E t else M1 t) (fun t ht=>by
                            by_cases hts : t = s
                            · rw [if_pos hts,if_pos (by have:=HS.out;omega),hts]
                            · rw [if_neg hts]
                              by_cases h2 : c < t∧t < s
                              · rw [if_pos h2,if_pos (by omega)]
                              · rw [if_neg h2,if_neg (by omega)])
                          have n1_:=HM.out.far (by decide) HROW.out s (.slice (some ⟨q2,0,none⟩) l1.length k2)
                          have n2_:=mW (j:=s) (v:=.slice (some ⟨q2,0,none⟩) l1.length k2) HB.out HM.out.bg
                          exact ⟨s + 1,by rw [lC CS.out (by have:=HN.out;omega)],⟨by have:=HS.out;have:=CS.out;omega,by have:=HS.out;omega,CS.out⟩,⟨n0_.below (by repeat (first | exact Below.refl _ _ | apply aW | apply aZ))⟩,⟨n1_.below (by repeat (first | exact Below.refl _ _ | apply aW | apply aZ))⟩,⟨uH n2_⟩⟩
                      case pos =>
                        have CP:=aa.mk cp
                        have c1 : decide ((p : Int) < (l1.length : Int)) = true:=decide_eq_true (by omega)
                        obtain ⟨x1,hx1⟩ : ∃ x1,(M1 s).getD p 0 = x1:=⟨_,rfl⟩
                        obtain ⟨y1,hy1⟩ : ∃ y1,(M1 c).getD p 0 = y1:=⟨_,rfl⟩
                        have hA:=HX.out
                        have hB1:=HRS.out.cell cp
                        have hC1:=HROW.out.cell cp
                        have RI:=(HNM.out s CS.out).DL HP.out.pos p
                        have RJ:=(HNM.out c CC.out).DL HP.out.pos p
                        rw [hx1] at hB1 RI
                        rw [hy1] at hC1 RJ
                        obtain ⟨z,hz⟩ : ∃ z,(x1 - f * y1) % a0 = z:=⟨_,rfl⟩
                        have HZ : aa (ou a0 f (M1 s) (M1 c) (p + 1) = ou a0 f (M1 s) (M1 c) p ++ [z]):=⟨by unfold ou;rw [List.range_succ,List.map_append,List.map_singleton,hx1,hy1,hz]⟩
                        have HZE:=aa.mk hz
                        have HXB:=aa.mk RI
                        have ax3:=aa.mk RJ
                        have HA:=aa.mk hA
                        have HB1:=aa.mk hB1
                        have HC1:=aa.mk hC1
                        have HLEN:=aa.mk (Bu a0 f (M1 s) (M1 c) p)
                        clear hx1 hy1 hz RI RJ hA hB1 hC1 cp
                        generalize ou a0 f (M1 s) (M1 c) p = L at HN0 HZ HLEN
                        have cp1:=CP.out
                        go_wp2
                        clear cp1
                        have q2 : (0 ≤ (p : Int)) = True:=eq_true (by omega)
                        have q3 : ((p : Int) < (l1.length : Int)) = True:=eq_true (by have:=CP.out;omega)
                        have n0_:=aa.mk (Kd.gz HN0.out)
                        have n1_:=aa.mk (aW HB0.out)
                        clear HN0 HB0
                        have HN0:=n0_;have HB0:=n1_
                        clear n0_ n1_
                        refine kE (n:=20) (S:=fun w'=>w'.cell? ⟨g,s,none⟩ = some (.slice (some ⟨qs,0,none⟩) l1.length ks)∧w'.cell? ⟨qs,p,none⟩ = some (.int .i64 x1)∧w'.cell? ⟨q,p,none⟩ = some (.int .i64 y1)) (ds:=[]) (bl 20 0) (by kernel_rfl) rfl (by kernel_rfl) ⟨jq HB0.out HA.out,jq HB0.out HB1.out,jq HB0.out HC1.out⟩ (fun hHeld=>?_)
                        refine gX kC.anz kC.aiN (fun HT_ HW_=>?_)
                        generalize wr.drew = w6 at HN0 HB0 hHeld ⊢
                        refine pu_ 0 101 (bl 20 1) HT_ ?_
                        refine pu_ 1 102 (bl 20 3) HT_ ?_
                        refine pu_ 2 103 (bl 20 7) HT_ ?_
                        refine pu_ 3 104 (bl 20 15) HT_ ?_
                        refine pu_ 4 105 (bl 20 31) HT_ ?_
                        refine ta_ 5 106 (bl 20 63) HT_ HW_ hHeld ?_
                        refine pu_ 6 107 (bl 20 127) HT_ ?_
                        refine pu_ 7 108 (bl 20 255) HT_ ?_
                        refine ta_ 8 109 (bl 20 511) HT_ HW_ hHeld ?_
                        refine pu_ 9 110 (bl 20 1023) HT_ ?_
                        refine pu_ 10 111 (bl 20 2047) HT_ ?_
                        refine pu_ 11 112 (bl 20 4095) HT_ ?_
                        refine pu_ 12 113 (bl 20 8191) HT_ ?_
                        refine ta_ 13 114 (bl 20 16383) HT_ HW_ hHeld ?_
                        refine pu_ 14 115 (bl 20 32767) HT_ ?_
                        refine pu_ 15 116 (bl 20 65535) HT_ ?_
                        refine on_ 16 (some 117) (bl 20 131071) HT_ (fun K hK=>?_)
                        refine gS Tryz.func77 #[.int .i64 a0,.int .i64 (wrap64 (x1 - wrap64 (f * y1)))] ?_
                        refine (Jr HP.out (y:=z) ?wv _).mono ?_
                        (case wv=>have h1:=HXB.out;have h2:=ax3.out;have h3:=yO HP.out HFB.out.1 HFB.out.2 h2.1 h2.2;have h4:=HP.out.top;rw [bJ (x:=f * y1) (by omega) (by omega),bJ (by omega) (by omega),HZE.out])
                        rintro e w' ⟨rfl,⟨nd,rfl⟩⟩
                        refine ⟨_,rfl,?_⟩
                        refine hK.out _ _ hHeld (fun hHeld=>?_)
                        clear hK K
                        refine no_ 117 ?_
                        have n0_:=aa.mk (Kd.uO HN0.out nd)
                        have n1_:=aa.mk (aZ HB0.out nd)
                        clear HN0 HB0
                        have HN0:=n0_;have HB0:=n1_
                        clear n0_ n1_
                        generalize w6.drewN nd = w7 at HN0 HB0 hHeld ⊢
                        refine on_ 17 (some 118) (bl 20 262143) HT_ (fun K hK=>?_)
                        refine FH (w1:=?_) (v:=?_) (by rfl) rfl ?_ ?_
                        rotate_left 2
                        · go_simp
                          constructor
                          · rfl
                          · rfl
                        refine hK.out _ _ ⟨jq (gG (Below.refl _ _) _) hHeld.1,jq (gG (Below.refl _ _) _) hHeld.2.1,jq (gG (Below.refl _ _) _) hHeld.2.2⟩ (fun hHeld=>?_)
                        clear hK K
                        refine no_ 118 ?_
                        refine on_ 18 (some 119) (bl 20 524287) HT_ (fun K hK=>?_)
                        refine Kd.yR (Kd.int .i64) (w0:=W1) W1.heap.size (by rfl) (.tmp 101) (.tmp 118) 24 2 (.int .i64 0) 8 rfl HMK.out HIN.out rfl (by decide) (by omega) z13 L z [.int .i64 z] (fun _=>True) (fun _=>False) rfl rfl ?aP (fun _ hk=>hk.elim) ?aF ?aO ?aB ?aS ?aL ?_
                        (case aP=>exact rfl)
                        (case aB=>exact (uH HB0.out))
                        (case aF=>exact (fun _ _=>trivial))
                        (case aO=>exact (uR HN0.out))
                        (case aS=>exact (af (uH HB0.out)))
                        (case aL=>have:=HLEN.out;have:=CP.out;have:=HN.out;omega)
                        intro aEA w8 ho hb hg hat
                        rw [← HZ.out] at ho
                        have n0_:=aa.mk ho
                        have n1_:=aa.mk hb
                        clear HN0 HB0 ho hb hg hat
                        have HN0:=n0_;have HB0:=n1_
                        clear n0_ n1_
                        refine hK.out _ _ ⟨jq HB0.out HA.out,jq HB0.out HB1.out,jq HB0.out HC1.out⟩ (fun hHeld=>?_)
                        clear hK K
                        refine no_ 119 ?_
                        refine pu_ 19 13 (bl 20 1048575) HT_ ?_
                        refine done_ (done_of HT_.out (by kernel_rfl)) ?_
                        clear hHeld q2 q3
                        go_wp2
                        go_roundg (l1.length - p)
                        case measure=>have:=HPP.out;have:=CP.out;omega
                        case rel=>exact ⟨_,p + 1,rfl,by rw [lC CP.out (by have:=HN.out;omega)],⟨by have:=HPP.out;have:=CP.out;omega,CP.out⟩,⟨uR HN0.out⟩,⟨uH HB0.out⟩⟩
end Go.Proofs.YtnpepkpogohcmaaGreat.Pr
