/- Texts of this session in one: what functions of the program compute, and plain facts of it, under the conditions that each theorem names. -/
import Derived.Test.YtilbjbahmilhkaaKgonals1
import Derived.Test.YtilbjbahmilhkaaKgonals10
import Derived.Test.YtilbjbahmilhkaaKgonals2
import Derived.Test.YtilbjbahmilhkaaKgonals3
import Derived.Test.YtilbjbahmilhkaaKgonals4
import Derived.Test.YtilbjbahmilhkaaKgonals6
import Derived.Test.YtilbjbahmilhkaaKgonals7
namespace Go.Proofs.Ytilbjbahmilhkaa.Pr
/- The reference's determinant: for own square rows of numbers modulo p it computes OC. -/
open Go Go.RowKit Go.Proofs.YtilbjbahmilhkaaW.PrintWords Go.Proofs.YtilbjbahmilhkaaW.PrintLast Go.Proofs.YtilbjbahmilhkaaW.PrintMore
set_option linter.unusedVariables false
set_option linter.unusedSimpArgs false
def jX.f (_k : Nat) (a0 : Int) (l1 : List (List Int)) : Option Int:=if QN a0 l1 then some (OC a0 l1) else none
def jX.T24 : Bool × List (List Nat × List Nat):=(true,[([],[]),([],[]),([],[]),([],[]),([2,3],[2,3]),([4],[4]),([],[]),([5,6],[5,6]),([7],[7]),([],[]),([],[]),([],[]),([10,11],[10,11]),([12],[12]),([9,13],[9,13]),([8,14],[8,14]),([1,15],[1,15]),([16],[16]),([0,17,16],[0,17]),([18,18,0,1,2,3,4,5,6,7,8,9,10,11,12,13,14,15,16,17,18],[0,18])])
def jX.B24 : List Nat:=[0,0,0,0,12,28,0,124,252,0,0,0,3072,7168,15872,32764,65534,131070,262143,524287]
theorem jX.aok : nI .any (opsOf Try.f101 24) = jX.T24:=by kernel_rfl
theorem jX.ah2 : jT jX.T24.2 jX.B24 = true:=by kernel_rfl

set_option maxHeartbeats 8000000 in
set_option maxRecDepth 100000 in
theorem jX.calls (k : Nat) (a0 : Int) (v1 : Value) (l1 : List (List Int)) (r : Int) (w W : World) (ok : Nat → Prop) (hB : Below w.heap.size w W) (hR : Kd.R (Kd.slice 2 (Kd.int .i64)) 24 W w.heap.size ok v1 l1) (h : jX.f k a0 l1 = some r) :
    Calls Try.prog 101 #[.int .i64 a0,v1] W fun e w'=>e = .returned (.int .i64 r)∧Below w.heap.size w w':=by
  unfold jX.f at h
  split at h
  case isFalse=>cases h
  rename_i c2
  have HD:=aa.mk (Option.some.inj h)
  clear h
  obtain ⟨⟨hp2,hpt⟩,hn,hrows⟩:=c2
  have HP:=aa.mk (Pm.mk hp2 hpt)
  have HN:=aa.mk hn
  have HROWS:=aa.mk hrows
  have HB:=aa.mk hB
  clear hp2 hpt hn hB
  have HMK : aa (Try.prog.underlying 24 = some (.slice 2)):=⟨Try.underlying24⟩
  have HIN : aa ((Try.prog.info? 2).map (fun i=>(i.zero,i.size,i.bytes)) = some (some (.int .i64 0),1,8)):=⟨by kernel_rfl⟩
  by_cases h0 : 0 < l1.length
  case neg =>
    obtain rfl : l1 = []:=List.length_eq_zero_iff.1 (by omega)
    obtain ⟨A,c,rfl⟩:=Kd.aY hR
    clear hR hrows h0
    have e : (1 : Int) = r:=HD.out
    subst e
    go_enter Try.func101,Try.ntmps101
    go_wp2
    go_loopg [5,7] 1 (fun kq v5 v7 w'=>v5 = .int .i64 1∧v7 = .int .i64 0∧aa (Below w.heap.size w w'))
    case atStart=>exact ⟨rfl,rfl,⟨uH HB.out⟩⟩
    case round =>
      clear HB
      obtain ⟨rfl,rfl,HB⟩:=hrel
      have c1 : decide ((0 : Int) < 0) = false:=rfl
      go_wp2
      go_ret
      exact ⟨rfl,uH HB.out⟩
  case pos =>
    obtain ⟨g,cap,rfl,hM⟩:=aol hR h0 (fun x hx=>(hrows x hx).1)
    have HM:=aa.mk hM
    have H0:=aa.mk h0
    clear hM hR hrows h0
    go_enter Try.func101,Try.ntmps101
    go_wp2
    go_loopg [5,7] (l1.length + 1) (fun kq v5 v7 w'=>∃ (c : Nat) (o : Int) (M : Nat → List Int),v5 = .int .i64 o∧v7 = .int .i64 (c : Int)∧aa (kq + c = l1.length + 1∧c ≤ l1.length)∧aa ((0 ≤ o∧o < a0)∧∀ i,i < l1.length → Nm a0 (M i))∧aa (uw a0 l1.length (l1.length - c) c M o = r)∧aa (Ms 24 2 w' w.heap.size g l1.length (M))∧aa (Below w.heap.size w w'))
    case atStart=>exact ⟨0,1,_,rfl,rfl,⟨by omega,by omega⟩,⟨⟨by omega,by have:=HP.out.two;omega⟩,fun i hi=>(HROWS.out _ (xE hi)).2⟩,HD,⟨HM.out.below (by repeat (first | exact Below.refl _ _ | apply aW | apply aZ))⟩,⟨uH HB.out⟩⟩
    case round =>
      clear HM HB HD
      obtain ⟨c,o,M,rfl,rfl,HC,HO,HG,HM,HB⟩:=hrel
      by_cases cc : c < l1.length
      case neg =>
        obtain rfl : c = l1.length:=by have:=HC.out;omega
        have c1 : decide ((l1.length : Int) < (l1.length : Int)) = false:=decide_eq_false (by omega)
        have e : o = r:=by have:=HG.out;rw [Nat.sub_self,uw] at this;exact this
        subst e
        go_wp2
        go_ret
        exact ⟨rfl,uH HB.out⟩
      case pos =>
        have c1 : decide ((c : Int) < (l1.length : Int)) = true:=decide_eq_true (by omega)
        have CC:=aa.mk cc
        obtain ⟨P,hP⟩ : ∃ P,pivot M c (l1.length - c) c = P:=⟨_,rfl⟩
        have HPE:=aa.mk hP
        clear hP
        go_wp2
        clear cc c1
        go_loopg [8] (l1.length + 1 - c) (fun kq v8 w'=>∃ s : Nat,v8 = .int .i64 (s : Int)∧aa (kq + s = l1.length + 1∧c ≤ s∧s ≤ l1.length)∧aa (pivot M c (l1.length - s) s = P)∧aa (Ms 24 2 w' w.heap.size g l1.length (M))∧aa (Below w.heap.size w w'))
        case atStart=>exact ⟨c,rfl,⟨by have:=CC.out;omega,by omega,by have:=CC.out;omega⟩,HPE,⟨HM.out.below (by repeat (first | exact Below.refl _ _ | apply aW | apply aZ))⟩,⟨uH HB.out⟩⟩
        case round =>
          clear HM HB
          obtain ⟨s,rfl,HS,HPS,HM,HB⟩:=hrel
          by_cases cs : s < l1.length
          case neg =>
            obtain rfl : s = l1.length:=by have:=HS.out;omega
            have c1 : decide ((l1.length : Int) < (l1.length : Int)) = false:=decide_eq_false (by omega)
            have hP : P = l1.length:=by have:=HPS.out;rw [Nat.sub_self,pivot] at this;exact this.symm
            have e : (0 : Int) = r:=by
              have h:=HG.out
              rw [show l1.length - c = (l1.length - c - 1) + 1 from by have:=CC.out;omega,uw,if_pos (by rw [HPE.out,hP])] at h
              exact h
            subst e
            clear hP
            go_wp2
            go_ret
            exact ⟨rfl,uH HB.out⟩
          case pos =>
            have c1 : decide ((s : Int) < (l1.length : Int)) = true:=decide_eq_true (by omega)
            obtain ⟨q,cq,hx,hrow⟩:=HM.out.get cs
            have HROW:=aa.mk hrow
            obtain ⟨y0,hy0⟩ : ∃ y0,(M s).getD c 0 = y0:=⟨_,rfl⟩
            have hcell:=hrow.cell CC.out
            rw [hy0] at hcell
            have CS:=aa.mk cs
            have HY:=aa.mk hy0
            clear hrow hy0
            have q0 : (0 ≤ (s : Int)) = True:=eq_true (by omega)
            have q1 : ((s : Int) < (l1.length : Int)) = True:=eq_true (by omega)
            have q2 : (0 ≤ (c : Int)) = True:=eq_true (by omega)
            have q3 : ((c : Int) < (l1.length : Int)) = True:=eq_true (by have:=CC.out;omega)
            by_cases hy : y0 = 0
            case pos =>
              subst hy
              have e0 : ((0 : Int) == 0) = true:=rfl
              go_wp2
              go_roundg (l1.length - s)
              case measure=>have:=HS.out;have:=CS.out;omega
              case rel =>
                refine ⟨s + 1,by rw [kz CS.out (by have:=HN.out;omega)],⟨by have:=HS.out;have:=CS.out;omega,by have:=HS.out;omega,CS.out⟩,⟨?_⟩,⟨HM.out.below (by repeat (first | exact Below.refl _ _ | apply aW | apply aZ))⟩,⟨uH HB.out⟩⟩
                have h:=HPS.out
                rw [show l1.length - s = (l1.length - (s + 1)) + 1 from by have:=CS.out;omega,pivot,if_pos HY.out] at h
                exact h
            case neg =>
              have e0 : (y0 == 0) = false:=beq_eq_false_iff_ne.mpr hy
              have hP : P = s:=by
                have h:=HPS.out
                rw [show l1.length - s = (l1.length - (s + 1)) + 1 from by have:=CS.out;omega,pivot,if_neg (by rw [HY.out];exact hy)] at h
                exact h.symm
              subst hP
              have hG : uw a0 l1.length (l1.length - (c + 1)) (c + 1) (AY a0 (si a0 ((M P).getD c 0)) l1.length c (rf M c P)) ((if P = c then o else (-o) % a0) * (M P).getD c 0 % a0) = r:=by
                have h:=HG.out
                rw [show l1.length - c = (l1.length - c - 1) + 1 from by have:=CC.out;omega,uw,if_neg (by rw [HPE.out];have:=CS.out;omega),HPE.out] at h
                rw [show l1.length - (c + 1) = l1.length - c - 1 from by omega]
                exact h
              clear HG HPE HPS
              have HG:=aa.mk hG
              have hsn : ((P : Int) == (l1.length : Int)) = false:=beq_eq_false_iff_ne.mpr (by omega)
              clear hG
              go_upto_if 47 with (fail)
              clear e0 hsn q0 q1 q2 q3 c1
              go_cut [5] (fun v5 wc=>v5 = .int .i64 (if P = c then o else (-o) % a0)∧aa (Ms 24 2 wc w.heap.size g l1.length (rf M c P))∧aa (Row 2 wc w.heap.size q l1.length (M P))∧aa (Below w.heap.size w wc))
              case first =>
                clear hx hcell
                by_cases hpc : P = c
                case pos =>
                  have e1 : ((P : Int) != (c : Int)) = false:=bne_eq_false_iff_eq.mpr (by rw [hpc])
                  have e2 : ((P : Int) == (c : Int)) = true:=beq_iff_eq.mpr (by rw [hpc])
                  have hpi : (P : Int) = (c : Int):=by rw [hpc]
                  go_wp2
                  go_meet
                  case rel =>
                    have e : rf M c P = M:=funext fun i=>by
                      unfold rf
                      by_cases hi : i = c
                      · rw [if_pos hi,hpc,hi]
                      · rw [if_neg hi,if_neg (by rw [hpc];exact hi)]
                    exact ⟨by rw [if_pos hpc],⟨by rw [e];exact HM.out.below (by repeat (first | exact Below.refl _ _ | apply aW | apply aZ))⟩,⟨HROW.out.below (by repeat (first | exact Below.refl _ _ | apply aW | apply aZ))⟩,⟨uH HB.out⟩⟩
                case neg =>
                  have e1 : ((P : Int) != (c : Int)) = true:=bne_iff_ne.mpr (by omega)
                  have e2 : ((P : Int) == (c : Int)) = false:=beq_eq_false_iff_ne.mpr (by omega)
                  have hpi : ¬ (P : Int) = (c : Int):=by omega
                  obtain ⟨qc,kc,hxc,hrowc⟩:=HM.out.get CC.out
                  have HROWC:=aa.mk hrowc
                  obtain ⟨qp,kp,hxp,_⟩:=HM.out.get CS.out
                  have hfp:=HM.out.frozen P
                  clear hrowc
                  have q0 : (0 ≤ (P : Int)) = True:=eq_true (by omega)
                  have q1 : ((P : Int) < (l1.length : Int)) = True:=eq_true (by omega)
                  have q2 : (0 ≤ (c : Int)) = True:=eq_true (by omega)
                  have q3 : ((c : Int) < (l1.length : Int)) = True:=eq_true (by have:=CC.out;omega)
                  go_wp2_with (first | ((with_reducible refine tK (t:=24) (p:=54) rfl ?_);refine rF (t:=24) (p:=54) (v:=?vo) (w1:=(wr.setCell ⟨g,P,none⟩ (.slice (some ⟨qc,0,none⟩) l1.length kc))) ?hg ?ho ?hn ?hr ?_;(case ho=>rfl);(case hg=>rfl);(case hn=>rfl);(case hr=>first | (go_simp;done) | (go_simp;rfl));intro w2 hw;have n0_:=aa.mk (HM.out.set (c:=kc) (by decide) CS.out HROWC.out);have n1_:=aa.mk (HM.out.far (by decide) HROW.out P (.slice (some ⟨qc,0,none⟩) l1.length kc));have n2_:=aa.mk (mO (j:=P) (v:=.slice (some ⟨qc,0,none⟩) l1.length kc) HB.out HM.out.bg);rw [← hw] at n0_ n1_ n2_;clear HM HB HROW hw hxc hxp hfp HROWC;have HM:=n0_;have HROW:=n1_;have HB:=n2_;clear n0_ n1_ n2_;obtain ⟨qd,kd,hxd,_⟩:=HM.out.get CC.out;have hfc:=HM.out.frozen c) | ((with_reducible refine ae (f:=76) rfl ?_);refine gL (some 62) Try.func76 #[.int .i64 a0,.int .i64 (wrap64 (-o))] ?_;refine (IM HP.out (y:=(-o) % a0) ?wv _).mono ?_;(case wv=>have:=HO.out;have:=HP.out.top;rw [bM (by omega) (by omega)]);rintro e w' ⟨rfl,⟨nd,rfl⟩⟩;refine ⟨_,rfl,?_⟩))
                  go_meet
                  case rel =>
                    have n0_:=(HM.out.set (c:=cq) (by decide) CC.out HROW.out).congr (M':=rf M c P) (fun i _=>rfl)
                    have n1_:=HM.out.far (by decide) HROW.out c (.slice (some ⟨q,0,none⟩) l1.length cq)
                    have n2_:=mO (j:=c) (v:=.slice (some ⟨q,0,none⟩) l1.length cq) HB.out HM.out.bg
                    exact ⟨by rw [if_neg hpc],⟨n0_.below (by repeat (first | exact Below.refl _ _ | apply aW | apply aZ))⟩,⟨n1_.below (by repeat (first | exact Below.refl _ _ | apply aW | apply aZ))⟩,⟨uH n2_⟩⟩
              case rest =>
                clear HM HB HROW hx hcell
                obtain ⟨rfl,HM,HROW,HB⟩:=hcut
                have hMc : rf M c P c = M P:=by unfold rf;rw [if_pos rfl]
                have hNm : ∀ i,i < l1.length → Nm a0 (rf M c P i):=fun i hi=>by
                  unfold rf
                  by_cases h1 : i = c
                  · rw [if_pos h1];exact HO.out.2 _ CS.out
                  · by_cases h2 : i = P
                    · rw [if_neg h1,if_pos h2];exact HO.out.2 _ CC.out
                    · rw [if_neg h1,if_neg h2];exact HO.out.2 _ hi
                have hoB : 0 ≤ (if P = c then o else (-o) % a0)∧(if P = c then o else (-o) % a0) < a0:=by
                  by_cases h1 : P = c
                  · rw [if_pos h1];exact HO.out.1
                  · rw [if_neg h1];exact lQ HP.out.pos _
                have hG:=HG.out
                have hR1:=HROW.out
                have hy1:=HY.out
                rw [← hMc] at hG hR1 hy1
                clear HG hMc HO HROW HY hy
                generalize rf M c P = M1 at HM hNm hG hR1 hy1
                generalize (if P = c then o else (-o) % a0) = o1 at hoB hG ⊢
                have LK:=(hNm c CC.out).Cx HP.out.pos c
                rw [hy1] at LK hG
                obtain ⟨o2,ho2⟩ : ∃ o2,o1 * y0 % a0 = o2:=⟨_,rfl⟩
                obtain ⟨iv,hiv⟩ : ∃ iv,si a0 y0 = iv:=⟨_,rfl⟩
                have hivB:=Gt HP.out y0
                rw [hiv] at hivB
                rw [ho2,hiv] at hG
                have hm1:=Cc HP.out hoB.1 hoB.2 LK.1 LK.2
                have hmul : IntKind.i64.wrap (o1 * y0) = o1 * y0:=by rw [jd,bM (by omega) (by omega)]
                have htm : Int.tmod (o1 * y0) a0 = o2:=by rw [lC hm1.1,ho2]
                have ah3 : aa (0 ≤ o2∧o2 < a0):=⟨by rw [← ho2];exact lQ HP.out.pos _⟩
                have HG:=aa.mk hG
                have HNM:=aa.mk hNm
                have HROW:=aa.mk hR1
                have HY:=aa.mk hy1
                have HYB:=aa.mk LK
                have HIV:=aa.mk hiv
                have HIVB:=aa.mk hivB
                have hcell : wc.cell? ⟨q,c,none⟩ = some (.int .i64 y0):=by rw [← hy1];exact hR1.cell CC.out
                clear hG hNm hR1 hy1 LK hiv hivB hm1 ho2 hoB HS CS cs
                have hpz : (a0 == 0) = false:=beq_eq_false_iff_ne.mpr HP.out.ne
                have hpz2 : ¬ a0 = 0:=HP.out.ne
                have q2 : (0 ≤ (c : Int)) = True:=eq_true (by omega)
                have q3 : ((c : Int) < (l1.length : Int)) = True:=eq_true (by have:=CC.out;omega)
                have hadd : IntKind.i64.wrap ((c : Int) + 1) = ((c + 1 : Nat) : Int):=by rw [jd,kz CC.out (by have:=HN.out;omega)]
                go_wp2_with (first | ((with_reducible refine ae (f:=75) rfl ?_);refine gL (some 76) Try.func75 #[.int .i64 a0,.int .i64 y0] ?_;refine (Q8 HP.out HYB.out HIV.out _).mono ?_;rintro e w' ⟨rfl,⟨nd,rfl⟩⟩;refine ⟨_,rfl,?_⟩))
                have n0_:=aa.mk (HM.out.below (aZ (Below.refl _ _) nd))
                have n1_:=aa.mk (HROW.out.below (aZ (Below.refl _ _) nd))
                have n2_:=aa.mk (aZ HB.out nd)
                clear HM HROW HB hcell hmul htm q2 q3 hadd
                have HM:=n0_;have HROW:=n1_;have HB:=n2_
                clear n0_ n1_ n2_
                generalize wc.drewN nd = w4 at HM HROW HB ⊢
                obtain ⟨E,hE⟩ : ∃ E : Nat → List Int,E = fun i=>oh a0 ((M1 i).getD c 0 * iv % a0) (M1 i) (M1 c) l1.length:=⟨_,rfl⟩
                have HE:=aa.mk hE
                clear hE
                go_loopg [11] (l1.length - c) (fun kq v11 w'=>∃ s : Nat,v11 = .int .i64 (s : Int)∧aa (kq + s = l1.length + 1∧c < s∧s ≤ l1.length)∧aa (Ms 24 2 w' w.heap.size g l1.length (fun t=>if c < t∧t < s then E t else M1 t))∧aa (Row 2 w' w.heap.size q l1.length (M1 c))∧aa (Below w.heap.size w w'))
                case atStart =>
                  refine ⟨c + 1,rfl,⟨by have:=CC.out;omega,by omega,CC.out⟩,⟨(HM.out.below (by repeat (first | exact Below.refl _ _ | apply aW | apply aZ))).congr fun t _=>?_⟩,⟨HROW.out.below (by repeat (first | exact Below.refl _ _ | apply aW | apply aZ))⟩,⟨uH HB.out⟩⟩
                  rw [if_neg (by omega)]
                case round =>
                  clear HM HROW HB
                  obtain ⟨s,rfl,HS,HM,HROW,HB⟩:=hrel
                  by_cases cs : s < l1.length
                  case neg =>
                    obtain rfl : s = l1.length:=by have:=HS.out;omega
                    have c1 : decide ((l1.length : Int) < (l1.length : Int)) = false:=decide_eq_false (by omega)
                    go_wp2
                    go_roundg (l1.length - c)
                    case measure=>have:=HC.out;have:=CC.out;omega
                    case rel =>
                      refine ⟨c + 1,o2,AY a0 iv l1.length c M1,rfl,by rw [kz CC.out (by have:=HN.out;omega)],⟨by have:=HC.out;have:=CC.out;omega,CC.out⟩,⟨ah3.out,fun t ht=>?_⟩,HG,⟨(HM.out.below (by repeat (first | exact Below.refl _ _ | apply aW | apply aZ))).congr fun t ht=>?_⟩,⟨uH HB.out⟩⟩
                      · unfold AY
                        by_cases h1 : c < t
                        · rw [if_pos h1];exact CK HP.out.pos _ _ _ _
                        · rw [if_neg h1];exact HNM.out t ht
                      · unfold AY
                        by_cases h1 : c < t
                        · rw [if_pos h1,if_pos (by omega),HE.out]
                        · rw [if_neg h1,if_neg (by omega)]
                  case pos =>
                    have CS:=aa.mk cs
                    have c1 : decide ((s : Int) < (l1.length : Int)) = true:=decide_eq_true (by omega)
                    obtain ⟨qs,ks,hx,hrow⟩:=HM.out.get cs
                    simp only [if_neg (show ¬ (c < s∧s < s) from by omega)] at hrow
                    obtain ⟨x0,hx0⟩ : ∃ x0,(M1 s).getD c 0 = x0:=⟨_,rfl⟩
                    have hcell:=hrow.cell CC.out
                    have hxB:=(HNM.out s cs).Cx HP.out.pos c
                    rw [hx0] at hcell hxB
                    obtain ⟨f,hf⟩ : ∃ f,x0 * iv % a0 = f:=⟨_,rfl⟩
                    have hm1:=Cc HP.out hxB.1 hxB.2 HIVB.out.1 HIVB.out.2
                    have hmul : IntKind.i64.wrap (x0 * iv) = x0 * iv:=by rw [jd,bM (by omega) (by omega)]
                    have htm : Int.tmod (x0 * iv) a0 = f:=by rw [lC hm1.1,hf]
                    have HF : aa (E s = oh a0 f (M1 s) (M1 c) l1.length):=⟨by rw [HE.out,← hf,← hx0]⟩
                    have HFB : aa (0 ≤ f∧f < a0):=⟨by rw [← hf];exact lQ HP.out.pos _⟩
                    have HRS:=aa.mk hrow
                    clear hrow hx0 hxB hf hm1
                    have q0 : (0 ≤ (s : Int)) = True:=eq_true (by omega)
                    have q1 : ((s : Int) < (l1.length : Int)) = True:=eq_true (by omega)
                    have q2 : (0 ≤ (c : Int)) = True:=eq_true (by omega)
                    have q3 : ((c : Int) < (l1.length : Int)) = True:=eq_true (by have:=CC.out;omega)
                    obtain ⟨W1,hW1⟩ : ∃ W1,W1 = wr:=⟨_,rfl⟩
                    subst hW1
                    go_wp2_with (first | ((with_reducible refine bI (N:=95) rfl ?_);refine Kd.rC (Kd.int .i64) _ 2 ?hg (N:=95) ?hd (xs:=([] : List Int)) (inner:=[]) (ok:=fun _=>True) (okp:=fun _=>True) ?hr ?hp (fun _ hk=>hk) trivial (Below.refl _ _) (Nat.le_refl _) (by simp) ?_;(case hd=>rfl);(case hg=>rfl);(case hr=>first | (go_simp;done) | (go_simp;rfl));(case hp=>exact (dn.none _ _));intro v95 w5 ho hb hg_ hnew_;clear hg_ hnew_;have HN0:=aa.mk ho;have HB0:=aa.mk hb;clear ho hb))
                    clear hmul htm hcell q2 q3 c1 hpz hpz2
                    have HX:=aa.mk hx
                    clear hx
                    go_loopg [13,14] (l1.length + 1) (fun kq v13 v14 w'=>∃ (z13 : Value) (p : Nat),v13 = z13∧v14 = .int .i64 (p : Int)∧aa (kq + p = l1.length + 1∧p ≤ l1.length)∧aa (Kd.R (Kd.int .i64) 2 w' W1.heap.size (fun _=>True) z13 (oh a0 f (M1 s) (M1 c) p))∧aa (Below W1.heap.size W1 w'))
                    case atStart=>exact ⟨_,0,rfl,rfl,⟨by omega,by omega⟩,⟨uR HN0.out⟩,⟨uH HB0.out⟩⟩
                    case round =>
                      clear HN0 HB0
                      obtain ⟨z13,p,aom,rfl,HPP,HN0,HB0⟩:=hrel
                      rw [aom]
                      clear aom
                      by_cases cp : p < l1.length
                      case neg =>
                        obtain rfl : p = l1.length:=by have:=HPP.out;omega
                        have c1 : decide ((l1.length : Int) < (l1.length : Int)) = false:=decide_eq_false (by omega)
                        obtain ⟨q2,k2,cur,rfl,hb2,hl2,hc2,hr2⟩:=IC HN0.out (by rw [AZ];exact H0.out)
                        rw [AZ] at hr2 hl2 ⊢
                        have n0_:=aa.mk (HM.out.below HB0.out)
                        have n1_:=aa.mk (HROW.out.below HB0.out)
                        have n2_:=xH HB HB0.out
                        have HR2 : aa (Row 2 wr w.heap.size q2 l1.length (E s)):=⟨Nat.le_trans (af HB.out) hb2,cur,hc2,by rw [HF.out];exact hr2⟩
                        have hx2:=jy HB0.out HX.out
                        clear HM HROW HB hb2 hl2 hc2 hr2 HN0
                        have HM:=n0_;have HROW:=n1_;have HB:=n2_
                        clear n0_ n1_ n2_
                        have hfs:=HM.out.frozen s
                        go_wp2
                        go_roundg (l1.length - s)
                        case measure=>have:=HS.out;have:=CS.out;omega
                        case rel =>
                          have n0_:=(HM.out.set (c:=k2) (by decide) CS.out HR2.out).congr (M':=fun t=>if c < t∧t < s + 1 then E t else M1 t) (fun t ht=>by
                            by_cases hts : t = s
                            · rw [if_pos hts,if_pos (by have:=HS.out;omega),hts]
                            · rw [if_neg hts]
                              by_cases h2 : c < t∧t < s
                              · rw [if_pos h2,if_pos (by omega)]
                              · rw [if_neg h2,if_neg (by omega)])
                          have n1_:=HM.out.far (by decide) HROW.out s (.slice (some ⟨q2,0,none⟩) l1.length k2)
                          have n2_:=mO (j:=s) (v:=.slice (some ⟨q2,0,none⟩) l1.length k2) HB.out HM.out.bg
                          exact ⟨s + 1,by rw [kz CS.out (by have:=HN.out;omega)],⟨by have:=HS.out;have:=CS.out;omega,by have:=HS.out;omega,CS.out⟩,⟨n0_.below (by repeat (first | exact Below.refl _ _ | apply aW | apply aZ))⟩,⟨n1_.below (by repeat (first | exact Below.refl _ _ | apply aW | apply aZ))⟩,⟨uH n2_⟩⟩
                      case pos =>
                        have CP:=aa.mk cp
                        have c1 : decide ((p : Int) < (l1.length : Int)) = true:=decide_eq_true (by omega)
                        obtain ⟨x1,hx1⟩ : ∃ x1,(M1 s).getD p 0 = x1:=⟨_,rfl⟩
                        obtain ⟨y1,hy1⟩ : ∃ y1,(M1 c).getD p 0 = y1:=⟨_,rfl⟩
                        have hA:=HX.out
                        have hB1:=HRS.out.cell cp
                        have hC1:=HROW.out.cell cp
                        have Q9:=(HNM.out s CS.out).Cx HP.out.pos p
                        have Ra:=(HNM.out c CC.out).Cx HP.out.pos p
                        rw [hx1] at hB1 Q9
                        rw [hy1] at hC1 Ra
                        obtain ⟨z,hz⟩ : ∃ z,(x1 - f * y1) % a0 = z:=⟨_,rfl⟩
                        have HZ : aa (oh a0 f (M1 s) (M1 c) (p + 1) = oh a0 f (M1 s) (M1 c) p ++ [z]):=⟨by unfold oh;rw [List.range_succ,List.map_append,List.map_singleton,hx1,hy1,hz]⟩
                        have HZE:=aa.mk hz
                        have HXB:=aa.mk Q9
                        have awv:=aa.mk Ra
                        have HA:=aa.mk hA
                        have HB1:=aa.mk hB1
                        have HC1:=aa.mk hC1
                        have HLEN:=aa.mk (AZ a0 f (M1 s) (M1 c) p)
                        clear hx1 hy1 hz Q9 Ra hA hB1 hC1 cp
                        generalize oh a0 f (M1 s) (M1 c) p = L at HN0 HZ HLEN
                        have cp1:=CP.out
                        go_wp2
                        clear cp1
                        have q2 : (0 ≤ (p : Int)) = True:=eq_true (by omega)
                        have q3 : ((p : Int) < (l1.length : Int)) = True:=eq_true (by have:=CP.out;omega)
                        have n0_:=aa.mk (Kd.iJ HN0.out)
                        have n1_:=aa.mk (aW HB0.out)
                        clear HN0 HB0
                        have HN0:=n0_;have HB0:=n1_
                        clear n0_ n1_
                        refine ky (n:=20) (S:=fun w'=>w'.cell? ⟨g,s,none⟩ = some (.slice (some ⟨qs,0,none⟩) l1.length ks)∧w'.cell? ⟨qs,p,none⟩ = some (.int .i64 x1)∧w'.cell? ⟨q,p,none⟩ = some (.int .i64 y1)) (ds:=[]) (bl 20 0) (by kernel_rfl) rfl (by kernel_rfl) ⟨jy HB0.out HA.out,jy HB0.out HB1.out,jy HB0.out HC1.out⟩ (fun hHeld=>?_)
                        refine gV jX.aok jX.ah2 (fun HT_ HW_=>?_)
                        generalize wr.drew = w6 at HN0 HB0 hHeld ⊢
                        refine pu_ 0 101 (bl 20 1) HT_ ?_
                        refine pu_ 1 102 (bl 20 3) HT_ ?_
                        refine pu_ 2 103 (bl 20 7) HT_ ?_
                        refine pu_ 3 104 (bl 20 15) HT_ ?_
                        refine pu_ 4 105 (bl 20 31) HT_ ?_
                        refine ta_ 5 106 (bl 20 63) HT_ HW_ hHeld ?_
                        refine pu_ 6 107 (bl 20 127) HT_ ?_
                        refine pu_ 7 108 (bl 20 255) HT_ ?_
                        refine ta_ 8 109 (bl 20 511) HT_ HW_ hHeld ?_
                        refine pu_ 9 110 (bl 20 1023) HT_ ?_
                        refine pu_ 10 111 (bl 20 2047) HT_ ?_
                        refine pu_ 11 112 (bl 20 4095) HT_ ?_
                        refine pu_ 12 113 (bl 20 8191) HT_ ?_
                        refine ta_ 13 114 (bl 20 16383) HT_ HW_ hHeld ?_
                        refine pu_ 14 115 (bl 20 32767) HT_ ?_
                        refine pu_ 15 116 (bl 20 65535) HT_ ?_
                        refine on_ 16 (some 117) (bl 20 131071) HT_ (fun K hK=>?_)
                        refine gS Try.func76 #[.int .i64 a0,.int .i64 (wrap64 (x1 - wrap64 (f * y1)))] ?_
                        refine (IM HP.out (y:=z) ?wv _).mono ?_
                        (case wv=>have h1:=HXB.out;have h2:=awv.out;have h3:=Cc HP.out HFB.out.1 HFB.out.2 h2.1 h2.2;have h4:=HP.out.top;rw [bM (x:=f * y1) (by omega) (by omega),bM (by omega) (by omega),HZE.out])
                        rintro e w' ⟨rfl,⟨nd,rfl⟩⟩
                        refine ⟨_,rfl,?_⟩
                        refine hK.out _ _ hHeld (fun hHeld=>?_)
                        clear hK K
                        refine no_ 117 ?_
                        have n0_:=aa.mk (Kd.uo HN0.out nd)
                        have n1_:=aa.mk (aZ HB0.out nd)
                        clear HN0 HB0
                        have HN0:=n0_;have HB0:=n1_
                        clear n0_ n1_
                        generalize w6.drewN nd = w7 at HN0 HB0 hHeld ⊢
                        refine on_ 17 (some 118) (bl 20 262143) HT_ (fun K hK=>?_)
                        refine EM (w1:=?_) (v:=?_) (by rfl) rfl ?_ ?_
                        rotate_left 2
                        · go_simp
                          constructor
                          · rfl
                          · rfl
                        refine hK.out _ _ ⟨jy (gG (Below.refl _ _) _) hHeld.1,jy (gG (Below.refl _ _) _) hHeld.2.1,jy (gG (Below.refl _ _) _) hHeld.2.2⟩ (fun hHeld=>?_)
                        clear hK K
                        refine no_ 118 ?_
                        refine on_ 18 (some 119) (bl 20 524287) HT_ (fun K hK=>?_)
                        refine Kd.yU (Kd.int .i64) (w0:=W1) W1.heap.size (by rfl) (.tmp 101) (.tmp 118) 24 2 (.int .i64 0) 8 rfl HMK.out HIN.out rfl (by decide) (by omega) z13 L z [.int .i64 z] (fun _=>True) (fun _=>False) rfl rfl ?aP (fun _ hk=>hk.elim) ?aF ?aO ?aB ?aS ?aL ?_
                        (case aP=>exact rfl)
                        (case aB=>exact (uH HB0.out))
                        (case aF=>exact (fun _ _=>trivial))
                        (case aO=>exact (uR HN0.out))
                        (case aS=>exact (af (uH HB0.out)))
                        (case aL=>have:=HLEN.out;have:=CP.out;have:=HN.out;omega)
                        intro aCJ w8 ho hb hg hat
                        rw [← HZ.out] at ho
                        have n0_:=aa.mk ho
                        have n1_:=aa.mk hb
                        clear HN0 HB0 ho hb hg hat
                        have HN0:=n0_;have HB0:=n1_
                        clear n0_ n1_
                        refine hK.out _ _ ⟨jy HB0.out HA.out,jy HB0.out HB1.out,jy HB0.out HC1.out⟩ (fun hHeld=>?_)
                        clear hK K
                        refine no_ 119 ?_
                        refine pu_ 19 13 (bl 20 1048575) HT_ ?_
                        refine done_ (done_of HT_.out (by kernel_rfl)) ?_
                        clear hHeld q2 q3
                        go_wp2
                        go_roundg (l1.length - p)
                        case measure=>have:=HPP.out;have:=CP.out;omega
                        case rel=>exact ⟨_,p + 1,rfl,by rw [kz CP.out (by have:=HN.out;omega)],⟨by have:=HPP.out;have:=CP.out;omega,CP.out⟩,⟨uR HN0.out⟩,⟨uH HB0.out⟩⟩
/- The reference's Hankel determinant: printed by a program of this session; its last call by hand (the rows are handed over to what sets their slots). -/
open Go.RowKit Go.Proofs.YtilbjbahmilhkaaW.PrintWords Go.Proofs.YtilbjbahmilhkaaW.PrintLast Go.Proofs.YtilbjbahmilhkaaW.PrintMore
attribute [local go_sem] o9 pg qX qY nM nN pq pu   -- for this text's walks alone
/-! ### fV: function 82 -/
def fV.l0 : Nat → Int → List (List Int) → Int → Int → List Int → Option (Int)
 | 0,_,_,_,_,_=>none
 | k + 1,x1,x5,x6,TT,LM=>if x6 < x1 then (if 0 ≤ x6 then (if x6 ≤ (wrap64 (x6 + x1)) then (if (wrap64 (x6 + x1)) ≤ (LM.length : Int) then ((jO.f ((LM.take ((wrap64 (x6 + x1)) : Int).toNat).drop (x6 : Int).toNat)).bind fun t138=>(if x5.length < 5864062014805 then (fV.l0 k x1 (x5 ++ [t138]) (wrap64 (x6 + 1)) TT LM) else (none))) else (none)) else (none)) else (none)) else ((jX.f k TT x5).bind fun acN=>(some acN))
def fV.f (k : Nat) (av : Int) (ah : List Int) (a1 : Int) : Option (Int):=fV.l0 k a1 (([] : List (List Int))) 0 av ah
set_option maxHeartbeats 8000000 in
set_option maxRecDepth 100000 in
theorem fV.calls (k : Nat) (av : Int) (bz : Option Addr) (bu : Nat) (ah : List Int) (a1 : Int) (r : Int) (w : World) (hr0_1 : Kd.C (Kd.int .i64) w bz ah.length ah) (gy : ah.length ≤ bu) (h : fV.f k av ah a1 = some r) :
  Calls Try.prog 82 #[.agg #[.int .i64 av,.slice bz ah.length bu],.int .i64 a1] w fun e w'=>e = .returned (.int .i64 r)∧Below w.heap.size w w':=by
 have aCK:=Try.underlying26
 have dS:=zA hr0_1
 have dY:=zA gy
 clear hr0_1 gy
 have HB:=zA (Below.refl w.heap.size w)
 have H : (fV.l0 k a1 (([] : List (List Int))) 0 av ah) = some r:=h
 clear h
 obtain ⟨aon,OX⟩ : ∃ y_ : List (List Int),y_ = (([] : List (List Int))):=⟨_,rfl⟩
 replace H : (fV.l0 k a1 aon 0 av ah) = some r:=by first | (rw [OX];with_reducible exact H) | (have H2_:=(Option.bind_some _ _).symm.trans H;rw [OX];with_reducible exact H2_) | (have H2_:=(Option.bind_some _ _).symm.trans H;with_reducible exact H2_) | with_reducible exact H | (rw [OX];exact H) | exact H
 have afv:=zA OX
 clear OX
 have H':=zA H
 clear H
 go_enter Try.func82,Try.ntmps82
 go_wp2_with (first | ((with_reducible refine bI (N:=2) rfl ?_);refine qN ?hg (N:=2) ?hd (cs:=#[.int .i64 av,.slice bz ah.length bu]) (t:=26) ?hr ?_;(case hd=>rfl);(case hg=>rfl);(case hr=>first | (go_simp;done) | (go_simp;rfl));intro FR hg w3 hbox hb;have n0_:=xH HB hb;have n1_:=zA (hbox);have n2_:=zA ((by rw [hg];exact (af (uH HB.out)) : w.heap.size ≤ FR));have n3_:=zA ((by rw [hg];exact (af (uH HB.out)) : w.heap.size ≤ FR));clear HB;have HB:=n0_;have r9:=n1_;have aAz:=n2_;have aoo:=n3_;have:=geI aoo;clear n0_ n1_ n2_ n3_ hb hbox hg) | ((with_reducible refine bI (N:=7) rfl ?_);refine Kd.alL (Kd.slice 2 (Kd.int .i64)) _ 24 ?hg (N:=7) ?hd (xs:=([] : List (List Int))) (inner:=[]) (ok:=fun _=>True) (okp:=fun _=>True) ?hr ?hp (fun _ hk=>hk) trivial (Below.refl _ _) (Nat.le_refl _) (by simp) ?_;(case hd=>rfl);(case hg=>rfl);(case hr=>first | (go_simp;done) | (go_simp;rfl));(case hp=>exact (dn.none _ _));intro aop w4 ho5 hb hg_ hnew_;clear hg_ hnew_;(first | rw [← afv.out] at ho5 | (simp only [Int.reduceToNat] at ho5;rw [← afv.out] at ho5));have n0_:=zA (Kd.abQ ho5 (af (uH HB.out)));have n1_:=xB r9 hb;have n2_:=xH HB hb;clear r9 HB;have aoq:=n0_;have r9:=n1_;have HB:=n2_;clear n0_ n1_ n2_ hb ho5))
 go_loopg [5,6] k (fun kq v5 v6 w'=>∃ (eT : List (List Int)) (pJ : Int),v6 = .int .i64 pJ∧aa (fV.l0 kq a1 eT pJ av ah = some r)∧aa (kq ≤ k)∧aa (Kd.S (Kd.slice 2 (Kd.int .i64)) 24 w' w.heap.size (fun _=>True) v5 eT)∧aa (w'.heap[FR]? = some (.cells #[.int .i64 av,(.slice bz ah.length bu)] 26 (0,0)))∧aa (Below w.heap.size w w'))
 case atStart=>exact ⟨(aon),(0),(by first | rfl | (simp;done) | (simp [*];done)),H',⟨Nat.le_refl _⟩,⟨by (with_reducible repeat (first | apply Kd.Gm | apply Kd.Gn | apply Kd.KX));exact aoq.out⟩,⟨uB r9.out⟩,⟨uH HB.out⟩⟩
 case round =>
  clear H'
  try clear c1
  try clear p2
  obtain ⟨eT,pJ,rfl,HA,HK1,ek,r9,HB⟩:=hrel
  cases gk with
  | zero=>exact absurd HA.out (by simp [fV.l0])
  | succ k1 =>
   have H:=HA.out
   clear HA
   simp only [fV.l0] at H
   by_cases c6 : pJ < a1
   ·rw [if_pos c6] at H
    have pU : decide (pJ < a1) = true:=decide_eq_true c6
    clear c6
    by_cases c7 : 0 ≤ pJ
    ·rw [if_pos c7] at H
     have Ce:=eq_true c7
     have EP : decide (0 ≤ pJ) = true:=decide_eq_true c7
     clear c7
     by_cases c8 : pJ ≤ (wrap64 (pJ + a1))
     ·rw [if_pos c8] at H
      have uT:=eq_true c8
      have Gc : decide (pJ ≤ (wrap64 (pJ + a1))) = true:=decide_eq_true c8
      by_cases c9 : (wrap64 (pJ + a1)) ≤ (ah.length : Int)
      ·rw [if_pos c9] at H
       have CB:=eq_true c9
       have JI : decide ((wrap64 (pJ + a1)) ≤ (ah.length : Int)) = true:=decide_eq_true c9
       replace H:=Option.bind_eq_some_iff.mp H
       obtain ⟨t138,aor,H⟩:=H
       replace H : (if eT.length < 5864062014805 then (fV.l0 k1 a1 (eT ++ [t138]) (wrap64 (pJ + 1)) av ah) else (none)) = some r:=H
       have A10:=zA aor
       clear aor
       by_cases c11 : eT.length < 5864062014805
       ·rw [if_pos c11] at H
        have Yp:=zA c11
        clear c11
        obtain ⟨aos,OY⟩ : ∃ y_ : List (List Int),y_ = (eT ++ [t138]):=⟨_,rfl⟩
        replace H : (fV.l0 k1 a1 aos (wrap64 (pJ + 1)) av ah) = some r:=by first | (rw [OY];with_reducible exact H) | (have H2_:=(Option.bind_some _ _).symm.trans H;rw [OY];with_reducible exact H2_) | (have H2_:=(Option.bind_some _ _).symm.trans H;with_reducible exact H2_) | with_reducible exact H | (rw [OY];exact H) | exact H
        have aot:=zA OY
        clear OY
        have H':=zA H
        clear H
        have sV : wr.cell? ⟨FR,0,none⟩ = some (.int .i64 av):=(bR r9.out 0).trans rfl
        have sW : wr.cell? ⟨FR,1,none⟩ = some (.slice bz ah.length bu):=(bR r9.out 1).trans rfl
        have sZ:=di r9.out 0
        have tq:=di r9.out 1
        obtain ⟨aCL,afw,_,afx,_⟩:=info_parts lm
        obtain ⟨A13,aww,aou,aov⟩:=LP (P:=Try.prog) (Value.int .i64) 0 24 2 .i64 .i64 Try.underlying24 afw afx bz bu ah pJ (wrap64 (pJ + a1)) (of_decide_eq_true (by first | (with_reducible assumption) | assumption)) (by first | omega | exact of_decide_eq_true (by first | (with_reducible assumption) | assumption)) (of_decide_eq_true (by first | (with_reducible assumption) | assumption)) dY.out
        have aow:=zA (Kd.uZ (h1:=fun _=>rfl) (aou _ (Kd.rD dS.out)))
        have aox:=zA aov
        clear aou aov afw afx
        go_wp2_with (first | ((with_reducible refine ae (f:=85) rfl ?_);refine uq (some 21) rfl rfl Try.func85 (by kernel_rfl) rfl #[.slice A13 ((ah.take ((wrap64 (pJ + a1)) : Int).toNat).drop (pJ : Int).toNat).length (bu - pJ.toNat)] rfl (by (try simp only [la,lb,lc]);first | done | (rw [show ((ah.take ((wrap64 (pJ + a1)) : Int).toNat).drop (pJ : Int).toNat).length = ((wrap64 (pJ + a1)).toNat - pJ.toNat) from (by rw [List.length_drop,List.length_take];have h_ : ((wrap64 (pJ + a1)) : Int) ≤ (ah.length : Int):=of_decide_eq_true (by first | (with_reducible assumption) | assumption);omega)] <;> rfl) | rfl | (simp only [ld,le];rfl)) ?_;(with_reducible refine (jO.calls _ _ ((ah.take ((wrap64 (pJ + a1)) : Int).toNat).drop (pJ : Int).toNat) t138 _ ?side1 ?side2 A10.out).mono ?_);(case side1=>exact uC ((Kd.aQ aow.out HB.out)));(case side2=>exact aox.out);rintro e w14 ⟨v139,rfl,ho0,hb⟩;refine ⟨_,rfl,?_⟩;have n0_:=zA (Kd.Xb (by (with_reducible repeat (first | apply Kd.Gm | apply Kd.Gn | apply Kd.KX));exact ek.out) (Kd.aN ho0) hb);have n1_:=zA (Kd.bD ho0 (af (uH HB.out)));have n2_:=xB r9 hb;have n3_:=xH HB hb;clear ek r9 HB;have ek:=n0_;have TU:=n1_;have r9:=n2_;have HB:=n3_;clear n0_ n1_ n2_ n3_;(try clear hb);(try clear hb2);(try clear hk);(try clear hi);(try clear ho0);obtain ⟨acO,XB,VP⟩:=Kd.aY TU.out;subst VP) | ((with_reducible refine eO (b:=.append) (xs:=#[.tmp 13,.tmp 22]) rfl ?_);at_builtin;refine Kd.Xd (Kd.slice 2 (Kd.int .i64)) (w0:=w) w.heap.size rfl (.tmp 13) (.tmp 22) 51 24 (.slice none 0 0) 24 rfl Try.underlying51 Iw rfl (by decide) (by omega) u5 eT t138 [.slice acO t138.length XB] (fun _=>True) (fun k_=>some k_ = (.slice acO t138.length XB : Value).ownBlock) rfl rfl ?aP (fun k_ hk_=>((Kd.ag (ok':=fun k_=>((fun _=>True)) k_∧some k_ ≠ (u5 : Value).ownBlock) (Kd.xL (TU.out) (Kd.SV ek.out) (by decide)) (fun k_ hk=>⟨trivial,hk.2⟩))).1 k_ hk_.symm) ?aF ?aO ?aB ?aS ?aL ?_;(case aP=>exact Kd.aoy (Kd.ag (Kd.zq rfl (Kd.ag (ok':=fun k_=>((fun _=>True)) k_∧some k_ ≠ (u5 : Value).ownBlock) (Kd.xL (TU.out) (Kd.SV ek.out) (by decide)) (fun k_ hk=>⟨trivial,hk.2⟩))) (fun _ h_=>h_)));(case aB=>exact (uH HB.out));(case aF=>exact (fun _ _=>trivial));(case aO=>exact (by (with_reducible repeat (first | apply Kd.Gm | apply Kd.Gn | apply Kd.KX));exact Kd.Xa ek.out (fun k_ hk=>⟨trivial,fun e_=>hk.2 e_⟩)));(case aS=>exact (af (uH HB.out)));(case aL=>have:=Yp.out;omega);intro aCM w15 ho hb hg hat;rw [← aot.out] at ho;have n0_:=zA (xz (g:=FR) (o:=.cells #[.int .i64 av,.slice bz ah.length bu] 26 (0,0)) (uB r9.out) hg (Kd.alJ ek.out r9.out (by decide)));have n1_:=zA (hb);have n2_:=zA (ho);clear r9 HB ek TU;have r9:=n0_;have HB:=n1_;have aoz:=n2_;clear n0_ n1_ n2_ ho hb hg hat))
        go_roundg k1
        case measure=>have:=HK1.out;omega
        case rel=>exact ⟨(aos),(wrap64 (pJ + 1)),(by first | rfl | (simp;done) | (simp [*];done)),H',⟨by have:=HK1.out;omega⟩,⟨by (with_reducible repeat (first | apply Kd.Gm | apply Kd.Gn | apply Kd.KX));exact aoz.out⟩,⟨uB r9.out⟩,⟨uH HB.out⟩⟩
       ·rw [if_neg c11] at H
        exact absurd H (by simp)
      ·rw [if_neg c9] at H
       exact absurd H (by simp)
     ·rw [if_neg c8] at H
      exact absurd H (by simp)
    ·rw [if_neg c7] at H
     exact absurd H (by simp)
   ·rw [if_neg c6] at H
    have pU : decide (pJ < a1) = false:=decide_eq_false c6
    clear c6
    replace H:=Option.bind_eq_some_iff.mp H
    obtain ⟨acN,aoA,H⟩:=H
    replace H : (some acN) = some r:=H
    have A17:=zA aoA
    clear aoA
    obtain rfl:=Option.some.inj H
    have DV : wr.cell? ⟨FR,0,none⟩ = some (.int .i64 av):=(bR r9.out 0).trans rfl
    have DW : wr.cell? ⟨FR,1,none⟩ = some (.slice bz ah.length bu):=(bR r9.out 1).trans rfl
    have DX:=di r9.out 0
    have DY:=di r9.out 1
    obtain ⟨CR,Cg,LQ⟩:=Kd.abS ek.out
    subst LQ
    go_wp2_with (first | ((with_reducible refine ae (f:=101) rfl ?_);refine uq (some 27) rfl rfl Try.func101 (by kernel_rfl) rfl #[.int .i64 av,.slice CR eT.length Cg] rfl (by (try simp only [la,lb,lc]);first | done | rfl | (simp only [ld,le];rfl)) ?_;(with_reducible refine (jX.calls k1 av _ eT acN w _ (fun _=>True) ?side1 ?side2 A17.out).mono ?_);(case side1=>exact (uH HB.out));(case side2=>exact (uR (Kd.S_R ek.out)));rintro e w20 ⟨rfl,hb⟩;refine ⟨_,rfl,?_⟩;clear ek r9 HB;have HB:=zA hb;clear hb))
    go_ret
    exact ⟨by first | rfl | (simp [dP,dQ] <;> rfl) | (simp [*,dP,dQ] <;> rfl),uH HB.out⟩
set_option maxHeartbeats 8000000
set_option maxRecDepth 100000
/-! ### gQ: function 46 -/
def gQ.l0 : Nat → Int → Int → List Int → Option (Int)
 | 0,_,_,_=>none
 | k + 1,x3,TV,LU=>if x3 < (wrap64 (Int.tdiv (wrap64 ((LU.length : Int) + 1)) 2)) then ((fV.f k TV LU (wrap64 (x3 + 1))).bind fun acP=>(if acP = 0 then (some x3) else (gQ.l0 k (wrap64 (x3 + 1)) TV LU))) else (some x3)
def gQ.f (k : Nat) (av : Int) (ah : List Int) : Option (Int):=gQ.l0 k 0 av ah
theorem gQ.calls (k : Nat) (av : Int) (bz : Option Addr) (bu : Nat) (ah : List Int) (r : Int) (w : World) (hr0_1 : Kd.C (Kd.int .i64) w bz ah.length ah) (gy : ah.length ≤ bu) (H : gQ.f k av ah = some r) :
  Calls Try.prog 46 #[.agg #[.int .i64 av,.slice bz ah.length bu]] w fun e w'=>e = .returned (.int .i64 r)∧Below w.heap.size w w':=by
 have qV:=Try.underlying26;have dS:=zA hr0_1;have dY:=zA gy;clear hr0_1 gy;have HB:=zA (Below.refl w.heap.size w);unfold gQ.f at H;have H':=zA H;clear H;go_enter Try.func46,Try.ntmps46;go_wp2_with (first | (refine bX 1 rfl #[.int .i64 av,.slice bz ah.length bu] 26 ?_;intro aoB w2 hg uE hb;have aoC:=gq HB hg;have:=geI aoC;replace HB:=xH HB hb;clear hb hg));go_loopg [3] k (fun kq v3 w'=>∃ (lv : Int),v3 = .int .i64 lv∧aa (gQ.l0 kq lv av ah = some r)∧aa (kq ≤ k)∧aa (w'.heap[aoB]? = some (.cells #[.int .i64 av,(.slice bz ah.length bu)] 26 (0,0)))∧aa (Below w.heap.size w w'));(case atStart=>exact ⟨(0),eS,H',⟨Nat.le_refl _⟩,⟨uB uE.out⟩,⟨uH HB.out⟩⟩)
 case round =>
  clear H';(try clear p2);obtain ⟨lv,rfl,HA,HK1,uE,HB⟩:=hrel
  cases gk with
  | zero=>exact absurd HA.out (by simp [gQ.l0])
  | succ k1 =>
   have H:=HA.out;clear HA;simp only [gQ.l0] at H;replace H:=gF H;obtain ⟨rU,H⟩|⟨rU,H⟩:=H
   ·obtain rfl:=Option.some.inj H;have qy:=bc uE 0;have qz:=bc uE 1;have qA:=bf uE 0;have qB:=bf uE 1;go_wp2;go_ret;exact ⟨eX,uH HB.out⟩
   replace H:=bO H;obtain ⟨acP,A4,H⟩:=H;replace H:=gE H;obtain ⟨c5,mZ,uS,H⟩|⟨c5,mZ,uS,H⟩:=H
   ·have H':=zA H;clear H;have LV:=bc uE 0;have LW:=bc uE 1;have LX:=bf uE 0;have LY:=bf uE 1;go_wp2_with (first | (go_at_call 82;(with_reducible refine (fV.calls k1 av _ _ ah (wrap64 (lv + 1)) acP _ ?side1 ?side2 A4.out).mono ?_);(case side1=>exact uC ((Kd.aQ dS.out HB.out)));(case side2=>exact dY.out);rintro e w9 ⟨rfl,hb⟩;replace uE:=xB uE hb;replace HB:=xH HB hb;(try clear hb)));go_roundg k1;(case measure=>have:=HK1.out;omega);(case rel=>exact ⟨(wrap64 (lv + 1)),eS,H',⟨by have:=HK1.out;omega⟩,⟨uB uE.out⟩,⟨uH HB.out⟩⟩)
   clear c5;obtain rfl:=Option.some.inj H;have IP:=bc uE 0;have IQ:=bc uE 1;have IR:=bf uE 0;have IU:=bf uE 1;go_wp2_with (first | (go_at_call 82;(with_reducible refine (fV.calls k1 av _ _ ah (wrap64 (lv + 1)) acP _ ?side1 ?side2 A4.out).mono ?_);(case side1=>exact uC ((Kd.aQ dS.out HB.out)));(case side2=>exact dY.out);rintro e w7 ⟨rfl,hb⟩;replace uE:=xB uE hb;replace HB:=xH HB hb;(try clear hb)));go_ret;exact ⟨eX,uH HB.out⟩
/-! ### fo: function 15 -/
def fo.l0 : Nat → List Int → Int → Int → List Int → Option (List Int × Int)
 | 0,_,_,_,_=>none
 | k + 1,x4,x5,GD,GG=>(gQ.f k GD GG).bind fun Rb=>(if x5 < (mn Rb 12) then ((dH.f k GD GG x5).bind fun LZ=>(if 0 ≤ x5 then (if x5 < (LZ.length : Int) then ((fJ.f k GD GG (fw LZ x5) 0).bind fun Wl=>(if x4.length < 17592186044416 then (fo.l0 k (x4 ++ [Wl]) (wrap64 (x5 + 1)) GD GG) else (none))) else (none)) else (none))) else (some (x4,0)))
def fo.f (k : Nat) (av : Int) (ah : List Int) : Option (List Int × Int):=(jg.f k av ah).bind fun aoD=>(if aoD = true then (fo.l0 k (([] : List Int)) 0 av ah) else (some (([] : List Int),1)))
def fo.T7 : Bool × List (List Nat × List Nat):=(true,[([],[]),([],[]),([],[]),([],[]),([2,3],[2,3]),([],[]),([4,5],[4,5]),([6],[6]),([1,7,4],[1,7]),([8],[8]),([0,9,8],[0,9]),([10,10,0,1,2,3,4,5,6,7,8,9,10],[0,10])])
def fo.B7 : List Nat:=[0,0,0,0,12,0,60,124,254,510,1023,2047]
theorem fo.ah4 : nI .any (opsOf Try.f15 7) = fo.T7:=by kernel_rfl
theorem fo.Yq : jT fo.T7.2 fo.B7 = true:=by kernel_rfl
theorem fo.calls (k : Nat) (av : Int) (bz : Option Addr) (bu : Nat) (ah : List Int) (r1 : List Int) (r2 : Int) (w : World) (hr0_1 : Kd.C (Kd.int .i64) w bz ah.length ah) (gy : ah.length ≤ bu) (H : fo.f k av ah = some (r1,r2)) :
  Calls Try.prog 15 #[.agg #[.int .i64 av,.slice bz ah.length bu]] w fun e w'=>∃ v0_ : Value,e = .returned (.tuple #[v0_,.int .i64 r2])∧Kd.R (Kd.int .i64) 2 w' w.heap.size (fun _=>True) v0_ r1∧Below w.heap.size w w':=by
 have qV:=Try.underlying26;have dS:=zA hr0_1;have dY:=zA gy;clear hr0_1 gy;have HB:=zA (Below.refl w.heap.size w);unfold fo.f at H;replace H:=bO H;obtain ⟨aoD,A2,H⟩:=H;replace H:=gB H;obtain ⟨rfl,H⟩|⟨rfl,H⟩:=H
 ·obtain ⟨awx,afy⟩:=eY ([] : List Int);(try rw [←afy.out] at H);have H':=zA H;clear H;go_enter Try.func15,Try.ntmps15;go_wp2_with (first | ((with_reducible refine bI (N:=1) rfl ?_);refine bx 1 #[.int .i64 av,.slice bz ah.length bu] 26 ?_;intro FT hg w4 hbox hb;have kI:=zA (hbox);have Yr:=gq HB hg;have:=geI Yr;replace HB:=xH HB hb;clear hb hbox hg;have Qu:=bc kI 0;have ah5:=bc kI 1;have Qv:=bf kI 0;have ah6:=bf kI 1) | ((with_reducible refine ae (f:=45) rfl ?_);refine gL (some 7) Try.func45 #[.agg #[.int .i64 av,.slice bz ah.length bu]] ?_;(with_reducible refine (jg.calls k av _ _ ah true _ ?side1 ?side2 A2.out).mono ?_);(case side1=>exact uC ((Kd.aQ dS.out HB.out)));(case side2=>exact dY.out);rintro e w6 ⟨rfl,hb⟩;refine ⟨_,rfl,?_⟩;replace kI:=xB kI hb;replace HB:=xH HB hb;(try clear hb);(try clear hk)) | (refine lN 2 9 rfl afy ?_;intro aCN w7 ho8 hb;have aoE:=zA (Kd.bD ho8 (af (uH HB.out)));replace kI:=xB kI hb;replace HB:=xH HB hb;clear hb ho8));go_loopg [4,5] k (fun kq v4 v5 w'=>∃ (uF : List Int) (eT : Int),v5 = .int .i64 eT∧aa (fo.l0 kq uF eT av ah = some (r1,r2))∧aa (kq ≤ k)∧aa (Kd.R (Kd.int .i64) 2 w' w.heap.size (fun _=>True) v4 uF)∧aa (w'.heap[FT]? = some (.cells #[.int .i64 av,(.slice bz ah.length bu)] 26 (0,0)))∧aa (Below w.heap.size w w'));(case atStart=>exact ⟨(awx),(0),eS,H',⟨Nat.le_refl _⟩,⟨uR aoE.out⟩,⟨uB kI.out⟩,⟨uH HB.out⟩⟩)
  case round =>
   clear H';(try clear c1);(try clear p2);(try clear c3);(try clear c4);(try clear Qu);(try clear ah5);(try clear Qv);(try clear ah6);obtain ⟨uF,eT,rfl,HA,HK1,Ch,kI,HB⟩:=hrel
   cases gk with
   | zero=>exact absurd HA.out (by simp [fo.l0])
   | succ k1 =>
    have H:=HA.out;clear HA;simp only [fo.l0] at H;replace H:=bO H;obtain ⟨Rb,A9,H⟩:=H;obtain ⟨Rc,Aj⟩ : ∃ j_ : Int,(mn Rb 12) = j_:=⟨_,rfl⟩;(first | rw [Aj] at H | simp only [Aj] at H);(try rw [Aj] at A9);(try (have awy : Rc ≤ 12:=by (rw [← Aj];unfold mn;(repeat' split) <;> omega)));(try (have awz : Rc ≤ 64:=by omega));have ah7 : (if 12 < Rb then 12 else Rb) = Rc:=Aj;replace H:=gF H;obtain ⟨wV,H⟩|⟨wV,H⟩:=H
    ·simp only [Option.some.injEq,Prod.mk.injEq] at H;obtain ⟨rfl,rfl⟩:=H;have acQ:=bc kI 0;have acR:=bc kI 1;have acS:=bf kI 0;have acT:=bf kI 1;go_wp2_with (first | ((with_reducible refine ae (f:=46) rfl ?_);refine gL (some 12) Try.func46 #[.agg #[.int .i64 av,.slice bz ah.length bu]] ?_;(with_reducible refine (gQ.calls k1 av _ _ ah Rb _ ?side1 ?side2 A9.out).mono ?_);(case side1=>exact uC ((Kd.aQ dS.out HB.out)));(case side2=>exact dY.out);rintro e w25 ⟨rfl,hb⟩;refine ⟨_,rfl,?_⟩;replace Ch:=xR Ch hb;replace kI:=xB kI hb;replace HB:=xH HB hb;(try clear hb)));go_ret2;exact ⟨_,by first | rfl | (simp [dP,dQ] <;> rfl) | (simp only [← Aj];first | rfl | (simp [dP,dQ] <;> rfl)) | (simp [*,dP,dQ] <;> rfl),uR Ch.out,uH HB.out⟩
    replace H:=bO H;obtain ⟨LZ,A12,H⟩:=H;replace H:=gD H;obtain ⟨Tk,H⟩:=H;replace H:=gD H;obtain ⟨Cn,H⟩:=H;replace H:=bO H;obtain ⟨Wl,A15,H⟩:=H;replace H:=gZ H;obtain ⟨Yt,H⟩:=H;obtain ⟨awC,afz⟩:=eY (uF ++ [Wl] : List Int);(try rw [←afz.out] at H);have H':=zA H;clear H;have Gu:=bc kI 0;have Gv:=bc kI 1;have Gw:=bf kI 0;have Gx:=bf kI 1;(try go_wp2_with (first | ((with_reducible refine ae (f:=46) rfl ?_);refine gL (some 12) Try.func46 #[.agg #[.int .i64 av,.slice bz ah.length bu]] ?_;(with_reducible refine (gQ.calls k1 av _ _ ah Rb _ ?side1 ?side2 A9.out).mono ?_);(case side1=>exact uC ((Kd.aQ dS.out HB.out)));(case side2=>exact dY.out);rintro e w18 ⟨rfl,hb⟩;refine ⟨_,rfl,?_⟩;replace Ch:=xR Ch hb;replace kI:=xB kI hb;replace HB:=xH HB hb;(try clear hb))));replace Ch:=zA (Kd.iJ Ch.out);replace kI:=zA (bN kI.out);replace HB:=zA (aW HB.out);refine ky (n:=12) (S:=fun w'=>w'.cell? ⟨FT,0,none⟩ = some (.int .i64 av)∧w'.cell? ⟨FT,1,none⟩ = some (.slice bz ah.length bu)) (ds:=[9,10]) #[false,false,false,false,false,false,false,false,false,false,false,false] (by kernel_rfl) rfl rfl ⟨bcu kI 0,bcu kI 1⟩ (fun hHeld=>?_);refine gV fo.ah4 fo.Yq (fun HT_ HW_=>?_);generalize w18.drew = w19 at Ch kI HB hHeld ⊢;refine pu_ 0 17 (bl 12 1) HT_ ?_;refine pu_ 3 20 (bl 12 9) HT_ ?_;refine pu_ 5 22 (bl 12 41) HT_ ?_;refine ta_ 1 18 (bl 12 43) HT_ HW_ hHeld ?_;refine ta_ 2 19 (bl 12 47) HT_ HW_ hHeld ?_;refine on_ 4 (some 21) (bl 12 63) HT_ (fun K hK=>?_);refine gS Try.func34 #[.agg #[.int .i64 av,.slice bz ah.length bu],.int .i64 eT] ?_;(with_reducible refine (dH.calls k1 av _ _ ah eT LZ _ ?side1 ?side2 A12.out).mono ?_);(case side1=>exact uC ((Kd.aQ dS.out HB.out)));(case side2=>exact dY.out);rintro e w20 ⟨aCO,rfl,ho0,hb⟩;refine ⟨_,rfl,?_⟩;have FU:=zA (Kd.zt (Kd.rM (ok':=fun k_=>ax k_ u4∧k_ ≠ FT) ho0 (fun k_ hk_=>⟨(Kd.fresh' (Kd.jN (uR Ch.out)) k_ hk_),(Kd.kX (g:=FT) (o:=.cells #[.int .i64 av,.slice bz ah.length bu] 26 (0,0)) (uB kI.out) k_ hk_)⟩)) (af (uH HB.out)));replace Ch:=xR Ch hb;replace kI:=xB kI hb;replace HB:=xH HB hb;(try clear hb);(try clear ho0);obtain ⟨ng,mQ,acU⟩:=Kd.wY FU.out;(first | subst acU | (injection acU with f1_ f2_ f3_;have f4_:=f1_.symm;have f5_:=f3_.symm;clear f1_ f2_ f3_;subst f4_;subst f5_));have acV : 0 ≤ (eT : Int):=oD;have acW : eT < (LZ.length : Int):=oD;obtain ⟨aoF,ah8,ah9,awD,acX,TW,TY⟩:=y7 (Kd.kN FU.out).2.2 eT acV acW;cases awD;obtain ⟨aAA,aia,aib,Yu⟩:=Kd.DT FU.out [] eT acV (by first | exact acW | exact of_decide_eq_true (by first | (with_reducible assumption) | assumption) | (have e_:=(Kd.kN FU.out).1;omega));obtain ⟨atS,atT,rfl,L6,L8⟩:=Kd.mY aib;have GH:=Yu 0 _ rfl;rw [Nat.add_zero,show ((Kd.slice 2 (Kd.int .i64))).sz = 1 from rfl,Nat.mul_one] at GH;replace GH:=Option.some.inj (GH.symm.trans acX);injection GH with hva_ hvn_ hvc_;rw [hva_] at L8;rw [hvc_] at L6;have GI:=zA (show Kd.V (Kd.int .i64) 2 _ w.heap.size _ _ (fw LZ eT) from Kd.EF L6 L8);clear hva_ hvn_ hvc_ L8 L6;clear Yu aia;have DZ:=zA TY;have acY:=zA TW;clear TY TW;replace acV:=eq_true acV;replace acW:=eq_true acW;refine hK.out _ _ ⟨bcu kI 0,bcu kI 1⟩ (fun hHeld=>?_);clear hK K;refine no_ 21 ?_;refine pu_ 6 23 (bl 12 127) HT_ ?_;refine lo_ 7 24 (bl 12 255) HT_ hHeld ?_;refine on_ 8 (some 25) (bl 12 511) HT_ (fun K hK=>?_);refine gS Try.func40 #[.agg #[.int .i64 av,.slice bz ah.length bu],.slice ah8 (fw LZ eT).length ah9,.int .i64 0] ?_;(with_reducible refine (fJ.calls k1 av _ _ ah _ _ (fw LZ eT) 0 Wl _ ?side1 ?side2 ?side3 ?side4 A15.out).mono ?_);(case side1=>exact uC ((Kd.aQ dS.out HB.out)));(case side2=>exact dY.out);(case side3=>repeat (first | exact (by repeat (first | (with_reducible exact DZ.out) | (with_reducible refine Kd.dE ?_ _) | (with_reducible refine Kd.dF ?_ _) | (with_reducible refine Kd.eQ ?_) | exact DZ.out)) | (with_reducible refine Kd.dE ?_ _) | (with_reducible refine Kd.dF ?_ _) | (with_reducible refine Kd.eQ ?_)));(case side4=>exact acY.out);rintro e w22 ⟨rfl,hb⟩;refine ⟨_,rfl,?_⟩;replace Ch:=xR Ch hb;replace FU:=zA (Kd.oO (uN FU.out) hb);replace GI:=zA (Kd.jZ (uV GI.out) hb);replace kI:=xB kI hb;replace DZ:=zA (Kd.aQ (by repeat (first | (with_reducible exact DZ.out) | (with_reducible refine Kd.dE ?_ _) | (with_reducible refine Kd.dF ?_ _) | (with_reducible refine Kd.eQ ?_) | exact DZ.out)) hb);replace HB:=xH HB hb;(try clear hb);refine hK.out _ _ ⟨bcu kI 0,bcu kI 1⟩ (fun hHeld=>?_);clear hK K;refine no_ 25 ?_;refine Ae (i:=9) (N:=some 26) (bl 12 1023) rfl rfl (um HT_.out (by kernel_rfl)) (by decide) (fun K hK=>?_);refine EM (w1:=?_) (v:=?_) (by rfl) rfl ?_ ?_;rotate_left 2
    ·go_simp;constructor
     ·rfl
     ·rfl
    refine hK.out _ _ ?_;clear hK K;refine no_ 26 ?_;refine Ae (i:=10) (N:=some 27) (bl 12 2047) rfl rfl (um HT_.out (by kernel_rfl)) (by decide) (fun K hK=>?_);refine Kd.yU (Kd.int .i64) (w0:=w) w.heap.size (by rfl) (.tmp 17) (.tmp 26) 24 2 (.int .i64 0) 8 rfl Try.underlying24 lm rfl (by decide) (by omega) u4 uF Wl [.int .i64 Wl] (fun _=>True) (fun _=>False) rfl rfl ?aP (fun _ hk=>hk.elim) ?aF ?aO ?aB ?aS ?aL ?_;(case aP=>exact rfl);(case aB=>exact (uH HB.out));(case aF=>exact (fun _ _=>trivial));(case aO=>exact (uR Ch.out));(case aS=>exact (af (uH HB.out)));(case aL=>have:=Yt.out;omega);intro aCP w23 ho hb hg hat;rw [← afz.out] at ho;replace kI:=kG hg Ch kI;replace FU:=zA (Kd.WY (ok:=(fun k_=>k_ ≠ FT)) (by (with_reducible repeat (first | apply Kd.yC | apply Kd.yD | apply Kd.tH));exact Kd.rM FU.out (fun _ ⟨b,a⟩=>⟨a,b⟩)) hg hat);replace GI:=zA (Kd.mF (ok:=(fun k_=>ax k_ (.slice (some aoF) LZ.length mQ)∧k_ ≠ FT)) (by (with_reducible repeat (first | apply Kd.iN | apply Kd.iO | apply Kd.iC));exact Kd.fM GI.out (fun _ ⟨⟨c,b⟩,a⟩=>⟨⟨a,b⟩,c⟩)) hg hat);replace HB:=zA (hb);have aoG:=zA (ho);clear Ch;clear ho hb hg hat;refine hK.out _ _ ?_;clear hK K;refine no_ 27 ?_;refine pu_ 11 4 (bl 12 4095) HT_ ?_;refine done_ (done_of HT_.out (by kernel_rfl)) ?_;(try go_wp2);go_roundg k1;(case measure=>have:=HK1.out;omega);(case rel=>exact ⟨(awC),(wrap64 (eT + 1)),eS,H',⟨by have:=HK1.out;omega⟩,⟨uR aoG.out⟩,⟨uB kI.out⟩,⟨uH HB.out⟩⟩)
 ·simp only [Option.some.injEq,Prod.mk.injEq] at H;obtain ⟨rfl,rfl⟩:=H;go_enter Try.func15,Try.ntmps15;go_wp2_with (first | ((with_reducible refine bI (N:=1) rfl ?_);refine bx 1 #[.int .i64 av,.slice bz ah.length bu] 26 ?_;intro FT hg w26 hbox hb;have kI:=zA (hbox);have Yr:=gq HB hg;have:=geI Yr;replace HB:=xH HB hb;clear hb hbox hg;have vT:=bc kI 0;have vU:=bc kI 1;have vV:=bf kI 0;have vW:=bf kI 1) | ((with_reducible refine ae (f:=45) rfl ?_);refine gL (some 7) Try.func45 #[.agg #[.int .i64 av,.slice bz ah.length bu]] ?_;(with_reducible refine (jg.calls k av _ _ ah false _ ?side1 ?side2 A2.out).mono ?_);(case side1=>exact uC ((Kd.aQ dS.out HB.out)));(case side2=>exact dY.out);rintro e w28 ⟨rfl,hb⟩;refine ⟨_,rfl,?_⟩;replace kI:=xB kI hb;replace HB:=xH HB hb;(try clear hb)));go_ret2;exact ⟨_,eX,by first | exact Kd.qZ _ _ _ _ _ | exact Kd.J6 _ _ _ _ _ | exact Kd.yf _ _ _ _ _ | exact Kd.Ab _ _ _ _ _ | exact Kd.Aa _ _ _ _ _,uH HB.out⟩
/-! ### fO: function 28 -/
def fO.j0 : Nat → Int → Bool → List Int → Int → Int → Int → List Int → Option (Int × List Int × Int)
 | 0,_,_,_,_,_,_,_=>none
 | k + 1,x6,x23,GJ,TZ,Ua,L9,Ma=>if x23 = true then ((gQ.f k L9 Ma).bind fun Wm=>((aX.f GJ TZ Ua (wrap64 ((mn x6 Wm) + 1))).bind fun Yv=>((aX.f GJ Yv.2.1 Yv.2.2 24).bind fun aoH=>(some (L9,Ma,wrap64 (Yv.1 + (wrap64 (Int.tdiv aoH.1 23)))))))) else ((aX.f GJ TZ Ua (wrap64 (x6 + 1))).bind fun Yw=>((aX.f GJ Yw.2.1 Yw.2.2 24).bind fun aoI=>(some (L9,Ma,wrap64 (Yw.1 + (wrap64 (Int.tdiv aoI.1 23)))))))
def fO.f (k : Nat) (l0 : List Int) : Option (Int × List Int × Int):=(ed.f k l0).bind fun Kj=>((lM.f k Kj.1 Kj.2.1 Kj.2.2).bind fun Ak=>((jg.f k Ak.1 Ak.2.1).bind fun aoJ=>(if aoJ = true then ((aX.f Kj.1 Ak.2.2.1 Ak.2.2.2 6).bind fun Yx=>(fO.j0 k (mn (mx (wrap64 ((Ak.2.1.length : Int) / 2)) 0) 12) (decide (Yx.1 > 0)) Kj.1 Yx.2.1 Yx.2.2 Ak.1 Ak.2.1)) else (fO.j0 k (mn (mx (wrap64 ((Ak.2.1.length : Int) / 2)) 0) 12) false Kj.1 Ak.2.2.1 Ak.2.2.2 Ak.1 Ak.2.1))))
def fO.T6 : Bool × List (List Nat × List Nat):=(true,[([],[]),([],[]),([],[]),([2],[2]),([1,3],[1,3]),([],[]),([5,4],[5]),([6],[6]),([4,7],[4,7]),([0,6,0],[0]),([8,9,0,1,2,3,4,5,6,7,8,9],[8])])
def fO.B6 : List Nat:=[0,0,0,4,14,0,62,126,254,127,1023]
theorem fO.acZ : nI .any (opsOf Try.f28 6) = fO.T6:=by kernel_rfl
theorem fO.Ub : jT fO.T6.2 fO.B6 = true:=by kernel_rfl
theorem fO.calls (k : Nat) (A0 : Option Addr) (c0 : Nat) (l0 : List Int) (r1 : Int) (r2 : List Int) (r3 : Int) (w : World) (hr0 : Kd.C (Kd.int .u8) w A0 l0.length l0) (hc0 : l0.length ≤ c0) (H : fO.f k l0 = some (r1,r2,r3)) :
  Calls Try.prog 28 #[.slice A0 l0.length c0] w fun e w'=>∃ v1_ : Value,e = .returned (.tuple #[.agg #[.int .i64 r1,v1_],.int .i64 r3])∧Kd.R (Kd.int .i64) 2 w' w.heap.size (fun _=>True) v1_ r2∧Below w.heap.size w w':=by
 have qV:=Try.underlying26;have HR0:=zA hr0;have HC0:=zA hc0;clear hr0 hc0;have HB:=zA (Below.refl w.heap.size w);unfold fO.f at H;replace H:=bO H;obtain ⟨⟨AC,aoK,aoL⟩,A2,H⟩:=H;(try dsimp only at H);replace H:=bO H;obtain ⟨⟨vF,uU,OZ,O0⟩,A3,H⟩:=H;(try dsimp only at H);obtain ⟨ji4,O1⟩ : ∃ j_ : Int,(mx (wrap64 ((uU.length : Int) / 2)) 0) = j_:=⟨_,rfl⟩;(first | rw [O1] at H | simp only [O1] at H);(try rw [O1] at A2);(try rw [O1] at A3);(try (have aAB : 0 ≤ ji4:=by (rw [← O1];unfold mx;(repeat' split) <;> omega)));(try (have aAC : 0 ≤ ji4:=by omega));have aAD : (if (wrap64 ((uU.length : Int) / 2)) < 0 then 0 else (wrap64 ((uU.length : Int) / 2))) = ji4:=O1;obtain ⟨ji5,qF⟩ : ∃ j_ : Int,(mn (ji4) 12) = j_:=⟨_,rfl⟩;(first | rw [qF] at H | simp only [qF] at H);(try rw [qF] at A2);(try rw [qF] at A3);have J5 : (if 12 < (ji4) then 12 else (ji4)) = ji5:=qF;have HC6:=zA H;clear H;go_enter Try.func28,Try.ntmps28;go_upto_region 4 with (first | (refine bX 2 rfl #[.int .i64 0,.slice none 0 0] 26 ?_;intro rO w7 hg kE hb;have aoM:=gq HB hg;have:=geI aoM;replace HB:=xH HB hb;clear hb hg) | ((with_reducible refine ae (f:=42) rfl ?_);refine gL (some 8) Try.func42 #[.slice A0 l0.length c0] ?_;(with_reducible refine (ed.calls k _ _ l0 AC aoK aoL w _ ?side1 ?side2 ?side3 A2.out).mono ?_);(case side1=>exact uH HB.out);(case side2=>exact HR0.out);(case side3=>exact HC0.out);rintro e w8 ⟨xN,rfl,hi,hb,hb2⟩;refine ⟨_,rfl,?_⟩;replace HB:=zA (hb);have mX:=zA (hi);have Wn:=zA (aA.EY hi (bW (g:=rO) (o:=.cells #[.int .i64 0,.slice none 0 0] 26 (0,0)) (uB kE.out) hb2) (by decide));have:=neI Wn;have vG:=zA (Ne.symm (aA.EY hi (bW (g:=rO) (o:=.cells #[.int .i64 0,.slice none 0 0] 26 (0,0)) (uB kE.out) hb2) (by decide)));have:=neI vG;replace kE:=xB kE hb2;(try clear hb);(try clear hb2);(try clear hk);(try clear hi)) | ((with_reducible refine ae (f:=41) rfl ?_);refine gL (some 10) Try.func41 #[.pointer (some ⟨xN,0,none⟩)] ?_;(with_reducible refine (lM.calls k xN AC aoK aoL vF uU OZ O0 w _ ?side1 ?side2 A3.out).mono ?_);(case side1=>exact uI mX.out);(case side2=>exact uH HB.out);rintro e w9 ⟨aCQ,rfl,ho0,hi,hb,hk⟩;refine ⟨_,rfl,?_⟩;replace kE:=kB hk kE vG;have xO:=zA (Kd.bD ho0 (af (uH HB.out)));replace HB:=zA (hb);replace mX:=zA (hi);(try clear hb);(try clear hb2);(try clear hk);(try clear hi);(try clear ho0)) | ((with_reducible refine bI (N:=5) rfl ?_);refine bx 5 #[.int .i64 0,.slice none 0 0] 26 ?_;intro xP hg w10 hbox hb;replace xO:=xR xO hb;have jE:=zA (hbox);have aoN:=zA ((by rw [hg];exact (af (uH HB.out)) : w.heap.size ≤ xP));have:=geI aoN;have aoO:=zA ((by rw [hg];exact (af (uH HB.out)) : w.heap.size ≤ xP));replace HB:=zA (cz (uH HB.out) hb);have oC:=nL kE hg;have:=neI oC;have lH:=nG kE hg;have:=neI lH;replace kE:=xB kE hb;have za:=zA ((by rw [hg];exact Nat.ne_of_lt (aA.lt (show aA w _ xN AC OZ O0 from uI mX.out)) : xN ≠ xP));have:=neI za;have qP:=zA ((by rw [hg];exact Nat.ne_of_gt (aA.lt (show aA w _ xN AC OZ O0 from uI mX.out)) : xP ≠ xN));have:=neI qP;replace mX:=zA (aA.below (uI mX.out) hb);have:=geI aoO;clear hb hbox hg;have ae6:=lH.out;have ae7:=oC.out;have Yy:=qP.out;have Yz:=za.out;have lI:=bc jE 0;have lU:=bc jE 1;have lJ:=bf jE 0;have lV:=bf jE 1;obtain ⟨wM,wN,Qh⟩:=Kd.aY xO.out;subst Qh));(try simp only [Act.put,ls,lz,ln]);go_cut [23] (fun v23 wc=>∃ (kq : Nat) (YA : Bool) (vH : Int) (vI : Int),v23 = .bool YA∧aa (fO.j0 kq ji5 YA AC vH vI vF uU = some (r1,r2,r3))∧aa (kq ≤ k)∧aa (Kd.R (Kd.int .i64) 2 wc w.heap.size (fun _=>True) (.slice wM uU.length wN) uU)∧aa (wc.heap[rO]? = some (.cells #[.int .i64 0,(.slice none 0 0)] 26 (0,0)))∧aa (wc.heap[xP]? = some (.cells #[.int .i64 vF,(.slice wM uU.length wN)] 26 (0,0)))∧aa (aA w wc xN AC vH vI)∧aa (Below w.heap.size w wc))
 case first =>
  have H:=HC6.out;clear HC6;replace H:=bO H;obtain ⟨aoJ,A15,H⟩:=H;replace H:=gB H;obtain ⟨rfl,H⟩|⟨rfl,H⟩:=H
  ·replace H:=bO H;obtain ⟨⟨aoP,aoQ,aoR⟩,A17,H⟩:=H;(try dsimp only at H);have H':=zA H;clear H;have aoS:=lH.out;have aoT:=oC.out;have aoU:=qP.out;have aoV:=za.out;have Mc:=bc jE 0;have Md:=bc jE 1;have Me:=bf jE 0;have Mf:=bf jE 1;go_wp2_with (first | ((with_reducible refine ae (f:=45) rfl ?_);refine gL (some 18) Try.func45 #[.agg #[.int .i64 vF,.slice wM uU.length wN]] ?_;(with_reducible refine (jg.calls k vF _ _ uU true _ ?side1 ?side2 A15.out).mono ?_);(case side1=>exact rc (uR ((rf2 xO jE (by decide) (.int .i64 vF) (.slice wM uU.length wN)))));(case side2=>exact (Kd.aH xO.out).2.1);rintro e w21 ⟨rfl,hb⟩;refine ⟨_,rfl,?_⟩;replace xO:=zA (Kd.nP (uR ((rf2 xO jE (by decide) (.int .i64 vF) (.slice wM uU.length wN)))) hb);replace kE:=zA (bW (g:=rO) (o:=.cells #[.int .i64 0,.slice none 0 0] 26 (0,0)) (by (repeat refine up1 ?_);refine bG ?_ oC.out _;(repeat refine up1 ?_);refine bG ?_ oC.out _;(repeat refine up1 ?_);exact kE.out) hb);replace jE:=zA (bW (g:=xP) (o:=.cells #[.int .i64 vF,.slice wM uU.length wN] 26 (0,0)) (by (repeat refine up1 ?_);refine bE (cs:=#[.int .i64 vF,.slice none 0 0]) ?_ 1 _ rfl;(repeat refine up1 ?_);refine bE (cs:=#[.int .i64 0,.slice none 0 0]) ?_ 0 _ rfl;(repeat refine up1 ?_);exact jE.out) hb);replace HB:=zA (cz (uH HB.out) hb);replace mX:=zA (aA.below (show aA w ((w10.setCell ⟨xP,0,none⟩ (.int .i64 vF)).setCell ⟨xP,1,none⟩ (.slice wM uU.length wN)) xN AC OZ O0 from uI mX.out) hb);(try clear hb);(try clear hk);(try clear hi)) | (go_at_call 47;(with_reducible refine (aX.calls xN AC OZ O0 6 aoP aoQ aoR w _ ?side1 ?side2 A17.out).mono ?_);(case side1=>exact uI mX.out);(case side2=>exact uH HB.out);rintro e w22 ⟨rfl,hi,hb,hk⟩;replace kE:=kB hk kE vG;replace xO:=zA (Kd.ag (Kd.kJ (aA.apart (show aA w _ xN AC OZ O0 from uI mX.out) (uR xO.out) (by decide)) hk (fun _ h=>h.2)) (fun _ h=>h.1));replace jE:=kB hk jE qP;replace HB:=zA (hb);replace mX:=zA (hi);(try clear hb);(try clear hk);(try clear hi)));go_meet;(case rel=>exact ⟨_,(decide (aoP > 0)),(aoQ),(aoR),eS,H',⟨by first | omega | exact Nat.le_refl _⟩,⟨uR xO.out⟩,⟨uB kE.out⟩,⟨uB jE.out⟩,⟨uI mX.out⟩,⟨uH HB.out⟩⟩)
  ·have H':=zA H;clear H;have aAE:=lH.out;have aAF:=oC.out;have aeO:=qP.out;have aeP:=za.out;have Gp:=bc jE 0;have Uc:=bc jE 1;have Gq:=bf jE 0;have Ud:=bf jE 1;go_wp2_with (first | ((with_reducible refine ae (f:=45) rfl ?_);refine gL (some 18) Try.func45 #[.agg #[.int .i64 vF,.slice wM uU.length wN]] ?_;(with_reducible refine (jg.calls k vF _ _ uU false _ ?side1 ?side2 A15.out).mono ?_);(case side1=>exact rc (uR ((rf2 xO jE (by decide) (.int .i64 vF) (.slice wM uU.length wN)))));(case side2=>exact (Kd.aH xO.out).2.1);rintro e w26 ⟨rfl,hb⟩;refine ⟨_,rfl,?_⟩;replace xO:=zA (Kd.nP (uR ((rf2 xO jE (by decide) (.int .i64 vF) (.slice wM uU.length wN)))) hb);replace kE:=zA (bW (g:=rO) (o:=.cells #[.int .i64 0,.slice none 0 0] 26 (0,0)) (by (repeat refine up1 ?_);refine bG ?_ oC.out _;(repeat refine up1 ?_);refine bG ?_ oC.out _;(repeat refine up1 ?_);exact kE.out) hb);replace jE:=zA (bW (g:=xP) (o:=.cells #[.int .i64 vF,.slice wM uU.length wN] 26 (0,0)) (by (repeat refine up1 ?_);refine bE (cs:=#[.int .i64 vF,.slice none 0 0]) ?_ 1 _ rfl;(repeat refine up1 ?_);refine bE (cs:=#[.int .i64 0,.slice none 0 0]) ?_ 0 _ rfl;(repeat refine up1 ?_);exact jE.out) hb);replace HB:=zA (cz (uH HB.out) hb);replace mX:=zA (aA.below (show aA w ((w10.setCell ⟨xP,0,none⟩ (.int .i64 vF)).setCell ⟨xP,1,none⟩ (.slice wM uU.length wN)) xN AC OZ O0 from uI mX.out) hb);(try clear hb)));go_meet;(case rel=>exact ⟨_,(false),(OZ),(O0),eS,H',⟨by first | omega | exact Nat.le_refl _⟩,⟨uR xO.out⟩,⟨uB kE.out⟩,⟨uB jE.out⟩,⟨uI mX.out⟩,⟨uH HB.out⟩⟩)
 case rest =>
  clear HC6;(try clear c1);(try clear c2);(try clear p2);(try clear c4);(try clear p6);(try clear c11);(try clear c12);(try clear c16);(try clear c18);(try clear c19);(try clear c23);(try clear c24);(try clear lI);(try clear lU);(try clear Mc);(try clear Md);(try clear Gp);(try clear Uc);(try clear lJ);(try clear lV);(try clear Me);(try clear Mf);(try clear Gq);(try clear Ud);obtain ⟨kq,YA,vH,vI,rfl,HA,HJ5,kr,kE,jE,mX,HB⟩:=hcut
  cases kq with
  | zero=>exact absurd HA.out (by simp [fO.j0])
  | succ kj5 =>
   have H:=HA.out;clear HA;simp only [fO.j0] at H;replace H:=gB H;obtain ⟨rfl,H⟩|⟨rfl,H⟩:=H
   ·replace H:=bO H;obtain ⟨Wm,A28,H⟩:=H;obtain ⟨aic,Kk⟩ : ∃ j_ : Int,(mn ji5 Wm) = j_:=⟨_,rfl⟩;(first | rw [Kk] at H | simp only [Kk] at H);(try rw [Kk] at A28);have awE : (if Wm < ji5 then Wm else ji5) = aic:=Kk;replace H:=bO H;obtain ⟨⟨awF,aid,aie⟩,A30,H⟩:=H;(try dsimp only at H);replace H:=bO H;obtain ⟨⟨awG,awH,awI⟩,A31,H⟩:=H;(try dsimp only at H);simp only [Option.some.injEq,Prod.mk.injEq] at H;obtain ⟨rfl,rfl,rfl⟩:=H;have afc:=lH.out;have afd:=oC.out;have aoW:=qP.out;have aoX:=za.out;have Ue:=bc jE 0;have Uf:=bc jE 1;have Ug:=bf jE 0;have Uh:=bf jE 1;(try go_wp2_with (first | ((with_reducible refine ae (f:=46) rfl ?_);refine gL (some 26) Try.func46 #[.agg #[.int .i64 vF,.slice wM uU.length wN]] ?_;(with_reducible refine (gQ.calls kj5 vF _ _ uU Wm _ ?side1 ?side2 A28.out).mono ?_);(case side1=>exact uC ((Kd.aH kr.out).2.2));(case side2=>exact (Kd.aH kr.out).2.1);rintro e w35 ⟨rfl,hb⟩;refine ⟨_,rfl,?_⟩;replace kr:=xR kr hb;replace kE:=xB kE hb;replace jE:=xB jE hb;replace HB:=zA (cz (uH HB.out) hb);replace mX:=zA (aA.below (uI mX.out) hb);(try clear hb))));replace kr:=zA (Kd.iJ kr.out);replace kE:=zA (bN kE.out);replace jE:=zA (bN jE.out);replace mX:=zA (aA.drew mX.out);replace HB:=zA (aW HB.out);refine ky (n:=11) (S:=fun w'=>w'.cell? ⟨xP,0,none⟩ = some (.int .i64 vF)∧w'.cell? ⟨xP,1,none⟩ = some (.slice wM uU.length wN)) (ds:=[]) #[false,false,false,false,false,false,false,false,false,false,false] (by kernel_rfl) rfl rfl ⟨bcu jE 0,bcu jE 1⟩ (fun hHeld=>?_);refine gV fO.acZ fO.Ub (fun HT_ HW_=>?_);generalize w35.drew = w36 at kr kE jE mX HB hHeld ⊢;refine pu_ 1 29 (bl 11 2) HT_ ?_;refine pu_ 2 30 (bl 11 6) HT_ ?_;refine pu_ 3 31 (bl 11 14) HT_ ?_;refine pu_ 5 33 (bl 11 46) HT_ ?_;refine ta_ 0 28 (bl 11 47) HT_ HW_ hHeld ?_;refine on_ 4 (some 32) (bl 11 63) HT_ (fun K hK=>?_);refine Ii Try.func47 (by kernel_rfl) rfl #[.pointer (some ⟨xN,0,none⟩),.int .i64 (wrap64 ((aic) + 1))] (by rfl) rfl rfl (by (try simp only [la,lb,lc]);first | done | (simp only [Kk];rfl) | rfl | (simp only [ld,le];rfl)) ?_;(with_reducible refine (aX.calls xN AC vH vI (wrap64 ((aic) + 1)) awF aid aie w _ ?side1 ?side2 A30.out).mono ?_);(case side1=>exact uI mX.out);(case side2=>exact uH HB.out);rintro e w37 ⟨rfl,hi,hb,hk⟩;refine ⟨_,rfl,?_⟩;replace kr:=zA (Kd.ag (Kd.kJ (aA.apart (show aA w _ xN AC vH vI from uI mX.out) (uR kr.out) (by decide)) hk (fun _ h=>h.2)) (fun _ h=>h.1));replace kE:=kB hk kE vG;replace jE:=kB hk jE qP;replace HB:=zA (hb);replace mX:=zA (hi);(try clear hb);refine hK.out _ _ ⟨bcu jE 0,bcu jE 1⟩ (fun hHeld=>?_);clear hK K;refine no_ 32 ?_;refine on_ 6 (some 34) (bl 11 127) HT_ (fun K hK=>?_);refine gS Try.func47 #[.pointer (some ⟨xN,0,none⟩),.int .i64 24] ?_;(with_reducible refine (aX.calls xN AC aid aie 24 awG awH awI w _ ?side1 ?side2 A31.out).mono ?_);(case side1=>exact uI mX.out);(case side2=>exact uH HB.out);rintro e w38 ⟨rfl,hi,hb,hk⟩;refine ⟨_,rfl,?_⟩;replace kr:=zA (Kd.ag (Kd.kJ (aA.apart (show aA w _ xN AC aid aie from uI mX.out) (uR kr.out) (by decide)) hk (fun _ h=>h.2)) (fun _ h=>h.1));replace kE:=kB hk kE vG;replace jE:=kB hk jE qP;replace HB:=zA (hb);replace mX:=zA (hi);(try clear hb);refine hK.out _ _ ⟨bcu jE 0,bcu jE 1⟩ (fun hHeld=>?_);clear hK K;refine no_ 34 ?_;refine pu_ 7 35 (bl 11 255) HT_ ?_;refine pu_ 8 36 (bl 11 511) HT_ ?_;refine on_ 9 (none) (bl 11 1023) HT_ (fun K hK=>?_);have aCR : w38.cell? ⟨rO,0,none⟩ = some (.int .i64 0):=(bR kE.out 0).trans rfl;have aAG:=bf kE 0;have atU:=lH.out;have atV:=oC.out;have aCS : w38.cell? ⟨rO,1,none⟩ = some (.slice none 0 0):=(bR kE.out 1).trans rfl;have aAH:=bf kE 1;have atW:=lH.out;have atX:=oC.out;refine yB (w1:=?_) (by rfl) rfl ?_ ?_;rotate_left
    ·go_simp;rfl
    refine hK.out _ _ ⟨((cell_far (p:=⟨rO,_,none⟩) lH.out _).trans (((cell_far (p:=⟨rO,_,none⟩) lH.out _).trans (hHeld.1)))),((cell_far (p:=⟨rO,_,none⟩) lH.out _).trans (((cell_far (p:=⟨rO,_,none⟩) lH.out _).trans (hHeld.2))))⟩ (fun hHeld=>?_);clear hK K;refine pu_ 10 3 (bl 11 2047) HT_ ?_;refine done_ (done_of HT_.out (by kernel_rfl)) ?_;(try go_wp2);refine bodyPost_ret (vD rfl _ _ rO 26 #[.int .i64 vF,.slice wM uU.length wN] (0,0) _ rfl (by (repeat refine up1 ?_);refine bE (cs:=#[.int .i64 vF,.slice none 0 0]) ?_ 1 _ rfl;(repeat refine up1 ?_);refine bE (cs:=#[.int .i64 0,.slice none 0 0]) ?_ 0 _ rfl;(repeat refine up1 ?_);exact kE.out) Try.underlying26 rfl (by kernel_rfl)) rfl ?_;exact ⟨_,by first | rfl | (simp [dP,dQ] <;> rfl) | (simp only [← O1,← qF,← Kk];first | rfl | (simp [dP,dQ] <;> rfl)) | (simp [*,dP,dQ] <;> rfl),uR (Kd.ag (Kd.bA (p:=⟨rO,1,none⟩) (Kd.bA (p:=⟨rO,0,none⟩) (Kd.bL kr.out kE.out (by decide)) (fun _ hk=>hk.2) (.int .i64 vF)) (fun _ hk=>hk.2) (.slice wM uU.length wN)) (fun _ hk=>trivial)),uH HB.out⟩
   ·replace H:=bO H;obtain ⟨⟨awJ,aif,aig⟩,A41,H⟩:=H;(try dsimp only at H);replace H:=bO H;obtain ⟨⟨awK,awL,awM⟩,A42,H⟩:=H;(try dsimp only at H);simp only [Option.some.injEq,Prod.mk.injEq] at H;obtain ⟨rfl,rfl,rfl⟩:=H;(try go_wp2);replace kr:=zA (Kd.iJ kr.out);replace kE:=zA (bN kE.out);replace jE:=zA (bN jE.out);replace mX:=zA (aA.drew mX.out);replace HB:=zA (aW HB.out);refine ky (n:=11) (S:=fun w'=>w'.cell? ⟨xP,0,none⟩ = some (.int .i64 vF)∧w'.cell? ⟨xP,1,none⟩ = some (.slice wM uU.length wN)) (ds:=[]) #[false,false,false,false,false,false,false,false,false,false,false] (by kernel_rfl) rfl rfl ⟨bcu jE 0,bcu jE 1⟩ (fun hHeld=>?_);refine gV fO.acZ fO.Ub (fun HT_ HW_=>?_);generalize wc.drew = w43 at kr kE jE mX HB hHeld ⊢;refine pu_ 1 29 (bl 11 2) HT_ ?_;refine pu_ 2 30 (bl 11 6) HT_ ?_;refine pu_ 3 31 (bl 11 14) HT_ ?_;refine pu_ 5 33 (bl 11 46) HT_ ?_;refine ta_ 0 28 (bl 11 47) HT_ HW_ hHeld ?_;refine on_ 4 (some 32) (bl 11 63) HT_ (fun K hK=>?_);refine Ii Try.func47 (by kernel_rfl) rfl #[.pointer (some ⟨xN,0,none⟩),.int .i64 (wrap64 (ji5 + 1))] (by rfl) rfl rfl (by (try simp only [la,lb,lc]);first | done | (simp only [qF];rfl) | rfl | (simp only [ld,le];rfl)) ?_;(with_reducible refine (aX.calls xN AC vH vI (wrap64 (ji5 + 1)) awJ aif aig w _ ?side1 ?side2 A41.out).mono ?_);(case side1=>exact uI mX.out);(case side2=>exact uH HB.out);rintro e w44 ⟨rfl,hi,hb,hk⟩;refine ⟨_,rfl,?_⟩;replace kr:=zA (Kd.ag (Kd.kJ (aA.apart (show aA w _ xN AC vH vI from uI mX.out) (uR kr.out) (by decide)) hk (fun _ h=>h.2)) (fun _ h=>h.1));replace kE:=kB hk kE vG;replace jE:=kB hk jE qP;replace HB:=zA (hb);replace mX:=zA (hi);(try clear hb);refine hK.out _ _ ⟨bcu jE 0,bcu jE 1⟩ (fun hHeld=>?_);clear hK K;refine no_ 32 ?_;refine on_ 6 (some 34) (bl 11 127) HT_ (fun K hK=>?_);refine gS Try.func47 #[.pointer (some ⟨xN,0,none⟩),.int .i64 24] ?_;(with_reducible refine (aX.calls xN AC aif aig 24 awK awL awM w _ ?side1 ?side2 A42.out).mono ?_);(case side1=>exact uI mX.out);(case side2=>exact uH HB.out);rintro e w45 ⟨rfl,hi,hb,hk⟩;refine ⟨_,rfl,?_⟩;replace kr:=zA (Kd.ag (Kd.kJ (aA.apart (show aA w _ xN AC aif aig from uI mX.out) (uR kr.out) (by decide)) hk (fun _ h=>h.2)) (fun _ h=>h.1));replace kE:=kB hk kE vG;replace jE:=kB hk jE qP;replace HB:=zA (hb);replace mX:=zA (hi);(try clear hb);refine hK.out _ _ ⟨bcu jE 0,bcu jE 1⟩ (fun hHeld=>?_);clear hK K;refine no_ 34 ?_;refine pu_ 7 35 (bl 11 255) HT_ ?_;refine pu_ 8 36 (bl 11 511) HT_ ?_;refine on_ 9 (none) (bl 11 1023) HT_ (fun K hK=>?_);have aCT : w45.cell? ⟨rO,0,none⟩ = some (.int .i64 0):=(bR kE.out 0).trans rfl;have aAI:=bf kE 0;have atY:=lH.out;have atZ:=oC.out;have aCU : w45.cell? ⟨rO,1,none⟩ = some (.slice none 0 0):=(bR kE.out 1).trans rfl;have aAJ:=bf kE 1;have at0:=lH.out;have at1:=oC.out;refine yB (w1:=?_) (by rfl) rfl ?_ ?_;rotate_left
    ·go_simp;rfl
    refine hK.out _ _ ⟨((cell_far (p:=⟨rO,_,none⟩) lH.out _).trans (((cell_far (p:=⟨rO,_,none⟩) lH.out _).trans (hHeld.1)))),((cell_far (p:=⟨rO,_,none⟩) lH.out _).trans (((cell_far (p:=⟨rO,_,none⟩) lH.out _).trans (hHeld.2))))⟩ (fun hHeld=>?_);clear hK K;refine pu_ 10 3 (bl 11 2047) HT_ ?_;refine done_ (done_of HT_.out (by kernel_rfl)) ?_;(try go_wp2);refine bodyPost_ret (vD rfl _ _ rO 26 #[.int .i64 vF,.slice wM uU.length wN] (0,0) _ rfl (by (repeat refine up1 ?_);refine bE (cs:=#[.int .i64 vF,.slice none 0 0]) ?_ 1 _ rfl;(repeat refine up1 ?_);refine bE (cs:=#[.int .i64 0,.slice none 0 0]) ?_ 0 _ rfl;(repeat refine up1 ?_);exact kE.out) Try.underlying26 rfl (by kernel_rfl)) rfl ?_;exact ⟨_,by first | rfl | (simp [dP,dQ] <;> rfl) | (simp only [← O1,← qF];first | rfl | (simp [dP,dQ] <;> rfl)) | (simp [*,dP,dQ] <;> rfl),uR (Kd.ag (Kd.bA (p:=⟨rO,1,none⟩) (Kd.bA (p:=⟨rO,0,none⟩) (Kd.bL kr.out kE.out (by decide)) (fun _ hk=>hk.2) (.int .i64 vF)) (fun _ hk=>hk.2) (.slice wM uU.length wN)) (fun _ hk=>trivial)),uH HB.out⟩
/-! ### mi: function 10 -/
def mi.f (k : Nat) (l0 : List Int) : Option (Int × List Int × Int):=(fO.f k l0).bind fun YB=>(some (YB.1,YB.2.1,YB.2.2))
theorem mi.calls (k : Nat) (A0 : Option Addr) (c0 : Nat) (l0 : List Int) (r1 : Int) (r2 : List Int) (r3 : Int) (w : World) (hr0 : Kd.C (Kd.int .u8) w A0 l0.length l0) (hc0 : l0.length ≤ c0) (H : mi.f k l0 = some (r1,r2,r3)) :
  Calls Try.prog 10 #[.slice A0 l0.length c0] w fun e w'=>∃ v1_ : Value,e = .returned (.tuple #[.agg #[.int .i64 r1,v1_],.int .i64 r3])∧Kd.R (Kd.int .i64) 2 w' w.heap.size (fun _=>True) v1_ r2∧Below w.heap.size w w':=by
 have qV:=Try.underlying26;have HR0:=zA hr0;have HC0:=zA hc0;clear hr0 hc0;have HB:=zA (Below.refl w.heap.size w);unfold mi.f at H;replace H:=bO H;obtain ⟨⟨YC,ac0,awN⟩,A2,H⟩:=H;(try dsimp only at H);simp only [Option.some.injEq,Prod.mk.injEq] at H;obtain ⟨rfl,rfl,rfl⟩:=H;go_enter Try.func10,Try.ntmps10;go_wp2_with (first | (refine bX 2 rfl #[.int .i64 0,.slice none 0 0] 26 ?_;intro YD w3 hg Al hb;have aoY:=gq HB hg;have:=geI aoY;replace HB:=xH HB hb;clear hb hg) | ((with_reducible refine ae (f:=28) rfl ?_);refine gL (some 8) Try.func28 #[.slice A0 l0.length c0] ?_;(with_reducible refine (fO.calls k _ _ l0 YC ac0 awN _ ?side1 ?side2 A2.out).mono ?_);(case side1=>exact uC ((Kd.aQ HR0.out HB.out)));(case side2=>exact HC0.out);rintro e w4 ⟨aCV,rfl,ho0,hb⟩;refine ⟨_,rfl,?_⟩;have Ui:=zA (Kd.bD ho0 (af (uH HB.out)));replace Al:=xB Al hb;replace HB:=xH HB hb;(try clear hb);(try clear ho0)) | ((with_reducible refine bI (N:=4) rfl ?_);refine bx 4 #[.int .i64 0,.slice none 0 0] 26 ?_;intro afA hg w5 hbox hb;replace Ui:=xR Ui hb;have O3:=zA (hbox);have aoZ:=gq HB hg;have:=geI aoZ;have ao0:=gq HB hg;replace HB:=xH HB hb;have EZ:=nL Al hg;have Wo:=nG Al hg;replace Al:=xB Al hb;have:=geI ao0;clear hb hbox hg;have awO:=Wo.out;have awP:=EZ.out;have IV:=bc O3 0;have IW:=bc O3 1;have Mg:=bf O3 0;have IX:=bf O3 1;obtain ⟨Ao8,co8,eo8⟩:=Kd.aY Ui.out;subst eo8;have vJ:=bc Al 0;have vK:=bc Al 1;have wP:=bf Al 0;have vL:=bf Al 1));refine bodyPost_ret (vD rfl _ _ YD 26 #[.int .i64 YC,.slice Ao8 ac0.length co8] (0,0) _ rfl (by (repeat refine up1 ?_);refine bE (cs:=#[.int .i64 YC,.slice none 0 0]) ?_ 1 _ rfl;(repeat refine up1 ?_);refine bE (cs:=#[.int .i64 0,.slice none 0 0]) ?_ 0 _ rfl;(repeat refine up1 ?_);refine bG ?_ EZ.out _;(repeat refine up1 ?_);refine bG ?_ EZ.out _;(repeat refine up1 ?_);exact Al.out) Try.underlying26 rfl (by kernel_rfl)) rfl ?_;exact ⟨_,eX,uR (Kd.ag (Kd.bA (p:=⟨YD,1,none⟩) (Kd.bA (p:=⟨YD,0,none⟩) (Kd.bA (p:=⟨afA,1,none⟩) (Kd.bA (p:=⟨afA,0,none⟩) (Kd.bL (Kd.bL Ui.out O3.out (by decide)) Al.out (by decide)) (fun _ hk=>hk.1.2) (.int .i64 YC)) (fun _ hk=>hk.1.2) (.slice Ao8 ac0.length co8)) (fun _ hk=>hk.2) (.int .i64 YC)) (fun _ hk=>hk.2) (.slice Ao8 ac0.length co8)) (fun _ hk=>trivial)),uH HB.out⟩
/-! ### gJ: function 6 -/
def gJ.f (k : Nat) (l0 : List Int) : Option (Int × List Int × Int):=(fO.f k l0).bind fun YE=>(some (YE.1,YE.2.1,YE.2.2))
theorem gJ.calls (k : Nat) (A0 : Option Addr) (c0 : Nat) (l0 : List Int) (r1 : Int) (r2 : List Int) (r3 : Int) (w : World) (hr0 : Kd.C (Kd.int .u8) w A0 l0.length l0) (hc0 : l0.length ≤ c0) (H : gJ.f k l0 = some (r1,r2,r3)) :
  Calls Try.prog 6 #[.slice A0 l0.length c0] w fun e w'=>∃ v1_ : Value,e = .returned (.tuple #[.agg #[.int .i64 r1,v1_],.int .i64 r3])∧Kd.R (Kd.int .i64) 2 w' w.heap.size (fun _=>True) v1_ r2∧Below w.heap.size w w':=by
 have qV:=Try.underlying26;have HR0:=zA hr0;have HC0:=zA hc0;clear hr0 hc0;have HB:=zA (Below.refl w.heap.size w);unfold gJ.f at H;replace H:=bO H;obtain ⟨⟨YF,ac1,awQ⟩,A2,H⟩:=H;(try dsimp only at H);simp only [Option.some.injEq,Prod.mk.injEq] at H;obtain ⟨rfl,rfl,rfl⟩:=H;go_enter Try.func6,Try.ntmps6;go_wp2_with (first | (refine bX 2 rfl #[.int .i64 0,.slice none 0 0] 26 ?_;intro YG w3 hg Am hb;have ao1:=gq HB hg;have:=geI ao1;replace HB:=xH HB hb;clear hb hg) | ((with_reducible refine ae (f:=28) rfl ?_);refine gL (some 8) Try.func28 #[.slice A0 l0.length c0] ?_;(with_reducible refine (fO.calls k _ _ l0 YF ac1 awQ _ ?side1 ?side2 A2.out).mono ?_);(case side1=>exact uC ((Kd.aQ HR0.out HB.out)));(case side2=>exact HC0.out);rintro e w4 ⟨aCW,rfl,ho0,hb⟩;refine ⟨_,rfl,?_⟩;have Uj:=zA (Kd.bD ho0 (af (uH HB.out)));replace Am:=xB Am hb;replace HB:=xH HB hb;(try clear hb);(try clear ho0)) | ((with_reducible refine bI (N:=4) rfl ?_);refine bx 4 #[.int .i64 0,.slice none 0 0] 26 ?_;intro afB hg w5 hbox hb;replace Uj:=xR Uj hb;have O4:=zA (hbox);have ao2:=gq HB hg;have:=geI ao2;have ao3:=gq HB hg;replace HB:=xH HB hb;have E5:=nL Am hg;have Wp:=nG Am hg;replace Am:=xB Am hb;have:=geI ao3;clear hb hbox hg;have awO:=Wp.out;have awP:=E5.out;have IV:=bc O4 0;have IW:=bc O4 1;have Mg:=bf O4 0;have IX:=bf O4 1;obtain ⟨Ao8,co8,eo8⟩:=Kd.aY Uj.out;subst eo8;have vJ:=bc Am 0;have vK:=bc Am 1;have wP:=bf Am 0;have vL:=bf Am 1));refine bodyPost_ret (vD rfl _ _ YG 26 #[.int .i64 YF,.slice Ao8 ac1.length co8] (0,0) _ rfl (by (repeat refine up1 ?_);refine bE (cs:=#[.int .i64 YF,.slice none 0 0]) ?_ 1 _ rfl;(repeat refine up1 ?_);refine bE (cs:=#[.int .i64 0,.slice none 0 0]) ?_ 0 _ rfl;(repeat refine up1 ?_);refine bG ?_ E5.out _;(repeat refine up1 ?_);refine bG ?_ E5.out _;(repeat refine up1 ?_);exact Am.out) Try.underlying26 rfl (by kernel_rfl)) rfl ?_;exact ⟨_,eX,uR (Kd.ag (Kd.bA (p:=⟨YG,1,none⟩) (Kd.bA (p:=⟨YG,0,none⟩) (Kd.bA (p:=⟨afB,1,none⟩) (Kd.bA (p:=⟨afB,0,none⟩) (Kd.bL (Kd.bL Uj.out O4.out (by decide)) Am.out (by decide)) (fun _ hk=>hk.1.2) (.int .i64 YF)) (fun _ hk=>hk.1.2) (.slice Ao8 ac1.length co8)) (fun _ hk=>hk.2) (.int .i64 YF)) (fun _ hk=>hk.2) (.slice Ao8 ac1.length co8)) (fun _ hk=>trivial)),uH HB.out⟩
/-! ### lh: function 74 -/
def lh.f (k : Nat) (av : Int) (ah : List Int) (a1 : Int) : Option (Bool):=if (ah.length : Int) ≥ (wrap64 (2 * a1)) then ((gQ.f k av ah).bind fun aih=>(some (decide (aih ≥ a1)))) else (some false)
theorem lh.calls (k : Nat) (av : Int) (bz : Option Addr) (bu : Nat) (ah : List Int) (a1 : Int) (r : Bool) (w : World) (hr0_1 : Kd.C (Kd.int .i64) w bz ah.length ah) (gy : ah.length ≤ bu) (H : lh.f k av ah a1 = some r) :
  Calls Try.prog 74 #[.agg #[.int .i64 av,.slice bz ah.length bu],.int .i64 a1] w fun e w'=>e = .returned (.bool r)∧Below w.heap.size w w':=by
 have qV:=Try.underlying26;have dS:=zA hr0_1;have dY:=zA gy;clear hr0_1 gy;have HB:=zA (Below.refl w.heap.size w);unfold lh.f at H;replace H:=gI H;obtain ⟨c3,H⟩|⟨c3,H⟩:=H
 ·have rU : decide ((wrap64 (2 * a1)) ≤ (ah.length : Int)) = false:=decide_eq_false c3;clear c3;obtain rfl:=Option.some.inj H;go_enter Try.func74,Try.ntmps74;go_wp2_with (first | ((with_reducible refine bI (N:=2) rfl ?_);refine bx 2 #[.int .i64 av,.slice bz ah.length bu] 26 ?_;intro ao4 hg w8 hbox hb;have Bh:=zA (hbox);have YH:=gq HB hg;have:=geI YH;replace HB:=xH HB hb;clear hb hbox hg;have vJ:=bc Bh 0;have vK:=bc Bh 1;have wP:=bf Bh 0;have vL:=bf Bh 1));go_ret;exact ⟨eX,uH HB.out⟩
 have rU : decide ((wrap64 (2 * a1)) ≤ (ah.length : Int)) = true:=decide_eq_true c3;clear c3;replace H:=bO H;obtain ⟨aih,A4,H⟩:=H;obtain rfl:=Option.some.inj H;go_enter Try.func74,Try.ntmps74;go_wp2_with (first | ((with_reducible refine bI (N:=2) rfl ?_);refine bx 2 #[.int .i64 av,.slice bz ah.length bu] 26 ?_;intro ao4 hg w5 hbox hb;have Bh:=zA (hbox);have YH:=gq HB hg;have:=geI YH;replace HB:=xH HB hb;clear hb hbox hg;have IP:=bc Bh 0;have IQ:=bc Bh 1;have IR:=bf Bh 0;have IU:=bf Bh 1) | (go_at_call 46;(with_reducible refine (gQ.calls k av _ _ ah aih _ ?side1 ?side2 A4.out).mono ?_);(case side1=>exact uC ((Kd.aQ dS.out HB.out)));(case side2=>exact dY.out);rintro e w7 ⟨rfl,hb⟩;replace Bh:=xB Bh hb;replace HB:=xH HB hb;(try clear hb)));go_ret;exact ⟨eX,uH HB.out⟩
end Go.Proofs.Ytilbjbahmilhkaa.Pr
