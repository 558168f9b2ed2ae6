/- Texts of this session in one: what functions of the program compute, and plain facts of it, under the conditions that each theorem names. -/
import Derived.Test.YtilbjbahmilhkaaKtChanges1
import Derived.Test.YtilbjbahmilhkaaKtChanges3
import Derived.Test.YtilbjbahmilhkaaKtChanges7
import Derived.Test.YtilbjbahmilhkaaKtChanges8
import Derived.Test.YtilbjbahmilhkaaKtChanges9
namespace Go.Proofs.Ytilbjbahmilhkaa.Pr
/- The reference's Hankel determinant: printed by a program of this session; its last call by hand (the rows are handed over to what sets their slots). -/
open Go.RowKit Go.Proofs.YtilbjbahmilhkaaW.PrintWords Go.Proofs.YtilbjbahmilhkaaW.PrintLast Go.Proofs.YtilbjbahmilhkaaW.PrintMore
attribute [local go_sem] oz oC qG qH mX mY oF oG   -- for this text's walks alone
set_option linter.unusedVariables false
set_option linter.unusedSimpArgs false
/-! ### jq: function 82 -/
def jq.l0 : Nat → Int → List (List Int) → Int → Int → List Int → Option (Int)
 | 0,_,_,_,_,_=>none
 | k + 1,x1,x5,x6,O8,Jk=>if x6 < x1 then (if 0 ≤ x6 then (if x6 ≤ (wrap64 (x6 + x1)) then (if (wrap64 (x6 + x1)) ≤ (Jk.length : Int) then ((jB.f ((Jk.take ((wrap64 (x6 + x1)) : Int).toNat).drop (x6 : Int).toNat)).bind fun t138=>(if x5.length < 5864062014805 then (jq.l0 k x1 (x5 ++ [t138]) (wrap64 (x6 + 1)) O8 Jk) else (none))) else (none)) else (none)) else (none)) else ((ku.f k O8 x5).bind fun XG=>(some XG))
def jq.f (k : Nat) (aD : Int) (aA : List Int) (a1 : Int) : Option (Int):=jq.l0 k a1 (([] : List (List Int))) 0 aD aA
set_option maxHeartbeats 8000000 in
set_option maxRecDepth 100000 in
theorem jq.calls (k : Nat) (aD : Int) (bE : Option Addr) (bC : Nat) (aA : List Int) (a1 : Int) (r : Int) (w : World) (hr0_1 : Kd.C (Kd.int .i64) w bE aA.length aA) (jN : aA.length ≤ bC) (h : jq.f k aD aA a1 = some r) :
  Calls Try.prog 82 #[.agg #[.int .i64 aD,.slice bE aA.length bC],.int .i64 a1] w fun e w'=>e = .returned (.int .i64 r)∧Below w.heap.size w w':=by
 have ayl:=Try.underlying26
 have iY:=zA hr0_1
 have jo:=zA jN
 clear hr0_1 jN
 have HB:=zA (Below.refl w.heap.size w)
 have H : (jq.l0 k a1 (([] : List (List Int))) 0 aD aA) = some r:=h
 clear h
 obtain ⟨agO,K4⟩ : ∃ y_ : List (List Int),y_ = (([] : List (List Int))):=⟨_,rfl⟩
 replace H : (jq.l0 k a1 agO 0 aD aA) = some r:=by first | (rw [K4];with_reducible exact H) | (have H2_:=(Option.bind_some _ _).symm.trans H;rw [K4];with_reducible exact H2_) | (have H2_:=(Option.bind_some _ _).symm.trans H;with_reducible exact H2_) | with_reducible exact H | (rw [K4];exact H) | exact H
 have aaU:=zA K4
 clear K4
 have H':=zA H
 clear H
 go_enter Try.func82,Try.ntmps82
 go_wp2_with (first | ((with_reducible refine dz (N:=2) rfl ?_);refine Iy ?hg (N:=2) ?hd (cs:=#[.int .i64 aD,.slice bE aA.length bC]) (t:=26) ?hr ?_;(case hd=>rfl);(case hg=>rfl);(case hr=>first | (go_simp;done) | (go_simp;rfl));intro Et hg w3 hbox hb;have n0_:=xH HB hb;have n1_:=zA (hbox);have n2_:=zA ((by rw [hg];exact (av (uH HB.out)) : w.heap.size ≤ Et));have n3_:=zA ((by rw [hg];exact (av (uH HB.out)) : w.heap.size ≤ Et));clear HB;have HB:=n0_;have qh:=n1_;have awG:=n2_;have agP:=n3_;have:=geI agP;clear n0_ n1_ n2_ n3_ hb hbox hg) | ((with_reducible refine dz (N:=7) rfl ?_);refine Kd.agQ (Kd.slice 2 (Kd.int .i64)) _ 24 ?hg (N:=7) ?hd (xs:=([] : List (List Int))) (inner:=[]) (ok:=fun _=>True) (okp:=fun _=>True) ?hr ?hp (fun _ hk=>hk) trivial (Below.refl _ _) (Nat.le_refl _) (by simp) ?_;(case hd=>rfl);(case hg=>rfl);(case hr=>first | (go_simp;done) | (go_simp;rfl));(case hp=>exact (cB.none _ _));intro aym w4 ho5 hb hg_ hnew_;clear hg_ hnew_;(first | rw [← aaU.out] at ho5 | (simp only [Int.reduceToNat] at ho5;rw [← aaU.out] at ho5));have n0_:=zA (Kd.XH ho5 (av (uH HB.out)));have n1_:=xB qh hb;have n2_:=xH HB hb;clear qh HB;have agR:=n0_;have qh:=n1_;have HB:=n2_;clear n0_ n1_ n2_ hb ho5))
 go_loopg [5,6] k (fun kq v5 v6 w'=>∃ (jg : List (List Int)) (nu : Int),v6 = .int .i64 nu∧aa (jq.l0 kq a1 jg nu aD aA = some r)∧aa (kq ≤ k)∧aa (Kd.S (Kd.slice 2 (Kd.int .i64)) 24 w' w.heap.size (fun _=>True) v5 jg)∧aa (w'.heap[Et]? = some (.cells #[.int .i64 aD,(.slice bE aA.length bC)] 26 (0,0)))∧aa (Below w.heap.size w w'))
 case atStart=>exact ⟨(agO),(0),(by first | rfl | (simp;done) | (simp [*];done)),H',⟨Nat.le_refl _⟩,⟨by (with_reducible repeat (first | apply Kd.E8 | apply Kd.E9 | apply Kd.Jl));exact agR.out⟩,⟨uB qh.out⟩,⟨uH HB.out⟩⟩
 case round =>
  clear H'
  try clear c1
  try clear p2
  obtain ⟨jg,nu,rfl,HA,HK1,q8,qh,HB⟩:=hrel
  cases gk with
  | zero=>exact absurd HA.out (by simp [jq.l0])
  | succ k1 =>
   have H:=HA.out
   clear HA
   simp only [jq.l0] at H
   by_cases c6 : nu < a1
   ·rw [if_pos c6] at H
    have qo : decide (nu < a1) = true:=decide_eq_true c6
    clear c6
    by_cases c7 : 0 ≤ nu
    ·rw [if_pos c7] at H
     have Ih:=eq_true c7
     have K5 : decide (0 ≤ nu) = true:=decide_eq_true c7
     clear c7
     by_cases c8 : nu ≤ (wrap64 (nu + a1))
     ·rw [if_pos c8] at H
      have yc:=eq_true c8
      have K6 : decide (nu ≤ (wrap64 (nu + a1))) = true:=decide_eq_true c8
      by_cases c9 : (wrap64 (nu + a1)) ≤ (aA.length : Int)
      ·rw [if_pos c9] at H
       have Ay:=eq_true c9
       have ER : decide ((wrap64 (nu + a1)) ≤ (aA.length : Int)) = true:=decide_eq_true c9
       replace H:=Option.bind_eq_some_iff.mp H
       obtain ⟨t138,agS,H⟩:=H
       replace H : (if jg.length < 5864062014805 then (jq.l0 k1 a1 (jg ++ [t138]) (wrap64 (nu + 1)) aD aA) else (none)) = some r:=H
       have A10:=zA agS
       clear agS
       by_cases c11 : jg.length < 5864062014805
       ·rw [if_pos c11] at H
        have Sk:=zA c11
        clear c11
        obtain ⟨agT,K7⟩ : ∃ y_ : List (List Int),y_ = (jg ++ [t138]):=⟨_,rfl⟩
        replace H : (jq.l0 k1 a1 agT (wrap64 (nu + 1)) aD aA) = some r:=by first | (rw [K7];with_reducible exact H) | (have H2_:=(Option.bind_some _ _).symm.trans H;rw [K7];with_reducible exact H2_) | (have H2_:=(Option.bind_some _ _).symm.trans H;with_reducible exact H2_) | with_reducible exact H | (rw [K7];exact H) | exact H
        have agU:=zA K7
        clear K7
        have H':=zA H
        clear H
        have O9 : wr.cell? ⟨Et,0,none⟩ = some (.int .i64 aD):=(bG qh.out 0).trans rfl
        have Pb : wr.cell? ⟨Et,1,none⟩ = some (.slice bE aA.length bC):=(bG qh.out 1).trans rfl
        have Pd:=ko qh.out 0
        have Pe:=ko qh.out 1
        obtain ⟨ayn,aaV,_,aaW,_⟩:=info_parts mf
        obtain ⟨A13,aq2,agV,agW⟩:=Jm (P:=Try.prog) (Value.int .i64) 0 24 2 .i64 .i64 Try.underlying24 aaV aaW bE bC aA nu (wrap64 (nu + a1)) (of_decide_eq_true (by first | (with_reducible assumption) | assumption)) (by first | omega | exact of_decide_eq_true (by first | (with_reducible assumption) | assumption)) (of_decide_eq_true (by first | (with_reducible assumption) | assumption)) jo.out
        have agX:=zA (Kd.yf (h1:=fun _=>rfl) (agV _ (Kd.vK iY.out)))
        have agY:=zA agW
        clear agV agW aaV aaW
        go_wp2_with (first | ((with_reducible refine ag (f:=85) rfl ?_);refine yK (some 21) rfl rfl Try.func85 (by kernel_rfl) rfl #[.slice A13 ((aA.take ((wrap64 (nu + a1)) : Int).toNat).drop (nu : Int).toNat).length (bC - nu.toNat)] rfl (by (try simp only [la,lb,lc]);first | done | (rw [show ((aA.take ((wrap64 (nu + a1)) : Int).toNat).drop (nu : Int).toNat).length = ((wrap64 (nu + a1)).toNat - nu.toNat) from (by rw [List.length_drop,List.length_take];have h_ : ((wrap64 (nu + a1)) : Int) ≤ (aA.length : Int):=of_decide_eq_true (by first | (with_reducible assumption) | assumption);omega)] <;> rfl) | rfl | (simp only [ld,le];rfl)) ?_;(with_reducible refine (jB.calls _ _ ((aA.take ((wrap64 (nu + a1)) : Int).toNat).drop (nu : Int).toNat) t138 _ ?side1 ?side2 A10.out).mono ?_);(case side1=>exact uC ((Kd.dH agX.out HB.out)));(case side2=>exact agY.out);rintro e w14 ⟨v139,rfl,ho0,hb⟩;refine ⟨_,rfl,?_⟩;have n0_:=zA (Kd.Sl (by (with_reducible repeat (first | apply Kd.E8 | apply Kd.E9 | apply Kd.Jl));exact q8.out) (Kd.bD ho0) hb);have n1_:=zA (Kd.bv ho0 (av (uH HB.out)));have n2_:=xB qh hb;have n3_:=xH HB hb;clear q8 qh HB;have q8:=n0_;have Pf:=n1_;have qh:=n2_;have HB:=n3_;clear n0_ n1_ n2_ n3_;(try clear hb);(try clear hb2);(try clear hk);(try clear hi);(try clear ho0);obtain ⟨iN,iO,Sn⟩:=Kd.aW Pf.out;subst Sn) | ((with_reducible refine fJ (b:=.append) (xs:=#[.tmp 13,.tmp 22]) rfl ?_);at_builtin;refine Kd.Sq (Kd.slice 2 (Kd.int .i64)) (w0:=w) w.heap.size rfl (.tmp 13) (.tmp 22) 51 24 (.slice none 0 0) 24 rfl Try.underlying51 Sr rfl (by decide) (by omega) u5 jg t138 [.slice iN t138.length iO] (fun _=>True) (fun k_=>some k_ = (.slice iN t138.length iO : Value).ownBlock) rfl rfl ?aP (fun k_ hk_=>((Kd.af (ok':=fun k_=>((fun _=>True)) k_∧some k_ ≠ (u5 : Value).ownBlock) (Kd.K8 (Pf.out) (Kd.Pg q8.out) (by decide)) (fun k_ hk=>⟨trivial,hk.2⟩))).1 k_ hk_.symm) ?aF ?aO ?aB ?aS ?aL ?_;(case aP=>exact Kd.agZ (Kd.af (Kd.Bu rfl (Kd.af (ok':=fun k_=>((fun _=>True)) k_∧some k_ ≠ (u5 : Value).ownBlock) (Kd.K8 (Pf.out) (Kd.Pg q8.out) (by decide)) (fun k_ hk=>⟨trivial,hk.2⟩))) (fun _ h_=>h_)));(case aB=>exact (uH HB.out));(case aF=>exact (fun _ _=>trivial));(case aO=>exact (by (with_reducible repeat (first | apply Kd.E8 | apply Kd.E9 | apply Kd.Jl));exact Kd.Su q8.out (fun k_ hk=>⟨trivial,fun e_=>hk.2 e_⟩)));(case aS=>exact (av (uH HB.out)));(case aL=>have:=Sk.out;omega);intro ayo w15 ho hb hg hat;rw [← agU.out] at ho;have n0_:=zA (uO (g:=Et) (o:=.cells #[.int .i64 aD,.slice bE aA.length bC] 26 (0,0)) (uB qh.out) hg (Kd.ag0 q8.out qh.out (by decide)));have n1_:=zA (hb);have n2_:=zA (ho);clear qh HB q8 Pf;have qh:=n0_;have HB:=n1_;have ag1:=n2_;clear n0_ n1_ n2_ ho hb hg hat))
        go_roundg k1
        case measure=>have:=HK1.out;omega
        case rel=>exact ⟨(agT),(wrap64 (nu + 1)),(by first | rfl | (simp;done) | (simp [*];done)),H',⟨by have:=HK1.out;omega⟩,⟨by (with_reducible repeat (first | apply Kd.E8 | apply Kd.E9 | apply Kd.Jl));exact ag1.out⟩,⟨uB qh.out⟩,⟨uH HB.out⟩⟩
       ·rw [if_neg c11] at H
        exact absurd H (by simp)
      ·rw [if_neg c9] at H
       exact absurd H (by simp)
     ·rw [if_neg c8] at H
      exact absurd H (by simp)
    ·rw [if_neg c7] at H
     exact absurd H (by simp)
   ·rw [if_neg c6] at H
    have qo : decide (nu < a1) = false:=decide_eq_false c6
    clear c6
    replace H:=Option.bind_eq_some_iff.mp H
    obtain ⟨XG,ag2,H⟩:=H
    replace H : (some XG) = some r:=H
    have A17:=zA ag2
    clear ag2
    obtain rfl:=Option.some.inj H
    have Jn : wr.cell? ⟨Et,0,none⟩ = some (.int .i64 aD):=(bG qh.out 0).trans rfl
    have Jo : wr.cell? ⟨Et,1,none⟩ = some (.slice bE aA.length bC):=(bG qh.out 1).trans rfl
    have Jp:=ko qh.out 0
    have Jq:=ko qh.out 1
    obtain ⟨aq3,ag3,XI⟩:=Kd.XJ q8.out
    subst XI
    go_wp2_with (first | ((with_reducible refine ag (f:=101) rfl ?_);refine yK (some 27) rfl rfl Try.func101 (by kernel_rfl) rfl #[.int .i64 aD,.slice aq3 jg.length ag3] rfl (by (try simp only [la,lb,lc]);first | done | rfl | (simp only [ld,le];rfl)) ?_;(with_reducible refine (ku.calls k1 aD _ jg XG w _ (fun _=>True) ?side1 ?side2 A17.out).mono ?_);(case side1=>exact (uH HB.out));(case side2=>exact (uR (Kd.S_R q8.out)));rintro e w20 ⟨rfl,hb⟩;refine ⟨_,rfl,?_⟩;clear q8 qh HB;have HB:=zA hb;clear hb))
    go_ret
    exact ⟨by first | rfl | (simp [gY,ic] <;> rfl) | (simp [*,gY,ic] <;> rfl),uH HB.out⟩
/- Hankel determinants: both come to one plain function; no condition. -/
/-- The first i rows of the Hankel matrix of k rows. -/
def hrows (l : List Int) (k i : Nat) : List (List Int):=(List.range i).map fun j=>(l.take (j + k)).drop j
def vL (p : Int) (l : List Int) (k : Nat) : Int:=M5 p (hrows l k k)
theorem hrows_len (l : List Int) (k i : Nat) : (hrows l k i).length = i:=by simp [hrows]
theorem hrows_succ (l : List Int) (k i : Nat) : hrows l k (i + 1) = hrows l k i ++ [(l.take (i + k)).drop i]:=by unfold hrows;rw [List.range_succ,List.map_append,List.map_singleton]
theorem hrows_sqr {p : Int} (hp : Pm p) {l : List Int} (hl : Nm p l) {k : Nat} (hk : k ≤ 1000) (h : 2 * k ≤ l.length + 1) : Q6 p (hrows l k k):=by
  refine ⟨⟨hp.two,hp.top⟩,by rw [hrows_len];exact hk,fun r hr=>?_⟩
  obtain ⟨j,hj,rfl⟩:=List.mem_map.1 hr
  have hj:=List.mem_range.1 hj
  refine ⟨by rw [hrows_len,List.length_drop,List.length_take];omega,(hl.take _).drop _⟩
theorem adv {p : Int} {rows : List (List Int)} (h : Q6 p rows) (n : Nat) : aH.f n p rows = some (M5 p rows):=by unfold aH.f;rw [if_pos h]
section
variable {p : Int} (hp : Pm p) {l : List Int} (nl : Nm p l) (hl : l.length ≤ 24) {k : Nat} (hk : 2 * k ≤ l.length + 1)
include hp nl hl hk
theorem K9 (d : Nat) : ∀ i : Nat,i + d = k → Ev (fun n=>dY.l0 n (k : Int) (hrows l k i) (k : Int) (i : Int) p l) (vL p l k):=by
  induction d with
  | zero =>
    intro i hi
    obtain rfl : i = k:=by omega
    refine Ev.step (fun n=>by rw [dY.l0]) ?_
    exact Ev.neg (by omega) (Ev.kQ (a:=p) rfl (Ev.bind ⟨0,fun n _=>adv (hrows_sqr hp nl (by omega) hk) n⟩ (Ev.now _)))
  | succ d ih =>
    intro i hi
    refine Ev.step (fun n=>by rw [dY.l0]) ?_
    rw [XK (i:=i) (j:=k) (n:=1000) (by omega) (by omega),lW (i:=i) (n:=k) (by omega) (by omega)]
    refine Ev.pos (by omega) (Ev.pos (by omega) (Ev.pos (by omega) (Ev.pos (by omega) (Ev.pos (by rw [hrows_len];omega) ?_))))
    rw [mZ,mZ,← hrows_succ]
    exact ih (i + 1) (by omega)
theorem La : Ev (fun n=>dY.f n p l (k : Int)) (vL p l k):=K9 hp nl hl hk k 0 (by omega)
end
theorem Ph {l : List Int} (hl : Sm l.length) : wrap64 (Int.tdiv (wrap64 ((l.length : Int) + 1)) 2) = (((l.length + 1) / 2 : Nat) : Int):=by
  unfold Sm at hl
  rw [dQ (x:=(l.length : Int) + 1) (by omega) (by omega),Int.tdiv_eq_ediv_of_nonneg (by omega),dQ (by omega) (by omega)]
  omega
theorem Q7 (p : Int) {l : List Int} (hl : Sm l.length) (a : Int) : jO.f p l a = some (decide (0 ≤ a∧a ≤ (((l.length + 1) / 2 : Nat) : Int))):=by
  unfold jO.f jw.f
  by_cases h : a ≥ 0
  · rw [if_pos h]
    simp only [Option.bind_some,Ph hl]
    congr 2
    simp [h]
  · rw [if_neg h]
    congr 1
    simp [show ¬ 0 ≤ a from h]
/- The program's HankelDeterminant at good moments and a told number; no further condition. -/
theorem Bv {p : Int} {l : List Int} (hm : lK p l = true) (hl : Sm l.length) {n : Nat} (hn : 2 * n ≤ l.length + 1) : Ev (fun k=>fo.f k p l (n : Int)) (vL p l n,0):=by
  have hc:=yL p l hl true [] (by simp [Sm]) (fun l h=>by cases h)
  rw [hm] at hc
  have h1 : gz.f p l (n : Int) = some true:=by
    unfold gz.f
    rw [Q7 p hl,decide_eq_true (by omega)];rfl
  unfold fo.f
  exact Ev.kQ h1 (Ev.bind hc (Ev.pos rfl (Ev.bind (La (lK.pm hm) (lK.nm hm) (lK.len hm).2 hn) (Ev.now _))))
/- The program's InverseOf; no condition. -/
theorem Jr {p x : Int} (hq : fV p = true) (hx : 1 ≤ x∧x < p) : Ev (fun k=>lX.f k p x) (vM p x,0):=by
  have hp:=fV.pm hq
  have h2:=hp.two
  have ht:=hp.top
  unfold lX.f
  have hw : jP.f x 1 (wrap64 (p - 1)) = some true:=by
    rw [dQ (by omega) (by omega),Dp,decide_eq_true (by omega)]
  exact Ev.bind (yg p) (Ev.pos hq (Ev.kQ hw (Ev.pos rfl (Ev.bind (Gc hp ⟨by omega,hx.2⟩) (Ev.now _)))))
/- Powers modulo p are the rests of powers; no condition. -/
theorem Bw {p : Int} (a : Int) (m : Nat) : ∀ o : Int,(o * (a % p) ^ m) % p = (o * a ^ m) % p:=by
  induction m with
  | zero=>intro o;rw [Int.pow_zero,Int.pow_zero]
  | succ m ih =>
    intro o
    rw [Int.pow_succ,Int.pow_succ,Int.mul_comm ((a % p) ^ m),← Int.mul_assoc,ih,Int.mul_assoc,Int.mul_comm (a % p),← Int.mul_assoc,Int.mul_emod,Int.emod_emod,← Int.mul_emod,Int.mul_assoc]
theorem sq_pow (x : Int) (m : Nat) : (x * x) ^ m = x ^ (2 * m):=by
  induction m with
  | zero=>rw [Int.pow_zero,Nat.mul_zero,Int.pow_zero]
  | succ m ih=>rw [Int.pow_succ,ih,show 2 * (m + 1) = 2 * m + 1 + 1 from by omega,Int.pow_succ,Int.pow_succ,Int.mul_assoc]
theorem Sv {p : Int} (hp : 0 < p) (d : Nat) : ∀ (x : Int) (k : Nat) (o : Int),k ≤ d → 0 ≤ o∧o < p → yC p d x k o = (o * x ^ k) % p:=by
  induction d with
  | zero =>
    intro x k o hk ho
    obtain rfl : k = 0:=by omega
    rw [yC,Int.pow_zero,Int.mul_one,Int.emod_eq_of_lt ho.1 ho.2]
  | succ d ih =>
    intro x k o hk ho
    rw [yC]
    by_cases h : k = 0
    · subst h;rw [if_pos rfl,Int.pow_zero,Int.mul_one,Int.emod_eq_of_lt ho.1 ho.2]
    · rw [if_neg h]
      by_cases g : k % 2 = 1
      · rw [if_pos g,ih _ _ _ (by omega) (nI hp _),Bw,sq_pow,Int.mul_emod,Int.emod_emod,← Int.mul_emod,Int.mul_assoc,Int.mul_comm x,← Int.pow_succ,show (2 * (k / 2)).succ = k from by omega]
      · rw [if_neg g,ih _ _ _ (by omega) ho,Bw,sq_pow,show 2 * (k / 2) = k from by omega]
theorem XL {p : Int} (hp : Pm p) (x : Int) (k : Nat) : Js p x k = x ^ k % p:=by
  have:=hp.two
  rw [Js,Sv hp.pos k x k 1 (Nat.le_refl _) (by omega),Int.one_mul]
/- A Gd divides a product only with one of its factors. -/
theorem fV.div {p : Int} (h : fV p = true) {j : Nat} (h2 : 2 ≤ j) (hj : (j : Int) * (j : Int) ≤ p) : ¬ (j : Int) ∣ p:=by
  intro hd
  simp only [fV,Bool.and_eq_true,decide_eq_true_eq] at h
  have hj1 : j < 101:=by
    apply Decidable.byContradiction
    intro g
    have:=XM (a:=(101 : Int)) (b:=(101 : Int)) (m:=(j : Int)) (n:=(j : Int)) (by omega) (by omega) (by omega) (by omega)
    omega
  exact h.2 j hj1 h2 hj (Int.emod_eq_zero_of_dvd hd)
theorem fV.gcd {p : Nat} (h : fV (p : Int) = true) {a : Nat} (h1 : 1 ≤ a) (ha : a < p) : Nat.gcd p a = 1:=by
  obtain ⟨g,hg⟩ : ∃ g,Nat.gcd p a = g:=⟨_,rfl⟩
  have hp:=(fV.pm h).two
  have d1 : g ∣ p:=hg ▸ Nat.gcd_dvd_left p a
  have d2 : g ∣ a:=hg ▸ Nat.gcd_dvd_right p a
  have l1 : g ≤ a:=Nat.le_of_dvd (by omega) d2
  have l0 : 0 < g:=hg ▸ Nat.gcd_pos_of_pos_right p (by omega)
  rw [hg]
  apply Decidable.byContradiction
  intro hne
  obtain ⟨q,hq⟩:=d1
  have hq2 : 2 ≤ q:=by
    rcases Nat.lt_or_ge q 2 with g2 | g2
    · exfalso
      have : q = 0 ∨ q = 1:=by omega
      rcases this with rfl | rfl
      · omega
      · omega
    · exact g2
  rcases Nat.le_total g q with hle | hle
  · refine fV.div h (j:=g) (by omega) ?_ ⟨(q : Int),by rw [hq];simp⟩
    have:=Nat.mul_le_mul_left g hle
    rw [← hq] at this
    exact_mod_cast this
  · refine fV.div h (j:=q) hq2 ?_ ⟨(g : Int),by rw [hq,Int.natCast_mul];exact Int.mul_comm _ _⟩
    have:=Nat.mul_le_mul_right q hle
    rw [← hq] at this
    exact_mod_cast this
/-- A number that p does not divide may be left out. -/
theorem fV.cancel {p a d : Int} (h : fV p = true) (ha : 1 ≤ a∧a < p) (hd : p ∣ a * d) : p ∣ d:=by
  obtain ⟨P,rfl⟩ : ∃ P : Nat,p = (P : Int):=⟨p.toNat,by omega⟩
  obtain ⟨A,rfl⟩ : ∃ A : Nat,a = (A : Int):=⟨a.toNat,by omega⟩
  have hg:=fV.gcd h (a:=A) (by omega) (by omega)
  have h1:=Int.natAbs_dvd_natAbs.2 hd
  rw [Int.natAbs_mul] at h1
  have h2 : P ∣ d.natAbs:=Nat.Coprime.dvd_of_dvd_mul_left (k:=P) (m:=A) (n:=d.natAbs) hg h1
  exact Int.natAbs_dvd_natAbs.1 h2
/- Numbers modulo P as a ring of their own; sums there: plain; no condition. -/
section
variable {P : Nat} [NeZero P]
/-- A whole number's rest modulo P. -/
def fz (P : Nat) [NeZero P] (x : Int) : Fin P:=⟨(x % (P : Int)).toNat,by
  have:=Nat.pos_of_neZero P
  have:=Int.emod_nonneg x (show (P : Int) ≠ 0 by omega)
  have:=Int.emod_lt_of_pos x (show 0 < (P : Int) by omega)
  omega⟩
theorem uh (x : Int) : ((fz P x).val : Int) = x % (P : Int):=by
  have:=Nat.pos_of_neZero P
  have:=Int.emod_nonneg x (show (P : Int) ≠ 0 by omega)
  show (((x % (P : Int)).toNat : Nat) : Int) = _
  omega
theorem Gf {x y : Int} : fz P x = fz P y ↔ x % (P : Int) = y % (P : Int):=by
  constructor
  · intro h
    rw [← uh,← uh,h]
  · intro h
    apply Fin.ext
    have h1:=uh (P:=P) x
    have h2:=uh (P:=P) y
    omega
theorem adw (x : Int) : fz P (x % (P : Int)) = fz P x:=Gf.2 (Int.emod_emod _ _)
theorem Bd (x y : Int) : fz P (x + y) = fz P x + fz P y:=by
  apply Fin.ext
  apply Int.ofNat.inj
  show (((fz P (x + y)).val : Nat) : Int) = (((fz P x + fz P y).val : Nat) : Int)
  rw [Fin.val_add,Int.natCast_emod,Int.natCast_add,uh,uh,uh,← Int.add_emod]
theorem xn (x y : Int) : fz P (x * y) = fz P x * fz P y:=by
  apply Fin.ext
  apply Int.ofNat.inj
  show (((fz P (x * y)).val : Nat) : Int) = (((fz P x * fz P y).val : Nat) : Int)
  rw [Fin.val_mul,Int.natCast_emod,Int.natCast_mul,uh,uh,uh,← Int.mul_emod]
theorem qI : fz P 0 = 0:=by
  apply Fin.ext
  show ((0 : Int) % (P : Int)).toNat = (0 : Fin P).val
  simp
theorem rX : fz P 1 = 1:=by
  apply Fin.ext
  apply Int.ofNat.inj
  show (((fz P 1).val : Nat) : Int) = (((1 : Fin P).val : Nat) : Int)
  rw [uh]
  show (1 : Int) % (P : Int) = ((1 % P : Nat) : Int)
  simp
theorem Sw (x : Int) : fz P (-x) = -fz P x:=by
  have h : fz P (-x) + fz P x = 0:=by rw [← Bd,Int.add_left_neg,qI]
  grind
theorem adx (x y : Int) : fz P (x - y) = fz P x - fz P y:=by
  rw [Int.sub_eq_add_neg,Bd,Sw]
  grind
theorem Iz {x : Int} : fz P x = 0 ↔ x % (P : Int) = 0:=by
  rw [← qI,Gf,Int.zero_emod]
/-- Sums. -/
def sF (g : Nat → Fin P) : Nat → Fin P
  | 0=>0
  | n + 1=>sF g n + g n
theorem Sy (g : Nat → Int) (n : Nat) : fz P (sumTo g n) = sF (fun i=>fz P (g i)) n:=by
  induction n with
  | zero=>exact qI
  | succ n ih=>rw [sumTo,Bd,ih];rfl
theorem kR {g h : Nat → Fin P} (n : Nat) (e : ∀ i,i < n → g i = h i) : sF g n = sF h n:=by
  induction n with
  | zero=>rfl
  | succ n ih=>rw [sF,sF,ih (fun i hi=>e i (by omega)),e n (by omega)]
theorem Gg {g : Nat → Fin P} (n : Nat) (e : ∀ i,i < n → g i = 0) : sF g n = 0:=by
  induction n with
  | zero=>rfl
  | succ n ih=>rw [sF,ih (fun i hi=>e i (by omega)),e n (by omega)];grind
theorem xq (g h : Nat → Fin P) (n : Nat) : sF (fun i=>g i + h i) n = sF g n + sF h n:=by
  induction n with
  | zero=>simp only [sF];grind
  | succ n ih=>simp only [sF];rw [ih];grind
theorem rq (c : Fin P) (g : Nat → Fin P) (n : Nat) : sF (fun i=>c * g i) n = c * sF g n:=by
  induction n with
  | zero=>simp only [sF];grind
  | succ n ih=>simp only [sF];rw [ih];grind
theorem Pi (c : Fin P) (g : Nat → Fin P) (n : Nat) : sF (fun i=>g i * c) n = sF g n * c:=by
  induction n with
  | zero=>simp only [sF];grind
  | succ n ih=>simp only [sF];rw [ih];grind
theorem XN (g : Nat → Nat → Fin P) (n m : Nat) : sF (fun i=>sF (fun j=>g i j) m) n = sF (fun j=>sF (fun i=>g i j) n) m:=by
  induction n with
  | zero=>exact (Gg m (fun _ _=>rfl)).symm
  | succ n ih=>simp only [sF];rw [ih,← xq]
theorem ru (g : Nat → Fin P) (n : Nat) : sF g (n + 1) = g 0 + sF (fun t=>g (t + 1)) n:=by
  induction n with
  | zero=>simp only [sF];grind
  | succ n ih=>rw [sF,ih,sF];grind
theorem XO {g : Nat → Fin P} {n : Nat} (e : ∀ i,n ≤ i → g i = 0) (d : Nat) : sF g (n + d) = sF g n:=by
  induction d with
  | zero=>rfl
  | succ d ih=>rw [← Nat.add_assoc,sF,ih,e _ (by omega)];grind
theorem aaX {g : Nat → Fin P} {n m : Nat} (h : n ≤ m) (e : ∀ i,n ≤ i → g i = 0) : sF g m = sF g n:=by
  obtain ⟨d,rfl⟩:=Nat.le.dest h
  exact XO e d
/-- One place alone. -/
theorem Pj {g : Nat → Fin P} {n k : Nat} (hk : k < n) (e : ∀ i,i < n → i ≠ k → g i = 0) : sF g n = g k:=by
  induction n with
  | zero=>omega
  | succ n ih =>
    rw [sF]
    by_cases c : k = n
    · subst c
      rw [Gg k (fun i hi=>e i (by omega) (by omega))]
      grind
    · rw [ih (by omega) (fun i hi=>e i (by omega)),e n (by omega) (by omega)]
      grind
/-- The numbers of a list. -/
def cf (P : Nat) [NeZero P] (f : List Int) (i : Nat) : Fin P:=fz P (f.getD i 0)
theorem Sz {f : List Int} {i : Nat} (h : f.length ≤ i) : cf P f i = 0:=by
  unfold cf
  rw [List.getD_eq_getElem?_getD,List.getElem?_eq_none h]
  exact qI
end
/- Three-term recurrences and the pairing of a functional: orthogonality, what vanishes on all of them, Christoffel and Darboux: plain; no condition. -/
section
variable {P : Nat} [NeZero P] {m : Nat → Fin P} {N : Nat}
/-- What the functional makes of f times x^k. -/
def lam (m : Nat → Fin P) (N : Nat) (f : Nat → Fin P) (k : Nat) : Fin P:=sF (fun t=>f t * m (t + k)) N
/-- What the functional makes of f times g. -/
def bi (m : Nat → Fin P) (N : Nat) (f g : Nat → Fin P) : Fin P:=sF (fun j=>g j * lam m N f j) N
/-- Times x. -/
def xs (f : Nat → Fin P) : Nat → Fin P
  | 0=>0
  | i + 1=>f i
theorem Pk (f g h : Nat → Fin P) (c : Fin P) : bi m N h (fun i=>f i + c * g i) = bi m N h f + c * bi m N h g:=by
  unfold bi
  rw [← rq,← xq]
  exact kR N fun t _=>by grind
theorem ag4 {f : Nat → Fin P} (hf : ∀ i,N ≤ i + 1 → f i = 0) (j : Nat) : lam m N (xs f) j = lam m N f (j + 1):=by
  cases N with
  | zero=>rfl
  | succ M =>
    unfold lam
    rw [ru,sF,hf M (Nat.le_refl _)]
    have : sF (fun t=>xs f (t + 1) * m (t + 1 + j)) M = sF (fun t=>f t * m (t + (j + 1))) M:=kR M fun t _=>by rw [show t + 1 + j = t + (j + 1) from by omega];rfl
    rw [this]
    simp only [xs]
    grind
/-- Monic polynomials by a recurrence of three terms, with their norms, up to n. -/
structure Tri (m : Nat → Fin P) (N n : Nat) (Q Qb : Nat → Nat → Fin P) (al be h : Nat → Fin P) : Prop where
  q0 : ∀ i,Q 0 i = if i = 0 then 1 else 0
  b0 : ∀ i,Qb 0 i = 0
  bs : ∀ k,Qb (k + 1) = Q k
  st : ∀ k i,Q (k + 1) i = xs (Q k) i - al k * Q k i - be k * Qb k i
  nn : n + 2 ≤ N
  hk : ∀ k,k ≤ n → h k = bi m N (Q k) (Q k)
  ak : ∀ k,k < n → al k * h k = bi m N (xs (Q k)) (Q k)
  bk : ∀ k,k < n → be (k + 1) * h k = h (k + 1)
section
variable {n : Nat} {Q Qb : Nat → Nat → Fin P} {al be h : Nat → Fin P} (T : Tri m N n Q Qb al be h)
include T
theorem Tri.sup (k : Nat) : ∀ i,k < i → Q k i = 0∧Qb k i = 0:=by
  induction k with
  | zero=>intro i hi;exact ⟨by rw [T.q0,if_neg (by omega)],T.b0 i⟩
  | succ k ih =>
    intro i hi
    obtain ⟨j,rfl⟩ : ∃ j,i = j + 1:=⟨i - 1,by omega⟩
    have h1:=ih (j + 1) (by omega)
    have h2:=ih j (by omega)
    refine ⟨?_,by rw [T.bs];exact h1.1⟩
    rw [T.st,h1.1,h1.2]
    simp only [xs]
    rw [h2.1]
    grind
theorem Tri.top (k : Nat) : Q k k = 1:=by
  induction k with
  | zero=>rw [T.q0,if_pos rfl]
  | succ k ih =>
    have h1:=T.sup k (k + 1) (by omega)
    rw [T.st,h1.1,h1.2]
    simp only [xs]
    rw [ih]
    grind
theorem Tri.step (f : Nat → Fin P) (k : Nat) : bi m N f (Q (k + 1)) = bi m N f (xs (Q k)) - al k * bi m N f (Q k) - be k * bi m N f (Qb k):=by
  have e : Q (k + 1) = fun i=>(fun i=>xs (Q k) i + (-al k) * Q k i) i + (-be k) * Qb k i:=by
    funext i
    rw [T.st]
    grind
  rw [e,Pk (fun i=>xs (Q k) i + (-al k) * Q k i),Pk (xs (Q k))]
  grind
theorem Tri.far {k : Nat} (hk : k ≤ n) : ∀ i,N ≤ i + 1 → Q k i = 0:=fun i hi=>(T.sup k i (by have:=T.nn;omega)).1
end
/-! ### values -/
def pw (x : Fin P) : Nat → Fin P
  | 0=>1
  | i + 1=>pw x i * x
def va (N : Nat) (x : Fin P) (f : Nat → Fin P) : Fin P:=sF (fun i=>f i * pw x i) N
theorem SA (x : Fin P) (f g : Nat → Fin P) (c : Fin P) : va N x (fun i=>f i + c * g i) = va N x f + c * va N x g:=by
  unfold va
  rw [← rq,← xq]
  exact kR N fun t _=>by grind
theorem aq4 (x : Fin P) {f : Nat → Fin P} (hf : ∀ i,N ≤ i + 1 → f i = 0) : va N x (xs f) = x * va N x f:=by
  cases N with
  | zero=>simp only [va,sF];grind
  | succ M =>
    unfold va
    rw [ru,sF,hf M (Nat.le_refl _)]
    have : sF (fun t=>xs f (t + 1) * pw x (t + 1)) M = sF (fun t=>x * (f t * pw x t)) M:=kR M fun t _=>by simp only [xs,pw];grind
    rw [this,rq]
    simp only [xs]
    grind
section
variable {n : Nat} {Q Qb : Nat → Nat → Fin P} {al be h iv : Nat → Fin P} (T : Tri m N n Q Qb al be h)
include T
theorem Tri.val (x : Fin P) {k : Nat} (hk : k ≤ n) : va N x (Q (k + 1)) = (x - al k) * va N x (Q k) - be k * va N x (Qb k):=by
  have e : Q (k + 1) = fun i=>(fun i=>xs (Q k) i + (-al k) * Q k i) i + (-be k) * Qb k i:=by
    funext i
    rw [T.st]
    grind
  rw [e,SA x (fun i=>xs (Q k) i + (-al k) * Q k i),SA x (xs (Q k)),aq4 x (T.far hk)]
  grind
end
end
/- Fermat: the power p - 2 is the inverse; no condition but that p is a Gd. -/
/-- How many ways to choose k of n. -/
def chs : Nat → Nat → Int
  | _,0=>1
  | 0,_ + 1=>0
  | n + 1,k + 1=>chs n k + chs n (k + 1)
theorem Bz (n k : Nat) : chs (n + 1) (k + 1) = chs n k + chs n (k + 1):=by rw [chs]
theorem Fa (n : Nat) : ∀ k,n < k → chs n k = 0:=by
  induction n with
  | zero =>
    intro k h
    obtain ⟨j,rfl⟩ : ∃ j,k = j + 1:=⟨k - 1,by omega⟩
    rw [chs]
  | succ n ih =>
    intro k h
    obtain ⟨j,rfl⟩ : ∃ j,k = j + 1:=⟨k - 1,by omega⟩
    rw [chs,ih j (by omega),ih (j + 1) (by omega)];rfl
theorem SB (n : Nat) : chs n n = 1:=by
  induction n with
  | zero=>rw [chs]
  | succ n ih=>rw [chs,ih,Fa n (n + 1) (by omega)];rfl
theorem yh (n : Nat) : chs n 0 = 1:=by cases n <;> rw [chs]
theorem XP (n : Nat) : ∀ k : Nat,((k : Int) + 1) * chs (n + 1) (k + 1) = ((n : Int) + 1) * chs n k:=by
  induction n with
  | zero =>
    intro k
    cases k with
    | zero=>simp [chs]
    | succ k=>rw [Bz,Fa 0 (k + 1) (by omega),Fa 0 (k + 1 + 1) (by omega)];simp
  | succ n ih =>
    intro k
    cases k with
    | zero =>
      have h:=ih 0
      rw [Bz (n + 1)]
      simp only [yh,Int.natCast_succ,Int.natCast_zero] at h ⊢
      clear ih
      generalize chs (n + 1) (0 + 1) = a at *
      omega
    | succ k =>
      have h1:=ih k
      have h2:=ih (k + 1)
      have e:=Bz n k
      rw [Bz (n + 1)]
      simp only [Int.natCast_succ] at *
      clear ih
      generalize chs (n + 1) (k + 1) = a at *
      generalize chs (n + 1) (k + 1 + 1) = b at *
      generalize chs n k = c at *
      generalize chs n (k + 1) = d at *
      grind
section
variable {P : Nat} [NeZero P]
theorem ag5 (a : Int) (n : Nat) : fz P ((a + 1) ^ n) = sF (fun k=>fz P (chs n k) * fz P (a ^ k)) (n + 1):=by
  induction n with
  | zero =>
    simp only [sF,Int.pow_zero,rX]
    rw [show chs 0 0 = 1 from rfl,rX]
    grind
  | succ n ih =>
    have e : ∀ k,fz P (chs (n + 1) (k + 1)) * fz P (a ^ (k + 1)) = fz P (chs n k) * fz P (a ^ k) * fz P a + fz P (chs n (k + 1)) * fz P (a ^ (k + 1)):=by
      intro k
      rw [chs,Bd,Int.pow_succ,xn]
      grind
    rw [Int.pow_succ,xn,ih,ru (fun k=>fz P (chs (n + 1) k) * fz P (a ^ k)),kR (n + 1) (fun k _=>e k),xq,Pi,Bd,rX]
    have l : sF (fun k=>fz P (chs n (k + 1)) * fz P (a ^ (k + 1))) (n + 1) + 1 = sF (fun k=>fz P (chs n k) * fz P (a ^ k)) (n + 1):=by
      rw [ru (fun k=>fz P (chs n k) * fz P (a ^ k))]
      show sF (fun k=>fz P (chs n (k + 1)) * fz P (a ^ (k + 1))) n + fz P (chs n (n + 1)) * fz P (a ^ (n + 1)) + 1 = _
      rw [Fa n (n + 1) (by omega),yh,qI,Int.pow_zero,rX]
      grind
    rw [yh,Int.pow_zero,rX]
    generalize sF (fun k=>fz P (chs n k) * fz P (a ^ k)) (n + 1) = s at *
    generalize sF (fun k=>fz P (chs n (k + 1)) * fz P (a ^ (k + 1))) (n + 1) = t at *
    grind
end
theorem Q8 {p : Int} (h : fV p = true) {k n : Nat} (hn : p = (n : Int) + 1) (hk : k < n) : p ∣ chs (n + 1) (k + 1):=by
  refine fV.cancel h (a:=(k : Int) + 1) ⟨by omega,by omega⟩ ?_
  rw [XP,← hn]
  exact ⟨_,rfl⟩
theorem aq5 {p : Int} (h : fV p = true) (a : Nat) : ((a : Int) ^ p.toNat) % p = (a : Int) % p:=by
  have hp:=(fV.pm h).two
  obtain ⟨n,hn⟩ : ∃ n : Nat,p = (n : Int) + 1:=⟨(p - 1).toNat,by omega⟩
  have hP : p.toNat = n + 1:=by omega
  have e1 : p = ((n + 1 : Nat) : Int):=by omega
  have key : fz (n + 1) ((a : Int) ^ (n + 1)) = fz (n + 1) (a : Int):=by
    induction a with
    | zero=>rw [Int.pow_succ];simp
    | succ a ih =>
      rw [Int.natCast_succ,ag5,sF,ru,Gg n (fun t ht=>?_),yh,SB,Int.pow_zero,rX,Bd,ih,rX]
      · grind
      · have hd:=Q8 h hn ht
        rw [e1] at hd
        rw [Iz.2 (Int.emod_eq_zero_of_dvd hd)]
        grind
  rw [hP,e1]
  exact Gf.1 key
/-- Fermat. -/
theorem ady {p : Int} (h : fV p = true) {x : Int} (hx : 1 ≤ x∧x < p) : x ^ (p.toNat - 1) % p = 1:=by
  have hp:=(fV.pm h).two
  obtain ⟨a,rfl⟩ : ∃ a : Nat,x = (a : Int):=⟨x.toNat,by omega⟩
  have h1:=aq5 h a
  rw [show p.toNat = p.toNat - 1 + 1 from by omega,Int.pow_succ] at h1
  have h2 : p ∣ (a : Int) * ((a : Int) ^ (p.toNat - 1) - 1):=by
    have:=Int.emod_emod_of_dvd ((a : Int) ^ (p.toNat - 1) * a - a) (Int.dvd_refl p)
    refine Int.dvd_of_emod_eq_zero ?_
    rw [show (a : Int) * ((a : Int) ^ (p.toNat - 1) - 1) = (a : Int) ^ (p.toNat - 1) * a - a from by grind,Int.sub_emod,h1,Int.sub_self,Int.zero_emod]
  have h3:=fV.cancel h hx h2
  have h4:=Int.emod_eq_zero_of_dvd h3
  have h5 : ((a : Int) ^ (p.toNat - 1) - 1 + 1) % p = 1 % p:=by rw [Int.add_emod,h4,Int.zero_add,Int.emod_emod]
  rw [Int.sub_add_cancel] at h5
  rw [h5]
  exact Int.emod_eq_of_lt (by omega) (by omega)
theorem Lb {p : Int} (h : fV p = true) {x : Int} (hx : 1 ≤ x∧x < p) : (x * vM p x) % p = 1:=by
  have hp:=fV.pm h
  have h2:=hp.two
  have e : x * x ^ (p.toNat - 2) = x ^ (p.toNat - 1):=by
    rw [show p.toNat - 1 = p.toNat - 2 + 1 from by omega,Int.pow_succ,Int.mul_comm]
  rw [vM,XL hp,Int.mul_emod,Int.emod_emod,← Int.mul_emod,e]
  exact ady h hx
theorem M6 {p : Int} (h : fV p = true) [NeZero p.toNat] {x : Int} (hx : 0 ≤ x∧x < p) (h0 : fz p.toNat x ≠ 0) : fz p.toNat x * fz p.toNat (vM p x) = 1:=by
  have hp:=fV.pm h
  have h2:=hp.two
  have e : ((p.toNat : Nat) : Int) = p:=by omega
  have h1 : 1 ≤ x:=by
    apply Decidable.byContradiction
    intro g
    exact h0 (by rw [show x = 0 from by omega];exact qI)
  rw [← xn,← rX,Gf,e,Lb h ⟨h1,hx.2⟩,Int.emod_eq_of_lt (by omega) (by omega)]
/- Determinants by the first column: linear and alternating in the rows, products with triangular matrices: plain; no condition. -/
section
variable {F : Type}
/-- Row r made another one. -/
def upd (M : Nat → Nat → F) (r : Nat) (u : Nat → F) : Nat → Nat → F:=fun i=>if i = r then u else M i
theorem yM (M : Nat → Nat → F) (r : Nat) : upd M r (M r) = M:=by
  funext i
  unfold upd
  by_cases h : i = r
  · rw [if_pos h,h]
  · rw [if_neg h]
theorem ui (M : Nat → Nat → F) (r : Nat) (u : Nat → F) : upd M r u r = u:=if_pos rfl
theorem upd_ne (M : Nat → Nat → F) {r i : Nat} (u : Nat → F) (h : i ≠ r) : upd M r u i = M i:=if_neg h
theorem Gh (M : Nat → Nat → F) {r s : Nat} (h : r ≠ s) (u v : Nat → F) : upd (upd M r u) s v = upd (upd M s v) r u:=by
  funext i
  unfold upd
  by_cases h1 : i = s
  · rw [if_pos h1,if_neg (by omega),if_pos h1]
  · rw [if_neg h1]
    by_cases h2 : i = r
    · rw [if_pos h2,if_pos h2]
    · rw [if_neg h2,if_neg h2,if_neg h1]
end
section
variable {P : Nat} [NeZero P]
def sg (P : Nat) [NeZero P] : Nat → Fin P
  | 0=>1
  | n + 1=>-sg P n
/-- Row i and the first column left out. -/
def ltM (M : Nat → Nat → Fin P) (i : Nat) : Nat → Nat → Fin P:=fun r k=>M (if r < i then r else r + 1) (k + 1)
def dt : Nat → (Nat → Nat → Fin P) → Fin P
  | 0,_=>1
  | n + 1,M=>sF (fun i=>sg P i * M i 0 * dt n (ltM M i)) (n + 1)
theorem qw (n : Nat) : ∀ {M M' : Nat → Nat → Fin P},(∀ i k,i < n → k < n → M i k = M' i k) → dt n M = dt n M':=by
  induction n with
  | zero=>intro M M' _;rfl
  | succ n ih =>
    intro M M' h
    simp only [dt]
    refine kR _ fun i hi=>?_
    rw [h i 0 hi (by omega),ih (M:=ltM M i) (M':=ltM M' i) (fun r k hr hk=>by
      unfold ltM
      split
      · exact h _ _ (by omega) (by omega)
      · exact h _ _ (by omega) (by omega))]
omit [NeZero P] in
theorem Gi (M : Nat → Nat → Fin P) (r : Nat) (u : Nat → Fin P) : ltM (upd M r u) r = ltM M r:=by
  funext a k
  unfold ltM upd
  rw [if_neg (by split <;> omega)]
omit [NeZero P] in
theorem Jt (M : Nat → Nat → Fin P) {r i : Nat} (h : i ≠ r) (u : Nat → Fin P) : ltM (upd M r u) i = upd (ltM M i) (if r < i then r else r - 1) (fun k=>u (k + 1)):=by
  funext a k
  simp only [ltM,upd]
  by_cases h1 : r < i
  · rw [if_pos h1]
    by_cases h3 : a < i
    · rw [if_pos h3]
      by_cases h2 : a = r
      · rw [if_pos h2,if_pos h2]
      · rw [if_neg h2,if_neg h2]
        simp only [ltM,if_pos h3]
    · rw [if_neg h3,if_neg (show ¬ a + 1 = r by omega),if_neg (show ¬ a = r by omega)]
      simp only [ltM,if_neg h3]
  · rw [if_neg h1]
    by_cases h3 : a < i
    · rw [if_pos h3,if_neg (show ¬ a = r by omega),if_neg (show ¬ a = r - 1 by omega)]
      simp only [ltM,if_pos h3]
    · rw [if_neg h3]
      by_cases h2 : a + 1 = r
      · rw [if_pos h2,if_pos (show a = r - 1 by omega)]
      · rw [if_neg h2,if_neg (show ¬ a = r - 1 by omega)]
        simp only [ltM,if_neg h3]
theorem Dq (n : Nat) : ∀ (M : Nat → Nat → Fin P) (r : Nat) (u v : Nat → Fin P) (t : Fin P),r < n → dt n (upd M r (fun k=>u k + t * v k)) = dt n (upd M r u) + t * dt n (upd M r v):=by
  induction n with
  | zero=>intro M r u v t h;omega
  | succ n ih =>
    intro M r u v t h
    simp only [dt]
    rw [← rq,← xq]
    refine kR _ fun i hi=>?_
    by_cases c : i = r
    · subst c
      rw [Gi,Gi,Gi,ui,ui,ui]
      grind
    · rw [Jt M c,Jt M c,Jt M c,upd_ne _ _ c,upd_ne _ _ c,upd_ne _ _ c]
      have:=ih (ltM M i) (if r < i then r else r - 1) (fun k=>u (k + 1)) (fun k=>v (k + 1)) t (by split <;> omega)
      rw [this]
      grind
theorem adz {g : Nat → Fin P} {n r s : Nat} (h1 : r < s) (h2 : s < n) (e : ∀ i,i < n → i ≠ r → i ≠ s → g i = 0) : sF g n = g r + g s:=by
  induction n with
  | zero=>omega
  | succ n ih =>
    rw [sF]
    by_cases c : s = n
    · subst c
      rw [Pj (k:=r) h1 (fun i hi hr=>e i (by omega) hr (by omega))]
    · rw [ih (by omega) (fun i hi=>e i (by omega)),e n (by omega) (by omega) (by omega)]
      grind
theorem SC (n : Nat) : ∀ (M : Nat → Nat → Fin P) (r : Nat),r + 1 < n → M r = M (r + 1) → dt n M = 0:=by
  induction n with
  | zero=>intro M r h;omega
  | succ n ih =>
    intro M r h e
    simp only [dt]
    rw [adz (r:=r) (s:=r + 1) (by omega) h (fun i hi h1 h2=>?_)]
    · have : ltM M r = ltM M (r + 1):=by
        funext a k
        unfold ltM
        rcases Nat.lt_trichotomy a r with g | g | g
        · rw [if_pos g,if_pos (by omega)]
        · subst g
          rw [if_neg (by omega),if_pos (by omega),e]
        · rw [if_neg (by omega),if_neg (by omega)]
      rw [this,e]
      simp only [sg]
      grind
    · have : dt n (ltM M i) = 0:=by
        rcases Nat.lt_or_ge i r with g | g
        · refine ih (ltM M i) (r - 1) (by omega) ?_
          funext k
          unfold ltM
          rw [if_neg (by omega),if_neg (by omega),show r - 1 + 1 = r from by omega,e]
        · refine ih (ltM M i) r (by omega) ?_
          funext k
          unfold ltM
          rw [if_pos (by omega),if_pos (by omega),e]
      rw [this]
      grind
theorem SE {n : Nat} (M : Nat → Nat → Fin P) {r s : Nat} (hr : r < n) (hs : s < n) (hne : r ≠ s) (z : ∀ w,dt n (upd (upd M r w) s w) = 0) (u v : Nat → Fin P) : dt n (upd (upd M r u) s v) = -dt n (upd (upd M r v) s u):=by
  have l1 : ∀ y,dt n (upd (upd M r (fun k=>u k + 1 * v k)) s y) = dt n (upd (upd M r u) s y) + 1 * dt n (upd (upd M r v) s y):=by
    intro y
    rw [Gh M hne _ y,Gh M hne u y,Gh M hne v y]
    exact Dq n (upd M s y) r u v 1 hr
  have e:=z (fun k=>u k + 1 * v k)
  rw [Dq n (upd M r (fun k=>u k + 1 * v k)) s u v 1 hs,l1 u,l1 v,z u,z v] at e
  grind
/-- Two rows that lie one behind the other change places. -/
theorem SF (n : Nat) (M : Nat → Nat → Fin P) (r : Nat) (h : r + 1 < n) (u v : Nat → Fin P) : dt n (upd (upd M r u) (r + 1) v) = -dt n (upd (upd M r v) (r + 1) u) :=
  SE M (by omega) h (by omega) (fun w=>SC n _ r h (by rw [upd_ne _ _ (by omega),ui,ui])) u v
theorem Pn (n r d : Nat) : ∀ M : Nat → Nat → Fin P,r + d + 1 < n → M r = M (r + d + 1) → dt n M = 0:=by
  induction d with
  | zero=>intro M h e;exact SC n M r h e
  | succ d ih =>
    intro M h e
    have h1:=SF n M (r + d + 1) h (M (r + d + 1)) (M (r + d + 1 + 1))
    rw [yM,yM] at h1
    rw [h1,ih (upd (upd M (r + d + 1) (M (r + d + 1 + 1))) (r + d + 1 + 1) (M (r + d + 1))) (by omega) (by
      rw [upd_ne _ _ (by omega),upd_ne _ _ (by omega),upd_ne _ _ (by omega),ui,e];rfl)]
    grind
theorem SG {n : Nat} {M : Nat → Nat → Fin P} {r s : Nat} (hr : r < n) (hs : s < n) (hne : r ≠ s) (e : M r = M s) : dt n M = 0:=by
  rcases Nat.lt_or_ge r s with g | g
  · exact Pn n r (s - r - 1) M (by omega) (by rw [show r + (s - r - 1) + 1 = s from by omega];exact e)
  · exact Pn n s (r - s - 1) M (by omega) (by rw [show s + (r - s - 1) + 1 = r from by omega];exact e.symm)
/-- A multiple of another row added. -/
theorem ag6 {n : Nat} (M : Nat → Nat → Fin P) {r s : Nat} (hr : r < n) (hs : s < n) (hne : r ≠ s) (t : Fin P) : dt n (upd M r (fun k=>M r k + t * M s k)) = dt n M:=by
  rw [Dq n M r (M r) (M s) t hr,yM,SG (M:=upd M r (M s)) hr hs hne (by rw [ui,upd_ne _ _ (Ne.symm hne)])]
  grind
theorem Ju {n : Nat} (M : Nat → Nat → Fin P) {r s : Nat} (hr : r < n) (hs : s < n) (hne : r ≠ s) : dt n (upd (upd M r (M s)) s (M r)) = -dt n M:=by
  rw [SE M hr hs hne (fun w=>SG (M:=upd (upd M r w) s w) hr hs hne (by rw [upd_ne _ _ hne,ui,ui])) (M s) (M r),yM,yM]
/-- Multiples of row 0 added to rows 1 to t. -/
theorem adA {n : Nat} (M : Nat → Nat → Fin P) (f : Nat → Fin P) (t : Nat) : t < n → dt n (fun i=>if i = 0 ∨ t < i then M i else fun k=>M i k + f i * M 0 k) = dt n M:=by
  induction t with
  | zero =>
    intro _
    refine qw n fun i k hi hk=>?_
    rw [if_pos (by omega)]
  | succ t ih =>
    intro h
    rw [← ih (by omega),← ag6 (fun i=>if i = 0 ∨ t < i then M i else fun k=>M i k + f i * M 0 k) (r:=t + 1) (s:=0) h (by omega) (by omega) (f (t + 1))]
    refine qw n fun i k hi hk=>?_
    by_cases c : i = t + 1
    · subst c
      rw [ui,if_neg (by omega),if_pos (Or.inr (by omega)),if_pos (Or.inl rfl)]
    · rw [upd_ne _ _ c]
      by_cases c2 : i = 0 ∨ t + 1 < i
      · rw [if_pos c2,if_pos (by omega)]
      · rw [if_neg c2,if_neg (by omega)]
/-- The first column has its first number alone. -/
theorem XQ (n : Nat) (M : Nat → Nat → Fin P) (h : ∀ i,0 < i → i < n + 1 → M i 0 = 0) : dt (n + 1) M = M 0 0 * dt n (fun r k=>M (r + 1) (k + 1)):=by
  simp only [dt]
  rw [Pj (k:=0) (by omega) (fun i hi h0=>by rw [h i (by omega) hi];grind)]
  have : ltM M 0 = fun r k=>M (r + 1) (k + 1):=by
    funext r k
    unfold ltM
    rw [if_neg (by omega)]
  rw [this]
  simp only [sg]
  grind
theorem Jv (n : Nat) (M : Nat → Nat → Fin P) (h : ∀ i,i < n + 1 → M i 0 = 0) : dt (n + 1) M = 0:=by
  simp only [dt]
  exact Gg _ fun i hi=>by rw [h i hi];grind
/-- One step of the elimination: x is the inverse of the first number. -/
theorem Jw (n : Nat) (M : Nat → Nat → Fin P) (x : Fin P) (hx : M 0 0 * x = 1) : dt (n + 1) M = M 0 0 * dt n (fun r k=>M (r + 1) (k + 1) - M (r + 1) 0 * x * M 0 (k + 1)):=by
  rw [← adA M (fun i=>-(M i 0 * x)) n (by omega),XQ]
  · congr 1
    refine qw n fun r k hr hk=>?_
    rw [if_neg (by omega)]
    grind
  · intro i h0 hi
    rw [if_neg (by omega)]
    grind
end
/- Polynomials and functionals over the numbers modulo p; conditions: p in the program's range. -/
theorem nez {p : Int} (hp : Pm p) : NeZero p.toNat:=⟨by have:=hp.two;omega⟩
theorem Pm.cast {p : Int} (hp : Pm p) : ((p.toNat : Nat) : Int) = p:=by have:=hp.two;omega
section
variable {p : Int} [NeZero p.toNat] (hp : Pm p)
include hp
theorem wD (x : Int) : fz p.toNat (x % p) = fz p.toNat x:=by
  have h:=adw (P:=p.toNat) x
  rwa [hp.cast] at h
theorem yN {x : Int} (h : 0 ≤ x∧x < p) (h0 : fz p.toNat x = 0) : x = 0:=by
  have h1:=Iz.1 h0
  rwa [hp.cast,Int.emod_eq_of_lt h.1 h.2] at h1
theorem SH {x y : Int} (hx : 0 ≤ x∧x < p) (hy : 0 ≤ y∧y < p) (h : fz p.toNat x = fz p.toNat y) : x = y:=by
  have h1:=Gf.1 h
  rwa [hp.cast,Int.emod_eq_of_lt hx.1 hx.2,Int.emod_eq_of_lt hy.1 hy.2] at h1
theorem XR (f g : List Int) (k : Nat) : cf p.toNat (yO p f g) k = sF (fun t=>cf p.toNat f t * fz p.toNat (sh g t k)) f.length:=by
  unfold cf
  rw [Gj hp.pos,wD hp,Sy]
  exact kR _ fun t _=>xn _ _
omit hp in
theorem adB (f : List Int) (i : Nat) : fz p.toNat (sh f 0 i) = cf p.toNat f i:=by rw [sh,if_pos (Nat.zero_le _)];rfl
omit hp in
theorem adC (f : List Int) (i : Nat) : fz p.toNat (sh f 1 i) = xs (cf p.toNat f) i:=by
  cases i with
  | zero=>rw [sh,if_neg (by omega)];exact qI
  | succ i=>rw [sh,if_pos (by omega)];rfl
end
/- Determinants of products with triangular matrices; the elimination's number is the determinant. Conditions: numbers other than 0 have inverses (p a Gd). -/
section
variable {P : Nat} [NeZero P]
def pF (g : Nat → Fin P) : Nat → Fin P
  | 0=>1
  | n + 1=>pF g n * g n
theorem SI (g : Nat → Fin P) (n : Nat) : pF g (n + 1) = g 0 * pF (fun i=>g (i + 1)) n:=by
  induction n with
  | zero=>simp only [pF];grind
  | succ n ih=>rw [pF,ih];simp only [pF];grind
theorem XT {n : Nat} (M : Nat → Nat → Fin P) {r : Nat} (hr : r < n) : dt n (upd M r (fun _=>0)) = 0:=by
  have h:=Dq n M r (fun _=>0) (fun _=>0) 1 hr
  rw [show (fun k : Nat=>(fun _=>(0 : Fin P)) k + 1 * (fun _=>(0 : Fin P)) k) = fun _=>0 from by funext k;grind] at h
  grind
/-- A row is a sum of the rows above it and a multiple of what it is to be. -/
theorem XU {n : Nat} (M B : Nat → Nat → Fin P) (A : Nat → Fin P) {t : Nat} (ht : t < n) (hB : ∀ r,r < t → M r = B r) (s : Nat) : s ≤ t →
    dt n (upd M t (fun k=>sF (fun r=>A r * B r k) s + A t * B t k)) = A t * dt n (upd M t (B t)):=by
  induction s with
  | zero =>
    intro _
    have h:=Dq n M t (fun _=>0) (B t) (A t) ht
    rw [XT M ht] at h
    rw [show (fun k=>sF (fun r=>A r * B r k) 0 + A t * B t k) = fun k=>(fun _=>(0 : Fin P)) k + A t * B t k from by funext k;simp only [sF],h]
    grind
  | succ s ih =>
    intro hs
    have h:=Dq n M t (fun k=>sF (fun r=>A r * B r k) s + A t * B t k) (B s) (A s) ht
    rw [ih (by omega),SG (M:=upd M t (B s)) (r:=s) (s:=t) (by omega) ht (by omega) (by rw [ui,upd_ne _ _ (by omega),hB s (by omega)])] at h
    rw [show (fun k=>sF (fun r=>A r * B r k) (s + 1) + A t * B t k) = fun k=>(fun k=>sF (fun r=>A r * B r k) s + A t * B t k) k + A s * B s k from by funext k;simp only [sF];grind,h]
    grind
/-- A lower triangular matrix from the left. -/
theorem XV (n : Nat) (A B : Nat → Nat → Fin P) : dt n (fun i k=>sF (fun r=>A i r * B r k) (i + 1)) = pF (fun i=>A i i) n * dt n B:=by
  have key : ∀ t,t ≤ n → dt n (fun i k=>sF (fun r=>A i r * B r k) (i + 1)) = pF (fun i=>A i i) t * dt n (fun i=>if i < t then B i else fun k=>sF (fun r=>A i r * B r k) (i + 1)):=by
    intro t
    induction t with
    | zero =>
      intro _
      have e : dt n (fun i=>if i < 0 then B i else fun k=>sF (fun r=>A i r * B r k) (i + 1)) = dt n (fun i k=>sF (fun r=>A i r * B r k) (i + 1)):=qw n fun i k _ _=>by rw [if_neg (by omega)]
      rw [pF,e]
      grind
    | succ t ih =>
      intro ht
      rw [ih (by omega),pF]
      have h:=XU (n:=n) (fun i=>if i < t + 1 then B i else fun k=>sF (fun r=>A i r * B r k) (i + 1)) B (A t) (t:=t) (by omega) (fun r hr=>if_pos (by omega)) t (Nat.le_refl t)
      have e1 : upd (fun i=>if i < t + 1 then B i else fun k=>sF (fun r=>A i r * B r k) (i + 1)) t (fun k=>sF (fun r=>A t r * B r k) t + A t t * B t k) = (fun i=>if i < t then B i else fun k=>sF (fun r=>A i r * B r k) (i + 1)):=by
        funext i
        unfold upd
        by_cases c : i = t
        · subst c
          rw [if_pos rfl,if_neg (by omega)]
          rfl
        · rw [if_neg c]
          dsimp only
          by_cases c2 : i < t
          · rw [if_pos (by omega),if_pos c2]
          · rw [if_neg (by omega),if_neg c2]
      have e2 : upd (fun i=>if i < t + 1 then B i else fun k=>sF (fun r=>A i r * B r k) (i + 1)) t (B t) = (fun i=>if i < t + 1 then B i else fun k=>sF (fun r=>A i r * B r k) (i + 1)):=by
        funext i
        unfold upd
        by_cases c : i = t
        · subst c;rw [if_pos rfl,if_pos (by omega)]
        · rw [if_neg c]
      rw [e1,e2] at h
      rw [h]
      grind
  rw [key n (Nat.le_refl n)]
  congr 1
  exact qw n fun i k hi _=>by rw [if_pos hi]
/-- A row times an upper triangular matrix. -/
def rU (U : Nat → Nat → Fin P) (m : Nat → Fin P) : Nat → Fin P:=fun k=>sF (fun s=>m s * U s k) (k + 1)
theorem SK (hi : ∀ x : Fin P,x ≠ 0 → ∃ y,x * y = 1) (n : Nat) : ∀ (U M : Nat → Nat → Fin P),(∀ i,U i i ≠ 0) → dt n (fun i=>rU U (M i)) = pF (fun i=>U i i) n * dt n M:=by
  induction n with
  | zero=>intro U M _;simp only [dt,pF];grind
  | succ n ih =>
    intro U M hU
    have main : ∀ M : Nat → Nat → Fin P,M 0 0 ≠ 0 → dt (n + 1) (fun i=>rU U (M i)) = pF (fun i=>U i i) (n + 1) * dt (n + 1) M:=by
      intro M h0
      obtain ⟨x,hx⟩:=hi _ h0
      obtain ⟨y,hy⟩:=hi _ (hU 0)
      have r0 : ∀ m : Nat → Fin P,rU U m 0 = m 0 * U 0 0:=fun m=>by simp only [rU,sF];grind
      rw [Jw n M x hx,Jw n (fun i=>rU U (M i)) (x * y) (by rw [r0];grind),r0,SI]
      have e : dt n (fun r k=>rU U (M (r + 1)) (k + 1) - rU U (M (r + 1)) 0 * (x * y) * rU U (M 0) (k + 1)) = dt n (fun r=>rU (fun s k=>U (s + 1) (k + 1)) (fun k=>M (r + 1) (k + 1) - M (r + 1) 0 * x * M 0 (k + 1))):=by
        refine qw n fun r k _ _=>?_
        rw [r0]
        unfold rU
        rw [ru,ru (fun s=>M 0 s * U s (k + 1))]
        have e2 : sF (fun s=>(M (r + 1) (s + 1) - M (r + 1) 0 * x * M 0 (s + 1)) * U (s + 1) (k + 1)) (k + 1) = sF (fun t=>M (r + 1) (t + 1) * U (t + 1) (k + 1)) (k + 1) + (-(M (r + 1) 0 * x)) * sF (fun t=>M 0 (t + 1) * U (t + 1) (k + 1)) (k + 1):=by
          rw [← rq,← xq]
          exact kR _ fun t _=>by grind
        rw [e2]
        generalize sF (fun t=>M (r + 1) (t + 1) * U (t + 1) (k + 1)) (k + 1) = a
        generalize sF (fun t=>M 0 (t + 1) * U (t + 1) (k + 1)) (k + 1) = b
        grind
      rw [e,ih (fun s k=>U (s + 1) (k + 1)) _ (fun i=>hU (i + 1))]
      grind
    by_cases hz : ∀ i,i < n + 1 → M i 0 = 0
    · rw [Jv n M hz,Jv n (fun i=>rU U (M i)) (fun i hi=>by simp only [rU,sF];rw [hz i hi];grind)]
      grind
    · obtain ⟨j,hj,hj0⟩ : ∃ j,j < n + 1∧M j 0 ≠ 0:=Classical.byContradiction fun k=>hz fun i hi=>Classical.byContradiction fun g=>k ⟨i,hi,g⟩
      by_cases c : j = 0
      · subst c;exact main M hj0
      · have h1:=main (upd (upd M 0 (M j)) j (M 0)) (by rw [upd_ne _ _ (Ne.symm c),ui];exact hj0)
        have e : (fun i=>rU U (upd (upd M 0 (M j)) j (M 0) i)) = upd (upd (fun i=>rU U (M i)) 0 (rU U (M j))) j (rU U (M 0)):=by
          funext i
          unfold upd
          by_cases c1 : i = j
          · rw [if_pos c1,if_pos c1]
          · rw [if_neg c1,if_neg c1]
            by_cases c2 : i = 0
            · rw [if_pos c2,if_pos c2]
            · rw [if_neg c2,if_neg c2]
        rw [e,Ju M (by omega) hj (Ne.symm c),Ju (fun i=>rU U (M i)) (by omega) hj (Ne.symm c)] at h1
        grind
end
/-! ### the elimination -/
theorem Q9 (M : Nat → List Int) (c d : Nat) : ∀ i,pivot M c d i = i + d → ∀ t,t < d → (M (i + t)).getD c 0 = 0:=by
  induction d with
  | zero=>intro i _ t ht;omega
  | succ d ih =>
    intro i h t ht
    rw [pivot] at h
    split at h
    · rename_i g
      by_cases c0 : t = 0
      · rw [c0];exact g
      · have:=ih (i + 1) (by omega) (t - 1) (by omega)
        rwa [show i + 1 + (t - 1) = i + t from by omega] at this
    · omega
section
variable {p : Int} [NeZero p.toNat] (hq : fV p = true)
include hq
theorem SL (n d : Nat) : ∀ (c : Nat) (M : Nat → List Int) (o : Int),c + d = n → (∀ i,c ≤ i → i < n → Nm p (M i)) → fz p.toNat (ry p n d c M o) = fz p.toNat o * dt d (fun r k=>cf p.toNat (M (c + r)) (c + k)):=by
  have hp:=fV.pm hq
  induction d with
  | zero=>intro c M o _ _;rw [ry,dt];grind
  | succ d ih =>
    intro c M o hcd hM
    have hin:=Lc M c (n - c) c
    have hne:=SN M c (n - c) c
    rw [ry]
    by_cases hj : pivot M c (n - c) c = n
    · rw [if_pos hj,qI,Jv d _ (fun i hi=>?_)]
      · grind
      · have:=Q9 M c (n - c) c (by omega) i (by omega)
        show fz p.toNat ((M (c + i)).getD (c + 0) 0) = 0
        rw [Nat.add_zero,this,qI]
    · rw [if_neg hj]
      generalize pivot M c (n - c) c = j at *
      have hj0:=hne (by omega)
      have hx:=M6 hq ((hM j (by omega) (by omega)).BA hp.pos c) (fun g=>hj0 (yN hp ((hM j (by omega) (by omega)).BA hp.pos c) g))
      generalize vM p ((M j).getD c 0) = v at *
      have hS : ∀ i,c ≤ i → i < n → Nm p (lh M c j i):=fun i h1 h2=>by
        unfold lh
        split
        · exact hM j (by omega) (by omega)
        · split
          · exact hM c (by omega) (by omega)
          · exact hM i h1 h2
      have sc : lh M c j c = M j:=if_pos rfl
      rw [ih (c + 1) _ _ (by omega) (fun i h1 h2=>by unfold yD;rw [if_pos (by omega)];exact Be hp.pos _ _ _ _),wD hp,xn]
      have e2:=Jw d (fun r k=>cf p.toNat (lh M c j (c + r)) (c + k)) (fz p.toNat v) (by
        show fz p.toNat ((lh M c j (c + 0)).getD (c + 0) 0) * _ = 1
        rw [Nat.add_zero,sc];exact hx)
      simp only [Nat.add_zero] at e2
      have e1 : dt d (fun r k=>cf p.toNat (yD p v n c (lh M c j) (c + 1 + r)) (c + 1 + k)) =
          dt d (fun r k=>cf p.toNat (lh M c j (c + (r + 1))) (c + (k + 1)) - cf p.toNat (lh M c j (c + (r + 1))) c * fz p.toNat v * cf p.toNat (lh M c j c) (c + (k + 1))):=by
        refine qw d fun r k hr hk=>?_
        have : yD p v n c (lh M c j) (c + 1 + r) = mR p ((lh M c j (c + 1 + r)).getD c 0 * v % p) (lh M c j (c + 1 + r)) (lh M c j c) n:=if_pos (by omega)
        rw [this]
        unfold cf
        rw [Ld _ _ _ _ (by omega),wD hp,adx,xn,wD hp,xn,show c + 1 + r = c + (r + 1) from by omega,show c + 1 + k = c + (k + 1) from by omega]
      have e3 : cf p.toNat (lh M c j c) c = fz p.toNat ((M j).getD c 0):=by rw [sc];rfl
      rw [e1]
      rw [e3] at e2
      by_cases cj : j = c
      · have e4 : lh M c j = M:=by
          funext i
          unfold lh
          by_cases h1 : i = c
          · rw [if_pos h1,cj,h1]
          · rw [if_neg h1,if_neg (by omega)]
        rw [if_pos cj]
        rw [e4] at e2 ⊢
        rw [e2]
        grind
      · have e4 : dt (d + 1) (fun r k=>cf p.toNat (lh M c j (c + r)) (c + k)) = -dt (d + 1) (fun r k=>cf p.toNat (M (c + r)) (c + k)):=by
          rw [← Ju (n:=d + 1) (fun r k=>cf p.toNat (M (c + r)) (c + k)) (r:=0) (s:=j - c) (by omega) (by omega) (by omega)]
          refine qw (d + 1) fun r k hr hk=>?_
          unfold upd lh
          by_cases h1 : r = 0
          · subst h1
            rw [if_pos (by omega),if_neg (by omega),if_pos rfl,show c + (j - c) = j from by omega]
          · rw [if_neg (by omega)]
            by_cases h2 : c + r = j
            · rw [if_pos h2,if_pos (by omega),Nat.add_zero]
            · rw [if_neg h2,if_neg (by omega),if_neg h1]
        rw [if_neg cj,wD hp,Sw]
        rw [e4] at e2
        grind
end
end Go.Proofs.Ytilbjbahmilhkaa.Pr
