/- Texts of this session in one: what functions of the program compute, and plain facts of it, under the conditions that each theorem names. -/
import Derived.Test.YtilbjbahmilhkaaKgonals1
namespace Go.Proofs.Ytilbjbahmilhkaa.Pr
open Go.RowKit Go.Proofs.YtilbjbahmilhkaaW.PrintWords Go.Proofs.YtilbjbahmilhkaaW.PrintLast Go.Proofs.YtilbjbahmilhkaaW.PrintMore
attribute [local go_sem] o9 pg qX qY nM nN pq pu   -- for this text's walks alone
set_option linter.unusedVariables false
set_option maxHeartbeats 8000000
set_option maxRecDepth 100000
set_option linter.unusedSimpArgs false
/-! ### mh: function 73 -/
def mh.f (k : Nat) (a0 : Int) (a1 : Int) (a2 : Int) (l3 : List Int) (l4 : List Int) : Option (List Int):=(fF.f a0 (wrap64 (-a1))).bind fun Pi=>((aV.f k a0 (([Pi,1] : List Int)) l3).bind fun Zh=>((fF.f a0 (wrap64 (-a2))).bind fun Zi=>((iI.f k a0 Zh l4 Zi).bind fun aiP=>(some aiP))))
theorem mh.calls (k : Nat) (a0 : Int) (a1 : Int) (a2 : Int) (A3 : Option Addr) (c3 : Nat) (l3 : List Int) (A4 : Option Addr) (c4 : Nat) (l4 : List Int) (r : List Int) (w : World) (hr3 : Kd.C (Kd.int .i64) w A3 l3.length l3) (hc3 : l3.length ≤ c3) (hr4 : Kd.C (Kd.int .i64) w A4 l4.length l4) (hc4 : l4.length ≤ c4) (H : mh.f k a0 a1 a2 l3 l4 = some r) :
  Calls Try.prog 73 #[.int .i64 a0,.int .i64 a1,.int .i64 a2,.slice A3 l3.length c3,.slice A4 l4.length c4] w fun e w'=>∃ v0_ : Value,e = .returned (v0_)∧Kd.R (Kd.int .i64) 2 w' w.heap.size (fun _=>True) v0_ r∧Below w.heap.size w w':=by
 have HR3:=zA hr3;have HC3:=zA hc3;clear hr3 hc3;have HR4:=zA hr4;have HC4:=zA hc4;clear hr4 hc4;have HB:=zA (Below.refl w.heap.size w);unfold mh.f at H;replace H:=bO H;obtain ⟨Pi,A6,H⟩:=H;obtain ⟨aqb,Zj⟩:=eY ([Pi,1] : List Int);(try rw [←Zj.out] at H);replace H:=bO H;obtain ⟨Zh,A7,H⟩:=H;replace H:=bO H;obtain ⟨Zi,A8,H⟩:=H;replace H:=bO H;obtain ⟨aiP,A9,H⟩:=H;obtain rfl:=Option.some.inj H;go_enter Try.func73,Try.ntmps73;go_wp2_with (first | ((with_reducible refine ae (f:=67) rfl ?_);refine gL (some 16) Try.func67 #[.int .i64 a0,.int .i64 (wrap64 (-a1))] ?_;(with_reducible refine (fF.calls a0 (wrap64 (-a1)) Pi _ A6.out).mono ?_);rintro e w' ⟨rfl,⟨nd,rfl⟩⟩;refine ⟨_,rfl,?_⟩) | ((with_reducible refine bI (N:=17) rfl ?_);refine Kd.rC (Kd.int .i64) _ 2 ?hg (N:=17) ?hd (xs:=([Pi,1] : List Int)) (inner:=[.int .i64 Pi,.int .i64 1]) (ok:=fun _=>True) (okp:=fun _=>True) ?hr ?hp (fun _ hk=>hk) trivial (Below.refl _ _) (Nat.le_refl _) (by simp) ?_;(case hd=>rfl);(case hg=>rfl);(case hr=>first | (go_simp;done) | (go_simp;rfl));(case hp=>exact (dn.one (show Kd.M (Kd.int .i64) _ _ _ Pi [.int .i64 Pi] from rfl) (dn.one (show Kd.M (Kd.int .i64) _ _ _ 1 [.int .i64 1] from rfl) (dn.none _ _))));intro aDm w10 xh hb hg_ hnew_;clear hg_ hnew_;(first | rw [← Zj.out] at xh | (simp only [Int.reduceToNat] at xh;rw [← Zj.out] at xh));have Ec:=zA (Kd.bD xh (af (uH HB.out)));replace HB:=xH HB hb;clear hb xh;obtain ⟨Ro,Rp,Rq⟩:=Kd.aY Ec.out;subst Rq) | ((with_reducible refine ae (f:=39) rfl ?_);refine gL (some 19) Try.func39 #[.int .i64 a0,.slice Ro aqb.length Rp,.slice A3 l3.length c3] ?_;(with_reducible refine (aV.calls k a0 _ _ aqb _ _ l3 Zh _ ?side1 ?side2 ?side3 ?side4 A7.out).mono ?_);(case side1=>exact uC ((Kd.aH Ec.out).2.2));(case side2=>exact (Kd.aH Ec.out).2.1);(case side3=>exact uC ((Kd.aQ HR3.out HB.out)));(case side4=>exact HC3.out);rintro e w13 ⟨aDn,rfl,ho0,hb⟩;refine ⟨_,rfl,?_⟩;have Kr:=zA (Kd.bD (nw ho0 (uR Ec.out)) (af (uH HB.out)));replace Ec:=zA (Kd.aJ (uR Ec.out) (Kd.aN ho0) hb);replace HB:=xH HB hb;(try clear hb);(try clear hk);(try clear ho0)) | ((with_reducible refine ae (f:=67) rfl ?_);refine gL (some 24) Try.func67 #[.int .i64 a0,.int .i64 (wrap64 (-a2))] ?_;(with_reducible refine (fF.calls a0 (wrap64 (-a2)) Zi _ A8.out).mono ?_);rintro e w' ⟨rfl,⟨nd,rfl⟩⟩;refine ⟨_,rfl,?_⟩;obtain ⟨wM,wN,Qh⟩:=Kd.aY Kr.out;subst Qh) | ((with_reducible refine ae (f:=97) rfl ?_);refine gL (some 25) Try.func97 #[.int .i64 a0,.slice wM Zh.length wN,.slice A4 l4.length c4,.int .i64 Zi] ?_;(with_reducible refine (iI.calls k a0 _ _ Zh _ _ l4 Zi aiP _ ?side1 ?side2 ?side3 ?side4 A9.out).mono ?_);(case side1=>exact uC ((Kd.aH Kr.out).2.2));(case side2=>exact (Kd.aH Kr.out).2.1);(case side3=>repeat (first | exact (Kd.aQ HR4.out (uH HB.out)) | (with_reducible refine Kd.dE ?_ _) | (with_reducible refine Kd.dF ?_ _) | (with_reducible refine Kd.eQ ?_)));(case side4=>exact HC4.out);rintro e w15 ⟨aDo,rfl,ho0,hb⟩;refine ⟨_,rfl,?_⟩;have aqc:=zA (Kd.bD (nw (nw ho0 (uR Ec.out)) (uR Kr.out)) (af (uH HB.out)));replace Ec:=zA (Kd.aJ (uR Ec.out) (Kd.aN ho0) hb);replace Kr:=zA (Kd.aJ (uR Kr.out) (Kd.aN ho0) hb);replace HB:=xH HB hb;(try clear hb);(try clear hk);(try clear ho0)));go_ret;exact ⟨_,eX,uR (Kd.ag aqc.out (fun _ hk=>trivial)),uH HB.out⟩
/-! ### kR: function 69 -/
def kR.f (a0 : Int) (a1 : Int) (a2 : Int) : Option (Bool):=if a1 ≤ a0 then (some (decide (a0 ≤ a2))) else (some false)
theorem kR.calls (a0 : Int) (a1 : Int) (a2 : Int) (r : Bool) (w : World) (H : kR.f a0 a1 a2 = some r) :
  Calls Try.prog 69 #[.int .i64 a0,.int .i64 a1,.int .i64 a2] w fun e w'=>e = .returned (.bool r)∧aT w w':=by
 unfold kR.f at H;replace H:=gF H;obtain ⟨rz,H⟩|⟨rz,H⟩:=H
 ·obtain rfl:=Option.some.inj H;go_enter Try.func69,Try.ntmps69;go_wp2;go_ret;exact ⟨by first | rfl | (simp;done) | (simp [*];done),by repeat (first | exact aT.refl _ | apply aT.step)⟩
 obtain rfl:=Option.some.inj H;go_enter Try.func69,Try.ntmps69;go_wp2;go_ret;exact ⟨by first | rfl | (simp;done) | (simp [*];done),by repeat (first | exact aT.refl _ | apply aT.step)⟩
/-! ### gT: function 68 -/
def gT.l0 : Nat → Int → Int → Option (Bool)
 | 0,_,_=>none
 | k + 1,x0,x3=>if (wrap64 (x3 * x3)) ≤ x0 then (if x3 = 0 then (none) else (if (Int.tmod x0 x3) = 0 then (some false) else (gT.l0 k x0 (wrap64 (x3 + 1))))) else (some true)
def gT.f (k : Nat) (a0 : Int) : Option (Bool):=(kR.f a0 2 10007).bind fun aqd=>(if aqd = true then (gT.l0 k a0 2) else (some false))
theorem gT.calls (k : Nat) (a0 : Int) (r : Bool) (w : World) (H : gT.f k a0 = some r) :
  Calls Try.prog 68 #[.int .i64 a0] w fun e w'=>e = .returned (.bool r)∧aT w w':=by
 unfold gT.f at H;replace H:=bO H;obtain ⟨aqd,A2,H⟩:=H;replace H:=gB H;obtain ⟨rfl,H⟩|⟨rfl,H⟩:=H
 ·have H':=zA H;clear H;go_enter Try.func68,Try.ntmps68;go_wp2_with (first | ((with_reducible refine ae (f:=69) rfl ?_);refine gL (some 5) Try.func69 #[.int .i64 a0,.int .i64 2,.int .i64 10007] ?_;(with_reducible refine (kR.calls a0 2 10007 true _ A2.out).mono ?_);rintro e w' ⟨rfl,⟨nd,rfl⟩⟩;refine ⟨_,rfl,?_⟩));go_loopg [3] k (fun kq v3 w'=>∃ (lv : Int),v3 = .int .i64 lv∧aa (gT.l0 kq a0 lv = some r)∧aa (kq ≤ k)∧aT w w');(case atStart=>exact ⟨(2),eS,H',⟨Nat.le_refl _⟩,by repeat (first | exact aT.refl _ | apply aT.step)⟩)
  case round =>
   clear H';(try clear p2);(try clear c3);obtain ⟨lv,rfl,HA,HK1,⟨m1,rfl⟩⟩:=hrel
   cases gk with
   | zero=>exact absurd HA.out (by simp [gT.l0])
   | succ k1 =>
    have H:=HA.out;clear HA;simp only [gT.l0] at H;replace H:=gF H;obtain ⟨rz,H⟩|⟨rz,H⟩:=H
    ·obtain rfl:=Option.some.inj H;go_wp2;go_ret;exact ⟨by first | rfl | (simp;done) | (simp [*];done),by repeat (first | exact aT.refl _ | apply aT.step)⟩
    replace H:=gI H;obtain ⟨c5,H⟩|⟨c5,H⟩:=H
    ·have mZ : (lv == 0) = false:=beq_eq_false_iff_ne.mpr c5;have uS : (lv != 0) = true:=bne_iff_ne.mpr c5;replace H:=gE H;obtain ⟨c6,pU,uQ,H⟩|⟨c6,pU,uQ,H⟩:=H
     ·have H':=zA H;clear H;go_wp2;go_roundg k1;(case measure=>have:=HK1.out;omega);(case rel=>exact ⟨(wrap64 (lv + 1)),eS,H',⟨by have:=HK1.out;omega⟩,by repeat (first | exact aT.refl _ | apply aT.step)⟩)
     clear c6;obtain rfl:=Option.some.inj H;go_wp2;go_ret;exact ⟨by first | rfl | (simp;done) | (simp [*];done),by repeat (first | exact aT.refl _ | apply aT.step)⟩
    exact absurd H (by simp)
 ·obtain rfl:=Option.some.inj H;go_enter Try.func68,Try.ntmps68;go_wp2_with (first | ((with_reducible refine ae (f:=69) rfl ?_);refine gL (some 5) Try.func69 #[.int .i64 a0,.int .i64 2,.int .i64 10007] ?_;(with_reducible refine (kR.calls a0 2 10007 false _ A2.out).mono ?_);rintro e w' ⟨rfl,⟨nd,rfl⟩⟩;refine ⟨_,rfl,?_⟩));go_ret;exact ⟨by first | rfl | (simp;done) | (simp [*];done),by repeat (first | exact aT.refl _ | apply aT.step)⟩
/-! ### j5: function 31 -/
def j5.f (a0 : Int) (a1 : Int) : Option (Bool):=(kR.f a0 a1 12).bind fun aiQ=>(some aiQ)
theorem j5.calls (a0 : Int) (a1 : Int) (r : Bool) (w : World) (H : j5.f a0 a1 = some r) :
  Calls Try.prog 31 #[.int .i64 a0,.int .i64 a1] w fun e w'=>e = .returned (.bool r)∧aT w w':=by
 unfold j5.f at H;replace H:=bO H;obtain ⟨aiQ,A3,H⟩:=H;obtain rfl:=Option.some.inj H;go_enter Try.func31,Try.ntmps31;go_wp2_with (first | ((with_reducible refine ae (f:=69) rfl ?_);refine gL (some 7) Try.func69 #[.int .i64 a0,.int .i64 a1,.int .i64 12] ?_;(with_reducible refine (kR.calls a0 a1 12 aiQ _ A3.out).mono ?_);rintro e w' ⟨rfl,⟨nd,rfl⟩⟩;refine ⟨_,rfl,?_⟩));go_ret;exact ⟨by first | rfl | (simp;done) | (simp [*];done),by repeat (first | exact aT.refl _ | apply aT.step)⟩
/-! ### iU: function 50 -/
def iU.f (av : Int) : Option (Bool):=(j5.f av 0).bind fun Zk=>(some Zk)
theorem iU.calls (gc0 : Nat) (av : Int) (r : Bool) (w : World) (hb0 : w.heap[gc0]? = some (.cells #[.int .i64 av] 2 (0,0))) (H : iU.f av = some r) :
  Calls Try.prog 50 #[.pointer (some ⟨gc0,0,none⟩)] w fun e w'=>e = .returned (.bool r)∧aT w w':=by
 have BK0:=zA hb0;clear hb0;unfold iU.f at H;replace H:=bO H;obtain ⟨Zk,A2,H⟩:=H;obtain rfl:=Option.some.inj H;have Rv:=bc BK0 0;have Rw:=bf BK0 0;go_enter Try.func50,Try.ntmps50;go_wp2_with (first | ((with_reducible refine ae (f:=31) rfl ?_);refine gL (some 3) Try.func31 #[.int .i64 av,.int .i64 0] ?_;(with_reducible refine (j5.calls av 0 Zk _ A2.out).mono ?_);rintro e w' ⟨rfl,⟨nd,rfl⟩⟩;refine ⟨_,rfl,?_⟩));go_ret;exact ⟨by first | rfl | (simp;done) | (simp [*];done),by repeat (first | exact aT.refl _ | apply aT.step)⟩
/-! ### kY: function 35 -/
def kY.f (av : Int) : Option (Bool):=(j5.f av 0).bind fun aiR=>(some aiR)
theorem kY.calls (gc0 : Nat) (av : Int) (r : Bool) (w : World) (hb0 : w.heap[gc0]? = some (.cells #[.int .i64 av] 2 (0,0))) (H : kY.f av = some r) :
  Calls Try.prog 35 #[.pointer (some ⟨gc0,0,none⟩)] w fun e w'=>e = .returned (.bool r)∧aT w w':=by
 have BK0:=zA hb0;clear hb0;unfold kY.f at H;replace H:=bO H;obtain ⟨aiR,A2,H⟩:=H;obtain rfl:=Option.some.inj H;have Rv:=bc BK0 0;have Rw:=bf BK0 0;go_enter Try.func35,Try.ntmps35;go_wp2_with (first | ((with_reducible refine ae (f:=31) rfl ?_);refine gL (some 3) Try.func31 #[.int .i64 av,.int .i64 0] ?_;(with_reducible refine (j5.calls av 0 aiR _ A2.out).mono ?_);rintro e w' ⟨rfl,⟨nd,rfl⟩⟩;refine ⟨_,rfl,?_⟩));go_ret;exact ⟨by first | rfl | (simp;done) | (simp [*];done),by repeat (first | exact aT.refl _ | apply aT.step)⟩
/-! ### eu: function 30 -/
def eu.f (av : Int) : Option (Bool):=(j5.f av 0).bind fun aiS=>(some aiS)
theorem eu.calls (gc0 : Nat) (av : Int) (r : Bool) (w : World) (hb0 : w.heap[gc0]? = some (.cells #[.int .i64 av] 2 (0,0))) (H : eu.f av = some r) :
  Calls Try.prog 30 #[.pointer (some ⟨gc0,0,none⟩)] w fun e w'=>e = .returned (.bool r)∧aT w w':=by
 have BK0:=zA hb0;clear hb0;unfold eu.f at H;replace H:=bO H;obtain ⟨aiS,A2,H⟩:=H;obtain rfl:=Option.some.inj H;have Rv:=bc BK0 0;have Rw:=bf BK0 0;go_enter Try.func30,Try.ntmps30;go_wp2_with (first | ((with_reducible refine ae (f:=31) rfl ?_);refine gL (some 3) Try.func31 #[.int .i64 av,.int .i64 0] ?_;(with_reducible refine (j5.calls av 0 aiS _ A2.out).mono ?_);rintro e w' ⟨rfl,⟨nd,rfl⟩⟩;refine ⟨_,rfl,?_⟩));go_ret;exact ⟨by first | rfl | (simp;done) | (simp [*];done),by repeat (first | exact aT.refl _ | apply aT.step)⟩
/-! ### gM: function 9 -/
def gM.l0 : Nat → List Int → List Int → Int → Option (Bool)
 | 0,_,_,_=>none
 | k + 1,x0,x1,x5=>if x5 < (x0.length : Int) then (if 0 ≤ x5 then (if x5 < (x1.length : Int) then (if (rd x0 x5) = (rd x1 x5) then (gM.l0 k x0 x1 (wrap64 (x5 + 1))) else (some false)) else (none)) else (none)) else (some true)
def gM.f (k : Nat) (l0 : List Int) (l1 : List Int) : Option (Bool):=if (l0.length : Int) = (l1.length : Int) then (gM.l0 k l0 l1 0) else (some false)
theorem gM.calls (k : Nat) (A0 : Option Addr) (c0 : Nat) (l0 : List Int) (A1 : Option Addr) (c1 : Nat) (l1 : List Int) (r : Bool) (w : World) (hr0 : Kd.C (Kd.int .i64) w A0 l0.length l0) (hc0 : l0.length ≤ c0) (hr1 : Kd.C (Kd.int .i64) w A1 l1.length l1) (hc1 : l1.length ≤ c1) (H : gM.f k l0 l1 = some r) :
  Calls Try.prog 9 #[.slice A0 l0.length c0,.slice A1 l1.length c1] w fun e w'=>e = .returned (.bool r)∧aT w w':=by
 have HR0:=zA hr0;have HC0:=zA hc0;clear hr0 hc0;have HR1:=zA hr1;have HC1:=zA hc1;clear hr1 hc1;unfold gM.f at H;replace H:=gE H;obtain ⟨c3,rU,EN,H⟩|⟨c3,rU,EN,H⟩:=H
 ·(have aqe : (l0.length == l1.length) = false:=by first | simpa using c3 | (simp at c3 ⊢;omega));obtain rfl:=Option.some.inj H;go_enter Try.func9,Try.ntmps9;go_wp2;(repeat (go_quiet (fail);try go_wp2));go_ret;exact ⟨by first | rfl | (simp;done) | (simp [*];done),by repeat (first | exact aT.refl _ | apply aT.step)⟩
 (have aqe : (l0.length == l1.length) = true:=by first | simpa using c3 | (simp at c3 ⊢;omega));clear c3;have H':=zA H;clear H;go_enter Try.func9,Try.ntmps9;go_wp2;(repeat (go_quiet (fail);try go_wp2));go_loopg [5] k (fun kq v5 w'=>∃ (eT : Int),v5 = .int .i64 eT∧aa (gM.l0 kq l0 l1 eT = some r)∧aa (kq ≤ k)∧aT w w');(case atStart=>exact ⟨(0),eS,H',⟨Nat.le_refl _⟩,by repeat (first | exact aT.refl _ | apply aT.step)⟩)
 case round =>
  clear H';(try clear c1);(try clear p2);(try clear c3);(try clear rU);(try clear EN);(try clear aqe);obtain ⟨eT,rfl,HA,HK1,⟨m1,rfl⟩⟩:=hrel
  cases gk with
  | zero=>exact absurd HA.out (by simp [gM.l0])
  | succ k1 =>
   have H:=HA.out;clear HA;simp only [gM.l0] at H;replace H:=gF H;obtain ⟨rz,H⟩|⟨rz,H⟩:=H
   ·obtain rfl:=Option.some.inj H;go_wp2;(repeat (go_quiet (fail);try go_wp2));go_ret;exact ⟨by first | rfl | (simp;done) | (simp [*];done),by repeat (first | exact aT.refl _ | apply aT.step)⟩
   replace H:=gD H;obtain ⟨mZ,H⟩:=H;replace H:=gD H;obtain ⟨pU,H⟩:=H;replace H:=gE H;obtain ⟨c7,Ce,EP,H⟩|⟨c7,Ce,EP,H⟩:=H
   ·obtain rfl:=Option.some.inj H;have Rx : 0 ≤ (eT : Int):=oD;have Ry : eT < (l0.length : Int):=oD;obtain ⟨aqf,aiT,adK⟩:=Kd.ic HR0.out eT Rx Ry;cases aiT;replace Rx:=eq_true Rx;replace Ry:=eq_true Ry;have Rz : 0 ≤ (eT : Int):=oD;have RA : eT < (l1.length : Int):=oD;obtain ⟨aqg,aiU,adL⟩:=Kd.ic HR1.out eT Rz RA;cases aiU;replace Rz:=eq_true Rz;replace RA:=eq_true RA;go_wp2;(repeat (go_quiet (fail);try go_wp2));go_ret;exact ⟨by first | rfl | (simp;done) | (simp [*];done),by repeat (first | exact aT.refl _ | apply aT.step)⟩
   clear c7;have H':=zA H;clear H;have Rx : 0 ≤ (eT : Int):=oD;have Ry : eT < (l0.length : Int):=oD;obtain ⟨aqf,aiT,adK⟩:=Kd.ic HR0.out eT Rx Ry;cases aiT;replace Rx:=eq_true Rx;replace Ry:=eq_true Ry;have Rz : 0 ≤ (eT : Int):=oD;have RA : eT < (l1.length : Int):=oD;obtain ⟨aqg,aiU,adL⟩:=Kd.ic HR1.out eT Rz RA;cases aiU;replace Rz:=eq_true Rz;replace RA:=eq_true RA;go_wp2;(repeat (go_quiet (fail);try go_wp2));go_roundg k1;(case measure=>have:=HK1.out;omega);(case rel=>exact ⟨(wrap64 (eT + 1)),eS,H',⟨by have:=HK1.out;omega⟩,by repeat (first | exact aT.refl _ | apply aT.step)⟩)
/-! ### dG: function 111 -/
def dG.l0 : Nat → List Int → (Int → Option Bool) → Int → Int → Option (Int)
 | 0,_,_,_,_=>none
 | k + 1,x0,x1,x7,x8=>if x8 < x7 then (if 0 ≤ x8 then (if x8 < (x0.length : Int) then ((x1 (rd x0 x8)).bind fun aqh=>(if aqh = true then (some x8) else (dG.l0 k x0 x1 x7 (wrap64 (x8 + 1))))) else (none)) else (none)) else (some (-1))
def dG.f (k : Nat) (l0 : List Int) (a1 : (Int → Option Bool)) : Option (Int):=dG.l0 k l0 a1 (l0.length : Int) 0
theorem dG.calls (k : Nat) (A0 : Option Addr) (c0 : Nat) (l0 : List Int) (F1 : Value) (a1 : (Int → Option Bool)) (r : Int) (w : World) (hr0 : Kd.C (Kd.int .i64) w A0 l0.length l0) (hc0 : l0.length ≤ c0) (hF1 : FnI Try.prog w F1 a1) (H : dG.f k l0 a1 = some r) :
  Calls Try.prog 111 #[.slice A0 l0.length c0,F1] w fun e w'=>e = .returned (.int .i64 r)∧Below w.heap.size w w':=by
 have HR0:=zA hr0;have HC0:=zA hc0;clear hr0 hc0;obtain ⟨G1,fi1,ca1,rfl,uW,hF1⟩:=hF1;have uW : ∀ (args_ : Array Value) (w_ : World),(callFunc G1 args_).run Try.prog w_ = .ok (.enter G1 args_) w_:=uW;have HF1:=zA hF1;clear hF1;have HB:=zA (Below.refl w.heap.size w);unfold dG.f at H;have H':=zA H;clear H;go_enter Try.func111,Try.ntmps111;go_wp2;go_loopg [8] k (fun kq v8 w'=>∃ (dN : Int),v8 = .int .i64 dN∧aa (dG.l0 kq l0 a1 (l0.length : Int) dN = some r)∧aa (kq ≤ k)∧aa (Below w.heap.size w w'));(case atStart=>exact ⟨(0),eS,H',⟨Nat.le_refl _⟩,⟨uH HB.out⟩⟩)
 case round =>
  clear H';(try clear c1);(try clear p2);obtain ⟨dN,rfl,HA,HK1,HB⟩:=hrel
  cases gk with
  | zero=>exact absurd HA.out (by simp [dG.l0])
  | succ k1 =>
   have H:=HA.out;clear HA;simp only [dG.l0] at H;replace H:=gF H;obtain ⟨rU,H⟩|⟨rU,H⟩:=H
   ·obtain rfl:=Option.some.inj H;go_wp2;go_ret;exact ⟨eX,uH HB.out⟩
   replace H:=gD H;obtain ⟨rz,H⟩:=H;replace H:=gD H;obtain ⟨mZ,H⟩:=H;replace H:=bO H;obtain ⟨aqh,A6,H⟩:=H;replace H:=gB H;obtain ⟨rfl,H⟩|⟨rfl,H⟩:=H
   ·obtain rfl:=Option.some.inj H;have RB : 0 ≤ (dN : Int):=oD;have RD : dN < (l0.length : Int):=oD;obtain ⟨aqi,aiV,Ed⟩:=Kd.ic HR0.out dN RB RD;cases aiV;replace Ed:=hc HB Ed;replace RB:=eq_true RB;replace RD:=eq_true RD;go_wp2_with (first | (go_at_fn G1;refine dA (args':=fi1 ++ #[.int .i64 (rd l0 dN)] ++ ca1) (by simp) ?_;refine (HF1.out (rd l0 dN) _ A6.out _ (uH HB.out)).mono ?_;rintro e w8 ⟨rfl,hb⟩;replace HB:=xH HB hb;(try clear hb)));go_ret;exact ⟨eX,uH HB.out⟩
   ·have H':=zA H;clear H;have RB : 0 ≤ (dN : Int):=oD;have RD : dN < (l0.length : Int):=oD;obtain ⟨aqi,aiV,Ed⟩:=Kd.ic HR0.out dN RB RD;cases aiV;replace Ed:=hc HB Ed;replace RB:=eq_true RB;replace RD:=eq_true RD;go_wp2_with (first | (go_at_fn G1;refine dA (args':=fi1 ++ #[.int .i64 (rd l0 dN)] ++ ca1) (by simp) ?_;refine (HF1.out (rd l0 dN) _ A6.out _ (uH HB.out)).mono ?_;rintro e w9 ⟨rfl,hb⟩;replace HB:=xH HB hb;(try clear hb)));go_roundg k1;(case measure=>have:=HK1.out;omega);(case rel=>exact ⟨(wrap64 (dN + 1)),eS,H',⟨by have:=HK1.out;omega⟩,⟨uH HB.out⟩⟩)
/-! ### jA: function 107 -/
def jA.f (k : Nat) (l0 : List Int) (a1 : (Int → Option Bool)) : Option (Bool):=(dG.f k l0 a1).bind fun t105=>(some (decide (t105 ≥ 0)))
theorem jA.calls (k : Nat) (A0 : Option Addr) (c0 : Nat) (l0 : List Int) (F1 : Value) (a1 : (Int → Option Bool)) (r : Bool) (w : World) (hr0 : Kd.C (Kd.int .i64) w A0 l0.length l0) (hc0 : l0.length ≤ c0) (hF1 : FnI Try.prog w F1 a1) (H : jA.f k l0 a1 = some r) :
  Calls Try.prog 107 #[.slice A0 l0.length c0,F1] w fun e w'=>e = .returned (.bool r)∧Below w.heap.size w w':=by
 have HR0:=zA hr0;have HC0:=zA hc0;clear hr0 hc0;obtain ⟨G1,fi1,ca1,rfl,uW,hF1⟩:=hF1;have uW : ∀ (args_ : Array Value) (w_ : World),(callFunc G1 args_).run Try.prog w_ = .ok (.enter G1 args_) w_:=uW;have HF1:=zA hF1;clear hF1;have HB:=zA (Below.refl w.heap.size w);unfold jA.f at H;replace H:=bO H;obtain ⟨t105,A3,H⟩:=H;obtain rfl:=Option.some.inj H;go_enter Try.func107,Try.ntmps107;go_wp2_with (first | ((with_reducible refine ae (f:=111) rfl ?_);refine gL (some 7) Try.func111 #[.slice A0 l0.length c0,(.func (.func G1) fi1 ca1)] ?_;(with_reducible refine (dG.calls k _ _ l0 _ a1 t105 _ ?side1 ?side2 ?side3 A3.out).mono ?_);(case side1=>exact uC HR0.out);(case side2=>exact HC0.out);(case side3=>exact FnI.later (uH HB.out) (show FnI Try.prog w (.func (.func G1) fi1 ca1) a1 from ⟨_,_,_,rfl,uW,HF1.out⟩));rintro e w4 ⟨rfl,hb⟩;refine ⟨_,rfl,?_⟩;replace HB:=xH HB hb;(try clear hb)));go_ret;exact ⟨eX,uH HB.out⟩
/-! ### bK: function 102 -/
def bK.l0 : Nat → List (List Int) → (List Int → Option Bool) → Int → Int → Option (Int)
 | 0,_,_,_,_=>none
 | k + 1,x0,x1,x7,x8=>if x8 < x7 then (if 0 ≤ x8 then (if x8 < (x0.length : Int) then ((x1 (fw x0 x8)).bind fun t116=>(if t116 = true then (some x8) else (bK.l0 k x0 x1 x7 (wrap64 (x8 + 1))))) else (none)) else (none)) else (some (-1))
def bK.f (k : Nat) (l0 : List (List Int)) (a1 : (List Int → Option Bool)) : Option (Int):=bK.l0 k l0 a1 (l0.length : Int) 0
theorem bK.calls (k : Nat) (A0 : Option Addr) (c0 : Nat) (l0 : List (List Int)) (F1 : Value) (a1 : (List Int → Option Bool)) (r : Int) (w : World) (hr0 : Kd.C (Kd.slice 2 (Kd.int .i64)) w A0 l0.length l0) (hc0 : l0.length ≤ c0) (hF1 : FnL Try.prog w F1 a1) (H : bK.f k l0 a1 = some r) :
  Calls Try.prog 102 #[.slice A0 l0.length c0,F1] w fun e w'=>e = .returned (.int .i64 r)∧Below w.heap.size w w':=by
 have HR0:=zA hr0;have HC0:=zA hc0;clear hr0 hc0;obtain ⟨G1,fi1,ca1,rfl,uW,hF1⟩:=hF1;have uW : ∀ (args_ : Array Value) (w_ : World),(callFunc G1 args_).run Try.prog w_ = .ok (.enter G1 args_) w_:=uW;have HF1:=zA hF1;clear hF1;have HB:=zA (Below.refl w.heap.size w);unfold bK.f at H;have H':=zA H;clear H;go_enter Try.func102,Try.ntmps102;go_wp2;go_loopg [8] k (fun kq v8 w'=>∃ (dN : Int),v8 = .int .i64 dN∧aa (bK.l0 kq l0 a1 (l0.length : Int) dN = some r)∧aa (kq ≤ k)∧aa (Below w.heap.size w w'));(case atStart=>exact ⟨(0),eS,H',⟨Nat.le_refl _⟩,⟨uH HB.out⟩⟩)
 case round =>
  clear H';(try clear c1);(try clear p2);obtain ⟨dN,rfl,HA,HK1,HB⟩:=hrel
  cases gk with
  | zero=>exact absurd HA.out (by simp [bK.l0])
  | succ k1 =>
   have H:=HA.out;clear HA;simp only [bK.l0] at H;replace H:=gF H;obtain ⟨rU,H⟩|⟨rU,H⟩:=H
   ·obtain rfl:=Option.some.inj H;go_wp2;go_ret;exact ⟨eX,uH HB.out⟩
   replace H:=gD H;obtain ⟨rz,H⟩:=H;replace H:=gD H;obtain ⟨mZ,H⟩:=H;replace H:=bO H;obtain ⟨t116,A6,H⟩:=H;replace H:=gB H;obtain ⟨rfl,H⟩|⟨rfl,H⟩:=H
   ·obtain rfl:=Option.some.inj H;have RF : 0 ≤ (dN : Int):=oD;have RG : dN < (l0.length : Int):=oD;obtain ⟨aqj,RH,RI,e115,Ee,Ef,Eg⟩:=y7 HR0.out dN RF RG;cases e115;replace Ee:=hc HB Ee;have MZ:=zA Eg;have M0:=zA Ef;clear Eg Ef;replace RF:=eq_true RF;replace RG:=eq_true RG;go_wp2_with (first | (go_at_fn G1;refine dA (args':=fi1 ++ #[.slice RH (fw l0 dN).length RI] ++ ca1) (by simp) ?_;refine (HF1.out (fw l0 dN) _ _ _ A6.out _ (uH HB.out) (by exact uC ((Kd.aQ MZ.out HB.out))) (by exact M0.out)).mono ?_;rintro e w8 ⟨rfl,hb⟩;replace HB:=xH HB hb;(try clear hb)));go_ret;exact ⟨eX,uH HB.out⟩
   ·have H':=zA H;clear H;have RF : 0 ≤ (dN : Int):=oD;have RG : dN < (l0.length : Int):=oD;obtain ⟨aqj,RH,RI,e115,Ee,Ef,Eg⟩:=y7 HR0.out dN RF RG;cases e115;replace Ee:=hc HB Ee;have MZ:=zA Eg;have M0:=zA Ef;clear Eg Ef;replace RF:=eq_true RF;replace RG:=eq_true RG;go_wp2_with (first | (go_at_fn G1;refine dA (args':=fi1 ++ #[.slice RH (fw l0 dN).length RI] ++ ca1) (by simp) ?_;refine (HF1.out (fw l0 dN) _ _ _ A6.out _ (uH HB.out) (by exact uC ((Kd.aQ MZ.out HB.out))) (by exact M0.out)).mono ?_;rintro e w9 ⟨rfl,hb⟩;replace HB:=xH HB hb;(try clear hb)));go_roundg k1;(case measure=>have:=HK1.out;omega);(case rel=>exact ⟨(wrap64 (dN + 1)),eS,H',⟨by have:=HK1.out;omega⟩,⟨uH HB.out⟩⟩)
/-! ### jB: function 109 -/
def jB.f (k : Nat) (l0 : List (List Int)) (a1 : (List Int → Option Bool)) : Option (Bool):=(bK.f k l0 a1).bind fun t117=>(some (decide (t117 ≥ 0)))
theorem jB.calls (k : Nat) (A0 : Option Addr) (c0 : Nat) (l0 : List (List Int)) (F1 : Value) (a1 : (List Int → Option Bool)) (r : Bool) (w : World) (hr0 : Kd.C (Kd.slice 2 (Kd.int .i64)) w A0 l0.length l0) (hc0 : l0.length ≤ c0) (hF1 : FnL Try.prog w F1 a1) (H : jB.f k l0 a1 = some r) :
  Calls Try.prog 109 #[.slice A0 l0.length c0,F1] w fun e w'=>e = .returned (.bool r)∧Below w.heap.size w w':=by
 have HR0:=zA hr0;have HC0:=zA hc0;clear hr0 hc0;obtain ⟨G1,fi1,ca1,rfl,uW,hF1⟩:=hF1;have uW : ∀ (args_ : Array Value) (w_ : World),(callFunc G1 args_).run Try.prog w_ = .ok (.enter G1 args_) w_:=uW;have HF1:=zA hF1;clear hF1;have HB:=zA (Below.refl w.heap.size w);unfold jB.f at H;replace H:=bO H;obtain ⟨t117,A3,H⟩:=H;obtain rfl:=Option.some.inj H;go_enter Try.func109,Try.ntmps109;go_wp2_with (first | ((with_reducible refine ae (f:=102) rfl ?_);refine gL (some 7) Try.func102 #[.slice A0 l0.length c0,(.func (.func G1) fi1 ca1)] ?_;(with_reducible refine (bK.calls k _ _ l0 _ a1 t117 _ ?side1 ?side2 ?side3 A3.out).mono ?_);(case side1=>exact uC HR0.out);(case side2=>exact HC0.out);(case side3=>exact FnL.later (uH HB.out) (show FnL Try.prog w (.func (.func G1) fi1 ca1) a1 from ⟨_,_,_,rfl,uW,HF1.out⟩));rintro e w4 ⟨rfl,hb⟩;refine ⟨_,rfl,?_⟩;replace HB:=xH HB hb;(try clear hb)));go_ret;exact ⟨eX,uH HB.out⟩
/-! ### jk: function 53 -/
def jk.f (a0 : Int) (a1 : Int) (a2 : Int) : Option (Bool):=if a0 ≥ a1 then (some (decide (a0 ≤ a2))) else (some false)
theorem jk.calls (a0 : Int) (a1 : Int) (a2 : Int) (r : Bool) (w : World) (H : jk.f a0 a1 a2 = some r) :
  Calls Try.prog 53 #[.int .i64 a0,.int .i64 a1,.int .i64 a2] w fun e w'=>e = .returned (.bool r)∧aT w w':=by
 unfold jk.f at H;replace H:=gI H;obtain ⟨c4,H⟩|⟨c4,H⟩:=H
 ·have rz : decide (a1 ≤ a0) = false:=decide_eq_false c4;clear c4;obtain rfl:=Option.some.inj H;go_enter Try.func53,Try.ntmps53;go_wp2;go_ret;exact ⟨by first | rfl | (simp;done) | (simp [*];done),by repeat (first | exact aT.refl _ | apply aT.step)⟩
 have rz : decide (a1 ≤ a0) = true:=decide_eq_true c4;clear c4;obtain rfl:=Option.some.inj H;go_enter Try.func53,Try.ntmps53;go_wp2;go_ret;exact ⟨by first | rfl | (simp;done) | (simp [*];done),by repeat (first | exact aT.refl _ | apply aT.step)⟩
/-! ### jG: function 76 -/
def jG.f (a0 : Int) (a1 : Int) : Option (Int):=if a0 = 0 then (none) else (some (Int.tmod (wrap64 ((Int.tmod a1 a0) + a0)) a0))
theorem jG.calls (a0 : Int) (a1 : Int) (r : Int) (w : World) (H : jG.f a0 a1 = some r) :
  Calls Try.prog 76 #[.int .i64 a0,.int .i64 a1] w fun e w'=>e = .returned (.int .i64 r)∧aT w w':=by
 unfold jG.f at H;replace H:=gI H;obtain ⟨c3,H⟩|⟨c3,H⟩:=H
 ·have rU : (a0 == 0) = false:=beq_eq_false_iff_ne.mpr c3;have EN : (a0 != 0) = true:=bne_iff_ne.mpr c3;obtain rfl:=Option.some.inj H;go_enter Try.func76,Try.ntmps76;go_wp2;go_ret;exact ⟨by first | rfl | (simp;done) | (simp [*];done),by repeat (first | exact aT.refl _ | apply aT.step)⟩
 exact absurd H (by simp)
/-- A state of type 90 at block g of W; what its slices lead to came in by w0. -/
def aA (w0 W : World) (g : Nat) (f0 : List Int) (f1 : Int) (f2 : Int) : Prop:=∃ A0 c0,W.heap[g]? = some (.cells #[.slice A0 f0.length c0,.int .i64 f1,.int .u64 f2] 90 (0,0))∧w0.heap.size ≤ g∧Kd.C (Kd.int .u8) w0 A0 f0.length f0
theorem aA.grown {w0 W : World} {g : Nat} {f0 : List Int} {f1 : Int} {f2 : Int} {W1 : World} {row : Option Nat} (h : aA w0 W g f0 f1 f2) (hw : W.grownBy W1 row) (hne : some g ≠ row) : aA w0 W1 g f0 f1 f2:=by
 obtain ⟨A0,c0,hb,hg,hr0⟩:=h;exact ⟨A0,c0,xz hb hw hne,hg,hr0⟩
theorem aA.au6 {w0 W : World} {g : Nat} {f0 : List Int} {f1 : Int} {f2 : Int} {α : Type} {d : Kd α} {e : Nat} {base : Nat} {ok : Nat → Prop} {v : Value} {xs : List α} (h : aA w0 W g f0 f1 f2) (ho : Kd.N d e W base ok v xs) (ht : e ≠ 90) : some g ≠ v.ownBlock:=by
 obtain ⟨A0,c0,hb,hg,hr0⟩:=h;exact Kd.adM ho hb ht
theorem aA.fresh {w0 W : World} {g : Nat} {f0 : List Int} {f1 : Int} {f2 : Int} (h : aA w0 W g f0 f1 f2) : ∀ k,W.heap.size ≤ k → k ≠ g:=by
 obtain ⟨A0,c0,hb,hg,hr0⟩:=h;exact Kd.kX hb
theorem aA.kept {w0 W : World} {g : Nat} {f0 : List Int} {f1 : Int} {f2 : Int} {W1 : World} {S : Nat → Prop} (h : aA w0 W g f0 f1 f2) (hk : Kept W W1 S) (hne : ¬ S g) : aA w0 W1 g f0 f1 f2:=by
 obtain ⟨A0,c0,hb,hg,hr0⟩:=h;exact ⟨A0,c0,Pj hb hk hne,hg,hr0⟩
theorem aA.below {w0 W : World} {g : Nat} {f0 : List Int} {f1 : Int} {f2 : Int} {W1 : World} (h : aA w0 W g f0 f1 f2) (hw : Below W.heap.size W W1) : aA w0 W1 g f0 f1 f2:=h.grown (Bn hw none) (by simp)
theorem aA.alloc {w0 W : World} {g : Nat} {f0 : List Int} {f1 : Int} {f2 : Int} (h : aA w0 W g f0 f1 f2) (o : Obj) : aA w0 (W.alloc o) g f0 f1 f2:=h.below (gG (Below.refl _ _) o)
theorem aA.drewN {w0 W : World} {g : Nat} {f0 : List Int} {f1 : Int} {f2 : Int} (h : aA w0 W g f0 f1 f2) (m : Nat) : aA w0 (W.drewN m) g f0 f1 f2:=h
theorem aA.drew {w0 W : World} {g : Nat} {f0 : List Int} {f1 : Int} {f2 : Int} (h : aA w0 W g f0 f1 f2) : aA w0 W.drew g f0 f1 f2:=h
theorem aA.at_ {w0 W : World} {g : Nat} {f0 : List Int} {f1 : Int} {f2 : Int} {w' : World} {m : Nat} (hq : W.drewN m = w') (h : aA w0 W g f0 f1 f2) : aA w0 w' g f0 f1 f2:=by subst hq;exact aA.drewN h m
theorem aA.apart {w0 W : World} {g : Nat} {f0 : List Int} {f1 : Int} {f2 : Int} {α : Type} {d : Kd α} {e : Nat} {base : Nat} {ok : Nat → Prop} {v : Value} {xs : List α} (h : aA w0 W g f0 f1 f2) (ho : d.R e W base ok v xs) (ht : ∀ q,q ∈ e :: d.E → q ≠ 90) : d.R e W base (fun k=>ok k∧k ≠ g) v xs:=by
 obtain ⟨A0,c0,hb,hg,hr0⟩:=h;exact Kd.bL ho hb ht
theorem aA.own_ne {w0 W : World} {g : Nat} {f0 : List Int} {f1 : Int} {f2 : Int} {α : Type} {d : Kd α} {e : Nat} {base : Nat} {ok : Nat → Prop} {v : Value} {xs : List α} (h : aA w0 W g f0 f1 f2) (ho : d.R e W base ok v xs) (ht : e ≠ 90) : some g ≠ v.ownBlock:=by
 obtain ⟨A0,c0,hb,hg,hr0⟩:=h;exact Kd.Qd ho hb ht
theorem aA.axx {w0 W : World} {g : Nat} {f0 : List Int} {f1 : Int} {f2 : Int} {α : Type} {d : Kd α} {e : Nat} {base : Nat} {ok : Nat → Prop} {v : Value} {xs : List α} (h : aA w0 W g f0 f1 f2) (ho : d.Q e W base ok v xs) (ht : ∀ q,q ∈ e :: d.E → q ≠ 90) : d.Q e W base (fun k=>ok k∧k ≠ g) v xs:=by
 obtain ⟨A0,c0,hb,hg,hr0⟩:=h;exact Kd.adN ho hb ht
theorem aA.au7 {w0 W : World} {g : Nat} {f0 : List Int} {f1 : Int} {f2 : Int} {α : Type} {d : Kd α} {e : Nat} {base : Nat} {ok : Nat → Prop} {v : Value} {xs : List α} (h : aA w0 W g f0 f1 f2) (ho : d.Q e W base ok v xs) (ht : e ≠ 90) : some g ≠ v.ownBlock:=by
 obtain ⟨A0,c0,hb,hg,hr0⟩:=h;exact Kd.axy ho hb ht
theorem aA.axz {w0 W : World} {g : Nat} {f0 : List Int} {f1 : Int} {f2 : Int} {α : Type} {d : Kd α} {e : Nat} {base : Nat} {ok : Nat → Prop} {v : Value} {xs : List α} (h : aA w0 W g f0 f1 f2) (ho : d.S e W base ok v xs) (ht : ∀ q,q ∈ e :: d.E → q ≠ 90) : d.S e W base (fun k=>ok k∧k ≠ g) v xs:=by
 obtain ⟨A0,c0,hb,hg,hr0⟩:=h;exact Kd.abR ho hb ht
theorem aA.au8 {w0 W : World} {g : Nat} {f0 : List Int} {f1 : Int} {f2 : Int} {α : Type} {d : Kd α} {e : Nat} {base : Nat} {ok : Nat → Prop} {v : Value} {xs : List α} (h : aA w0 W g f0 f1 f2) (ho : d.S e W base ok v xs) (ht : e ≠ 90) : some g ≠ v.ownBlock:=by
 obtain ⟨A0,c0,hb,hg,hr0⟩:=h;exact Kd.alJ ho hb ht
theorem aA.lt {w0 W : World} {g : Nat} {f0 : List Int} {f1 : Int} {f2 : Int} (h : aA w0 W g f0 f1 f2) : g < W.heap.size:=by
 obtain ⟨A0,c0,hb,hg,hr0⟩:=h;exact tJ hb
theorem aA.ge {w0 W : World} {g : Nat} {f0 : List Int} {f1 : Int} {f2 : Int} (h : aA w0 W g f0 f1 f2) : w0.heap.size ≤ g:=by
 obtain ⟨A0,c0,hb,hg,hr0⟩:=h;exact hg
theorem aA.EY {w0 W : World} {g : Nat} {f0 : List Int} {f1 : Int} {f2 : Int} {a : Nat} {cs : Array Value} {t : TypeId} {fr : Nat × Nat} (h : aA w0 W g f0 f1 f2) (hb2 : W.heap[a]? = some (.cells cs t fr)) (ht : t ≠ 90) : g ≠ a:=by
 obtain ⟨A0,c0,hb,hg,hr0⟩:=h;rintro rfl;rw [hb] at hb2;injection hb2 with hb2;injection hb2 with _ ht2;exact ht ht2.symm
theorem aA.far {w0 W : World} {g : Nat} {f0 : List Int} {f1 : Int} {f2 : Int} {p : Addr} (h : aA w0 W g f0 f1 f2) (hne : g ≠ p.block) (u : Value) : aA w0 (W.setCell p u) g f0 f1 f2:=by
 obtain ⟨A0,c0,hb,hg,hr0⟩:=h;exact ⟨A0,c0,bG hb hne u,hg,hr0⟩
theorem Kt {W : World} {g : Nat} {A0 : Option Addr} {c0 : Nat} {f0 : List Int} {f1 : Int} {f2 : Int} (h : W.heap[g]? = some (.cells #[.slice A0 f0.length c0,.int .i64 f1,.int .u64 f2] 90 (0,0))) : W.cell? ⟨g,0,none⟩ = some (.slice A0 f0.length c0):=(bR h 0).trans rfl
theorem Ku {W : World} {g : Nat} {A0 : Option Addr} {c0 : Nat} {f0 : List Int} {f1 : Int} {f2 : Int} (h : W.heap[g]? = some (.cells #[.slice A0 f0.length c0,.int .i64 f1,.int .u64 f2] 90 (0,0))) : W.cell? ⟨g,1,none⟩ = some (.int .i64 f1):=(bR h 1).trans rfl
theorem aA.Zl {w0 W : World} {g : Nat} {f0 : List Int} {f1 : Int} {f2 : Int} (h : aA w0 W g f0 f1 f2) (x : Int) : aA w0 (W.setCell ⟨g,1,none⟩ (.int .i64 x)) g f0 x f2:=by
 obtain ⟨A0,c0,hb,hg,hr0⟩:=h;exact ⟨A0,c0,by simpa using uy hb 1 (.int .i64 x),hg,hr0⟩
theorem Kv {W : World} {g : Nat} {A0 : Option Addr} {c0 : Nat} {f0 : List Int} {f1 : Int} {f2 : Int} (h : W.heap[g]? = some (.cells #[.slice A0 f0.length c0,.int .i64 f1,.int .u64 f2] 90 (0,0))) : W.cell? ⟨g,2,none⟩ = some (.int .u64 f2):=(bR h 2).trans rfl
theorem aA.Zm {w0 W : World} {g : Nat} {f0 : List Int} {f1 : Int} {f2 : Int} (h : aA w0 W g f0 f1 f2) (x : Int) : aA w0 (W.setCell ⟨g,2,none⟩ (.int .u64 x)) g f0 f1 x:=by
 obtain ⟨A0,c0,hb,hg,hr0⟩:=h;exact ⟨A0,c0,by simpa using uy hb 2 (.int .u64 x),hg,hr0⟩
theorem aA.new (w0 W : World) (A0 : Option Addr) (c0 : Nat) (f0 : List Int) (f1 : Int) (f2 : Int) (hB : Below w0.heap.size w0 W) (hr0 : Kd.C (Kd.int .u8) w0 A0 f0.length f0) : aA w0 (W.alloc (.cells #[.slice A0 f0.length c0,.int .i64 f1,.int .u64 f2] 90)) W.heap.size f0 f1 f2:=⟨A0,c0,by simpa using heap_alloc_new W _,hB.size,hr0⟩

/-! ### aX: function 47 -/
def aX.f (bU : List Int) (fP : Int) (gp : Int) (a1 : Int) : Option (Int × Int × Int):=if a1 < 1 then (some (0,fP,gp)) else (if fP < (bU.length : Int) then (if 0 ≤ fP then (if a1 = 0 then (none) else (some (Int.tmod (wrap64 ((wrap64 (Go.bits .and .u64 ((IntKind.u64.wrap ((IntKind.u64.wrap (gp * 6364136223846793005)) + 1442695040888963407)) / 8589934592) 16777215)) + (wrap64 (rd bU fP)))) a1,wrap64 (fP + 1),IntKind.u64.wrap ((IntKind.u64.wrap (gp * 6364136223846793005)) + 1442695040888963407)))) else (none)) else (if a1 = 0 then (none) else (some (Int.tmod (wrap64 (Go.bits .and .u64 ((IntKind.u64.wrap ((IntKind.u64.wrap (gp * 6364136223846793005)) + 1442695040888963407)) / 8589934592) 16777215)) a1,fP,IntKind.u64.wrap ((IntKind.u64.wrap (gp * 6364136223846793005)) + 1442695040888963407)))))
theorem aX.calls (g : Nat) (bU : List Int) (fP : Int) (gp : Int) (a1 : Int) (r1 : Int) (r2 : Int) (r3 : Int) (w0 w : World) (hI : aA w0 w g bU fP gp) (hB : Below w0.heap.size w0 w) (H : aX.f bU fP gp a1 = some (r1,r2,r3)) :
  Calls Try.prog 47 #[.pointer (some ⟨g,0,none⟩),.int .i64 a1] w fun e w'=>e = .returned (.int .i64 r1)∧aA w0 w' g bU r2 r3∧Below w0.heap.size w0 w'∧aK w w' g none:=by
 have HI0:=zA hI;have HK:=zA (aK.refl w g none);have HL:=zA hB.size;clear hI;have HW0:=zA hB.size;have HB:=zA hB;clear hB;unfold aX.f at H;replace H:=gF H;obtain ⟨rU,H⟩|⟨rU,H⟩:=H
 ·replace H:=gF H;obtain ⟨rz,H⟩|⟨rz,H⟩:=H
  ·replace H:=gI H;obtain ⟨c8,H⟩|⟨c8,H⟩:=H
   ·have uT : (a1 == 0) = false:=beq_eq_false_iff_ne.mpr c8;have Gc : (a1 != 0) = true:=bne_iff_ne.mpr c8;simp only [Option.some.injEq,Prod.mk.injEq] at H;obtain ⟨rfl,rfl,rfl⟩:=H;obtain ⟨axA,axB,WE,hgz9,axC⟩:=HI0.out;have vJ:=Kt WE;have vK:=Ku WE;have axD:=Kv WE;have vL:=di WE 1;have axE:=di WE 2;clear WE hgz9;go_enter Try.func47,Try.ntmps47;go_wp2;(repeat (go_quiet (fail);try go_wp2));go_ret;exact ⟨eX,by repeat (first | (with_reducible first | exact HI0.out | apply aA.alloc | apply aA.drewN | apply aA.drew | apply aA.Zl | apply aA.Zm) | exact HI0.out),by repeat (first | (with_reducible first | exact HB.out | apply gG | apply aZ | apply aW | refine mO ?_ (aA.ge HI0.out)) | exact HB.out),by repeat (first | (with_reducible first | exact HK.out | apply aK.Zn | apply zN | apply BU | apply zO) | exact HK.out)⟩
   exact absurd H (by simp)
  replace H:=gD H;obtain ⟨mZ,H⟩:=H;replace H:=gI H;obtain ⟨c6,H⟩|⟨c6,H⟩:=H
  ·have pU : (a1 == 0) = false:=beq_eq_false_iff_ne.mpr c6;have uQ : (a1 != 0) = true:=bne_iff_ne.mpr c6;simp only [Option.some.injEq,Prod.mk.injEq] at H;obtain ⟨rfl,rfl,rfl⟩:=H;obtain ⟨axF,axG,WF,hgz7,aiW⟩:=HI0.out;have IV:=Kt WF;have IW:=Ku WF;have axH:=Kv WF;have IX:=di WF 1;have axI:=di WF 2;clear WF hgz7;have aiX : 0 ≤ (fP : Int):=oD;have aiY : fP < (bU.length : Int):=oD;obtain ⟨aqk,axJ,BV⟩:=Kd.ic aiW fP aiX aiY;cases axJ;have GY : aqk.block ≠ g:=Nat.ne_of_lt (Nat.lt_of_lt_of_le (by have:=World.block_lt_of_cell? _ _ BV;first | rwa [add_block] at this | exact this) (aA.ge HI0.out));replace BV:=jy HB.out BV;replace BV:=(cell_far (p:=⟨g,2,none⟩) (by first | (rw [add_block];exact GY) | (show (Addr.add _ _).block ≠ _;rw [add_block];exact GY) | exact GY) (.int .u64 (IntKind.u64.wrap ((IntKind.u64.wrap (gp * 6364136223846793005)) + 1442695040888963407)))).trans BV;(try have au9:=fun (n_ : Nat)=>(show (((w.drewN n_).setCell ⟨g,2,none⟩ (.int .u64 (IntKind.u64.wrap ((IntKind.u64.wrap (gp * 6364136223846793005)) + 1442695040888963407))))).cell? _ = some _ from BV));clear GY;replace aiX:=eq_true aiX;replace aiY:=eq_true aiY;go_enter Try.func47,Try.ntmps47;go_wp2;(repeat (go_quiet (fail);try go_wp2));go_ret;exact ⟨eX,by repeat (first | (with_reducible first | exact HI0.out | apply aA.alloc | apply aA.drewN | apply aA.drew | apply aA.Zl | apply aA.Zm) | exact HI0.out),by repeat (first | (with_reducible first | exact HB.out | apply gG | apply aZ | apply aW | refine mO ?_ (aA.ge HI0.out)) | exact HB.out),by repeat (first | (with_reducible first | exact HK.out | apply aK.Zn | apply zN | apply BU | apply zO) | exact HK.out)⟩
  exact absurd H (by simp)
 simp only [Option.some.injEq,Prod.mk.injEq] at H;obtain ⟨rfl,rfl,rfl⟩:=H;go_enter Try.func47,Try.ntmps47;go_wp2;(repeat (go_quiet (fail);try go_wp2));go_ret;exact ⟨eX,by repeat (first | (with_reducible first | exact HI0.out | apply aA.alloc | apply aA.drewN | apply aA.drew | apply aA.Zl | apply aA.Zm) | exact HI0.out),by repeat (first | (with_reducible first | exact HB.out | apply gG | apply aZ | apply aW | refine mO ?_ (aA.ge HI0.out)) | exact HB.out),by repeat (first | (with_reducible first | exact HK.out | apply aK.Zn | apply zN | apply BU | apply zO) | exact HK.out)⟩
/-! ### jo: function 52 -/
def jo.l0 : Nat → Int → List Int → Int → Option (Bool)
 | 0,_,_,_=>none
 | k + 1,x0,x1,x5=>if x5 < (x1.length : Int) then (if 0 ≤ x5 then (if (rd x1 x5) < 0 then (some false) else (if (rd x1 x5) ≥ x0 then (some false) else (jo.l0 k x0 x1 (wrap64 (x5 + 1))))) else (none)) else (if (x1.length : Int) ≤ 25 then (if (x1.length : Int) = 0 then (some true) else (if 0 ≤ (wrap64 ((x1.length : Int) - 1)) then (if (wrap64 ((x1.length : Int) - 1)) < (x1.length : Int) then (some ((rd x1 (wrap64 ((x1.length : Int) - 1))) != 0)) else (none)) else (none))) else (some false))
def jo.f (k : Nat) (a0 : Int) (l1 : List Int) : Option (Bool):=jo.l0 k a0 l1 0
theorem jo.calls (k : Nat) (a0 : Int) (A1 : Option Addr) (c1 : Nat) (l1 : List Int) (r : Bool) (w : World) (hr1 : Kd.C (Kd.int .i64) w A1 l1.length l1) (hc1 : l1.length ≤ c1) (H : jo.f k a0 l1 = some r) :
  Calls Try.prog 52 #[.int .i64 a0,.slice A1 l1.length c1] w fun e w'=>e = .returned (.bool r)∧aT w w':=by
 have HR1:=zA hr1;have HC1:=zA hc1;clear hr1 hc1;unfold jo.f at H;have H':=zA H;clear H;go_enter Try.func52,Try.ntmps52;go_wp2;go_loopg [5] k (fun kq v5 w'=>∃ (eT : Int),v5 = .int .i64 eT∧aa (jo.l0 kq a0 l1 eT = some r)∧aa (kq ≤ k)∧aT w w');(case atStart=>exact ⟨(0),eS,H',⟨Nat.le_refl _⟩,by repeat (first | exact aT.refl _ | apply aT.step)⟩)
 case round =>
  clear H';(try clear c1);(try clear p2);obtain ⟨eT,rfl,HA,HK1,⟨m1,rfl⟩⟩:=hrel
  cases gk with
  | zero=>exact absurd HA.out (by simp [jo.l0])
  | succ k1 =>
   have H:=HA.out;clear HA;simp only [jo.l0] at H;replace H:=gF H;obtain ⟨rU,H⟩|⟨rU,H⟩:=H
   ·replace H:=gI H;obtain ⟨c7,H⟩|⟨c7,H⟩:=H
    ·have Ce : decide ((l1.length : Int) ≤ 25) = false:=decide_eq_false c7;have EP : decide (l1.length ≤ 25) = false:=decide_eq_false (by omega);clear c7;obtain rfl:=Option.some.inj H;go_wp2;go_ret;exact ⟨by first | rfl | (simp;done) | (simp [*];done),by repeat (first | exact aT.refl _ | apply aT.step)⟩
    have Ce : decide ((l1.length : Int) ≤ 25) = true:=decide_eq_true c7;have EP : decide (l1.length ≤ 25) = true:=decide_eq_true (by omega);clear c7;replace H:=gE H;obtain ⟨c8,uT,Gc,H⟩|⟨c8,uT,Gc,H⟩:=H
    ·have aDp : ¬ (l1 = []):=fun h_=>c8 (by rw [h_];rfl);obtain ⟨ji9,M3⟩ : ∃ j_ : Int,(wrap64 ((l1.length : Int) - 1)) = j_:=⟨_,rfl⟩;(first | rw [M3] at H | simp only [M3] at H);have aql : (IntKind.i64.wrap ((l1.length : Int) - 1)) = ji9:=(jd _).trans M3;replace H:=gD H;obtain ⟨zl,H⟩:=H;replace H:=gD H;obtain ⟨wV,H⟩:=H;obtain rfl:=Option.some.inj H;have Zo : 0 ≤ ((ji9) : Int):=oD;have Zp : (ji9) < (l1.length : Int):=oD;obtain ⟨axK,aqm,aqn⟩:=Kd.ic HR1.out (ji9) Zo Zp;cases aqm;replace Zo:=eq_true Zo;replace Zp:=eq_true Zp;go_wp2;go_ret;exact ⟨by first | rfl | (simp;done) | (simp only [← M3] <;> (first | rfl | simp)) | (simp [*];done),by repeat (first | exact aT.refl _ | apply aT.step)⟩
    clear c8;obtain rfl:=Option.some.inj H;go_wp2;go_ret;exact ⟨by first | rfl | (simp;done) | (simp [*];done),by repeat (first | exact aT.refl _ | apply aT.step)⟩
   replace H:=gD H;obtain ⟨rz,H⟩:=H;replace H:=gF H;obtain ⟨mZ,H⟩|⟨mZ,H⟩:=H
   ·replace H:=gI H;obtain ⟨c6,H⟩|⟨c6,H⟩:=H
    ·have pU : decide (a0 ≤ (rd l1 eT)) = false:=decide_eq_false c6;clear c6;have H':=zA H;clear H;have Bo : 0 ≤ (eT : Int):=oD;have Bp : eT < (l1.length : Int):=oD;obtain ⟨M4,Pk,Pn⟩:=Kd.ic HR1.out eT Bo Bp;cases Pk;replace Bo:=eq_true Bo;replace Bp:=eq_true Bp;have I6 : 0 ≤ (eT : Int):=oD;have I7 : eT < (l1.length : Int):=oD;obtain ⟨RJ,Zq,Zr⟩:=Kd.ic HR1.out eT I6 I7;obtain rfl : M4 = RJ:=(by injection Zq);replace I6:=eq_true I6;replace I7:=eq_true I7;go_wp2;go_roundg k1;(case measure=>have:=HK1.out;omega);(case rel=>exact ⟨(wrap64 (eT + 1)),eS,H',⟨by have:=HK1.out;omega⟩,by repeat (first | exact aT.refl _ | apply aT.step)⟩)
    have pU : decide (a0 ≤ (rd l1 eT)) = true:=decide_eq_true c6;clear c6;obtain rfl:=Option.some.inj H;have Bo : 0 ≤ (eT : Int):=oD;have Bp : eT < (l1.length : Int):=oD;obtain ⟨M4,Pk,Pn⟩:=Kd.ic HR1.out eT Bo Bp;cases Pk;replace Bo:=eq_true Bo;replace Bp:=eq_true Bp;have I6 : 0 ≤ (eT : Int):=oD;have I7 : eT < (l1.length : Int):=oD;obtain ⟨RJ,Zq,Zr⟩:=Kd.ic HR1.out eT I6 I7;obtain rfl : M4 = RJ:=(by injection Zq);replace I6:=eq_true I6;replace I7:=eq_true I7;go_wp2;go_ret;exact ⟨by first | rfl | (simp;done) | (simp [*];done),by repeat (first | exact aT.refl _ | apply aT.step)⟩
   obtain rfl:=Option.some.inj H;have Bo : 0 ≤ (eT : Int):=oD;have Bp : eT < (l1.length : Int):=oD;obtain ⟨M4,Pk,Pn⟩:=Kd.ic HR1.out eT Bo Bp;cases Pk;replace Bo:=eq_true Bo;replace Bp:=eq_true Bp;go_wp2;go_ret;exact ⟨by first | rfl | (simp;done) | (simp [*];done),by repeat (first | exact aT.refl _ | apply aT.step)⟩
/-! ### fH: function 98 -/
def fH.l0 : Nat → Int → Int → Int → Int → Option (Int)
 | 0,_,_,_,_=>none
 | k + 1,x0,x2,x7,x8=>if x2 > 0 then (if (Int.tmod x2 2) = 1 then (if x0 = 0 then (none) else (fH.l0 k x0 (wrap64 (Int.tdiv x2 2)) (Int.tmod (wrap64 (x7 * x8)) x0) (Int.tmod (wrap64 (x8 * x8)) x0))) else (if x0 = 0 then (none) else (fH.l0 k x0 (wrap64 (Int.tdiv x2 2)) x7 (Int.tmod (wrap64 (x8 * x8)) x0)))) else (if x0 = 0 then (none) else (some (Int.tmod x7 x0)))
def fH.f (k : Nat) (a0 : Int) (a1 : Int) (a2 : Int) : Option (Int):=(jG.f a0 a1).bind fun adO=>(fH.l0 k a0 a2 1 adO)
theorem fH.calls (k : Nat) (a0 : Int) (a1 : Int) (a2 : Int) (r : Int) (w : World) (H : fH.f k a0 a1 a2 = some r) :
  Calls Try.prog 98 #[.int .i64 a0,.int .i64 a1,.int .i64 a2] w fun e w'=>e = .returned (.int .i64 r)∧aT w w':=by
 unfold fH.f at H;replace H:=bO H;obtain ⟨adO,A4,H⟩:=H;have H':=zA H;clear H;go_enter Try.func98,Try.ntmps98;go_wp2_with (first | ((with_reducible refine ae (f:=76) rfl ?_);refine gL (some 11) Try.func76 #[.int .i64 a0,.int .i64 a1] ?_;(with_reducible refine (jG.calls a0 a1 adO _ A4.out).mono ?_);rintro e w' ⟨rfl,⟨nd,rfl⟩⟩;refine ⟨_,rfl,?_⟩));go_loopg [2,7,8] k (fun kq v2 v7 v8 w'=>∃ (xg : Int) (ny : Int) (dN : Int),v2 = .int .i64 xg∧v7 = .int .i64 ny∧v8 = .int .i64 dN∧aa (fH.l0 kq a0 xg ny dN = some r)∧aa (kq ≤ k)∧aT w w');(case atStart=>exact ⟨(a2),(1),(adO),eS,eS,eS,H',⟨Nat.le_refl _⟩,by repeat (first | exact aT.refl _ | apply aT.step)⟩)
 case round =>
  clear H';(try clear p2);obtain ⟨xg,ny,dN,rfl,rfl,rfl,HA,HK1,⟨m1,rfl⟩⟩:=hrel
  cases gk with
  | zero=>exact absurd HA.out (by simp [fH.l0])
  | succ k1 =>
   have H:=HA.out;clear HA;simp only [fH.l0] at H;replace H:=gI H;obtain ⟨c5,H⟩|⟨c5,H⟩:=H
   ·have mZ : decide (0 < xg) = false:=decide_eq_false c5;clear c5;replace H:=gI H;obtain ⟨c9,H⟩|⟨c9,H⟩:=H
    ·have CB : (a0 == 0) = false:=beq_eq_false_iff_ne.mpr c9;have JI : (a0 != 0) = true:=bne_iff_ne.mpr c9;obtain rfl:=Option.some.inj H;go_wp2;go_ret;exact ⟨by first | rfl | (simp;done) | (simp [*];done),by repeat (first | exact aT.refl _ | apply aT.step)⟩
    exact absurd H (by simp)
   have mZ : decide (0 < xg) = true:=decide_eq_true c5;clear c5;replace H:=gE H;obtain ⟨c6,pU,uQ,H⟩|⟨c6,pU,uQ,H⟩:=H
   ·replace H:=gI H;obtain ⟨c8,H⟩|⟨c8,H⟩:=H
    ·have uT : (a0 == 0) = false:=beq_eq_false_iff_ne.mpr c8;have Gc : (a0 != 0) = true:=bne_iff_ne.mpr c8;have H':=zA H;clear H;go_wp2;go_roundg k1;(case measure=>have:=HK1.out;omega);(case rel=>exact ⟨(wrap64 (Int.tdiv xg 2)),(ny),(Int.tmod (wrap64 (dN * dN)) a0),eS,eS,eS,H',⟨by have:=HK1.out;omega⟩,by repeat (first | exact aT.refl _ | apply aT.step)⟩)
    exact absurd H (by simp)
   clear c6;replace H:=gI H;obtain ⟨c7,H⟩|⟨c7,H⟩:=H
   ·have Ce : (a0 == 0) = false:=beq_eq_false_iff_ne.mpr c7;have EP : (a0 != 0) = true:=bne_iff_ne.mpr c7;have H':=zA H;clear H;go_wp2;go_roundg k1;(case measure=>have:=HK1.out;omega);(case rel=>exact ⟨(wrap64 (Int.tdiv xg 2)),(Int.tmod (wrap64 (ny * dN)) a0),(Int.tmod (wrap64 (dN * dN)) a0),eS,eS,eS,H',⟨by have:=HK1.out;omega⟩,by repeat (first | exact aT.refl _ | apply aT.step)⟩)
   exact absurd H (by simp)
/-! ### iA: function 75 -/
def iA.f (k : Nat) (a0 : Int) (a1 : Int) : Option (Int):=(fH.f k a0 a1 (wrap64 (a0 - 2))).bind fun aiZ=>(some aiZ)
theorem iA.calls (k : Nat) (a0 : Int) (a1 : Int) (r : Int) (w : World) (H : iA.f k a0 a1 = some r) :
  Calls Try.prog 75 #[.int .i64 a0,.int .i64 a1] w fun e w'=>e = .returned (.int .i64 r)∧aT w w':=by
 unfold iA.f at H;replace H:=bO H;obtain ⟨aiZ,A3,H⟩:=H;obtain rfl:=Option.some.inj H;go_enter Try.func75,Try.ntmps75;go_wp2_with (first | ((with_reducible refine ae (f:=98) rfl ?_);refine gL (some 9) Try.func98 #[.int .i64 a0,.int .i64 a1,.int .i64 (wrap64 (a0 - 2))] ?_;(with_reducible refine (fH.calls k a0 a1 (wrap64 (a0 - 2)) aiZ _ A3.out).mono ?_);rintro e w' ⟨rfl,⟨nd,rfl⟩⟩;refine ⟨_,rfl,?_⟩));go_ret;exact ⟨by first | rfl | (simp;done) | (simp [*];done),by repeat (first | exact aT.refl _ | apply aT.step)⟩
/-! ### fG: function 80 -/
def fG.l0 : Nat → Int → Int → Option (Bool)
 | 0,_,_=>none
 | k + 1,x0,x3=>if (wrap64 (x3 * x3)) ≤ x0 then (if x3 = 0 then (none) else (if (Int.tmod x0 x3) = 0 then (some false) else (fG.l0 k x0 (wrap64 (x3 + 1))))) else (some true)
def fG.f (k : Nat) (a0 : Int) : Option (Bool):=(jk.f a0 2 10007).bind fun aqo=>(if aqo = true then (fG.l0 k a0 2) else (some false))
theorem fG.calls (k : Nat) (a0 : Int) (r : Bool) (w : World) (H : fG.f k a0 = some r) :
  Calls Try.prog 80 #[.int .i64 a0] w fun e w'=>e = .returned (.bool r)∧aT w w':=by
 unfold fG.f at H;replace H:=bO H;obtain ⟨aqo,A2,H⟩:=H;replace H:=gB H;obtain ⟨rfl,H⟩|⟨rfl,H⟩:=H
 ·have H':=zA H;clear H;go_enter Try.func80,Try.ntmps80;go_wp2_with (first | ((with_reducible refine ae (f:=53) rfl ?_);refine gL (some 5) Try.func53 #[.int .i64 a0,.int .i64 2,.int .i64 10007] ?_;(with_reducible refine (jk.calls a0 2 10007 true _ A2.out).mono ?_);rintro e w' ⟨rfl,⟨nd,rfl⟩⟩;refine ⟨_,rfl,?_⟩));go_loopg [3] k (fun kq v3 w'=>∃ (lv : Int),v3 = .int .i64 lv∧aa (fG.l0 kq a0 lv = some r)∧aa (kq ≤ k)∧aT w w');(case atStart=>exact ⟨(2),eS,H',⟨Nat.le_refl _⟩,by repeat (first | exact aT.refl _ | apply aT.step)⟩)
  case round =>
   clear H';(try clear p2);(try clear c3);obtain ⟨lv,rfl,HA,HK1,⟨m1,rfl⟩⟩:=hrel
   cases gk with
   | zero=>exact absurd HA.out (by simp [fG.l0])
   | succ k1 =>
    have H:=HA.out;clear HA;simp only [fG.l0] at H;replace H:=gF H;obtain ⟨rz,H⟩|⟨rz,H⟩:=H
    ·obtain rfl:=Option.some.inj H;go_wp2;go_ret;exact ⟨by first | rfl | (simp;done) | (simp [*];done),by repeat (first | exact aT.refl _ | apply aT.step)⟩
    replace H:=gI H;obtain ⟨c5,H⟩|⟨c5,H⟩:=H
    ·have mZ : (lv == 0) = false:=beq_eq_false_iff_ne.mpr c5;have uS : (lv != 0) = true:=bne_iff_ne.mpr c5;replace H:=gE H;obtain ⟨c6,pU,uQ,H⟩|⟨c6,pU,uQ,H⟩:=H
     ·have H':=zA H;clear H;go_wp2;go_roundg k1;(case measure=>have:=HK1.out;omega);(case rel=>exact ⟨(wrap64 (lv + 1)),eS,H',⟨by have:=HK1.out;omega⟩,by repeat (first | exact aT.refl _ | apply aT.step)⟩)
     clear c6;obtain rfl:=Option.some.inj H;go_wp2;go_ret;exact ⟨by first | rfl | (simp;done) | (simp [*];done),by repeat (first | exact aT.refl _ | apply aT.step)⟩
    exact absurd H (by simp)
 ·obtain rfl:=Option.some.inj H;go_enter Try.func80,Try.ntmps80;go_wp2_with (first | ((with_reducible refine ae (f:=53) rfl ?_);refine gL (some 5) Try.func53 #[.int .i64 a0,.int .i64 2,.int .i64 10007] ?_;(with_reducible refine (jk.calls a0 2 10007 false _ A2.out).mono ?_);rintro e w' ⟨rfl,⟨nd,rfl⟩⟩;refine ⟨_,rfl,?_⟩));go_ret;exact ⟨by first | rfl | (simp;done) | (simp [*];done),by repeat (first | exact aT.refl _ | apply aT.step)⟩
/-! ### pF: function 49 -/
def pF.f (k : Nat) (a0 : Int) : Option (Int):=(fG.f k a0).bind fun aqp=>(if aqp = true then (some a0) else (some 7))
theorem pF.calls (k : Nat) (a0 : Int) (r : Int) (w : World) (H : pF.f k a0 = some r) :
  Calls Try.prog 49 #[.int .i64 a0] w fun e w'=>e = .returned (.int .i64 r)∧aT w w':=by
 unfold pF.f at H;replace H:=bO H;obtain ⟨aqp,A2,H⟩:=H;replace H:=gB H;obtain ⟨rfl,H⟩|⟨rfl,H⟩:=H
 ·obtain rfl:=Option.some.inj H;go_enter Try.func49,Try.ntmps49;go_wp2_with (first | ((with_reducible refine ae (f:=80) rfl ?_);refine gL (some 4) Try.func80 #[.int .i64 a0] ?_;(with_reducible refine (fG.calls k a0 true _ A2.out).mono ?_);rintro e w' ⟨rfl,⟨nd,rfl⟩⟩;refine ⟨_,rfl,?_⟩));go_ret;exact ⟨by first | rfl | (simp;done) | (simp [*];done),by repeat (first | exact aT.refl _ | apply aT.step)⟩
 ·obtain rfl:=Option.some.inj H;go_enter Try.func49,Try.ntmps49;go_wp2_with (first | ((with_reducible refine ae (f:=80) rfl ?_);refine gL (some 4) Try.func80 #[.int .i64 a0] ?_;(with_reducible refine (fG.calls k a0 false _ A2.out).mono ?_);rintro e w' ⟨rfl,⟨nd,rfl⟩⟩;refine ⟨_,rfl,?_⟩));go_ret;exact ⟨by first | rfl | (simp;done) | (simp [*];done),by repeat (first | exact aT.refl _ | apply aT.step)⟩
/-! ### gX: function 81 -/
def gX.l0 : Nat → Int → List Int → Int → Option (Bool)
 | 0,_,_,_=>none
 | k + 1,x0,x1,x5=>if x5 < (x1.length : Int) then (if 0 ≤ x5 then ((jk.f (rd x1 x5) 0 (wrap64 (x0 - 1))).bind fun aqr=>(if aqr = true then (gX.l0 k x0 x1 (wrap64 (x5 + 1))) else (some false))) else (none)) else (some true)
def gX.f (k : Nat) (a0 : Int) (l1 : List Int) : Option (Bool):=gX.l0 k a0 l1 0
theorem gX.calls (k : Nat) (a0 : Int) (A1 : Option Addr) (c1 : Nat) (l1 : List Int) (r : Bool) (w : World) (hr1 : Kd.C (Kd.int .i64) w A1 l1.length l1) (hc1 : l1.length ≤ c1) (H : gX.f k a0 l1 = some r) :
  Calls Try.prog 81 #[.int .i64 a0,.slice A1 l1.length c1] w fun e w'=>e = .returned (.bool r)∧aT w w':=by
 have HR1:=zA hr1;have HC1:=zA hc1;clear hr1 hc1;unfold gX.f at H;have H':=zA H;clear H;go_enter Try.func81,Try.ntmps81;go_wp2;go_loopg [5] k (fun kq v5 w'=>∃ (eT : Int),v5 = .int .i64 eT∧aa (gX.l0 kq a0 l1 eT = some r)∧aa (kq ≤ k)∧aT w w');(case atStart=>exact ⟨(0),eS,H',⟨Nat.le_refl _⟩,by repeat (first | exact aT.refl _ | apply aT.step)⟩)
 case round =>
  clear H';(try clear c1);(try clear p2);obtain ⟨eT,rfl,HA,HK1,⟨m1,rfl⟩⟩:=hrel
  cases gk with
  | zero=>exact absurd HA.out (by simp [gX.l0])
  | succ k1 =>
   have H:=HA.out;clear HA;simp only [gX.l0] at H;replace H:=gF H;obtain ⟨rU,H⟩|⟨rU,H⟩:=H
   ·obtain rfl:=Option.some.inj H;go_wp2;go_ret;exact ⟨by first | rfl | (simp;done) | (simp [*];done),by repeat (first | exact aT.refl _ | apply aT.step)⟩
   replace H:=gD H;obtain ⟨rz,H⟩:=H;replace H:=bO H;obtain ⟨aqr,A5,H⟩:=H;replace H:=gB H;obtain ⟨rfl,H⟩|⟨rfl,H⟩:=H
   ·have H':=zA H;clear H;have RL : 0 ≤ (eT : Int):=oD;have RN : eT < (l1.length : Int):=oD;obtain ⟨aqs,ai0,adP⟩:=Kd.ic HR1.out eT RL RN;cases ai0;replace RL:=eq_true RL;replace RN:=eq_true RN;go_wp2_with (first | ((with_reducible refine ae (f:=53) rfl ?_);refine gL (some 18) Try.func53 #[.int .i64 (rd l1 eT),.int .i64 0,.int .i64 (wrap64 (a0 - 1))] ?_;(with_reducible refine (jk.calls (rd l1 eT) 0 (wrap64 (a0 - 1)) true _ A5.out).mono ?_);rintro e w' ⟨rfl,⟨nd,rfl⟩⟩;refine ⟨_,rfl,?_⟩));go_roundg k1;(case measure=>have:=HK1.out;omega);(case rel=>exact ⟨(wrap64 (eT + 1)),eS,H',⟨by have:=HK1.out;omega⟩,by repeat (first | exact aT.refl _ | apply aT.step)⟩)
   ·obtain rfl:=Option.some.inj H;have RL : 0 ≤ (eT : Int):=oD;have RN : eT < (l1.length : Int):=oD;obtain ⟨aqs,ai0,adP⟩:=Kd.ic HR1.out eT RL RN;cases ai0;replace RL:=eq_true RL;replace RN:=eq_true RN;go_wp2_with (first | ((with_reducible refine ae (f:=53) rfl ?_);refine gL (some 18) Try.func53 #[.int .i64 (rd l1 eT),.int .i64 0,.int .i64 (wrap64 (a0 - 1))] ?_;(with_reducible refine (jk.calls (rd l1 eT) 0 (wrap64 (a0 - 1)) false _ A5.out).mono ?_);rintro e w' ⟨rfl,⟨nd,rfl⟩⟩;refine ⟨_,rfl,?_⟩));go_ret;exact ⟨by first | rfl | (simp;done) | (simp [*];done),by repeat (first | exact aT.refl _ | apply aT.step)⟩
/-! ### dU: function 106 -/
def dU.l0 : Nat → Int → List Int → List Int → Int → Option (List Int)
 | 0,_,_,_,_=>none
 | k + 1,x0,x1,x5,x6=>if x6 < (x1.length : Int) then (if 0 ≤ (wrap64 (x6 - 1)) then (if (wrap64 (x6 - 1)) < (x1.length : Int) then (if 0 ≤ x6 then (if x0 = 0 then (none) else (if x5.length < 17592186044416 then (dU.l0 k x0 x1 (x5 ++ [Int.tmod (wrap64 ((rd x1 (wrap64 (x6 - 1))) + (rd x1 x6))) x0]) (wrap64 (x6 + 1))) else (none))) else (none)) else (none)) else (none)) else (if x0 = 0 then (none) else (if x5.length < 17592186044416 then (some (x5 ++ [(1 : Int) % x0])) else (none)))
def dU.f (k : Nat) (a0 : Int) (l1 : List Int) : Option (List Int):=if a0 = 0 then (none) else (dU.l0 k a0 l1 (([(1 : Int) % a0] : List Int)) 1)
def dU.T5 : Bool × List (List Nat × List Nat):=(true,[([],[]),([],[]),([],[]),([2],[2]),([1,3],[1,3]),([4],[4]),([],[]),([],[]),([6,7],[6,7]),([8],[8]),([5,9],[5,9]),([],[]),([10,11],[10,11]),([12],[12]),([0,13],[0,13]),([14,14,0,1,2,3,4,5,6,7,8,9,10,11,12,13,14],[0,14])])
def dU.B5 : List Nat:=[0,0,0,4,14,30,0,0,192,448,1022,0,4094,8190,16383,32767]
theorem dU.JO : nI .any (opsOf Try.f106 5) = dU.T5:=by kernel_rfl
theorem dU.Cq : jT dU.T5.2 dU.B5 = true:=by kernel_rfl
theorem dU.calls (k : Nat) (a0 : Int) (A1 : Option Addr) (c1 : Nat) (l1 : List Int) (r : List Int) (w : World) (hr1 : Kd.C (Kd.int .i64) w A1 l1.length l1) (hc1 : l1.length ≤ c1) (H : dU.f k a0 l1 = some r) :
  Calls Try.prog 106 #[.int .i64 a0,.slice A1 l1.length c1] w fun e w'=>∃ v0_ : Value,e = .returned (v0_)∧Kd.R (Kd.int .i64) 2 w' w.heap.size (fun _=>True) v0_ r∧Below w.heap.size w w':=by
 have HR1:=zA hr1;have HC1:=zA hc1;clear hr1 hc1;have HB:=zA (Below.refl w.heap.size w);unfold dU.f at H;replace H:=gI H;obtain ⟨c3,H⟩|⟨c3,H⟩:=H
 ·have rU : (a0 == 0) = false:=beq_eq_false_iff_ne.mpr c3;have EN : (a0 != 0) = true:=bne_iff_ne.mpr c3;obtain ⟨axL,Zt⟩:=eY ([(1 : Int) % a0] : List Int);(try rw [←Zt.out] at H);have H':=zA H;clear H;go_enter Try.func106,Try.ntmps106;go_wp2_with (first | ((with_reducible refine bI (N:=9) rfl ?_);refine Kd.rC (Kd.int .i64) _ 2 ?hg (N:=9) ?hd (xs:=([(1 : Int) % a0] : List Int)) (inner:=[.int .i64 ((1 : Int) % a0)]) (ok:=fun _=>True) (okp:=fun _=>True) ?hr ?hp (fun _ hk=>hk) trivial (Below.refl _ _) (Nat.le_refl _) (by simp) ?_;(case hd=>rfl);(case hg=>rfl);(case hr=>first | (go_simp;done) | (go_simp;rfl));(case hp=>exact (dn.one (show Kd.M (Kd.int .i64) _ _ _ ((1 : Int) % a0) [.int .i64 ((1 : Int) % a0)] from rfl) (dn.none _ _)));intro aDq w4 ho5 hb hg_ hnew_;clear hg_ hnew_;(first | rw [← Zt.out] at ho5 | (simp only [Int.reduceToNat] at ho5;rw [← Zt.out] at ho5));have aqt:=zA (Kd.bD ho5 (af (uH HB.out)));replace HB:=xH HB hb;clear hb ho5));go_loopg [5,6] k (fun kq v5 v6 w'=>∃ (eT : List Int) (pJ : Int),v6 = .int .i64 pJ∧aa (dU.l0 kq a0 l1 eT pJ = some r)∧aa (kq ≤ k)∧aa (Kd.R (Kd.int .i64) 2 w' w.heap.size (fun _=>True) v5 eT)∧aa (Below w.heap.size w w'));(case atStart=>exact ⟨(axL),(1),eS,H',⟨Nat.le_refl _⟩,⟨uR aqt.out⟩,⟨uH HB.out⟩⟩)
  case round =>
   clear H';(try clear c1);(try clear p2);(try clear c3);(try clear rU);(try clear EN);obtain ⟨eT,pJ,rfl,HA,HK1,ek,HB⟩:=hrel
   cases gk with
   | zero=>exact absurd HA.out (by simp [dU.l0])
   | succ k1 =>
    have H:=HA.out;clear HA;simp only [dU.l0] at H;replace H:=gF H;obtain ⟨pU,H⟩|⟨pU,H⟩:=H
    ·replace H:=gI H;obtain ⟨c15,H⟩|⟨c15,H⟩:=H
     ·have oU : (a0 == 0) = false:=beq_eq_false_iff_ne.mpr c15;have zk : (a0 != 0) = true:=bne_iff_ne.mpr c15;replace H:=gZ H;obtain ⟨Yt,H⟩:=H;obtain ⟨aDr,af0⟩:=eY (eT ++ [(1 : Int) % a0] : List Int);(try rw [←af0.out] at H);obtain rfl:=Option.some.inj H;go_wp2_with (first | ((with_reducible refine eO (b:=.append) (xs:=#[.tmp 31,.tmp 34]) rfl ?_);at_builtin;refine Kd.kW (Kd.int .i64) (w0:=w) w.heap.size rfl (.tmp 31) (.tmp 34) 24 2 (.int .i64 0) 8 rfl Try.underlying24 lm rfl (by decide) (by omega) u5 eT ((1 : Int) % a0) [.int .i64 ((1 : Int) % a0)] (fun _=>True) (fun _=>False) rfl rfl ?aP (fun _ hk=>hk.elim) ?aF ?aO ?aB ?aS ?aL ?_;(case aP=>exact rfl);(case aB=>exact (uH HB.out));(case aF=>exact (fun _ _=>trivial));(case aO=>exact (uR ek.out));(case aS=>exact (af (uH HB.out)));(case aL=>have:=Yt.out;omega);intro aDs w17 ho hb hg hat;rw [← af0.out] at ho;replace HB:=zA (hb);have aqu:=zA (ho);clear ek ho hb hg hat));go_ret;exact ⟨_,eX,uR aqu.out,uH HB.out⟩
     exact absurd H (by simp)
    obtain ⟨ji7,EQ⟩ : ∃ j_ : Int,(wrap64 (pJ - 1)) = j_:=⟨_,rfl⟩;(first | rw [EQ] at H | simp only [EQ] at H);have ae2 : (IntKind.i64.wrap (pJ - 1)) = ji7:=(jd _).trans EQ;replace H:=gD H;obtain ⟨uT,H⟩:=H;replace H:=gD H;obtain ⟨CB,H⟩:=H;replace H:=gD H;obtain ⟨zl,H⟩:=H;replace H:=gI H;obtain ⟨c11,H⟩|⟨c11,H⟩:=H
    ·have wV : (a0 == 0) = false:=beq_eq_false_iff_ne.mpr c11;have Kq : (a0 != 0) = true:=bne_iff_ne.mpr c11;replace H:=gZ H;obtain ⟨aqv,H⟩:=H;obtain ⟨axM,af1⟩:=eY (eT ++ [Int.tmod (wrap64 ((rd l1 (ji7)) + (rd l1 pJ))) a0] : List Int);(try rw [←af1.out] at H);have H':=zA H;clear H;(try go_wp2);replace ek:=zA (Kd.iJ ek.out);replace HB:=zA (aW HB.out);have ai1 : 0 ≤ ((ji7) : Int):=oD;have ai2 : (ji7) < (l1.length : Int):=oD;obtain ⟨Zu,e264,GZ⟩:=Kd.ic HR1.out (ji7) ai1 ai2;have G5:=GZ;cases e264;replace GZ:=hc HB GZ;replace ai1:=eq_true ai1;replace ai2:=eq_true ai2;have ai3 : 0 ≤ (pJ : Int):=oD;have ai4 : pJ < (l1.length : Int):=oD;obtain ⟨aqw,axN,G6⟩:=Kd.ic HR1.out pJ ai3 ai4;have G7:=G6;obtain rfl : Zu = aqw:=(by injection axN);replace G6:=hc HB G6;replace ai3:=eq_true ai3;replace ai4:=eq_true ai4;refine ky (n:=16) (S:=fun w'=>w'.cell? (Zu.add ((ji7)).toNat) = some (.int .i64 (rd l1 (ji7)))∧w'.cell? (Zu.add (pJ).toNat) = some (.int .i64 (rd l1 pJ))) (ds:=[]) #[false,false,false,false,false,false,false,false,false,false,false,false,false,false,false,false] (by kernel_rfl) rfl rfl ⟨(hcu HB G5),(hcu HB G7)⟩ (fun hHeld=>?_);refine gV dU.JO dU.Cq (fun HT_ HW_=>?_);generalize wr.drew = w13 at ek HB GZ G6 hHeld ⊢;refine pu_ 0 16 (bl 16 1) HT_ ?_;refine pu_ 1 17 (bl 16 3) HT_ ?_;refine pu_ 2 18 (bl 16 7) HT_ ?_;refine pu_ 3 19 (bl 16 15) HT_ ?_;refine pu_ 4 20 (bl 16 31) HT_ ?_;refine pu_ 6 22 (bl 16 95) HT_ ?_;refine pu_ 7 23 (bl 16 223) HT_ ?_;refine pu_ 8 24 (bl 16 479) HT_ ?_;refine pu_ 11 27 (bl 16 2527) HT_ ?_;refine ta_ 5 21 (bl 16 2559) HT_ HW_ hHeld ?_;refine ta_ 9 25 (bl 16 3071) HT_ HW_ hHeld ?_;refine pu_ 10 26 (bl 16 4095) HT_ ?_;refine pu_ 12 28 (bl 16 8191) HT_ ?_;refine on_ 13 (some 29) (bl 16 16383) HT_ (fun K hK=>?_);refine EM (w1:=?_) (v:=?_) (by rfl) rfl ?_ ?_;rotate_left 2
     ·go_simp;constructor
      ·rfl
      ·rfl
     refine hK.out _ _ ⟨(World.cell?_alloc_lt _ _ _ (World.block_lt_of_cell? _ _ ((hcu HB G5)))).trans ((hcu HB G5)),(World.cell?_alloc_lt _ _ _ (World.block_lt_of_cell? _ _ ((hcu HB G7)))).trans ((hcu HB G7))⟩ (fun hHeld=>?_);clear hK K;refine no_ 29 ?_;refine on_ 14 (some 30) (bl 16 32767) HT_ (fun K hK=>?_);refine Kd.yU (Kd.int .i64) (w0:=w) w.heap.size (by rfl) (.tmp 16) (.tmp 29) 24 2 (.int .i64 0) 8 rfl Try.underlying24 lm rfl (by decide) (by omega) u5 eT (Int.tmod (wrap64 ((rd l1 (ji7)) + (rd l1 pJ))) a0) [.int .i64 (Int.tmod (wrap64 ((rd l1 (ji7)) + (rd l1 pJ))) a0)] (fun _=>True) (fun _=>False) rfl rfl ?aP (fun _ hk=>hk.elim) ?aF ?aO ?aB ?aS ?aL ?_;(case aP=>exact rfl);(case aB=>exact (uH HB.out));(case aF=>exact (fun _ _=>trivial));(case aO=>exact (uR ek.out));(case aS=>exact (af (uH HB.out)));(case aL=>have:=aqv.out;omega);intro aDt w14 ho hb hg hat;rw [← af1.out] at ho;replace HB:=zA (hb);have aqx:=zA (ho);clear ek;clear ho hb hg hat;refine hK.out _ _ ⟨(hcu HB G5),(hcu HB G7)⟩ (fun hHeld=>?_);clear hK K;refine no_ 30 ?_;refine pu_ 15 5 (bl 16 65535) HT_ ?_;refine done_ (done_of HT_.out (by kernel_rfl)) ?_;(try go_wp2);go_roundg k1;(case measure=>have:=HK1.out;omega);(case rel=>exact ⟨(axM),(wrap64 (pJ + 1)),eS,H',⟨by have:=HK1.out;omega⟩,⟨uR aqx.out⟩,⟨uH HB.out⟩⟩)
    exact absurd H (by simp)
 exact absurd H (by simp)
/-! ### jh: function 104 -/
def jh.l0 : Nat → Int → Int → List Int → List Int → Int → Int → Option (Int)
 | 0,_,_,_,_,_,_=>none
 | k + 1,x0,x1,x2,x3,x9,x10=>if x10 < x1 then (if 0 ≤ x10 then (if x10 < (x2.length : Int) then (if x10 < (x3.length : Int) then (if x0 = 0 then (none) else (jh.l0 k x0 x1 x2 x3 (Int.tmod (wrap64 (x9 + (wrap64 ((rd x2 x10) * (rd x3 x10))))) x0) (wrap64 (x10 + 1)))) else (none)) else (none)) else (none)) else (some x9)
def jh.f (k : Nat) (a0 : Int) (a1 : Int) (l2 : List Int) (l3 : List Int) : Option (Int):=if a1 = 0 then (if a0 = 0 then (none) else (some ((1 : Int) % a0))) else (jh.l0 k a0 a1 l2 l3 0 0)
theorem jh.calls (k : Nat) (a0 : Int) (a1 : Int) (A2 : Option Addr) (c2 : Nat) (l2 : List Int) (A3 : Option Addr) (c3 : Nat) (l3 : List Int) (r : Int) (w : World) (hr2 : Kd.C (Kd.int .i64) w A2 l2.length l2) (hc2 : l2.length ≤ c2) (hr3 : Kd.C (Kd.int .i64) w A3 l3.length l3) (hc3 : l3.length ≤ c3) (H : jh.f k a0 a1 l2 l3 = some r) :
  Calls Try.prog 104 #[.int .i64 a0,.int .i64 a1,.slice A2 l2.length c2,.slice A3 l3.length c3] w fun e w'=>e = .returned (.int .i64 r)∧aT w w':=by
 have HR2:=zA hr2;have HC2:=zA hc2;clear hr2 hc2;have HR3:=zA hr3;have HC3:=zA hc3;clear hr3 hc3;unfold jh.f at H;replace H:=gE H;obtain ⟨c5,mZ,uS,H⟩|⟨c5,mZ,uS,H⟩:=H
 ·have H':=zA H;clear H;go_enter Try.func104,Try.ntmps104;go_wp2;(repeat (go_quiet (fail);try go_wp2));go_loopg [9,10] k (fun kq v9 v10 w'=>∃ (nZ : Int) (fI : Int),v9 = .int .i64 nZ∧v10 = .int .i64 fI∧aa (jh.l0 kq a0 a1 l2 l3 nZ fI = some r)∧aa (kq ≤ k)∧aT w w');(case atStart=>exact ⟨(0),(0),eS,eS,H',⟨Nat.le_refl _⟩,by repeat (first | exact aT.refl _ | apply aT.step)⟩)
  case round =>
   clear H';(try clear c1);(try clear c2);(try clear p2);(try clear c3);(try clear c5);(try clear mZ);(try clear uS);(try clear c6);(try clear pU);(try clear uQ);obtain ⟨nZ,fI,rfl,rfl,HA,HK1,⟨m1,rfl⟩⟩:=hrel
   cases gk with
   | zero=>exact absurd HA.out (by simp [jh.l0])
   | succ k1 =>
    have H:=HA.out;clear HA;simp only [jh.l0] at H;replace H:=gF H;obtain ⟨Ce,H⟩|⟨Ce,H⟩:=H
    ·obtain rfl:=Option.some.inj H;go_wp2;(repeat (go_quiet (fail);try go_wp2));go_ret;exact ⟨by first | rfl | (simp;done) | (simp [*];done),by repeat (first | exact aT.refl _ | apply aT.step)⟩
    replace H:=gD H;obtain ⟨uT,H⟩:=H;replace H:=gD H;obtain ⟨CB,H⟩:=H;replace H:=gD H;obtain ⟨zl,H⟩:=H;replace H:=gI H;obtain ⟨c11,H⟩|⟨c11,H⟩:=H
    ·have wV : (a0 == 0) = false:=beq_eq_false_iff_ne.mpr c11;have Kq : (a0 != 0) = true:=bne_iff_ne.mpr c11;have H':=zA H;clear H;have ai5 : 0 ≤ (fI : Int):=oD;have ai6 : fI < (l2.length : Int):=oD;obtain ⟨aBk,e252,ava⟩:=Kd.ic HR2.out fI ai5 ai6;cases e252;replace ai5:=eq_true ai5;replace ai6:=eq_true ai6;have ai7 : 0 ≤ (fI : Int):=oD;have ai8 : fI < (l3.length : Int):=oD;obtain ⟨aBl,axO,avb⟩:=Kd.ic HR3.out fI ai7 ai8;cases axO;replace ai7:=eq_true ai7;replace ai8:=eq_true ai8;go_wp2;(repeat (go_quiet (fail);try go_wp2));go_roundg k1;(case measure=>have:=HK1.out;omega);(case rel=>exact ⟨(Int.tmod (wrap64 (nZ + (wrap64 ((rd l2 fI) * (rd l3 fI))))) a0),(wrap64 (fI + 1)),eS,eS,H',⟨by have:=HK1.out;omega⟩,by repeat (first | exact aT.refl _ | apply aT.step)⟩)
    exact absurd H (by simp)
 clear c5;replace H:=gI H;obtain ⟨c6,H⟩|⟨c6,H⟩:=H
 ·have pU : (a0 == 0) = false:=beq_eq_false_iff_ne.mpr c6;have uQ : (a0 != 0) = true:=bne_iff_ne.mpr c6;obtain rfl:=Option.some.inj H;go_enter Try.func104,Try.ntmps104;go_wp2;(repeat (go_quiet (fail);try go_wp2));go_ret;exact ⟨by first | rfl | (simp;done) | (simp [*];done),by repeat (first | exact aT.refl _ | apply aT.step)⟩
 exact absurd H (by simp)
/- A source of drawn numbers, what is kept beside it: carried over by instances. -/
open Go Go.RowKit Go.Proofs.YtilbjbahmilhkaaW.PrintWords Go.Proofs.YtilbjbahmilhkaaW.PrintLast Go.Proofs.YtilbjbahmilhkaaW.PrintMore
class NeB (g k : Nat) : Prop where
  ne : g ≠ k
theorem neI {g k : Nat} (h : aa (g ≠ k)) : NeB g k:=⟨h.out⟩
/-- The block g stays as it is. -/
class UpB (g : Nat) (w0 w : World) : Prop where
  up : ∀ {o : Obj},w0.heap[g]? = some o → w.heap[g]? = some o
instance UpB.refl (g : Nat) (w : World) : UpB g w w:=⟨fun h=>h⟩
instance UpB.alloc (g : Nat) (w0 w : World) (o : Obj) [u : UpB g w0 w] : UpB g w0 (w.alloc o):=⟨fun h=>bW (u.up h) (gG (Below.refl _ _) o)⟩
instance UpB.drew (g : Nat) (w0 w : World) [u : UpB g w0 w] : UpB g w0 w.drew:=⟨fun h=>bW (u.up h) (aW (Below.refl _ _))⟩
instance UpB.drewN (g : Nat) (w0 w : World) (n : Nat) [u : UpB g w0 w] : UpB g w0 (w.drewN n):=⟨fun h=>bW (u.up h) (aZ (Below.refl _ _) n)⟩
instance UpB.setCell (g : Nat) (w0 w : World) (k j : Nat) (v : Value) [u : UpB g w0 w] [q : NeB g k] : UpB g w0 (w.setCell ⟨k,j,none⟩ v):=⟨fun h=>(Below.heap_setCell w ⟨k,j,none⟩ v g q.ne).trans (u.up h)⟩
theorem uI {w0 W w : World} {g : Nat} {f0 : List Int} {f1 f2 : Int} (h : aA w0 W g f0 f1 f2) [u : UpB g W w] : aA w0 w g f0 f1 f2:=by
  obtain ⟨A,c,h1,h2⟩:=h
  exact ⟨A,c,u.up h1,h2⟩
/-- All but g, and but what lies behind the border, stays. -/
class UpK (b g : Nat) (w0 w : World) : Prop where
  up : ∀ {w1 : World},b = w1.heap.size → aK w1 w0 g none → aK w1 w g none
instance UpK.refl (b g : Nat) (w : World) : UpK b g w w:=⟨fun _ h=>h⟩
instance UpK.alloc (b g : Nat) (w0 w : World) (o : Obj) [u : UpK b g w0 w] : UpK b g w0 (w.alloc o):=⟨fun e h=>zO (u.up e h) o⟩
instance UpK.drew (b g : Nat) (w0 w : World) [u : UpK b g w0 w] : UpK b g w0 w.drew:=⟨fun e h=>BU (u.up e h)⟩
instance UpK.drewN (b g : Nat) (w0 w : World) (n : Nat) [u : UpK b g w0 w] : UpK b g w0 (w.drewN n):=⟨fun e h=>zN (u.up e h) n⟩
instance UpK.far (b g : Nat) (w0 w : World) (k j : Nat) (v : Value) [u : UpK b g w0 w] [q : Geq b k] : UpK b g w0 (w.setCell ⟨k,j,none⟩ v):=⟨by rintro w1 rfl h;exact Zv (u.up rfl h) q.geq v⟩
instance UpK.own (b g : Nat) (w0 w : World) (j : Nat) (v : Value) [u : UpK b g w0 w] : UpK b g w0 (w.setCell ⟨g,j,none⟩ v):=⟨fun e h=>aK.Zn (u.up e h) j v⟩
theorem uK {w W w' : World} {g : Nat} (h : aK w W g none) [u : UpK w.heap.size g W w'] : aK w w' g none:=u.up rfl h
/-! ### jH: function 58 -/
def jH.f (bU : List Int) (fP : Int) (gp : Int) (l1 : List Int) : Option (Int × Int × Int):=(aX.f bU fP gp (l1.length : Int)).bind fun Po=>(if 0 ≤ Po.1 then (if Po.1 < (l1.length : Int) then (some (rd l1 Po.1,Po.2.1,Po.2.2)) else (none)) else (none))
theorem jH.calls (g : Nat) (bU : List Int) (fP : Int) (gp : Int) (A1 : Option Addr) (c1 : Nat) (l1 : List Int) (r1 : Int) (r2 : Int) (r3 : Int) (w0 w : World) (hI : aA w0 w g bU fP gp) (hB : Below w0.heap.size w0 w) (hr1 : Kd.C (Kd.int .i64) w A1 l1.length l1) (hc1 : l1.length ≤ c1) (hf1 : ∀ ad,A1 = some ad → 0 < l1.length → ad.block ≠ g) (H : jH.f bU fP gp l1 = some (r1,r2,r3)) :
  Calls Try.prog 58 #[.pointer (some ⟨g,0,none⟩),.slice A1 l1.length c1] w fun e w'=>e = .returned (.int .i64 r1)∧aA w0 w' g bU r2 r3∧Below w0.heap.size w0 w'∧aK w w' g none:=by
 have HR1:=zA hr1;have HC1:=zA hc1;clear hr1 hc1;have HI0:=zA hI;have:=geI (zA (aA.ge HI0.out));have HK:=zA (aK.refl w g none);have HL:=zA hB.size;clear hI;have HW0:=zA hB.size;have HB:=zA hB;clear hB;unfold jH.f at H;replace H:=bO H;obtain ⟨⟨t159,t160,axP⟩,A3,H⟩:=H;(try dsimp only at H);replace H:=gD H;obtain ⟨rz,H⟩:=H;replace H:=gD H;obtain ⟨mZ,H⟩:=H;simp only [Option.some.injEq,Prod.mk.injEq] at H;obtain ⟨rfl,rfl,rfl⟩:=H;go_enter Try.func58,Try.ntmps58;go_wp2_with (first | ((with_reducible refine ae (f:=47) rfl ?_);refine gL (some 9) Try.func47 #[.pointer (some ⟨g,0,none⟩),.int .i64 (l1.length : Int)] ?_;(with_reducible refine (aX.calls g bU fP gp (l1.length : Int) t159 t160 axP w0 _ ?side1 ?side2 A3.out).mono ?_);(case side1=>exact uI HI0.out);(case side2=>exact uH HB.out);rintro e w6 ⟨rfl,hi,hb,hk⟩;refine ⟨_,rfl,?_⟩;replace HK:=zA (aK.trans (uK HK.out) hk (.inl rfl));replace HB:=zA (hb);replace HI0:=zA (hi);(try clear hb);(try clear hk);(try clear hi);have ai9 : 0 ≤ (t159 : Int):=of_decide_eq_true (by first | (with_reducible assumption) | assumption);have aja : t159 < (l1.length : Int):=of_decide_eq_true (by first | (with_reducible assumption) | assumption);obtain ⟨aqy,axQ,UH⟩:=Kd.ic HR1.out t159 ai9 aja;cases axQ;replace UH:=WG HK.out UH (by first | (rw [add_block];exact hf1 _ rfl (by omega)) | exact hf1 _ rfl (by omega) | exact hf1 aqy rfl (by omega));replace ai9:=eq_true ai9;replace aja:=eq_true aja));go_ret;exact ⟨eX,uI HI0.out,uH HB.out,uK HK.out⟩
end Go.Proofs.Ytilbjbahmilhkaa.Pr
