/- Texts of this session in one: what functions of the program compute, and plain facts of it, under the conditions that each theorem names. -/
import Derived.Laws.BitsLemmas
import Derived.Test.YtilbjbahmilhkaaKgonals1
import Derived.Test.YtilbjbahmilhkaaKgonals2
import Derived.Test.YtilbjbahmilhkaaKgonals3
import Derived.Test.YtilbjbahmilhkaaKgonals4
import Derived.Test.YtilbjbahmilhkaaKgonals7
namespace Go.Proofs.Ytilbjbahmilhkaa.Pr
open Go.RowKit Go.Proofs.YtilbjbahmilhkaaW.PrintWords Go.Proofs.YtilbjbahmilhkaaW.PrintLast Go.Proofs.YtilbjbahmilhkaaW.PrintMore
attribute [local go_sem] o9 pg qX qY nM nN pq pu   -- for this text's walks alone
set_option linter.unusedVariables false
set_option maxHeartbeats 8000000
set_option maxRecDepth 100000
set_option linter.unusedSimpArgs false
/-! ### ay: function 17 -/
mutual
def ay.j0 : Nat → List Int → Bool → Int → List Int → Int → Option (Bool × Int)
 | 0,_,_,_,_,_=>none
 | k + 1,x1,x35,AL,y5,Xe=>if x35 = true then (some (false,5)) else (ay.l0 k x1 Xe 0 AL y5)
def ay.l0 : Nat → List Int → Int → Int → Int → List Int → Option (Bool × Int)
 | 0,_,_,_,_,_=>none
 | k + 1,x1,x36,x37,AL,y5=>if x37 < x36 then (if (x1.length : Int) > 0 then (if 0 ≤ x37 then (if x37 ≤ (y5.length : Int) then ((bv.f k AL (y5.drop (x37 : Int).toNat) x1).bind fun SX=>(if SX = 0 then (ay.l0 k x1 x36 (wrap64 (x37 + 1)) AL y5) else (some (false,0)))) else (none)) else (none)) else (ay.l0 k x1 x36 (wrap64 (x37 + 1)) AL y5)) else (some (true,0))
end
def ay.f (k : Nat) (av : Int) (ah : List Int) (l1 : List Int) (a2 : Int) : Option (Bool × Int):=(iU.f a2).bind fun SY=>((dC.f k av ah SY (([l1] : List (List Int)))).bind fun Oa=>(if Oa = 0 then (if (l1.length : Int) > 0 then (if a2 > 0 then ((nu.f l1).bind fun S9=>((dO.f ah).bind fun Ta=>(ay.j0 k l1 (decide ((wrap64 ((wrap64 (S9 + a2)) - 1)) ≥ Ta)) av ah a2))) else (ay.j0 k l1 false av ah a2)) else (ay.j0 k l1 false av ah a2)) else (some (false,Oa))))
def ay.T4 : Bool × List (List Nat × List Nat):=(true,[([],[]),([0],[0]),([1],[1]),([2],[2]),([3],[3]),([4,3],[3,4]),([3,5],[3,5]),([6,3],[6]),([7],[7]),([8,7,7],[7,8]),([7],[7]),([9,10,7],[7,9,10]),([11,7],[7,11]),([7],[7]),([13,7],[7,13]),([14,9,7],[7,14]),([12,15,7],[7,12,15]),([7,16],[7,16])])
def ay.B4 : List Nat:=[0,1,3,7,15,31,63,127,255,511,255,2047,4095,255,8447,25599,65535,131071]
theorem ay.ahi : nI .any (opsOf Try.f17 4) = ay.T4:=by kernel_rfl
theorem ay.Xf : jT ay.T4.2 ay.B4 = true:=by kernel_rfl
def ay.T9 : Bool × List (List Nat × List Nat):=(true,[([],[]),([0],[0]),([1],[1]),([2],[2]),([3],[3]),([4,3],[3,4]),([3],[3]),([6,3],[3,6]),([3],[3]),([7,8,3],[3,7,8]),([5,9,3],[3,5,9]),([3],[3]),([10,11,3,3],[3,10,11]),([12,3],[3,12]),([3,13],[3,13])])
def ay.B9 : List Nat:=[0,1,3,7,15,31,15,79,15,463,1023,15,4095,8191,16383]
theorem ay.Xg : nI .any (opsOf Try.f17 9) = ay.T9:=by kernel_rfl
theorem ay.Ob : jT ay.T9.2 ay.B9 = true:=by kernel_rfl
theorem ay.calls (k : Nat) (av : Int) (bz : Option Addr) (bu : Nat) (ah : List Int) (P1_ : Nat → Prop) (A1 : Option Addr) (c1 : Nat) (l1 : List Int) (a2 : Int) (r1 : Bool) (r2 : Int) (w : World) (hr0_1 : Kd.C (Kd.int .i64) w bz ah.length ah) (gy : ah.length ≤ bu) (hs1 : Kd.V (Kd.int .i64) 2 w w.heap.size (fun k_=>P1_ k_) (.slice A1 l1.length c1) l1) (H : ay.f k av ah l1 a2 = some (r1,r2)) :
  Calls Try.prog 17 #[.agg #[.int .i64 av,.slice bz ah.length bu],.slice A1 l1.length c1,.int .i64 a2] w fun e w'=>e = .returned (.tuple #[.bool r1,.int .i64 r2])∧Below w.heap.size w w':=by
 have qV:=Try.underlying26;have hmf : ∀ (fn_ : Fn) (first_ cap_ : Array Value) (w_ : World),(Instr.makeFunc fn_ first_ cap_).run Try.prog w_ = .ok (.func fn_ first_ cap_) w_:=fun _ _ _ _=>rfl;have dS:=zA hr0_1;have dY:=zA gy;clear hr0_1 gy;have HO1:=zA (show Kd.V (Kd.int .i64) 2 w w.heap.size (fun k_=>(P1_ k_ ∨ w.heap.size ≤ k_)) (.slice A1 l1.length c1) l1 from Kd.fM hs1 (fun k_ hk=>.inl hk));have HB:=zA (Below.refl w.heap.size w);unfold ay.f at H;replace H:=bO H;obtain ⟨SY,A4,H⟩:=H;obtain ⟨Tc,Ic⟩:=eY ([l1] : List (List Int));(try rw [←Ic.out] at H);replace H:=bO H;obtain ⟨Oa,A5,H⟩:=H;replace H:=gE H;obtain ⟨c6,pU,uQ,H⟩|⟨c6,pU,uQ,H⟩:=H
 ·simp only [Option.some.injEq,Prod.mk.injEq] at H;obtain ⟨rfl,rfl⟩:=H;go_enter Try.func17,Try.ntmps17;go_wp2_with (first | (refine bX 3 rfl #[.int .i64 av,.slice bz ah.length bu] 26 ?_;intro nT w39 hg eP hb;replace HO1:=zA (Kd.jZ (Kd.yZ (uV HO1.out) nT (Nat.le_of_eq hg.symm)) hb);have Qe:=gq HB hg;have:=geI Qe;replace HB:=xH HB hb;clear hb hg) | ((with_reducible refine bI (N:=5) rfl ?_);refine bx 5 #[.int .i64 a2] 2 ?_;intro mK hg w40 hbox hb;replace HO1:=zA (Kd.jZ (Kd.yZ (uV HO1.out) mK (Nat.le_of_eq hg.symm)) hb);have iZ:=zA (hbox);have Qf:=gq HB hg;have:=geI Qf;have Qg:=gq HB hg;replace HB:=xH HB hb;have yg:=nL eP hg;have yh:=nG eP hg;replace eP:=xB eP hb;have:=geI Qg;clear hb hbox hg;have alM:=yg.out;have alN:=yh.out;have Dc:=bc eP 0;have De:=bc eP 1;have Df:=bf eP 0;have Dg:=bf eP 1) | ((with_reducible refine bI (N:=13) rfl ?_);refine Kd.aeL (Kd.slice 2 (Kd.int .i64)) _ 24 ?hg (N':=13) ?hd (xs:=([l1] : List (List Int))) (inner:=[.slice A1 l1.length c1]) (ok:=(fun k_=>(P1_ k_ ∨ w.heap.size ≤ k_)∧k_ ≠ nT∧k_ ≠ mK)) (okp:=(fun k_=>(P1_ k_ ∨ w.heap.size ≤ k_)∧k_ ≠ nT∧k_ ≠ mK)) ?hr ?hp (fun _ hk=>hk) ((show ∀ k_,w40.heap.size ≤ k_ → (fun k_=>(P1_ k_ ∨ w.heap.size ≤ k_)∧k_ ≠ nT∧k_ ≠ mK) k_ from fun k_ hk=>⟨(.inr (Nat.le_trans (af (uH HB.out)) hk)),Kd.kX (g:=nT) (o:=.cells #[.int .i64 av,.slice bz ah.length bu] 26 (0,0)) (uB eP.out) k_ hk,Kd.kX (g:=mK) (o:=.cells #[.int .i64 a2] 2 (0,0)) (uB iZ.out) k_ hk⟩) _ (Nat.le_refl _)) (Below.refl _ _) (Nat.le_refl _) (by simp) ?_;(case hd=>rfl);(case hg=>rfl);(case hr=>first | (go_simp;done) | (go_simp;rfl));(case hp=>exact (dn.one (show Kd.FK (Kd.slice 2 (Kd.int .i64)) _ _ l1 [.slice A1 l1.length c1] from (Kd.tQ (Kd.mE (Kd.fM (ok':=(fun k_=>(P1_ k_ ∨ w.heap.size ≤ k_)∧k_ ≠ nT∧k_ ≠ mK)) (HO1.out) (fun k_ ⟨⟨a,b⟩,c⟩=>⟨a,b,c⟩))).2.1 (Kd.V_F (Kd.fM (ok':=(fun k_=>(P1_ k_ ∨ w.heap.size ≤ k_)∧k_ ≠ nT∧k_ ≠ mK)) (HO1.out) (fun k_ ⟨⟨a,b⟩,c⟩=>⟨a,b,c⟩))))) (dn.none _ _)));intro alO w43 VI hb hg_ hnew_;clear hg_ hnew_;(first | rw [← Ic.out] at VI | (simp only [Int.reduceToNat] at VI;rw [← Ic.out] at VI));replace HO1:=zA (Kd.iP (uV HO1.out) (Kd.Xh VI) hb);have pV:=zA (Kd.zt VI (af (uH HB.out)));replace eP:=xB eP hb;replace iZ:=xB iZ hb;replace HB:=xH HB hb;clear hb VI;obtain ⟨alP,VJ,avB⟩:=Kd.wY pV.out;subst avB) | ((with_reducible refine ae (f:=29) rfl ?_);refine gL (some 14) Try.func29 #[.agg #[.int .i64 av,.slice bz ah.length bu],(.func (.func 50) #[] #[.pointer (some ⟨mK,0,none⟩)]),.slice alP Tc.length VJ] ?_;(with_reducible refine (dC.calls k av _ _ ah _ SY _ _ Tc Oa _ ?side1 ?side2 ?side3 ?side4 ?side5 A5.out).mono ?_);(case side1=>exact uC ((Kd.aQ dS.out HB.out)));(case side2=>exact dY.out);(case side3=>exact FnB.of Try.func50 (by kernel_rfl) rfl (fun W_ hW_=>dA (args':=#[.pointer (some ⟨mK,0,none⟩)]) (by simp) ((iU.calls _ a2 _ W_ (bW (g:=mK) (o:=.cells #[.int .i64 a2] 2 (0,0)) (uB iZ.out) hW_) A4.out).mono fun e_ W2_ h_=>⟨h_.1,h_.2.below⟩)));(case side4=>exact uC ((Kd.kN pV.out).2.2));(case side5=>exact (Kd.kN pV.out).2.1);rintro e w46 ⟨rfl,hb⟩;refine ⟨_,rfl,?_⟩;replace HO1:=zA (Kd.jZ (uV HO1.out) hb);replace pV:=zA (Kd.oO (uN pV.out) hb);replace eP:=xB eP hb;replace iZ:=xB iZ hb;replace HB:=xH HB hb;(try clear hb);(try clear hk)));go_ret2;exact ⟨eX,uH HB.out⟩
 clear c6;have HC7:=zA H;clear H;go_enter Try.func17,Try.ntmps17;go_upto_region 4 with (first | (refine bX 3 rfl #[.int .i64 av,.slice bz ah.length bu] 26 ?_;intro nT w8 hg eP hb;replace HO1:=zA (Kd.jZ (Kd.yZ (uV HO1.out) nT (Nat.le_of_eq hg.symm)) hb);have Qe:=gq HB hg;have:=geI Qe;replace HB:=xH HB hb;clear hb hg) | ((with_reducible refine bI (N:=5) rfl ?_);refine bx 5 #[.int .i64 a2] 2 ?_;intro mK hg w9 hbox hb;replace HO1:=zA (Kd.jZ (Kd.yZ (uV HO1.out) mK (Nat.le_of_eq hg.symm)) hb);have iZ:=zA (hbox);have Qf:=gq HB hg;have:=geI Qf;have Qg:=gq HB hg;replace HB:=xH HB hb;have yg:=nL eP hg;have yh:=nG eP hg;replace eP:=xB eP hb;have:=geI Qg;clear hb hbox hg;have aeM:=yg.out;have aeN:=yh.out;have wZ:=bc eP 0;have yj:=bc eP 1;have xc:=bf eP 0;have yl:=bf eP 1) | ((with_reducible refine bI (N:=13) rfl ?_);refine Kd.aeL (Kd.slice 2 (Kd.int .i64)) _ 24 ?hg (N':=13) ?hd (xs:=([l1] : List (List Int))) (inner:=[.slice A1 l1.length c1]) (ok:=(fun k_=>(P1_ k_ ∨ w.heap.size ≤ k_)∧k_ ≠ nT∧k_ ≠ mK)) (okp:=(fun k_=>(P1_ k_ ∨ w.heap.size ≤ k_)∧k_ ≠ nT∧k_ ≠ mK)) ?hr ?hp (fun _ hk=>hk) ((show ∀ k_,w9.heap.size ≤ k_ → (fun k_=>(P1_ k_ ∨ w.heap.size ≤ k_)∧k_ ≠ nT∧k_ ≠ mK) k_ from fun k_ hk=>⟨(.inr (Nat.le_trans (af (uH HB.out)) hk)),Kd.kX (g:=nT) (o:=.cells #[.int .i64 av,.slice bz ah.length bu] 26 (0,0)) (uB eP.out) k_ hk,Kd.kX (g:=mK) (o:=.cells #[.int .i64 a2] 2 (0,0)) (uB iZ.out) k_ hk⟩) _ (Nat.le_refl _)) (Below.refl _ _) (Nat.le_refl _) (by simp) ?_;(case hd=>rfl);(case hg=>rfl);(case hr=>first | (go_simp;done) | (go_simp;rfl));(case hp=>exact (dn.one (show Kd.FK (Kd.slice 2 (Kd.int .i64)) _ _ l1 [.slice A1 l1.length c1] from (Kd.tQ (Kd.mE (Kd.fM (ok':=(fun k_=>(P1_ k_ ∨ w.heap.size ≤ k_)∧k_ ≠ nT∧k_ ≠ mK)) (HO1.out) (fun k_ ⟨⟨a,b⟩,c⟩=>⟨a,b,c⟩))).2.1 (Kd.V_F (Kd.fM (ok':=(fun k_=>(P1_ k_ ∨ w.heap.size ≤ k_)∧k_ ≠ nT∧k_ ≠ mK)) (HO1.out) (fun k_ ⟨⟨a,b⟩,c⟩=>⟨a,b,c⟩))))) (dn.none _ _)));intro alO w12 Gb hb hg_ hnew_;clear hg_ hnew_;(first | rw [← Ic.out] at Gb | (simp only [Int.reduceToNat] at Gb;rw [← Ic.out] at Gb));replace HO1:=zA (Kd.iP (uV HO1.out) (Kd.Xh Gb) hb);have pV:=zA (Kd.zt Gb (af (uH HB.out)));replace eP:=xB eP hb;replace iZ:=xB iZ hb;replace HB:=xH HB hb;clear hb Gb;obtain ⟨wM,wN,Qh⟩:=Kd.wY pV.out;subst Qh) | ((with_reducible refine ae (f:=29) rfl ?_);refine gL (some 14) Try.func29 #[.agg #[.int .i64 av,.slice bz ah.length bu],(.func (.func 50) #[] #[.pointer (some ⟨mK,0,none⟩)]),.slice wM Tc.length wN] ?_;(with_reducible refine (dC.calls k av _ _ ah _ SY _ _ Tc Oa _ ?side1 ?side2 ?side3 ?side4 ?side5 A5.out).mono ?_);(case side1=>exact uC ((Kd.aQ dS.out HB.out)));(case side2=>exact dY.out);(case side3=>exact FnB.of Try.func50 (by kernel_rfl) rfl (fun W_ hW_=>dA (args':=#[.pointer (some ⟨mK,0,none⟩)]) (by simp) ((iU.calls _ a2 _ W_ (bW (g:=mK) (o:=.cells #[.int .i64 a2] 2 (0,0)) (uB iZ.out) hW_) A4.out).mono fun e_ W2_ h_=>⟨h_.1,h_.2.below⟩)));(case side4=>exact uC ((Kd.kN pV.out).2.2));(case side5=>exact (Kd.kN pV.out).2.1);rintro e w15 ⟨rfl,hb⟩;refine ⟨_,rfl,?_⟩;replace HO1:=zA (Kd.jZ (uV HO1.out) hb);replace pV:=zA (Kd.oO (uN pV.out) hb);replace eP:=xB eP hb;replace iZ:=xB iZ hb;replace HB:=xH HB hb;(try clear hb);(try clear hk)));(try simp only [Act.put,ls,lz,ln]);go_cut [35] (fun v35 wc=>∃ (kq : Nat) (Xi : Bool),v35 = .bool Xi∧aa (ay.j0 kq l1 Xi av ah a2 = some (r1,r2))∧aa (kq ≤ k)∧aa (Kd.V (Kd.int .i64) 2 wc w.heap.size (fun k_=>(P1_ k_ ∨ w.heap.size ≤ k_)∧k_ ≠ nT∧k_ ≠ mK) (.slice A1 l1.length c1) l1)∧aa (wc.heap[nT]? = some (.cells #[.int .i64 av,(.slice bz ah.length bu)] 26 (0,0)))∧aa (wc.heap[mK]? = some (.cells #[.int .i64 a2] 2 (0,0)))∧aa (Below w.heap.size w wc))
 case first =>
  have H:=HC7.out;clear HC7;replace H:=gI H;obtain ⟨c16,H⟩|⟨c16,H⟩:=H
  ·have ym : decide (0 < (l1.length : Int)) = false:=decide_eq_false c16;have Td : decide (0 < l1.length) = false:=decide_eq_false (by omega);clear c16;(first | rw [ym] | (simp only [jd,kQ];rw [ym]) | skip);have H':=zA H;clear H;(try go_wp2);replace HO1:=zA (Kd.iC HO1.out);replace pV:=zA (Kd.tH pV.out);replace eP:=zA (bN eP.out);replace iZ:=zA (bN iZ.out);replace HB:=zA (aW HB.out);refine ky (n:=18) (S:=fun w'=>True) (ds:=[]) #[false,false,false,false,false,false,false,false,false,false,false,false,false,false,false,false,false,false] (by kernel_rfl) rfl rfl trivial (fun hHeld=>?_);refine gV ay.ahi ay.Xf (fun HT_ HW_=>?_);generalize w15.drew = w22 at HO1 pV eP iZ HB hHeld ⊢;refine pu_ 0 18 (bl 18 1) HT_ ?_;refine pu_ 1 19 (bl 18 3) HT_ ?_;refine pu_ 2 20 (bl 18 7) HT_ ?_;refine pu_ 3 21 (bl 18 15) HT_ ?_;refine un_ 4 22 (bl 18 31) HT_ ?_;refine un_ 5 23 (bl 18 63) HT_ ?_;refine pu_ 6 24 (bl 18 127) HT_ ?_;refine pu_ 7 25 (bl 18 255) HT_ ?_;refine un_ 8 26 (bl 18 511) HT_ ?_;refine un_ 9 27 (bl 18 1023) HT_ ?_;refine un_ 10 28 (bl 18 2047) HT_ ?_;refine un_ 11 29 (bl 18 4095) HT_ ?_;refine un_ 12 30 (bl 18 8191) HT_ ?_;refine un_ 13 31 (bl 18 16383) HT_ ?_;refine un_ 14 32 (bl 18 32767) HT_ ?_;refine un_ 15 33 (bl 18 65535) HT_ ?_;refine un_ 16 34 (bl 18 131071) HT_ ?_;refine pu_ 17 35 (bl 18 262143) HT_ ?_;refine done_ (done_of HT_.out (by kernel_rfl)) ?_;(try go_wp2);go_meet;(case rel=>exact ⟨_,(false),eS,H',⟨by first | omega | exact Nat.le_refl _⟩,⟨by (with_reducible repeat (first | apply Kd.iN | apply Kd.iO | apply Kd.iC));exact Kd.fM HO1.out (fun _ ⟨⟨⟨a,b⟩,c⟩,_⟩=>⟨a,b,c⟩)⟩,⟨uB eP.out⟩,⟨uB iZ.out⟩,⟨uH HB.out⟩⟩)
  have ym : decide (0 < (l1.length : Int)) = true:=decide_eq_true c16;have Td : decide (0 < l1.length) = true:=decide_eq_true (by omega);clear c16;(first | rw [ym] | (simp only [jd,kQ];rw [ym]) | skip);replace H:=gI H;obtain ⟨c17,H⟩|⟨c17,H⟩:=H
  ·have Ie : decide (0 < a2) = false:=decide_eq_false c17;clear c17;have H':=zA H;clear H;(try go_wp2);replace HO1:=zA (Kd.iC HO1.out);replace pV:=zA (Kd.tH pV.out);replace eP:=zA (bN eP.out);replace iZ:=zA (bN iZ.out);replace HB:=zA (aW HB.out);refine ky (n:=18) (S:=fun w'=>w'.cell? ⟨mK,0,none⟩ = some (.int .i64 a2)) (ds:=[]) #[false,false,false,false,false,false,false,false,false,false,false,false,false,false,false,false,false,false] (by kernel_rfl) rfl rfl (bcu iZ 0) (fun hHeld=>?_);refine gV ay.ahi ay.Xf (fun HT_ HW_=>?_);generalize w15.drew = w21 at HO1 pV eP iZ HB hHeld ⊢;refine pu_ 0 18 (bl 18 1) HT_ ?_;refine pu_ 1 19 (bl 18 3) HT_ ?_;refine pu_ 2 20 (bl 18 7) HT_ ?_;refine pu_ 3 21 (bl 18 15) HT_ ?_;refine Dh (i:=4) (N:=some 22) (v:=?_) (a':=?_) (bl 18 31) rfl rfl (Ig HT_.out HW_.out (by kernel_rfl)) (fun _ _ _ h=>h) (Or.inl ⟨by rfl,?_⟩) hHeld ?_ ?_;rotate_left
   ·intro w' s0;go_simp;(with_reducible rfl)
   rotate_left
   ·simp only [Act.put,ls,lz,ln,jd,kQ];rfl
   refine pu_ 5 23 (bl 18 63) HT_ ?_;refine pu_ 6 24 (bl 18 127) HT_ ?_;refine pu_ 7 25 (bl 18 255) HT_ ?_;refine un_ 8 26 (bl 18 511) HT_ ?_;refine un_ 9 27 (bl 18 1023) HT_ ?_;refine un_ 10 28 (bl 18 2047) HT_ ?_;refine un_ 11 29 (bl 18 4095) HT_ ?_;refine un_ 12 30 (bl 18 8191) HT_ ?_;refine un_ 13 31 (bl 18 16383) HT_ ?_;refine un_ 14 32 (bl 18 32767) HT_ ?_;refine un_ 15 33 (bl 18 65535) HT_ ?_;refine un_ 16 34 (bl 18 131071) HT_ ?_;refine pu_ 17 35 (bl 18 262143) HT_ ?_;refine done_ (done_of HT_.out (by kernel_rfl)) ?_;(try go_wp2);go_meet;(case rel=>exact ⟨_,(false),eS,H',⟨by first | omega | exact Nat.le_refl _⟩,⟨by (with_reducible repeat (first | apply Kd.iN | apply Kd.iO | apply Kd.iC));exact Kd.fM HO1.out (fun _ ⟨⟨⟨a,b⟩,c⟩,_⟩=>⟨a,b,c⟩)⟩,⟨uB eP.out⟩,⟨uB iZ.out⟩,⟨uH HB.out⟩⟩)
  have Ie : decide (0 < a2) = true:=decide_eq_true c17;clear c17;replace H:=bO H;obtain ⟨S9,A18,H⟩:=H;replace H:=bO H;obtain ⟨Ta,A19,H⟩:=H;have H':=zA H;clear H;(try go_wp2);replace HO1:=zA (Kd.iC HO1.out);replace pV:=zA (Kd.tH pV.out);replace eP:=zA (bN eP.out);replace iZ:=zA (bN iZ.out);replace HB:=zA (aW HB.out);refine ky (n:=18) (S:=fun w'=>w'.cell? ⟨mK,0,none⟩ = some (.int .i64 a2)∧w'.cell? ⟨nT,0,none⟩ = some (.int .i64 av)∧w'.cell? ⟨nT,1,none⟩ = some (.slice bz ah.length bu)) (ds:=[]) #[false,false,false,false,false,false,false,false,false,false,false,false,false,false,false,false,false,false] (by kernel_rfl) rfl rfl ⟨bcu iZ 0,bcu eP 0,bcu eP 1⟩ (fun hHeld=>?_);refine gV ay.ahi ay.Xf (fun HT_ HW_=>?_);generalize w15.drew = w20 at HO1 pV eP iZ HB hHeld ⊢;refine pu_ 0 18 (bl 18 1) HT_ ?_;refine pu_ 1 19 (bl 18 3) HT_ ?_;refine pu_ 2 20 (bl 18 7) HT_ ?_;refine pu_ 3 21 (bl 18 15) HT_ ?_;refine ta_ 4 22 (bl 18 31) HT_ HW_ hHeld ?_;refine pu_ 5 23 (bl 18 63) HT_ ?_;refine pu_ 6 24 (bl 18 127) HT_ ?_;refine pu_ 7 25 (bl 18 255) HT_ ?_;refine pu_ 8 26 (bl 18 511) HT_ ?_;refine pu_ 13 31 (bl 18 8703) HT_ ?_;refine ta_ 10 28 (bl 18 9727) HT_ HW_ hHeld ?_;refine ta_ 14 32 (bl 18 26111) HT_ HW_ hHeld ?_;refine on_ 9 (some 27) (bl 18 26623) HT_ (fun K hK=>?_);refine gS Try.func51 #[.slice A1 l1.length c1] ?_;(with_reducible refine (nu.calls _ _ l1 S9 _ ?side1 ?side2 A18.out).mono ?_);(case side1=>exact uC ((Kd.mE HO1.out).2.2));(case side2=>exact (Kd.mE HO1.out).2.1);rintro e w' ⟨rfl,⟨nd,rfl⟩⟩;refine ⟨_,rfl,?_⟩;refine hK.out _ _ ⟨bcu iZ 0,bcu eP 0,bcu eP 1⟩ (fun hHeld=>?_);clear hK K;refine no_ 27 ?_;refine pu_ 11 29 (bl 18 28671) HT_ ?_;refine pu_ 12 30 (bl 18 32767) HT_ ?_;refine on_ 15 (some 33) (bl 18 65535) HT_ (fun K hK=>?_);refine gS Try.func36 #[.slice bz ah.length bu] ?_;(with_reducible refine (dO.calls _ _ ah Ta _ ?side1 ?side2 A19.out).mono ?_);(case side1=>repeat (first | exact (Kd.aQ dS.out (uH HB.out)) | (with_reducible refine Kd.dE ?_ _) | (with_reducible refine Kd.dF ?_ _) | (with_reducible refine Kd.eQ ?_)));(case side2=>exact dY.out);rintro e w' ⟨rfl,⟨nd,rfl⟩⟩;refine ⟨_,rfl,?_⟩;refine hK.out _ _ ⟨bcu iZ 0,bcu eP 0,bcu eP 1⟩ (fun hHeld=>?_);clear hK K;refine no_ 33 ?_;refine pu_ 16 34 (bl 18 131071) HT_ ?_;refine pu_ 17 35 (bl 18 262143) HT_ ?_;refine done_ (done_of HT_.out (by kernel_rfl)) ?_;(try go_wp2);go_meet;(case rel=>exact ⟨_,(decide ((wrap64 ((wrap64 (S9 + a2)) - 1)) ≥ Ta)),eS,H',⟨by first | omega | exact Nat.le_refl _⟩,⟨by (with_reducible repeat (first | apply Kd.iN | apply Kd.iO | apply Kd.iC));exact Kd.fM HO1.out (fun _ ⟨⟨⟨a,b⟩,c⟩,_⟩=>⟨a,b,c⟩)⟩,⟨uB eP.out⟩,⟨uB iZ.out⟩,⟨uH HB.out⟩⟩)
 case rest =>
  clear HC7;(try clear c1);(try clear c2);(try clear p2);(try clear c3);(try clear c5);(try clear c6);(try clear pU);(try clear uQ);(try clear p6);(try clear c10);(try clear c16);(try clear ym);(try clear Td);(try clear c17);(try clear Ie);(try clear wZ);(try clear yj);(try clear xc);(try clear yl);obtain ⟨kq,Xi,rfl,HA,HJ6,yO,eP,iZ,HB⟩:=hcut
  cases kq with
  | zero=>exact absurd HA.out (by simp [ay.j0])
  | succ kj6 =>
   have H:=HA.out;clear HA;simp only [ay.j0] at H;replace H:=gB H;obtain ⟨rfl,H⟩|⟨rfl,H⟩:=H
   ·simp only [Option.some.injEq,Prod.mk.injEq] at H;obtain ⟨rfl,rfl⟩:=H;go_wp2;go_ret2;exact ⟨eX,uH HB.out⟩
   ·have H':=zA H;clear H;have aeO:=yh.out;have aeP:=yg.out;have Gp:=bc iZ 0;have Gq:=bf iZ 0;go_wp2;go_loopg [37] kj6 (fun kq v37 w'=>∃ (jm : Int),v37 = .int .i64 jm∧aa (ay.l0 kq l1 a2 jm av ah = some (r1,r2))∧aa (kq ≤ kj6)∧aa (Kd.V (Kd.int .i64) 2 w' w.heap.size (fun k_=>(P1_ k_ ∨ w.heap.size ≤ k_)∧k_ ≠ nT∧k_ ≠ mK) (.slice A1 l1.length c1) l1)∧aa (w'.heap[nT]? = some (.cells #[.int .i64 av,(.slice bz ah.length bu)] 26 (0,0)))∧aa (w'.heap[mK]? = some (.cells #[.int .i64 a2] 2 (0,0)))∧aa (Below w.heap.size w w'));(case atStart=>exact ⟨(0),eS,H',⟨Nat.le_refl _⟩,⟨uV yO.out⟩,⟨uB eP.out⟩,⟨uB iZ.out⟩,⟨uH HB.out⟩⟩)
    case round =>
     clear H';(try clear c1);(try clear c2);(try clear p2);(try clear c3);(try clear c5);(try clear c6);(try clear pU);(try clear uQ);(try clear p6);(try clear c10);(try clear c16);(try clear ym);(try clear Td);(try clear c17);(try clear Ie);(try clear c23);(try clear c24);(try clear wZ);(try clear yj);(try clear Gp);(try clear xc);(try clear yl);(try clear Gq);(try clear p2);(try clear p6);obtain ⟨jm,rfl,HA,HK2,yO,eP,iZ,HB⟩:=hrel
     cases gk with
     | zero=>exact absurd HA.out (by simp [ay.l0])
     | succ k2 =>
      have H:=HA.out;clear HA;simp only [ay.l0] at H;replace H:=gF H;obtain ⟨Xj,H⟩|⟨Xj,H⟩:=H
      ·simp only [Option.some.injEq,Prod.mk.injEq] at H;obtain ⟨rfl,rfl⟩:=H;go_wp2;go_ret2;exact ⟨eX,uH HB.out⟩
      replace H:=gI H;obtain ⟨c27,H⟩|⟨c27,H⟩:=H
      ·have Oc : decide (0 < (l1.length : Int)) = false:=decide_eq_false c27;have Od : decide (0 < l1.length) = false:=decide_eq_false (by omega);clear c27;have H':=zA H;clear H;(try go_wp2);replace yO:=zA (Kd.iC yO.out);replace eP:=zA (bN eP.out);replace iZ:=zA (bN iZ.out);replace HB:=zA (aW HB.out);refine ky (n:=15) (S:=fun w'=>True) (ds:=[]) #[false,false,false,false,false,false,false,false,false,false,false,false,false,false,false] (by kernel_rfl) rfl rfl trivial (fun hHeld=>?_);refine gV ay.Xg ay.Ob (fun HT_ HW_=>?_);generalize wr.drew = w38 at yO eP iZ HB hHeld ⊢;refine pu_ 0 40 (bl 15 1) HT_ ?_;refine pu_ 1 41 (bl 15 3) HT_ ?_;refine pu_ 2 42 (bl 15 7) HT_ ?_;refine pu_ 3 43 (bl 15 15) HT_ ?_;refine un_ 4 44 (bl 15 31) HT_ ?_;refine un_ 5 45 (bl 15 63) HT_ ?_;refine un_ 6 46 (bl 15 127) HT_ ?_;refine un_ 7 47 (bl 15 255) HT_ ?_;refine un_ 8 48 (bl 15 511) HT_ ?_;refine un_ 9 49 (bl 15 1023) HT_ ?_;refine un_ 10 50 (bl 15 2047) HT_ ?_;refine un_ 11 51 (bl 15 4095) HT_ ?_;refine un_ 12 52 (bl 15 8191) HT_ ?_;refine un_ 13 53 (bl 15 16383) HT_ ?_;refine pu_ 14 54 (bl 15 32767) HT_ ?_;refine done_ (done_of HT_.out (by kernel_rfl)) ?_;(try go_wp2);go_roundg k2;(case measure=>have:=HJ6.out;have:=HK2.out;omega);(case rel=>exact ⟨(wrap64 (jm + 1)),eS,H',⟨by have:=HJ6.out;have:=HK2.out;omega⟩,⟨uV yO.out⟩,⟨uB eP.out⟩,⟨uB iZ.out⟩,⟨uH HB.out⟩⟩)
      have Oc : decide (0 < (l1.length : Int)) = true:=decide_eq_true c27;have Od : decide (0 < l1.length) = true:=decide_eq_true (by omega);clear c27;replace H:=gN H;obtain ⟨c28,H⟩:=H;have az4:=eq_true c28;have az5 : decide (0 ≤ jm) = true:=decide_eq_true c28;clear c28;replace H:=gN H;obtain ⟨c29,H⟩:=H;have az6:=eq_true c29;have az7 : decide (jm ≤ (ah.length : Int)) = true:=decide_eq_true c29;clear c29;replace H:=bO H;obtain ⟨SX,A30,H⟩:=H;replace H:=gE H;obtain ⟨c31,alQ,alR,H⟩|⟨c31,alQ,alR,H⟩:=H
      ·simp only [Option.some.injEq,Prod.mk.injEq] at H;obtain ⟨rfl,rfl⟩:=H;(try go_wp2);replace yO:=zA (Kd.iC yO.out);replace eP:=zA (bN eP.out);replace iZ:=zA (bN iZ.out);replace HB:=zA (aW HB.out);obtain ⟨aCi,aeQ,_,aeR,_⟩:=info_parts lm;obtain ⟨A36,avC,alS,alT⟩:=Cj (P:=Try.prog) (Value.int .i64) 0 24 2 .i64 Try.underlying24 aeQ aeR bz bu ah jm (of_decide_eq_true (by first | (with_reducible assumption) | assumption)) (of_decide_eq_true (by first | (with_reducible assumption) | assumption)) dY.out;have Ih:=zA (Kd.uZ (h1:=fun _=>rfl) (alS _ (Kd.rD dS.out)));have Qi:=zA alT;clear alS alT aeQ aeR;refine ky (n:=15) (S:=fun w'=>w'.cell? ⟨nT,0,none⟩ = some (.int .i64 av)∧w'.cell? ⟨nT,1,none⟩ = some (.slice bz ah.length bu)) (ds:=[]) #[false,false,false,false,false,false,false,false,false,false,false,false,false,false,false] (by kernel_rfl) rfl rfl ⟨bcu eP 0,bcu eP 1⟩ (fun hHeld=>?_);refine gV ay.Xg ay.Ob (fun HT_ HW_=>?_);generalize wr.drew = w35 at yO eP iZ HB Ih hHeld ⊢;refine pu_ 0 40 (bl 15 1) HT_ ?_;refine pu_ 1 41 (bl 15 3) HT_ ?_;refine pu_ 2 42 (bl 15 7) HT_ ?_;refine pu_ 3 43 (bl 15 15) HT_ ?_;refine pu_ 4 44 (bl 15 31) HT_ ?_;refine pu_ 6 46 (bl 15 95) HT_ ?_;refine pu_ 8 48 (bl 15 351) HT_ ?_;refine pu_ 11 51 (bl 15 2399) HT_ ?_;refine ta_ 5 45 (bl 15 2431) HT_ HW_ hHeld ?_;refine ta_ 7 47 (bl 15 2559) HT_ HW_ hHeld ?_;refine pu_ 9 49 (bl 15 3071) HT_ ?_;refine pu_ 10 50 (bl 15 4095) HT_ ?_;refine on_ 12 (some 52) (bl 15 8191) HT_ (fun K hK=>?_);refine Ii Try.func37 (by kernel_rfl) rfl #[.agg #[.int .i64 av,.slice A36 (ah.drop (jm : Int).toNat).length (bu - jm.toNat)],.slice A1 l1.length c1] (by rfl) rfl rfl (by (try simp only [la,lb,lc]);first | done | (rw [show (ah.drop (jm : Int).toNat).length = (ah.length - jm.toNat) from List.length_drop] <;> rfl) | rfl | (simp only [ld,le];rfl)) ?_;(with_reducible refine (bv.calls k2 av _ _ (ah.drop (jm : Int).toNat) _ _ l1 SX _ ?side1 ?side2 ?side3 ?side4 A30.out).mono ?_);(case side1=>exact uC ((Kd.aQ Ih.out HB.out)));(case side2=>exact Qi.out);(case side3=>exact uC ((Kd.mE yO.out).2.2));(case side4=>exact (Kd.mE yO.out).2.1);rintro e w37 ⟨rfl,hb⟩;refine ⟨_,rfl,?_⟩;replace yO:=zA (Kd.jZ (uV yO.out) hb);replace eP:=xB eP hb;replace iZ:=xB iZ hb;replace HB:=xH HB hb;(try clear hb);refine hK.out _ _ ⟨bcu eP 0,bcu eP 1⟩ (fun hHeld=>?_);clear hK K;refine no_ 52 ?_;refine pu_ 13 53 (bl 15 16383) HT_ ?_;refine pu_ 14 54 (bl 15 32767) HT_ ?_;refine done_ (done_of HT_.out (by kernel_rfl)) ?_;(try go_wp2);go_ret2;exact ⟨eX,uH HB.out⟩
      clear c31;have H':=zA H;clear H;(try go_wp2);replace yO:=zA (Kd.iC yO.out);replace eP:=zA (bN eP.out);replace iZ:=zA (bN iZ.out);replace HB:=zA (aW HB.out);obtain ⟨aCj,aeS,_,aeT,_⟩:=info_parts lm;obtain ⟨A33,avD,alU,alV⟩:=Cj (P:=Try.prog) (Value.int .i64) 0 24 2 .i64 Try.underlying24 aeS aeT bz bu ah jm (of_decide_eq_true (by first | (with_reducible assumption) | assumption)) (of_decide_eq_true (by first | (with_reducible assumption) | assumption)) dY.out;have Ih:=zA (Kd.uZ (h1:=fun _=>rfl) (alU _ (Kd.rD dS.out)));have Qi:=zA alV;clear alU alV aeS aeT;refine ky (n:=15) (S:=fun w'=>w'.cell? ⟨nT,0,none⟩ = some (.int .i64 av)∧w'.cell? ⟨nT,1,none⟩ = some (.slice bz ah.length bu)) (ds:=[]) #[false,false,false,false,false,false,false,false,false,false,false,false,false,false,false] (by kernel_rfl) rfl rfl ⟨bcu eP 0,bcu eP 1⟩ (fun hHeld=>?_);refine gV ay.Xg ay.Ob (fun HT_ HW_=>?_);generalize wr.drew = w32 at yO eP iZ HB Ih hHeld ⊢;refine pu_ 0 40 (bl 15 1) HT_ ?_;refine pu_ 1 41 (bl 15 3) HT_ ?_;refine pu_ 2 42 (bl 15 7) HT_ ?_;refine pu_ 3 43 (bl 15 15) HT_ ?_;refine pu_ 4 44 (bl 15 31) HT_ ?_;refine pu_ 6 46 (bl 15 95) HT_ ?_;refine pu_ 8 48 (bl 15 351) HT_ ?_;refine pu_ 11 51 (bl 15 2399) HT_ ?_;refine ta_ 5 45 (bl 15 2431) HT_ HW_ hHeld ?_;refine ta_ 7 47 (bl 15 2559) HT_ HW_ hHeld ?_;refine pu_ 9 49 (bl 15 3071) HT_ ?_;refine pu_ 10 50 (bl 15 4095) HT_ ?_;refine on_ 12 (some 52) (bl 15 8191) HT_ (fun K hK=>?_);refine Ii Try.func37 (by kernel_rfl) rfl #[.agg #[.int .i64 av,.slice A33 (ah.drop (jm : Int).toNat).length (bu - jm.toNat)],.slice A1 l1.length c1] (by rfl) rfl rfl (by (try simp only [la,lb,lc]);first | done | (rw [show (ah.drop (jm : Int).toNat).length = (ah.length - jm.toNat) from List.length_drop] <;> rfl) | rfl | (simp only [ld,le];rfl)) ?_;(with_reducible refine (bv.calls k2 av _ _ (ah.drop (jm : Int).toNat) _ _ l1 SX _ ?side1 ?side2 ?side3 ?side4 A30.out).mono ?_);(case side1=>exact uC ((Kd.aQ Ih.out HB.out)));(case side2=>exact Qi.out);(case side3=>exact uC ((Kd.mE yO.out).2.2));(case side4=>exact (Kd.mE yO.out).2.1);rintro e w34 ⟨rfl,hb⟩;refine ⟨_,rfl,?_⟩;replace yO:=zA (Kd.jZ (uV yO.out) hb);replace eP:=xB eP hb;replace iZ:=xB iZ hb;replace HB:=xH HB hb;(try clear hb);refine hK.out _ _ ⟨bcu eP 0,bcu eP 1⟩ (fun hHeld=>?_);clear hK K;refine no_ 52 ?_;refine pu_ 13 53 (bl 15 16383) HT_ ?_;refine pu_ 14 54 (bl 15 32767) HT_ ?_;refine done_ (done_of HT_.out (by kernel_rfl)) ?_;(try go_wp2);go_roundg k2;(case measure=>have:=HJ6.out;have:=HK2.out;omega);(case rel=>exact ⟨(wrap64 (jm + 1)),eS,H',⟨by have:=HJ6.out;have:=HK2.out;omega⟩,⟨uV yO.out⟩,⟨uB eP.out⟩,⟨uB iZ.out⟩,⟨uH HB.out⟩⟩)
/- Plain lemmas: rounds (Ev), wrapped sums, rests modulo p, lists read and written at an index. No program is in sight. -/
section
variable {α β : Type}
theorem Ev.pos {c : Prop} [Decidable c] {X Y : Nat → Option α} {r : α} (h : c) (e : Ev X r) : Ev (fun k=>if c then X k else Y k) r:=by
  simpa only [if_pos h] using e
theorem Ev.neg {c : Prop} [Decidable c] {X Y : Nat → Option α} {r : α} (h : ¬ c) (e : Ev Y r) : Ev (fun k=>if c then X k else Y k) r:=by
  simpa only [if_neg h] using e
theorem Ev.eq {x : Option α} {r : α} (h : x = some r) : Ev (fun _=>x) r:=⟨0,fun _ _=>h⟩
theorem Ev.mW {r s : α} (h : r = s) : Ev (fun _=>some r) s:=⟨0,fun _ _=>by rw [h]⟩
theorem Ev.iL {x : Option α} {f : Nat → α → Option β} {a : α} {r : β} (h : x = some a) (e : Ev (fun n=>f n a) r) : Ev (fun n=>x.bind (f n)) r:=by
  subst h;simpa using e
theorem Ev.cast {g : Nat → Option α} {r s : α} (h : Ev g r) (e : r = s) : Ev g s:=e ▸ h
theorem Ev.fn {g : Nat → Option α} {r s : α} (h : Ev g r) (h' : Ev g s) : r = s:=by
  obtain ⟨K,h⟩:=h
  obtain ⟨K',h'⟩:=h'
  have a:=h (max K K') (by omega)
  have b:=h' (max K K') (by omega)
  rw [a] at b
  exact Option.some.inj b
end

theorem bM {x : Int} (h0 : -9223372036854775808 ≤ x) (h1 : x < 9223372036854775808) : wrap64 x = x:=by unfold wrap64;omega
theorem kz {i n : Nat} (h : i < n) (hn : n < 4611686018427387904) : wrap64 ((i : Int) + 1) = ((i + 1 : Nat) : Int):=by unfold wrap64;omega
theorem Xk {i j n : Nat} (h : i + j < n) (hn : n < 4611686018427387904) : wrap64 ((i : Int) + (j : Int)) = ((i + j : Nat) : Int):=by unfold wrap64;omega
theorem Te {i : Nat} (h : 0 < i) (hn : i < 4611686018427387904) : wrap64 ((i : Int) - 1) = ((i - 1 : Nat) : Int):=by unfold wrap64;omega

theorem mM (l : List Int) (i : Nat) : rd l (i : Int) = l.getD i 0:=by simp [rd]
theorem sQ (l : List (List Int)) (i : Nat) : fw l (i : Int) = l.getD i []:=by simp [fw]
theorem xE {α : Type} {l : List α} {i : Nat} {d : α} (h : i < l.length) : l.getD i d ∈ l:=by
  simp only [List.getD_eq_getElem?_getD,List.getElem?_eq_getElem h,Option.getD_some];exact List.getElem_mem h
theorem kU (i : Nat) : ((i : Int)).toNat = i:=rfl

/-- A length that is small. -/
abbrev Sm (n : Nat) : Prop:=n ≤ 1048576

/-- Numbers modulo p. -/
def Nm (p : Int) (l : List Int) : Prop:=∀ x ∈ l,0 ≤ x∧x < p
theorem Nm.nil (p : Int) : Nm p []:=fun x h=>by cases h
theorem Nm.cons {p x : Int} {l : List Int} (h0 : 0 ≤ x) (h1 : x < p) (h : Nm p l) : Nm p (x :: l):=fun y hy=>by
  rcases List.mem_cons.1 hy with rfl | hy
  · exact ⟨h0,h1⟩
  · exact h y hy
theorem Nm.append {p : Int} {l m : List Int} (h : Nm p l) (h' : Nm p m) : Nm p (l ++ m):=fun y hy=>by
  rcases List.mem_append.1 hy with hy | hy
  · exact h y hy
  · exact h' y hy
theorem Nm.get {p : Int} {l : List Int} (h : Nm p l) {i : Nat} (hi : i < l.length) : 0 ≤ l.getD i 0∧l.getD i 0 < p:=h _ (xE hi)
theorem Nm.Cx {p : Int} {l : List Int} (h : Nm p l) (hp : 0 < p) (i : Nat) : 0 ≤ l.getD i 0∧l.getD i 0 < p:=by
  by_cases hi : i < l.length
  · exact h.get hi
  · rw [List.getD_eq_getElem?_getD,List.getElem?_eq_none (by omega)];exact ⟨Int.le_refl _,hp⟩
theorem Nm.take {p : Int} {l : List Int} (h : Nm p l) (n : Nat) : Nm p (l.take n):=fun x hx=>h x (List.mem_of_mem_take hx)
theorem Nm.drop {p : Int} {l : List Int} (h : Nm p l) (n : Nat) : Nm p (l.drop n):=fun x hx=>h x (List.mem_of_mem_drop hx)
theorem Nm.set {p x : Int} {l : List Int} (h : Nm p l) (h0 : 0 ≤ x) (h1 : x < p) (i : Nat) : Nm p (l.set i x):=fun y hy=>by
  rcases List.mem_or_eq_of_mem_set hy with hy | rfl
  · exact h y hy
  · exact ⟨h0,h1⟩
theorem Nm.zeros {p : Int} (hp : 0 < p) (n : Nat) : Nm p (List.replicate n 0):=fun x hx=>by
  rw [(List.mem_replicate.1 hx).2];exact ⟨Int.le_refl _,hp⟩
instance (p : Int) (l : List Int) : Decidable (Nm p l):=by unfold Nm;infer_instance

/-- A modulus that the program may have (in its range; a Ck or not). -/
structure Pm (p : Int) : Prop where
  two : 2 ≤ p
  top : p ≤ 10007
theorem Pm.pos {p : Int} (h : Pm p) : 0 < p:=by have:=h.two;omega
theorem Pm.ne {p : Int} (h : Pm p) : p ≠ 0:=by have:=h.two;omega

theorem abT {a b m n : Int} (ha : 0 ≤ a) (ha' : a ≤ m) (hb : 0 ≤ b) (hb' : b ≤ n) : 0 ≤ a * b∧a * b ≤ m * n :=
  ⟨Int.mul_nonneg ha hb,Int.mul_le_mul ha' hb' hb (by omega)⟩
/-- A product of two numbers modulo p. -/
theorem Cc {p a b : Int} (hp : Pm p) (ha : 0 ≤ a) (ha' : a < p) (hb : 0 ≤ b) (hb' : b < p) : 0 ≤ a * b∧a * b ≤ 100140049:=by
  have h1:=hp.top
  have h:=abT (m:=10007) (n:=10007) ha (by omega) hb (by omega)
  exact ⟨h.1,by omega⟩
theorem lC {a b : Int} (h : 0 ≤ a) : Int.tmod a b = a % b:=Int.tmod_eq_emod_of_nonneg h
theorem lQ {p : Int} (hp : 0 < p) (x : Int) : 0 ≤ x % p∧x % p < p:=⟨Int.emod_nonneg _ (by omega),Int.emod_lt_of_pos _ hp⟩
/-- Go's '(x % p + p) % p' is the rest of x. -/
theorem KY {p x : Int} (hp : Pm p) : Int.tmod (wrap64 (Int.tmod x p + p)) p = x % p:=by
  have h2:=hp.two
  have ht:=hp.top
  have h:=Int.tmod_eq_emod (a:=x) (b:=p)
  have hb:=lQ hp.pos x
  have hn : ((p.natAbs : Nat) : Int) = p:=by omega
  split at h
  · rw [h,Int.natCast_zero,bM (by omega) (by omega),lC (by omega),show x % p - 0 + p = x % p + p from by omega,Int.add_emod_right,Int.emod_emod]
  · rw [h,hn,bM (by omega) (by omega),lC (by omega),show x % p - p + p = x % p from by omega,Int.emod_emod]

/-- A list without noughts at its end. -/
def oP (l : List Int) : List Int:=(l.reverse.dropWhile (· == 0)).reverse
theorem Ij : oP [] = []:=rfl
theorem uk (l : List Int) : oP (l ++ [0]) = oP l:=by simp [oP]
theorem xx (l : List Int) {x : Int} (h : x ≠ 0) : oP (l ++ [x]) = l ++ [x]:=by simp [oP,h]
theorem KZ {α : Type} {P : List α → Prop} (h0 : P []) (h1 : ∀ l x,P l → P (l ++ [x])) (l : List α) : P l:=by
  have h : ∀ l : List α,P l.reverse:=by
    intro l
    induction l with
    | nil=>exact h0
    | cons x l ih=>rw [List.reverse_cons];exact h1 _ _ ih
  simpa using h l.reverse
theorem Ik (l : List Int) : ∃ n,l = oP l ++ List.replicate n 0:=by
  induction l using KZ with
  | h0=>exact ⟨0,rfl⟩
  | h1 l x ih =>
    by_cases h : x = 0
    · subst h
      obtain ⟨n,hn⟩:=ih
      refine ⟨n + 1,?_⟩
      rw [uk,List.replicate_succ',← List.append_assoc,← hn]
    · exact ⟨0,by rw [xx l h];simp⟩
/- The great laws' comparisons of lists and moments. -/
open Go Go.RowKit Go.Proofs.YtilbjbahmilhkaaW.PrintWords Go.Proofs.YtilbjbahmilhkaaW.PrintLast Go.Proofs.YtilbjbahmilhkaaW.PrintMore
theorem abU (l : List Int) (hl : Sm l.length) (d : Nat) : ∀ i : Nat,i + d = l.length → Ev (fun k=>gM.l0 k l l (i : Int)) true:=by
  unfold Sm at hl
  induction d with
  | zero =>
    intro i hi
    refine Ev.step (fun k=>by rw [gM.l0]) ?_
    exact Ev.neg (by omega) (Ev.now _)
  | succ d ih =>
    intro i hi
    refine Ev.step (fun k=>by rw [gM.l0]) ?_
    refine Ev.pos (by omega) (Ev.pos (by omega) (Ev.pos (by omega) (Ev.pos rfl ?_)))
    rw [kz (i:=i) (n:=l.length) (by omega) (by omega)]
    exact ih (i + 1) (by omega)
theorem Tf (l : List Int) (hl : Sm l.length) : Ev (fun k=>gM.f k l l) true:=by
  unfold gM.f
  exact Ev.pos rfl (abU l hl l.length 0 (by omega))
/- Copies of lists; no condition. -/
theorem Sm.take {l : List Int} (h : Sm l.length) (n : Nat) : Sm (l.take n).length:=by unfold Sm at h ⊢;rw [List.length_take];omega
theorem Sm.drop {l : List Int} (h : Sm l.length) (n : Nat) : Sm (l.drop n).length:=by unfold Sm at h ⊢;rw [List.length_drop];omega
theorem Il (l : List Int) (hl : Sm l.length) : jO.f l = some l:=by
  unfold jO.f
  simp only [Option.bind_some,List.length_nil,List.nil_append]
  rw [if_pos (by unfold Sm at hl;omega)]
/- Primes and numbers modulo p: what the program and the reference compute of them. -/
theorem FC (a b c : Int) : jk.f a b c = some (decide (b ≤ a∧a ≤ c)):=by
  unfold jk.f
  by_cases h : b ≤ a
  · rw [if_pos h];simp [h]
  · rw [if_neg h];simp [h]
theorem BJ (a b c : Int) : kR.f a b c = some (decide (b ≤ a∧a ≤ c)):=by
  unfold kR.f
  by_cases h : b ≤ a
  · rw [if_pos h];simp [h]
  · rw [if_neg h];simp [h]
theorem has_eq (p x : Int) : ib.f p x = some (decide (0 ≤ x∧x < p)):=by
  unfold ib.f
  by_cases h : 0 ≤ x
  · rw [if_pos h];simp [h]
  · rw [if_neg h];simp [h]
theorem AO {p : Int} (hp : Pm p) (x : Int) : fF.f p x = some (x % p):=by
  unfold fF.f
  rw [if_neg hp.ne,KY hp]

/-! ### primes -/
def FD (p : Int) (i : Nat) : Prop:=∀ j,j < 101 → i ≤ j → (j : Int) * (j : Int) ≤ p → p % (j : Int) ≠ 0
instance (p : Int) (i : Nat) : Decidable (FD p i):=by unfold FD;infer_instance
def iw (p : Int) : Bool:=decide (2 ≤ p∧p ≤ 10007) && decide (FD p 2)
theorem iw.pm {p : Int} (h : iw p = true) : Pm p:=by
  simp only [iw,Bool.and_eq_true,decide_eq_true_eq] at h
  exact ⟨h.1.1,h.1.2⟩
theorem Im {p : Int} {i : Nat} (h : p % (i : Int) ≠ 0) : decide (FD p i) = decide (FD p (i + 1)):=by
  apply decide_eq_decide.2
  constructor
  · exact fun g j h1 h2 h3=>g j h1 (by omega) h3
  · intro g j h1 h2 h3
    by_cases e : j = i
    · subst e;exact h
    · exact g j h1 (by omega) h3
theorem BL {p : Int} {i : Nat} (h : p < (i : Int) * (i : Int)) : FD p i:=by
  intro j h1 h2 h3
  have:=abT (a:=(i : Int)) (b:=(i : Int)) (m:=(j : Int)) (n:=(j : Int)) (by omega) (by omega) (by omega) (by omega)
  omega
theorem sqB {i : Nat} (h : i ≤ 101) : 0 ≤ (i : Int) * (i : Int)∧(i : Int) * (i : Int) ≤ 10201:=by
  have:=abT (a:=(i : Int)) (b:=(i : Int)) (m:=101) (n:=101) (by omega) (by omega) (by omega) (by omega)
  omega
theorem K3 {p : Int} (h2 : 2 ≤ p) (ht : p ≤ 10007) (d : Nat) : ∀ i,2 ≤ i → i + d = 101 → Ev (fun k=>fG.l0 k p (i : Int)) (decide (FD p i)):=by
  induction d with
  | zero =>
    intro i hi hd
    obtain rfl : i = 101:=by omega
    refine Ev.step (fun k=>by rw [fG.l0]) ?_
    refine Ev.neg (by rw [bM (by omega) (by omega)];omega) (Ev.mW ?_)
    exact (decide_eq_true (BL (by omega))).symm
  | succ d ih =>
    intro i hi hd
    have hb:=sqB (i:=i) (by omega)
    refine Ev.step (fun k=>by rw [fG.l0]) ?_
    rw [bM (x:=(i : Int) * (i : Int)) (by omega) (by omega),lC (by omega)]
    by_cases h : (i : Int) * (i : Int) ≤ p
    · refine Ev.pos h (Ev.neg (by omega) ?_)
      by_cases h3 : p % (i : Int) = 0
      · exact Ev.pos h3 (Ev.mW (decide_eq_false (fun g=>g i (by omega) (by omega) h h3)).symm)
      · refine Ev.neg h3 ?_
        rw [Im h3,kz (i:=i) (n:=101) (by omega) (by omega)]
        exact ih (i + 1) (by omega) (by omega)
    · exact Ev.neg h (Ev.mW (decide_eq_true (BL (by omega))).symm)
theorem K4 {p : Int} (h2 : 2 ≤ p) (ht : p ≤ 10007) (d : Nat) : ∀ i,2 ≤ i → i + d = 101 → Ev (fun k=>gT.l0 k p (i : Int)) (decide (FD p i)):=by
  induction d with
  | zero =>
    intro i hi hd
    obtain rfl : i = 101:=by omega
    refine Ev.step (fun k=>by rw [gT.l0]) ?_
    refine Ev.neg (by rw [bM (by omega) (by omega)];omega) (Ev.mW ?_)
    exact (decide_eq_true (BL (by omega))).symm
  | succ d ih =>
    intro i hi hd
    have hb:=sqB (i:=i) (by omega)
    refine Ev.step (fun k=>by rw [gT.l0]) ?_
    rw [bM (x:=(i : Int) * (i : Int)) (by omega) (by omega),lC (by omega)]
    by_cases h : (i : Int) * (i : Int) ≤ p
    · refine Ev.pos h (Ev.neg (by omega) ?_)
      by_cases h3 : p % (i : Int) = 0
      · exact Ev.pos h3 (Ev.mW (decide_eq_false (fun g=>g i (by omega) (by omega) h h3)).symm)
      · refine Ev.neg h3 ?_
        rw [Im h3,kz (i:=i) (n:=101) (by omega) (by omega)]
        exact ih (i + 1) (by omega) (by omega)
    · exact Ev.neg h (Ev.mW (decide_eq_true (BL (by omega))).symm)
theorem Di (p : Int) : Ev (fun k=>fG.f k p) (iw p):=by
  unfold fG.f iw
  refine Ev.iL (FC _ _ _) ?_
  by_cases h : 2 ≤ p∧p ≤ 10007
  · refine Ev.pos (decide_eq_true h) ?_
    rw [decide_eq_true h,Bool.true_and]
    exact K3 h.1 h.2 99 2 (by omega) (by omega)
  · refine Ev.neg (by simp [h]) (Ev.mW ?_)
    rw [decide_eq_false h,Bool.false_and]
theorem Dj (p : Int) : Ev (fun k=>gT.f k p) (iw p):=by
  unfold gT.f iw
  refine Ev.iL (BJ _ _ _) ?_
  by_cases h : 2 ≤ p∧p ≤ 10007
  · refine Ev.pos (decide_eq_true h) ?_
    rw [decide_eq_true h,Bool.true_and]
    exact K4 h.1 h.2 99 2 (by omega) (by omega)
  · refine Ev.neg (by simp [h]) (Ev.mW ?_)
    rw [decide_eq_false h,Bool.false_and]

/-! ### numbers modulo p -/
theorem K5 (p x : Int) (l : List Int) : Nm p (x :: l) ↔ (0 ≤ x∧x < p)∧Nm p l:=by
  constructor
  · exact fun h=>⟨h x (List.mem_cons_self ..),fun y hy=>h y (List.mem_cons_of_mem _ hy)⟩
  · exact fun h=>Nm.cons h.1.1 h.1.2 h.2
theorem Xl (p : Int) (l : List Int) : Dk (fun z_=>ib.f p z_) l = some (decide (Nm p l)):=by
  induction l with
  | nil=>simp only [Dk];rw [decide_eq_true (Nm.nil p)]
  | cons x l ih =>
    simp only [has_eq] at ih
    simp only [Dk,has_eq,Option.bind_some]
    by_cases h : 0 ≤ x∧x < p
    · rw [if_pos (decide_eq_true h),ih]
      congr 1
      apply decide_eq_decide.2
      rw [K5]
      exact ⟨fun g=>⟨h,g⟩,fun g=>g.2⟩
    · rw [if_neg (by simp [h])]
      congr 1
      exact (decide_eq_false (fun g=>h ((K5 p x l).1 g).1)).symm
theorem Io (p : Int) (l : List Int) (hl : l.length < 4611686018427387904) : jc.f l (fun z_=>ib.f p z_) = some (decide (Nm p l)):=by
  unfold jc.f
  rw [if_pos hl,Xl]
theorem Dl {p : Int} {l : List Int} {i : Nat} (h : i < l.length) : Nm p (l.drop i) ↔ (0 ≤ l.getD i 0∧l.getD i 0 < p)∧Nm p (l.drop (i + 1)):=by
  rw [EI l 0 i h,K5]
/-! ### sums -/
def sumTo (g : Nat → Int) : Nat → Int
  | 0=>0
  | n + 1=>sumTo g n + g n
/- What comes to some value of a kind, whichever (Ex); the source of drawn numbers. No condition. -/
/-- It comes to a value with P. -/
def Ex {α : Type} (g : Nat → Option α) (P : α → Prop) : Prop:=∃ r,Ev g r∧P r
section
variable {α β : Type} {P P' : α → Prop} {Q : β → Prop} {g f X Y : Nat → Option α}
theorem Ex.now {r : α} (h : P r) : Ex (fun _=>some r) P:=⟨r,Ev.now r,h⟩
theorem Ex.weak (h : Ex g P) (k : ∀ a,P a → P' a) : Ex g P':=by
  obtain ⟨r,e,h⟩:=h
  exact ⟨r,e,k r h⟩
theorem Ex.bind {f : Nat → α → Option β} (h : Ex g P) (k : ∀ a,P a → Ex (fun n=>f n a) Q) : Ex (fun n=>(g n).bind (f n)) Q:=by
  obtain ⟨r,e,h⟩:=h
  obtain ⟨s,e',h'⟩:=k r h
  exact ⟨s,Ev.bind e e',h'⟩
theorem Ex.ite {c : Prop} [Decidable c] (h : c → Ex X P) (h' : ¬ c → Ex Y P) : Ex (fun k=>if c then X k else Y k) P:=by
  by_cases g : c
  · obtain ⟨r,e,hr⟩:=h g
    exact ⟨r,Ev.pos g e,hr⟩
  · obtain ⟨r,e,hr⟩:=h' g
    exact ⟨r,Ev.neg g e,hr⟩
theorem Ex.pos {c : Prop} [Decidable c] (g : c) (h : Ex X P) : Ex (fun k=>if c then X k else Y k) P:=Ex.ite (fun _=>h) (fun n=>absurd g n)
theorem Ex.neg {c : Prop} [Decidable c] (g : ¬ c) (h : Ex Y P) : Ex (fun k=>if c then X k else Y k) P:=Ex.ite (fun n=>absurd n g) (fun _=>h)
theorem Ex.step (h : ∀ k,g (k + 1) = f k) (k : Ex f P) : Ex g P:=by
  obtain ⟨r,e,hr⟩:=k
  exact ⟨r,Ev.step h e,hr⟩
theorem Ex.eq {x : Option α} {r : α} (h : x = some r) (k : P r) : Ex (fun _=>x) P:=⟨r,Ev.eq h,k⟩
end

/-- A source of numbers: bytes, of which the first i are used. -/
structure St (c : List Int) (i : Int) : Prop where
  b : ∀ x ∈ c,0 ≤ x∧x < 256
  l : c.length ≤ 4096
  lo : 0 ≤ i
  hi : i ≤ (c.length : Int)
theorem abV (y : Int) : 0 ≤ Go.bits .and .u64 (IntKind.u64.wrap y / 8589934592) 16777215∧Go.bits .and .u64 (IntKind.u64.wrap y / 8589934592) 16777215 < 16777216:=by
  have hw : ∀ n : Int,0 ≤ n → n < 2 ^ 63 → IntKind.u64.wrap n = n:=fun n h₀ h₁=>by rw [IntKind.wrap_u64];omega
  have h0 : 0 ≤ IntKind.u64.wrap y / 8589934592∧IntKind.u64.wrap y / 8589934592 < 2147483648:=by rw [IntKind.wrap_u64];omega
  have h:=bits_mask .u64 63 (by decide) hw 24 (by decide) (IntKind.u64.wrap y / 8589934592) (by omega) (by omega)
  have e : ((2 : Int) ^ 24 - 1) = 16777215:=by decide
  have e2 : ((2 : Int) ^ 24) = 16777216:=by decide
  rw [e,e2] at h
  rw [h]
  omega
/-- What Next gives. -/
def Nx (c : List Int) (n : Int) (r : Int × Int × Int) : Prop:=St c r.2.1∧0 ≤ r.1∧(1 ≤ n → r.1 < n)∧(n < 1 → r.1 = 0)
theorem nO {c : List Int} {i : Int} (s : St c i) (h n : Int) : Ex (fun _=>aX.f c i h n) (Nx c n):=by
  unfold aX.f
  have hl:=s.l
  have hlo:=s.lo
  have hhi:=s.hi
  have hm:=abV (IntKind.u64.wrap (h * 6364136223846793005) + 1442695040888963407)
  generalize Go.bits .and .u64 (IntKind.u64.wrap (IntKind.u64.wrap (h * 6364136223846793005) + 1442695040888963407) / 8589934592) 16777215 = m at hm ⊢
  refine Ex.ite (fun g=>Ex.now ⟨s,Int.le_refl _,fun g'=>by omega,fun _=>rfl⟩) (fun g=>?_)
  refine Ex.ite (fun g1=>?_) (fun g1=>?_)
  · have hx : 0 ≤ rd c i∧rd c i < 256:=by
      obtain ⟨j,rfl⟩ : ∃ j : Nat,i = (j : Int):=⟨i.toNat,by omega⟩
      rw [mM]
      exact s.b _ (xE (by omega))
    have e : wrap64 (wrap64 m + wrap64 (rd c i)) = m + rd c i:=by
      rw [bM (x:=rd c i) (by omega) (by omega),bM (x:=m) (by omega) (by omega),bM (by omega) (by omega)]
    have hb:=lQ (p:=n) (by omega) (m + rd c i)
    refine Ex.pos s.lo (Ex.neg (by omega) (Ex.now ⟨⟨s.b,s.l,?_,?_⟩,?_,?_,?_⟩))
    · show 0 ≤ wrap64 (i + 1)
      rw [bM (by omega) (by omega)];omega
    · show wrap64 (i + 1) ≤ _
      rw [bM (by omega) (by omega)];omega
    · show 0 ≤ Int.tmod (wrap64 (wrap64 m + wrap64 (rd c i))) n
      rw [e,lC (by omega)];exact hb.1
    · show 1 ≤ n → Int.tmod (wrap64 (wrap64 m + wrap64 (rd c i))) n < n
      rw [e,lC (by omega)];exact fun _=>hb.2
    · exact fun g'=>by omega
  · have e : wrap64 m = m:=bM (by omega) (by omega)
    have hb:=lQ (p:=n) (by omega) m
    refine Ex.neg (by omega) (Ex.now ⟨s,?_,?_,?_⟩)
    · show 0 ≤ Int.tmod (wrap64 m) n
      rw [e,lC (by omega)];exact hb.1
    · show 1 ≤ n → Int.tmod (wrap64 m) n < n
      rw [e,lC (by omega)];exact fun _=>hb.2
    · exact fun g'=>by omega
theorem Dm {c : List Int} {i : Int} (s : St c i) (h : Int) (l : List Int) (hl : 1 ≤ l.length) : Ex (fun _=>jH.f c i h l) (fun r=>St c r.2.1∧r.1 ∈ l):=by
  unfold jH.f
  refine Ex.bind (nO s h (l.length : Int)) (fun r hr=>?_)
  obtain ⟨h1,h2,h3,_⟩:=hr
  have h3:=h3 (by omega)
  refine Ex.pos h2 (Ex.pos h3 (Ex.now ⟨h1,?_⟩))
  obtain ⟨j,e⟩ : ∃ j : Nat,r.1 = (j : Int):=⟨r.1.toNat,by omega⟩
  dsimp only
  rw [e,mM]
  exact xE (by omega)
/-- A code's source. -/
def Sc (c : List Int) (r : List Int × Int × Int) : Prop:=r.1 = c∧St c r.2.1
theorem abW {c : List Int} (hb : ∀ x ∈ c,0 ≤ x∧x < 256) (hl : c.length ≤ 4096) (d : Nat) : ∀ (i : Nat) (h : Int),i + d = c.length → Ex (fun k=>ed.l0 k c (i : Int) c 0 h) (Sc c):=by
  have s : St c 0:=⟨hb,hl,Int.le_refl _,by omega⟩
  induction d with
  | zero =>
    intro i h hi
    refine Ex.step (fun k=>by rw [ed.l0]) ?_
    exact Ex.neg (by omega) (Ex.now ⟨rfl,s⟩)
  | succ d ih =>
    intro i h hi
    refine Ex.step (fun k=>by rw [ed.l0]) ?_
    refine Ex.pos (by omega) (Ex.ite (fun _=>Ex.pos (by omega) ?_) (fun _=>Ex.now ⟨rfl,s⟩))
    rw [kz (i:=i) (n:=c.length) (by omega) (by omega)]
    exact ih (i + 1) _ (by omega)
theorem K6 {c : List Int} (hb : ∀ x ∈ c,0 ≤ x∧x < 256) (hl : c.length ≤ 4096) : Ex (fun k=>ed.f k c) (Sc c):=by
  unfold ed.f
  exact abW hb hl c.length 0 _ (by omega)
/- Polynomials and the program's code for them; no condition. -/
/-! ### polynomials -/
def Ip (l : List Int) : Bool:=decide (l.length = 0) || (l.getD (l.length - 1) 0 != 0)
def oo (p : Int) (l : List Int) : Bool:=decide (Nm p l) && (decide (l.length ≤ 25) && Ip l)
theorem Oe (l : List Int) (hl : Sm l.length) :
    (if (l.length : Int) = 0 then (some true) else (if 0 ≤ (wrap64 ((l.length : Int) - 1)) then (if (wrap64 ((l.length : Int) - 1)) < (l.length : Int) then (some ((rd l (wrap64 ((l.length : Int) - 1))) != 0)) else none) else none)) = some (Ip l):=by
  unfold Ip
  by_cases h : l.length = 0
  · rw [if_pos (by omega)];simp [h]
  · rw [if_neg (by omega),Te (by omega) (by unfold Sm at hl;omega),if_pos (by omega),if_pos (by omega),mM]
    simp [h]
theorem Og (p : Int) (l : List Int) (hl : Sm l.length) : qj.f p l = some (oo p l):=by
  unfold qj.f oo
  by_cases h : l.length ≤ 25
  · rw [if_pos (by omega),Io p l (by omega),Option.bind_some]
    by_cases hn : Nm p l
    · rw [if_pos (decide_eq_true hn),Oe l hl];simp [h,hn]
    · rw [if_neg (by simp [hn])];simp [hn]
  · rw [if_neg (by omega)];simp [h]
theorem VK (p : Int) (ls : List (List Int)) (hl : ∀ l ∈ ls,Sm l.length) : Dk (fun z_=>gW.f z_ p) ls = some (ls.all (oo p)):=by
  induction ls with
  | nil=>rfl
  | cons l ls ih =>
    have e : gW.f l p = some (oo p l):=by
      unfold gW.f
      rw [Og p l (hl l (List.mem_cons_self ..))];rfl
    simp only [Dk,e,Option.bind_some,List.all_cons]
    by_cases h : oo p l = true
    · rw [if_pos h,ih (fun m hm=>hl m (List.mem_cons_of_mem _ hm)),h,Bool.true_and]
    · rw [if_neg h,Bool.eq_false_iff.2 h,Bool.false_and]
theorem Oh (p : Int) (b : Bool) (ls : List (List Int)) (hs : Sm ls.length) (hl : ∀ l ∈ ls,Sm l.length) :
    Ev (fun k=>oq.f k p b ls) (if ls.all (oo p) then (if iw p && b then 0 else 2) else 1):=by
  unfold oq.f
  have e : jI.f ls (fun z_=>gW.f z_ p) = some (ls.all (oo p)):=by
    unfold jI.f
    rw [if_pos (by unfold Sm at hs;omega),VK p ls hl]
  refine Ev.iL e ?_
  by_cases h : ls.all (oo p) = true
  · refine Ev.pos h (Ev.bind (Dj p) ?_)
    rw [if_pos h]
    cases iw p <;> cases b <;> exact ⟨0,fun _ _=>rfl⟩
  · refine Ev.neg h (Ev.mW ?_)
    rw [if_neg h]
/- Small facts of polynomials; no condition. -/
theorem oo.nm {p : Int} {f : List Int} (h : oo p f = true) : Nm p f:=by
  simp only [oo,Bool.and_eq_true,decide_eq_true_eq] at h;exact h.1
theorem oo.len {p : Int} {f : List Int} (h : oo p f = true) : f.length ≤ 25:=by
  simp only [oo,Bool.and_eq_true,decide_eq_true_eq] at h;exact h.2.1
theorem Tg (p : Int) (f : List Int) : [f].all (oo p) = oo p f:=by simp
/- Polynomials: the reference's test; no condition. -/
theorem Oi (p : Int) (l : List Int) (hl : Sm l.length) (d : Nat) : ∀ i,i + d = l.length → Ev (fun k=>jo.l0 k p l (i : Int)) (decide (Nm p (l.drop i)) && (decide (l.length ≤ 25) && Ip l)):=by
  induction d with
  | zero =>
    intro i hi
    refine Ev.step (fun k=>by rw [jo.l0]) ?_
    refine Ev.neg (by omega) ?_
    rw [List.drop_eq_nil_of_le (by omega),decide_eq_true (Nm.nil p),Bool.true_and]
    by_cases h : l.length ≤ 25
    · refine Ev.pos (by omega) (Ev.eq ?_)
      rw [Oe l hl];simp [h]
    · exact Ev.neg (by omega) (Ev.mW (by simp [h]))
  | succ d ih =>
    intro i hi
    refine Ev.step (fun k=>by rw [jo.l0]) ?_
    refine Ev.pos (by omega) (Ev.pos (by omega) ?_)
    rw [mM,kz (i:=i) (n:=l.length) (by omega) (by unfold Sm at hl;omega)]
    by_cases h : l.getD i 0 < 0
    · refine Ev.pos h (Ev.mW ?_)
      rw [decide_eq_false (fun g=>by have:=((Dl (by omega : i < l.length)).1 g).1.1;omega),Bool.false_and]
    · refine Ev.neg h ?_
      by_cases h' : p ≤ l.getD i 0
      · refine Ev.pos h' (Ev.mW ?_)
        rw [decide_eq_false (fun g=>by have:=((Dl (by omega : i < l.length)).1 g).1.2;omega),Bool.false_and]
      · refine Ev.neg h' (Ev.cast (ih (i + 1) (by omega)) ?_)
        congr 1
        apply decide_eq_decide.2
        rw [Dl (by omega : i < l.length)]
        exact ⟨fun g=>⟨⟨by omega,by omega⟩,g⟩,fun g=>g.2⟩
theorem FE (p : Int) (l : List Int) (hl : Sm l.length) : Ev (fun k=>jo.f k p l) (oo p l):=by
  unfold jo.f oo
  simpa using Oi p l hl l.length 0 (by omega)
/- Moments: which lists are some, for the program and for the reference; no condition. -/
theorem Qj (p : Int) (hp : -9223372036854775807 ≤ p) (hp' : p ≤ 9223372036854775807) (l : List Int) (hl : Sm l.length) (d : Nat) : ∀ i,i + d = l.length → Ev (fun k=>gX.l0 k p l (i : Int)) (decide (Nm p (l.drop i))):=by
  induction d with
  | zero =>
    intro i hi
    refine Ev.step (fun k=>by rw [gX.l0]) ?_
    refine Ev.neg (by omega) (Ev.mW ?_)
    rw [List.drop_eq_nil_of_le (by omega)]
    exact (decide_eq_true (Nm.nil p)).symm
  | succ d ih =>
    intro i hi
    refine Ev.step (fun k=>by rw [gX.l0]) ?_
    refine Ev.pos (by omega) (Ev.pos (by omega) (Ev.iL (FC _ _ _) ?_))
    rw [mM,bM (x:=p - 1) (by omega) (by omega),kz (i:=i) (n:=l.length) (by omega) (by unfold Sm at hl;omega)]
    by_cases h : 0 ≤ l.getD i 0∧l.getD i 0 ≤ p - 1
    · refine Ev.pos (decide_eq_true h) (Ev.cast (ih (i + 1) (by omega)) ?_)
      apply decide_eq_decide.2
      rw [Dl (by omega : i < l.length)]
      exact ⟨fun g=>⟨⟨h.1,by omega⟩,g⟩,fun g=>g.2⟩
    · refine Ev.neg (by simpa using h) (Ev.mW (decide_eq_false ?_).symm)
      rw [Dl (by omega : i < l.length)]
      exact fun g=>h ⟨g.1.1,by omega⟩
theorem Qk {p : Int} (hp : Pm p) (l : List Int) (hl : Sm l.length) : Ev (fun k=>gX.f k p l) (decide (Nm p l)):=by
  unfold gX.f
  have h2:=hp.two
  have ht:=hp.top
  simpa using Qj p (by omega) (by omega) l hl l.length 0 (by omega)

/-! ### moments -/
def jP (p : Int) (l : List Int) : Bool:=iw p && (decide (1 ≤ l.length∧l.length ≤ 24) && decide (Nm p l))
theorem jP.pm {p : Int} {l : List Int} (h : jP p l = true) : Pm p:=by
  simp only [jP,Bool.and_eq_true] at h;exact iw.pm h.1
theorem jP.nm {p : Int} {l : List Int} (h : jP p l = true) : Nm p l:=by
  simp only [jP,Bool.and_eq_true,decide_eq_true_eq] at h;exact h.2.2
theorem jP.len {p : Int} {l : List Int} (h : jP p l = true) : 1 ≤ l.length∧l.length ≤ 24:=by
  simp only [jP,Bool.and_eq_true,decide_eq_true_eq] at h;exact h.2.1
theorem jP.Ck {p : Int} {l : List Int} (h : jP p l = true) : iw p = true:=by
  simp only [jP,Bool.and_eq_true] at h;exact h.1
theorem xG (p : Int) (l : List Int) (hl : Sm l.length) : Ev (fun k=>jg.f k p l) (jP p l):=by
  unfold jg.f jP
  refine Ev.bind (Di p) ?_
  by_cases hp : iw p = true
  · rw [hp,Bool.true_and]
    refine Ev.pos rfl ?_
    by_cases h1 : 1 ≤ l.length
    · refine Ev.pos (by omega) ?_
      by_cases h2 : l.length ≤ 24
      · refine Ev.pos (by omega) (Ev.bind (Qk (iw.pm hp) l hl) (Ev.mW ?_))
        rw [decide_eq_true (⟨h1,h2⟩ : 1 ≤ l.length∧l.length ≤ 24),Bool.true_and]
      · exact Ev.neg (by omega) (Ev.mW (by simp [h2]))
    · exact Ev.neg (by omega) (Ev.mW (by simp [h1]))
  · rw [Bool.eq_false_iff.2 hp,Bool.false_and]
    exact Ev.neg (by simp) (Ev.now _)
theorem Ql (p : Int) (l : List Int) (hl : Sm l.length) : Ev (fun k=>eB.f k p l) (jP p l):=by
  unfold eB.f jP
  refine Ev.bind (Dj p) ?_
  by_cases hp : iw p = true
  · rw [hp,Bool.true_and]
    refine Ev.pos rfl (Ev.iL (a:=(l.length : Int)) rfl (Ev.iL (BJ _ _ _) ?_))
    by_cases h : 1 ≤ l.length∧l.length ≤ 24
    · refine Ev.pos (decide_eq_true (by omega)) (Ev.iL (a:=p) rfl (Ev.iL (Io p l (by unfold Sm at hl;omega)) (Ev.mW ?_)))
      rw [decide_eq_true h,Bool.true_and]
    · refine Ev.neg (by simp;omega) (Ev.mW ?_)
      rw [decide_eq_false h,Bool.false_and]
  · rw [Bool.eq_false_iff.2 hp,Bool.false_and]
    exact Ev.neg (by simp) (Ev.now _)
theorem oG (p : Int) (l : List Int) (hl : Sm l.length) (b : Bool) (ls : List (List Int)) (hs : Sm ls.length) (hls : ∀ l ∈ ls,Sm l.length) :
    Ev (fun k=>dC.f k p l b ls) (if jP p l && ls.all (oo p) then (if b then 0 else 2) else 1):=by
  unfold dC.f
  refine Ev.bind (Ql p l hl) ?_
  by_cases h : jP p l = true
  · rw [h,Bool.true_and]
    refine Ev.pos rfl (Ev.bind (Oh p b ls hs hls) (Ev.mW ?_))
    rw [jP.Ck h,Bool.true_and]
  · rw [Bool.eq_false_iff.2 h,Bool.false_and]
    exact Ev.neg (by simp) (Ev.mW rfl)
/- Small facts of lists, copies and polynomials; no condition. -/

/- What the functional makes of a polynomial: one sum modulo p, in the program and in the reference. -/
/-- The functional at f times x^s. -/
def oH (p : Int) (m f : List Int) (s : Nat) : Int:=sumTo (fun j=>f.getD j 0 * m.getD (j + s) 0) f.length % p

theorem K7 {p : Int} (hp : Pm p) (m f : List Int) (hm : Nm p m) (hf : Nm p f) (s : Nat) (hs : f.length + s ≤ m.length ∨ f = []) (hl : Sm f.length) (hss : Sm s) (d : Nat) : ∀ i,i + d = f.length →
    Ev (fun k=>gY.l0 k f (s : Int) (sumTo (fun j=>f.getD j 0 * m.getD (j + s) 0) i % p) (i : Int) p m) (oH p m f s):=by
  induction d with
  | zero =>
    intro i hi
    refine Ev.step (fun k=>by rw [gY.l0]) ?_
    refine Ev.neg (by omega) (Ev.mW ?_)
    unfold oH
    rw [show i = f.length from by omega]
  | succ d ih =>
    intro i hi
    have hs' : f.length + s ≤ m.length:=by
      rcases hs with h | h
      · exact h
      · rw [h] at hi;simp at hi
    unfold Sm at hl hss
    have h1:=hf.get (i:=i) (by omega)
    have h2:=hm.get (i:=i + s) (by omega)
    have h3:=Cc hp h1.1 h1.2 h2.1 h2.2
    have h4:=lQ hp.pos (sumTo (fun j=>f.getD j 0 * m.getD (j + s) 0) i)
    have ht:=hp.top
    refine Ev.step (fun k=>by rw [gY.l0]) ?_
    refine Ev.pos (by omega) (Ev.pos (by omega) ?_)
    rw [Xk (i:=i) (j:=s) (n:=i + s + 1) (by omega) (by omega)]
    refine Ev.pos (by omega) (Ev.pos (by omega) (Ev.neg hp.ne ?_))
    rw [mM,mM,bM (x:=f.getD i 0 * m.getD (i + s) 0) (by omega) (by omega),bM (by omega) (by omega),lC (by omega),Int.emod_add_emod,kz (i:=i) (n:=f.length) (by omega) (by omega)]
    exact ih (i + 1) (by omega)
theorem Dn {p : Int} (hp : Pm p) (m f : List Int) (hm : Nm p m) (hf : Nm p f) (s : Nat) (hs : f.length + s ≤ m.length ∨ f = []) (hl : Sm f.length) (hss : Sm s) :
    Ev (fun k=>gY.f k p m f (s : Int)) (oH p m f s):=by
  unfold gY.f
  have h:=K7 hp m f hm hf s hs hl hss f.length 0 (by omega)
  simpa [sumTo] using h

theorem K8 {p : Int} (hp : Pm p) (m f : List Int) (hm : Nm p m) (hf : Nm p f) (hs : f.length ≤ m.length) (hl : Sm f.length) (d : Nat) : ∀ i,i + d = f.length →
    Ev (fun k=>bv.l0 k (sumTo (fun j=>f.getD j 0 * m.getD j 0) i % p) f (f.length : Int) (i : Int) p m) (oH p m f 0):=by
  induction d with
  | zero =>
    intro i hi
    refine Ev.step (fun k=>by rw [bv.l0]) ?_
    refine Ev.neg (by omega) (Ev.mW ?_)
    unfold oH
    rw [show i = f.length from by omega]
    rfl
  | succ d ih =>
    intro i hi
    unfold Sm at hl
    have h1:=hf.get (i:=i) (by omega)
    have h2:=hm.get (i:=i) (by omega)
    have h3:=Cc hp h1.1 h1.2 h2.1 h2.2
    have h4:=lQ hp.pos (sumTo (fun j=>f.getD j 0 * m.getD j 0) i)
    have ht:=hp.top
    refine Ev.step (fun k=>by rw [bv.l0]) ?_
    refine Ev.pos (by omega) (Ev.pos (by omega) (Ev.pos (by omega) (Ev.iL (a:=p) rfl (Ev.pos (by omega) (Ev.iL (AO hp _) ?_)))))
    rw [mM,mM,bM (x:=f.getD i 0 * m.getD i 0) (by omega) (by omega),bM (by omega) (by omega),Int.emod_add_emod,kz (i:=i) (n:=f.length) (by omega) (by omega)]
    exact ih (i + 1) (by omega)
theorem zu {p : Int} (hp : Pm p) (m f : List Int) (hm : Nm p m) (hf : Nm p f) (hs : f.length ≤ m.length) (hl : Sm f.length) :
    Ev (fun k=>bv.f k p m f) (oH p m f 0):=by
  unfold bv.f
  have h:=K8 hp m f hm hf hs hl f.length 0 (by omega)
  simpa [sumTo] using h
theorem getD_drop (m : List Int) (i j : Nat) : (m.drop i).getD j 0 = m.getD (j + i) 0:=by
  rw [List.getD_eq_getElem?_getD,List.getD_eq_getElem?_getD,List.getElem?_drop,Nat.add_comm]
theorem Oj (p : Int) (m f : List Int) (i s : Nat) : oH p (m.drop i) f s = oH p m f (s + i):=by
  unfold oH
  congr 2
  funext j
  rw [getD_drop,Nat.add_assoc]
/- IsOrthogonal: for all arguments the program and the reference come to one value; no condition. -/
/-- The functional is 0 at f times x^j, for j from i on. -/
def qE (p : Int) (m f : List Int) (n i : Nat) : Prop:=∀ j,j < n → i ≤ j → oH p m f j = 0
instance (p : Int) (m f : List Int) (n i : Nat) : Decidable (qE p m f n i):=by unfold qE;infer_instance
theorem JY {p : Int} {m f : List Int} {n i : Nat} (h : oH p m f i = 0) : decide (qE p m f n i) = decide (qE p m f n (i + 1)):=by
  apply decide_eq_decide.2
  constructor
  · exact fun g j h1 h2=>g j h1 (by omega)
  · intro g j h1 h2
    by_cases e : j = i
    · subst e;exact h
    · exact g j h1 (by omega)
theorem FH {p : Int} (hp : Pm p) (m f : List Int) (hm : Nm p m) (hf : Nm p f) (n : Nat) (hn : n ≤ 12) (hlen' : n = 0 ∨ f.length + n ≤ m.length + 1) (hf0 : 0 < f.length) (hs : Sm f.length) (d : Nat) : ∀ i,i + d = n →
    Ev (fun k=>aI.l0 k f (n : Int) (i : Int) p m) (decide (qE p m f n i),0):=by
  induction d with
  | zero =>
    intro i hi
    refine Ev.step (fun k=>by rw [aI.l0]) ?_
    refine Ev.neg (by omega) ?_
    refine Ev.step (fun k=>by rw [aI.j3]) ?_
    refine Ev.neg (by decide) (Ev.mW ?_)
    rw [decide_eq_true (show qE p m f n i from fun j h1 h2=>by omega)]
  | succ d ih =>
    intro i hi
    have hlen : f.length + n ≤ m.length + 1:=by omega
    refine Ev.step (fun k=>by rw [aI.l0]) ?_
    refine Ev.pos (by omega) ?_
    refine Ev.step (fun k=>by rw [aI.j3]) ?_
    refine Ev.pos (decide_eq_true (by omega)) (Ev.bind (Dn hp m f hm hf i (.inl (by omega)) hs (by unfold Sm;omega)) ?_)
    by_cases h : oH p m f i = 0
    · refine Ev.pos h ?_
      rw [JY h,kz (i:=i) (n:=n) (by omega) (by omega)]
      exact ih (i + 1) (by omega)
    · refine Ev.neg h (Ev.mW ?_)
      rw [decide_eq_false (fun g=>h (g i (by omega) (by omega)))]
theorem AP {p : Int} (hp : Pm p) (m f : List Int) (hm : Nm p m) (hf : Nm p f) (n : Nat) (hn : n ≤ 12) (hlen' : n = 0 ∨ f.length + n ≤ m.length + 1) (hf0 : 0 < f.length) (hs : Sm f.length) (d : Nat) : ∀ i,i + d = n →
    Ev (fun k=>ay.l0 k f (n : Int) (i : Int) p m) (decide (qE p m f n i),0):=by
  induction d with
  | zero =>
    intro i hi
    refine Ev.step (fun k=>by rw [ay.l0]) ?_
    refine Ev.neg (by omega) (Ev.mW ?_)
    rw [decide_eq_true (show qE p m f n i from fun j h1 h2=>by omega)]
  | succ d ih =>
    intro i hi
    have hlen : f.length + n ≤ m.length + 1:=by omega
    have ha:=zu hp (m.drop i) f (hm.drop i) hf (by rw [List.length_drop];omega) hs
    rw [Oj,Nat.zero_add] at ha
    refine Ev.step (fun k=>by rw [ay.l0]) ?_
    refine Ev.pos (by omega) (Ev.pos (by omega) (Ev.pos (by omega) (Ev.pos (by omega) (Ev.bind ha ?_))))
    by_cases h : oH p m f i = 0
    · refine Ev.pos h ?_
      rw [JY h,kz (i:=i) (n:=n) (by omega) (by omega)]
      exact ih (i + 1) (by omega)
    · refine Ev.neg h (Ev.mW ?_)
      rw [decide_eq_false (fun g=>h (g i (by omega) (by omega)))]
theorem K9 {p : Int} (m : List Int) (n : Nat) (hn : n ≤ 12) (d : Nat) : ∀ i,i + d = n → Ev (fun k=>ay.l0 k [] (n : Int) (i : Int) p m) (true,0):=by
  induction d with
  | zero =>
    intro i hi
    refine Ev.step (fun k=>by rw [ay.l0]) ?_
    exact Ev.neg (by omega) (Ev.now _)
  | succ d ih =>
    intro i hi
    refine Ev.step (fun k=>by rw [ay.l0]) ?_
    refine Ev.pos (by omega) (Ev.neg (by simp) ?_)
    rw [kz (i:=i) (n:=n) (by omega) (by omega)]
    exact ih (i + 1) (by omega)
theorem Iq (a b : Int) : j5.f a b = some (decide (b ≤ a∧a ≤ 12)):=by
  unfold j5.f
  simp only [BJ,Option.bind_some]
theorem Dp (p : Int) (l f : List Int) (a : Int) (hl : Sm l.length) (hf : Sm f.length) :
    ∃ v : Bool × Int,Ev (fun k=>aI.f k p l f a) v∧Ev (fun k=>ay.f k p l f a) v:=by
  have h1 : iU.f a = some (decide (0 ≤ a∧a ≤ 12)):=by unfold iU.f;rw [Iq];rfl
  have hc:=fun b=>oG p l hl b [f] (by simp [Sm]) (fun g h=>by rw [List.mem_singleton.1 h];exact hf)
  simp only [Tg] at hc
  by_cases h : (jP p l && oo p f) = true
  case neg =>
    refine ⟨(false,1),?_,?_⟩
    · unfold aI.f
      refine Ev.bind (xG p l hl) ?_
      by_cases hm : jP p l = true
      · refine Ev.pos hm (Ev.bind (FE p f hf) ?_)
        rw [show oo p f = false from by rw [hm,Bool.true_and] at h;exact Bool.eq_false_iff.2 h]
        refine Ev.step (fun n=>by rw [aI.j0]) ?_
        exact Ev.pos rfl (Ev.now _)
      · refine Ev.neg hm ?_
        refine Ev.step (fun n=>by rw [aI.j0]) ?_
        exact Ev.pos rfl (Ev.now _)
    · unfold ay.f
      have hc:=hc (decide (0 ≤ a∧a ≤ 12))
      rw [if_neg h] at hc
      exact Ev.iL h1 (Ev.bind hc (Ev.neg (by simp) (Ev.now _)))
  have hm : jP p l = true:=by simp only [Bool.and_eq_true] at h;exact h.1
  have hpf : oo p f = true:=by simp only [Bool.and_eq_true] at h;exact h.2
  have hp:=(jP.pm hm)
  have hll:=jP.len hm
  have hfl:=oo.len hpf
  -- the reference, up to its last tests
  have hspec : ∀ v,Ev (fun k=>aI.j0 k f a false p l) v → Ev (fun k=>aI.f k p l f a) v:=by
    intro v hv
    unfold aI.f
    refine Ev.bind (xG p l hl) (Ev.pos hm (Ev.bind (FE p f hf) ?_))
    rw [hpf]
    exact hv
  by_cases ha : 0 ≤ a∧a ≤ 12
  case neg =>
    refine ⟨(false,2),hspec _ ?_,?_⟩
    · refine Ev.step (fun n=>by rw [aI.j0]) ?_
      exact Ev.neg (by decide) (Ev.iL (FC _ _ _) (Ev.neg (by simpa using ha) (Ev.now _)))
    · unfold ay.f
      have hc:=hc false
      rw [if_pos h] at hc
      rw [decide_eq_false ha] at h1
      exact Ev.iL h1 (Ev.bind hc (Ev.neg (by simp) (Ev.now _)))
  obtain ⟨n,rfl⟩:=Int.eq_ofNat_of_zero_le ha.1
  have hc:=hc true
  rw [if_pos h] at hc
  rw [decide_eq_true ha] at h1
  have hi : ∀ v,Ev (fun k=>(if (f.length : Int) > 0 then (if (n : Int) > 0 then ((nu.f f).bind fun avE=>((dO.f l).bind fun avF=>(ay.j0 k f (decide ((wrap64 ((wrap64 (avE + (n : Int))) - 1)) ≥ avF)) p l (n : Int)))) else (ay.j0 k f false p l (n : Int))) else (ay.j0 k f false p l (n : Int)))) v →
      Ev (fun k=>ay.f k p l f (n : Int)) v:=by
    intro v hv
    unfold ay.f
    exact Ev.iL h1 (Ev.bind hc (Ev.pos rfl hv))
  by_cases hf0 : 0 < f.length
  case neg =>
    have e : f = []:=List.length_eq_zero_iff.1 (by omega)
    subst e
    refine ⟨(true,0),hspec _ ?_,hi _ ?_⟩
    · refine Ev.step (fun n=>by rw [aI.j0]) ?_
      refine Ev.neg (by decide) (Ev.iL (FC _ _ _) (Ev.pos (decide_eq_true ha) (Ev.neg (by simp) ?_)))
      refine Ev.step (fun n=>by rw [aI.j1]) ?_
      refine Ev.step (fun n=>by rw [aI.l0]) ?_
      by_cases hn0 : (0 : Int) < (n : Int)
      · refine Ev.pos hn0 ?_
        refine Ev.step (fun n=>by rw [aI.j3]) ?_
        exact Ev.neg (by simp) (Ev.now _)
      · refine Ev.neg hn0 ?_
        refine Ev.step (fun n=>by rw [aI.j3]) ?_
        exact Ev.neg (by simp) (Ev.now _)
    · refine Ev.neg (by simp) ?_
      refine Ev.step (fun n=>by rw [ay.j0]) ?_
      refine Ev.neg (by decide) ?_
      exact K9 l n (by omega) n 0 (by omega)
  have hdeg : nu.f f = some ((f.length : Int) - 1):=by
    unfold nu.f dO.f
    simp only [Option.bind_some]
    rw [bM (by omega) (by omega)]
  by_cases hn0 : 0 < n
  case neg =>
    obtain rfl : n = 0:=by omega
    refine ⟨(decide (qE p l f 0 0),0),hspec _ ?_,hi _ ?_⟩
    · refine Ev.step (fun n=>by rw [aI.j0]) ?_
      refine Ev.neg (by decide) (Ev.iL (FC _ _ _) (Ev.pos (decide_eq_true ha) (Ev.pos (by omega) (Ev.neg (by omega) ?_))))
      refine Ev.step (fun n=>by rw [aI.j1]) ?_
      exact FH hp l f (jP.nm hm) (oo.nm hpf) 0 (by omega) (.inl rfl) hf0 hf 0 0 (by omega)
    · refine Ev.pos (by omega) (Ev.neg (by omega) ?_)
      refine Ev.step (fun n=>by rw [ay.j0]) ?_
      refine Ev.neg (by decide) ?_
      exact AP hp l f (jP.nm hm) (oo.nm hpf) 0 (by omega) (.inl rfl) hf0 hf 0 0 (by omega)
  by_cases hg : f.length + n ≤ l.length + 1
  · refine ⟨(decide (qE p l f n 0),0),hspec _ ?_,hi _ ?_⟩
    · refine Ev.step (fun n=>by rw [aI.j0]) ?_
      refine Ev.neg (by decide) (Ev.iL (FC _ _ _) (Ev.pos (decide_eq_true ha) (Ev.pos (by omega) (Ev.pos (by omega) ?_))))
      rw [bM (x:=(f.length : Int) + (n : Int)) (by omega) (by omega),bM (by omega) (by omega)]
      refine Ev.neg (by omega) (Ev.step (fun n=>by rw [aI.j1]) ?_)
      exact FH hp l f (jP.nm hm) (oo.nm hpf) n (by omega) (.inr hg) hf0 hf n 0 (by omega)
    · refine Ev.pos (by omega) (Ev.pos (by omega) (Ev.iL hdeg (Ev.iL (a:=(l.length : Int)) rfl ?_)))
      rw [bM (x:=(f.length : Int) - 1 + (n : Int)) (by omega) (by omega),bM (by omega) (by omega),decide_eq_false (by omega)]
      refine Ev.step (fun n=>by rw [ay.j0]) ?_
      refine Ev.neg (by decide) ?_
      exact AP hp l f (jP.nm hm) (oo.nm hpf) n (by omega) (.inr hg) hf0 hf n 0 (by omega)
  · refine ⟨(false,5),hspec _ ?_,hi _ ?_⟩
    · refine Ev.step (fun n=>by rw [aI.j0]) ?_
      refine Ev.neg (by decide) (Ev.iL (FC _ _ _) (Ev.pos (decide_eq_true ha) (Ev.pos (by omega) (Ev.pos (by omega) ?_))))
      rw [bM (x:=(f.length : Int) + (n : Int)) (by omega) (by omega),bM (by omega) (by omega)]
      exact Ev.pos (by omega) (Ev.now _)
    · refine Ev.pos (by omega) (Ev.pos (by omega) (Ev.iL hdeg (Ev.iL (a:=(l.length : Int)) rfl ?_)))
      rw [bM (x:=(f.length : Int) - 1 + (n : Int)) (by omega) (by omega),bM (by omega) (by omega),decide_eq_true (by omega)]
      refine Ev.step (fun n=>by rw [ay.j0]) ?_
      exact Ev.pos rfl (Ev.now _)
/- Lists without noughts at their end; no condition. -/
theorem Gr {p : Int} (hp : Pm p) (x : Int) : jG.f p x = some (x % p):=by
  unfold jG.f
  rw [if_neg hp.ne,KY hp]

/-! ### noughts at the end -/
theorem JZ (l : List Int) (x : Int) (m : List Int) : ((l ++ [x]) ++ m).getD l.length 0 = x:=by
  rw [List.append_assoc,List.getD_eq_getElem?_getD,List.getElem?_append_right (Nat.le_refl _),Nat.sub_self];rfl
theorem Ol (l : List Int) : Sm l.length → Ev (fun k=>ja.l0 k l) (oP l):=by
  induction l using KZ with
  | h0 =>
    intro _
    refine Ev.step (fun k=>by rw [ja.l0]) ?_
    exact Ev.neg (by simp) (Ev.now _)
  | h1 l x ih =>
    intro hl
    have hn : (l ++ [x]).length = l.length + 1:=by simp
    rw [hn] at hl
    unfold Sm at hl
    have e : wrap64 (((l ++ [x]).length : Int) - 1) = (l.length : Int):=by rw [hn,bM (by omega) (by omega)];omega
    have er : rd (l ++ [x]) (l.length : Int) = x:=by
      rw [mM];have:=JZ l x [];rwa [List.append_nil] at this
    refine Ev.step (fun k=>by rw [ja.l0]) ?_
    rw [e,er]
    refine Ev.pos (by omega) (Ev.pos (by omega) (Ev.pos (by omega) ?_))
    by_cases hx : x = 0
    · refine Ev.pos hx (Ev.pos (by omega) ?_)
      rw [kU,List.take_left,hx,uk]
      exact ih (by unfold Sm;omega)
    · refine Ev.neg hx (Ev.mW ?_)
      rw [xx l hx]
theorem FI (l : List Int) (hl : Sm l.length) : Ev (fun k=>ja.f k l) (oP l):=by
  unfold ja.f
  exact Ol l hl
theorem Om (l : List Int) : ∀ m : List Int,Sm (l ++ m).length → Ev (fun k=>fZ.l0 k (l ++ m) (l.length : Int)) (oP l):=by
  induction l using KZ with
  | h0 =>
    intro m hl
    refine Ev.step (fun k=>by rw [fZ.l0]) ?_
    refine Ev.neg (by simp) (Ev.pos (by simp) (Ev.pos (by simp) (Ev.iL (Il _ (hl.take _)) (Ev.mW ?_))))
    simp [Ij]
  | h1 l x ih =>
    intro m hl
    have hn : (l ++ [x]).length = l.length + 1:=by simp
    have hl':=hl
    rw [List.length_append,hn] at hl'
    have hm : (l ++ [x] ++ m).length = l.length + 1 + m.length:=by rw [List.length_append,hn]
    unfold Sm at hl'
    have e : wrap64 (((l ++ [x]).length : Int) - 1) = (l.length : Int):=by rw [hn,bM (by omega) (by omega)];omega
    have er : rd ((l ++ [x]) ++ m) (l.length : Int) = x:=by
      rw [mM];exact JZ l x m
    refine Ev.step (fun k=>by rw [fZ.l0]) ?_
    rw [e,er]
    refine Ev.pos (by omega) (Ev.pos (by omega) (Ev.pos (by omega) ?_))
    by_cases hx : x = 0
    · refine Ev.pos hx ?_
      have:=ih ([x] ++ m) (by rw [← List.append_assoc];exact hl)
      rw [← List.append_assoc] at this
      rw [hx,uk]
      rw [hx] at this
      exact this
    · refine Ev.neg hx (Ev.pos (by omega) (Ev.pos (by omega) (Ev.iL (Il _ (hl.take _)) (Ev.mW ?_))))
      rw [kU,List.take_left,xx l hx]
theorem yn (l : List Int) (hl : Sm l.length) : Ev (fun k=>fZ.f k l) (oP l):=by
  unfold fZ.f
  have:=Om l [] (by rw [List.append_nil];exact hl)
  rwa [List.append_nil] at this
theorem Ir (l : List Int) : (oP l).length ≤ l.length:=by
  obtain ⟨n,h⟩:=Ik l
  have:=congrArg List.length h
  rw [List.length_append] at this
  omega
theorem Nm.oP {p : Int} {l : List Int} (h : Nm p l) : Nm p (oP l):=by
  obtain ⟨n,e⟩:=Ik l
  intro x hx
  refine h x ?_
  rw [e]
  exact List.mem_append_left _ hx
/- Sums of polynomials modulo p: the program's side; no condition. -/
/-! ### sums -/
def wU (p k : Int) (g : List Int) : Nat → Nat → List Int → List Int
  | 0,_,o=>o
  | d + 1,i,o=>wU p k g d (i + 1) (o.set i ((o.getD i 0 + k * g.getD i 0) % p))
theorem J2 (p k : Int) (g : List Int) (d : Nat) : ∀ i o,(wU p k g d i o).length = o.length:=by
  induction d with
  | zero=>intro i o;rfl
  | succ d ih=>intro i o;rw [wU,ih,List.length_set]
theorem Xm {p : Int} (hp : 0 < p) (k : Int) (g : List Int) (d : Nat) : ∀ i o,Nm p o → Nm p (wU p k g d i o):=by
  induction d with
  | zero=>intro i o h;exact h
  | succ d ih=>intro i o h;exact ih _ _ (h.set (lQ hp _).1 (lQ hp _).2 i)
/-- The list that the sum begins with. -/
def ul (f : List Int) (n : Nat) : List Int:=f ++ List.replicate (n - f.length) 0
theorem u6 (f : List Int) {n : Nat} (h : f.length ≤ n) : (ul f n).length = n:=by
  rw [ul,List.length_append,List.length_replicate];omega
theorem Nm.ul {p : Int} (hp : 0 < p) {f : List Int} (h : Nm p f) (n : Nat) : Nm p (ul f n):=h.append (Nm.zeros hp _)
/-- f and k times g. -/
def Dq (p : Int) (f g : List Int) (k : Int) : List Int:=oP (wU p k g g.length 0 (ul f (max f.length g.length)))
theorem Xn (p : Int) (f g : List Int) (k : Int) : (Dq p f g k).length ≤ max f.length g.length:=by
  have:=Ir (wU p k g g.length 0 (ul f (max f.length g.length)))
  rw [J2,u6 f (by omega)] at this
  exact this
theorem abX {p : Int} (hp : 0 < p) {f g : List Int} (hf : Nm p f) (k : Int) : Nm p (Dq p f g k):=(Xm hp k g _ _ _ (hf.ul hp _)).oP
theorem Xo (a b : Nat) : mx (a : Int) (b : Int) = ((max a b : Nat) : Int):=by
  unfold mx;split <;> omega
theorem Xp {p k : Int} (hp : Pm p) (hk : 0 ≤ k∧k < p) (g : List Int) (hg : Nm p g) (d : Nat) : ∀ (i : Nat) (o : List Int),i + d = g.length → g.length ≤ o.length → Nm p o → Sm o.length →
    Ev (fun n=>iI.l0 n p k o g (g.length : Int) (i : Int)) (oP (wU p k g d i o)):=by
  induction d with
  | zero =>
    intro i o hi hl ho hs
    refine Ev.step (fun n=>by rw [iI.l0]) ?_
    exact Ev.neg (by omega) (Ev.bind (FI o hs) (Ev.now _))
  | succ d ih =>
    intro i o hi hl ho hs
    have h1:=ho.get (i:=i) (by omega)
    have h2:=hg.get (i:=i) (by omega)
    have h3:=Cc hp hk.1 hk.2 h2.1 h2.2
    have ht:=hp.top
    have hm:=lQ hp.pos (o.getD i 0 + k * g.getD i 0)
    have hs':=hs
    unfold Sm at hs'
    refine Ev.step (fun n=>by rw [iI.l0]) ?_
    refine Ev.pos (by omega) (Ev.pos (by omega) (Ev.pos (by omega) (Ev.pos (by omega) ?_)))
    rw [mM,mM,bM (x:=k * g.getD i 0) (by omega) (by omega),bM (by omega) (by omega)]
    refine Ev.iL (AO hp _) ?_
    rw [kz (i:=i) (n:=g.length) (by omega) (by omega),kU]
    exact ih (i + 1) _ (by omega) (by rw [List.length_set];omega) (ho.set hm.1 hm.2 i) (by rw [List.length_set];exact hs)
theorem VL (f : List Int) {n : Nat} (h : f.length ≤ n) : cpy (List.replicate n 0) f = ul f n:=by
  unfold cpy ul
  rw [List.length_replicate,Nat.min_eq_left h,List.take_length,List.drop_replicate]
theorem Qm {p k : Int} (hp : Pm p) (hk : 0 ≤ k∧k < p) (f g : List Int) (hf : Nm p f) (hg : Nm p g) (sf : Sm f.length) (sg : Sm g.length) :
    Ev (fun n=>iI.f n p f g k) (Dq p f g k):=by
  unfold iI.f
  unfold Sm at sf sg
  rw [Xo,kU,VL f (by omega)]
  refine Ev.pos (by omega) (Ev.pos (by omega) ?_)
  exact Xp hp hk g hg g.length 0 _ (by omega) (by rw [u6 f (by omega)];omega) (hf.ul hp.pos _) (by rw [u6 f (by omega)];unfold Sm;omega)
end Go.Proofs.Ytilbjbahmilhkaa.Pr
