/- Texts of this session in one: what functions of the program compute, and plain facts of it, under the conditions that each theorem names. -/
import Derived.Deep.RegionHeld
import Derived.RangeFuncBound
import Derived.RangeFuncCalls
import Derived.RangeFuncFrom
import Derived.Test.YtknppcledhnkoaaKData1
import Derived.Test.YtknppcledhnkoaaKData10
import Derived.Test.YtknppcledhnkoaaKData11
import Derived.Test.YtknppcledhnkoaaKData2
import Derived.Test.YtknppcledhnkoaaKData3
import Derived.Test.YtknppcledhnkoaaKData6
import Derived.Test.YtknppcledhnkoaaKData8
import Derived.Test.YtknppcledhnkoaaKData9
namespace Go.Proofs.Ytknppcledhnkoaa.Pr
open Go.RowKit Go.Proofs.YtknppcledhnkoaaW.PrintWords Go.Proofs.YtknppcledhnkoaaW.PrintLast Go.Proofs.YtknppcledhnkoaaW.PrintMore
attribute [local go_sem] jV jW kR kT jv jw jX jY   -- for this text's walks alone
set_option linter.unusedVariables false
set_option maxHeartbeats 8000000
set_option maxRecDepth 100000
set_option linter.unusedSimpArgs false
/-! ### fA: function 127 -/
def fA.f (k : Nat) (ca : List Int) (da : Int) (ea : Int) : Option (Int × List Int × List Int × Int × Int × Int):=(iy.f k ca da ea).bind fun aa=>((eZ.f ca aa.2.2.2.1 aa.2.2.2.2 (aa.2.1.length : Int)).bind fun ba=>(some (aa.1,aa.2.1,aa.2.2.1,ba.1,ba.2.1,ba.2.2)))
def fA.T2 : Bool × List (List Nat × List Nat):=(true,tz [[],[],[],[2],[3],[1,4],[0,5,0],[5,6,0,1,2,3,4,5,6]] [(6,[0]),(7,[5])])
def fA.B2 : List Nat:=[0,0,0,4,12,30,63,127]
theorem fA.I7 : gY .any (opsOf Try.f127 2) = fA.T2:=by kernel_rfl
theorem fA.ED : eu fA.T2.2 fA.B2 = true:=by kernel_rfl
theorem fA.calls (k : Nat) (g : Nat) (ua : List Int) (Ba : Int) (Ca : Int) (r1 : Int) (r2 : List Int) (r3 : List Int) (r4 : Int) (r5 : Int) (r6 : Int) (w0 w : World) (hI : aI w0 w g ua Ba Ca) (hB : Below w0.heap.size w0 w) (H : fA.f k ua Ba Ca = some (r1,r2,r3,r4,r5,r6)) :
  Calls Try.prog 127 #[.pointer (some ⟨g,0,none⟩)] w fun e w'=>∃ Qa Ra : Value,e = .returned (.tuple #[.agg #[.int .i64 r1,Qa,Ra],.int .i64 r4])∧Kd.R (Kd.int .i64) 2 w' w.heap.size (fun k_=>ax k_ Ra) Qa r2∧Kd.R (Kd.int .i64) 2 w' w.heap.size (fun k_=>ax k_ Qa) Ra r3∧aI w0 w' g ua r5 r6∧Below w0.heap.size w0 w'∧aN w w' g none:=by
 have lL:=Try.underlying50;have sa:=zA hI;have:=geI (zA (aI.ge sa.out));have HK:=zA (aN.refl w g none);have HL:=zA hB.size;clear hI;have HW0:=zA hB.size;have HB:=zA hB;clear hB;unfold fA.f at H;replace H:=bO H;obtain ⟨⟨ja,ga,ka,wa,xa⟩,A2,H⟩:=H;(try dsimp only at H);replace H:=bO H;obtain ⟨⟨Ha,Ia,Ja⟩,A3,H⟩:=H;(try dsimp only at H);simp only [Option.some.injEq,Prod.mk.injEq] at H;obtain ⟨rfl,rfl,rfl,rfl,rfl,rfl⟩:=H;go_enter Try.func127,Try.ntmps127;(try go_wp2_with (first | (refine bX 2 rfl #[.int .i64 0,.slice none 0 0,.slice none 0 0] 50 ?_;intro da w4 hg ba hb;replace HB:=zA (bG (uH HB.out) hb);have Da:=gQ HK hg;have:=geI Da;have Ea:=zA ((Nat.le_trans HW0.out (by rw [hg];exact (eU (w:=w) (g:=g) (row:=none) (uK HK.out)) : w.heap.size ≤ da) : w0.heap.size ≤ da));replace HK:=zA (aN.trans (uK HK.out) (aN.of_below hb g none) (.inl rfl));have ya:=sL sa hg;have:=neI ya;have qa:=sG sa hg;have:=neI qa;replace sa:=zA (aI.below (uI sa.out) hb);have:=geI Ea;clear hb hg) | ((with_reducible refine av (f:=104) rfl ?_);refine gL (some 6) Try.func104 #[.pointer (some ⟨g,0,none⟩)] ?_;(with_reducible refine (iy.calls k g ua Ba Ca ja ga ka wa xa w0 _ ?za ?Aa A2.out).mono ?_);(case za=>exact uI sa.out);(case Aa=>exact uH HB.out);rintro e w5 ⟨ab,bb,rfl,gb,cb,hi,hb,hk⟩;refine ⟨_,rfl,?_⟩;replace ba:=kB hk ba qa;have ha:=zA (Kd.iZ gb (eU (w:=w) (g:=g) (row:=none) (uK HK.out)));have ia:=zA (Kd.iZ cb (eU (w:=w) (g:=g) (row:=none) (uK HK.out)));replace HK:=zA (aN.trans (uK HK.out) hk (.inl rfl));replace HB:=zA (hb);replace sa:=zA (hi);(try clear cb)) | ((with_reducible refine bz (N:=4) rfl ?_);refine bx 4 #[.int .i64 0,.slice none 0 0,.slice none 0 0] 50 ?_;intro ca hg w6 hbox hb;replace ha:=xR ha hb;replace ia:=xR ia hb;replace HB:=zA (bG (uH HB.out) hb);have ea:=zA (hbox);have Fa:=gQ HK hg;have:=geI Fa;have Ga:=zA ((Nat.le_trans HW0.out (by rw [hg];exact (eU (w:=w) (g:=g) (row:=none) (uK HK.out)) : w.heap.size ≤ ca) : w0.heap.size ≤ ca));replace HK:=zA (aN.trans (uK HK.out) (aN.of_below hb g none) (.inl rfl));have fa:=nL ba hg;have:=neI fa;have aa:=nG ba hg;have:=neI aa;replace ba:=xB ba hb;have ta:=sL sa hg;have:=neI ta;have ra:=sG sa hg;have:=neI ra;replace sa:=zA (aI.below (uI sa.out) hb);have:=geI Ga;clear hb hbox hg;have ib:=aa.out;have jb:=fa.out;have kb:=ra.out;have mb:=ta.out;obtain ⟨_,_,_,_,_,_⟩:=b6 ea;obtain ⟨ma,na,rfl⟩:=Kd.aG ha.out;obtain ⟨oa,pa,rfl⟩:=Kd.aG ia.out)));have Sa:=zA (rf3 ha ea (by decide) (.int .i64 ja) (.slice ma ga.length na) (.slice oa ka.length pa));have Ta:=zA (rf3 ia ea (by decide) (.int .i64 ja) (.slice ma ga.length na) (.slice oa ka.length pa));have Ua : au ((((w6.setCell ⟨ca,0,none⟩ (.int .i64 ja)).setCell ⟨ca,1,none⟩ (.slice ma ga.length na)).setCell ⟨ca,2,none⟩ (.slice oa ka.length pa)).heap[da]? = some (.cells #[.int .i64 0,.slice none 0 0,.slice none 0 0] 50 (0,0))):=⟨by (repeat refine up1 ?_);refine bk3 ?_ fa;(repeat refine up1 ?_);exact ba.out⟩;have Va : au ((((w6.setCell ⟨ca,0,none⟩ (.int .i64 ja)).setCell ⟨ca,1,none⟩ (.slice ma ga.length na)).setCell ⟨ca,2,none⟩ (.slice oa ka.length pa)).heap[ca]? = some (.cells #[.int .i64 ja,.slice ma ga.length na,.slice oa ka.length pa] 50 (0,0))):=⟨by (repeat refine up1 ?_);apply pt3;(repeat refine up1 ?_);exact ea.out⟩;have Wa : au (aI w0 (((w6.setCell ⟨ca,0,none⟩ (.int .i64 ja)).setCell ⟨ca,1,none⟩ (.slice ma ga.length na)).setCell ⟨ca,2,none⟩ (.slice oa ka.length pa)) g ua wa xa):=⟨uI sa.out⟩;have Xa : au (aN w (((w6.setCell ⟨ca,0,none⟩ (.int .i64 ja)).setCell ⟨ca,1,none⟩ (.slice ma ga.length na)).setCell ⟨ca,2,none⟩ (.slice oa ka.length pa)) g none):=⟨uK HK.out⟩;have Ya:=bh3 HB ca (.int .i64 ja) (.slice ma ga.length na) (.slice oa ka.length pa);generalize (((w6.setCell ⟨ca,0,none⟩ (.int .i64 ja)).setCell ⟨ca,1,none⟩ (.slice ma ga.length na)).setCell ⟨ca,2,none⟩ (.slice oa ka.length pa)) = nb at Sa Ta Ua Va Wa Xa Ya ⊢;have ha:=Sa;have ia:=Ta;have ba:=Ua;have ea:=Va;have sa:=Wa;have HK:=Xa;have HB:=Ya;clear Sa Ta Ua Va Wa Xa Ya;replace ha:=rD ha;replace ia:=rD ia;replace ba:=bD ba;replace ea:=bD ea;replace sa:=zA (aI.drew sa.out);replace HK:=zA (ou HK.out);replace HB:=zA (aK HB.out);refine dM (n:=8) (S:=fun w'=>w'.cell? ⟨ca,0,none⟩ = some (.int .i64 ja)∧w'.cell? ⟨ca,1,none⟩ = some (.slice ma ga.length na)∧w'.cell? ⟨ca,2,none⟩ = some (.slice oa ka.length pa)) (ds:=[]) (bl 8 0) (by kernel_rfl) rfl rfl ⟨bcu ea 0,bcu ea 1,bcu ea 2⟩ (fun hHeld=>?_);refine bF fA.I7 fA.ED (fun HT_ HW_=>?_);generalize nb.drew = rb at ha ia ba ea sa HK HB hHeld ⊢;refine pv2 1 8 2 9 (bl 8 6) HT_ ?_;refine ta_ 0 7 (bl 8 7) HT_ HW_ hHeld ?_;refine ta_ 3 10 (bl 8 15) HT_ HW_ hHeld ?_;refine pu_ 4 11 (bl 8 31) HT_ ?_;refine on_ 5 (some 12) (bl 8 63) HT_ (fun K hK=>?_);refine gS Try.func71 #[.pointer (some ⟨g,0,none⟩),.int .i64 (ga.length : Int)] ?_;(with_reducible refine (eZ.calls g ua wa xa (ga.length : Int) Ha Ia Ja w0 _ ?za ?Aa A3.out).mono ?_);(case za=>exact uI sa.out);(case Aa=>exact uH HB.out);rintro e Za ⟨rfl,hi,hb,hk⟩;refine ⟨_,rfl,?_⟩;replace ba:=kB hk ba qa;replace ha:=kS sa hk ha;replace ia:=kS sa hk ia;replace ea:=kB hk ea ra;replace HK:=zA (aN.trans (uK HK.out) hk (.inl rfl));replace HB:=zA (hb);replace sa:=zA (hi);refine hK.out _ _ ⟨bcu ea 0,bcu ea 1,bcu ea 2⟩ (fun hHeld=>?_);clear hK K;refine no_ 12 ?_;refine on_ 6 (none) (bl 8 127) HT_ (fun K hK=>?_);have ob : Za.cell? ⟨da,0,none⟩ = some (.int .i64 0):=(aY ba.out 0).trans rfl;have db:=bf ba 0;have Ka:=aa.out;have La:=fa.out;have pb : Za.cell? ⟨da,1,none⟩ = some (.slice none 0 0):=(aY ba.out 1).trans rfl;have eb:=bf ba 1;have Ma:=aa.out;have Na:=fa.out;have qb : Za.cell? ⟨da,2,none⟩ = some (.slice none 0 0):=(aY ba.out 2).trans rfl;have fb:=bf ba 2;have Oa:=aa.out;have Pa:=fa.out;refine jA (w1:=?_) (by rfl) rfl ?_ ?_;rotate_left
 ·go_simp;rfl
 refine hK.out _ _ ⟨((cell_far (p:=⟨da,_,none⟩) aa.out _).trans (((cell_far (p:=⟨da,_,none⟩) aa.out _).trans (((cell_far (p:=⟨da,_,none⟩) aa.out _).trans (hHeld.1)))))),((cell_far (p:=⟨da,_,none⟩) aa.out _).trans (((cell_far (p:=⟨da,_,none⟩) aa.out _).trans (((cell_far (p:=⟨da,_,none⟩) aa.out _).trans (hHeld.2.1)))))),((cell_far (p:=⟨da,_,none⟩) aa.out _).trans (((cell_far (p:=⟨da,_,none⟩) aa.out _).trans (((cell_far (p:=⟨da,_,none⟩) aa.out _).trans (hHeld.2.2))))))⟩ (fun hHeld=>?_);clear hK K;refine pu_ 7 3 (bl 8 255) HT_ ?_;refine done_ (done_of HT_.out (by kernel_rfl)) ?_;(try go_wp2);refine bodyPost_ret (dW rfl _ _ da 50 #[.int .i64 ja,.slice ma ga.length na,.slice oa ka.length pa] (0,0) _ rfl (by (repeat refine up1 ?_);apply pt3;(repeat refine up1 ?_);exact ba.out) Try.underlying50 rfl (by kernel_rfl)) rfl ?_;exact ⟨_,_,eX,uR (rf3 ha ba (by decide) (.int .i64 ja) (.slice ma ga.length na) (.slice oa ka.length pa)),uR (rf3 ia ba (by decide) (.int .i64 ja) (.slice ma ga.length na) (.slice oa ka.length pa)),uI sa.out,uH HB.out,uK HK.out⟩
/-! ### iw: function 42 -/
def iw.f (k : Nat) (l0 : List Int) : Option (Int × List Int × List Int × Int):=(bV.f k l0).bind fun ba=>((fA.f k ba.1 ba.2.1 ba.2.2).bind fun aa=>(some (aa.1,aa.2.1,aa.2.2.1,aa.2.2.2.1)))
theorem iw.calls (k : Nat) (A0 : Option Addr) (c0 : Nat) (l0 : List Int) (r1 : Int) (r2 : List Int) (r3 : List Int) (r4 : Int) (w : World) (Ka : Kd.C (Kd.int .u8) w A0 l0.length l0) (La : l0.length ≤ c0) (H : iw.f k l0 = some (r1,r2,r3,r4)) :
  Calls Try.prog 42 #[.slice A0 l0.length c0] w fun e w'=>∃ Ha Ia : Value,e = .returned (.tuple #[.agg #[.int .i64 r1,Ha,Ia],.int .i64 r4])∧Kd.R (Kd.int .i64) 2 w' w.heap.size (fun k_=>ax k_ Ia) Ha r2∧Kd.R (Kd.int .i64) 2 w' w.heap.size (fun k_=>ax k_ Ha) Ia r3∧Below w.heap.size w w':=by
 have lL:=Try.underlying50;have Ra:=zA Ka;have Sa:=zA La;clear Ka La;have HB:=zA (Below.refl w.heap.size w);unfold iw.f at H;replace H:=bO H;obtain ⟨⟨xa,ya,za⟩,A2,H⟩:=H;(try dsimp only at H);replace H:=bO H;obtain ⟨⟨ia,ja,ka,Da,Ea,Fa⟩,A3,H⟩:=H;(try dsimp only at H);simp only [Option.some.injEq,Prod.mk.injEq] at H;obtain ⟨rfl,rfl,rfl,rfl⟩:=H;go_enter Try.func42,Try.ntmps42;go_wp2_with (first | (refine bX 2 rfl #[.int .i64 0,.slice none 0 0,.slice none 0 0] 50 ?_;intro oa w4 hg aa hb;have Aa:=gq HB hg;have:=geI Aa;replace HB:=xH HB hb;clear hb hg) | ((with_reducible refine av (f:=66) rfl ?_);refine gL (some 8) Try.func66 #[.slice A0 l0.length c0] ?_;(with_reducible refine (bV.calls k _ _ l0 xa ya za w _ ?qa ?ra ?Ga A2.out).mono ?_);(case qa=>exact uH HB.out);(case ra=>exact Ra.out);(case Ga=>exact Sa.out);rintro e w5 ⟨IP,rfl,hi,hb,hb2⟩;refine ⟨_,rfl,?_⟩;replace HB:=zA (hb);have da:=zA (hi);have ea:=zA (aI.qK hi (aX (g:=oa) (o:=.cells #[.int .i64 0,.slice none 0 0,.slice none 0 0] 50 (0,0)) (uB aa.out) hb2) (by decide));have:=neI ea;have ba:=zA (Ne.symm (aI.qK hi (aX (g:=oa) (o:=.cells #[.int .i64 0,.slice none 0 0,.slice none 0 0] 50 (0,0)) (uB aa.out) hb2) (by decide)));have:=neI ba;replace aa:=xB aa hb2;(try clear hi)) | ((with_reducible refine av (f:=127) rfl ?_);refine gL (some 9) Try.func127 #[.pointer (some ⟨IP,0,none⟩)] ?_;(with_reducible refine (fA.calls k IP xa ya za ia ja ka Da Ea Fa w _ ?qa ?ra A3.out).mono ?_);(case qa=>exact uI da.out);(case ra=>exact uH HB.out);rintro e w6 ⟨Ma,Na,rfl,Ta,Oa,hi,hb,hk⟩;refine ⟨_,rfl,?_⟩;replace aa:=kB hk aa ba;have ma:=lZ Ta HB;have na:=lZ Oa HB;replace HB:=zA (hb);replace da:=zA (hi);(try clear Oa)) | ((with_reducible refine bz (N:=4) rfl ?_);refine bx 4 #[.int .i64 0,.slice none 0 0,.slice none 0 0] 50 ?_;intro Ja hg w7 hbox hb;replace ma:=xR ma hb;replace na:=xR na hb;have pa:=zA (hbox);have Ba:=gH HB hg;have:=geI Ba;have Ca:=gH HB hg;replace HB:=zA (bG (uH HB.out) hb);have ca:=nL aa hg;have:=neI ca;have fa:=nG aa hg;have:=neI fa;replace aa:=xB aa hb;have ga:=sL da hg;have:=neI ga;have ha:=sG da hg;have:=neI ha;replace da:=zA (aI.below (uI da.out) hb);have:=geI Ca;clear hb hbox hg;have Ua:=fa.out;have Va:=ca.out;have Wa:=ha.out;have Xa:=ga.out;obtain ⟨_,_,_,_,_,_⟩:=b6 pa;obtain ⟨sa,ta,rfl⟩:=Kd.aG ma.out;obtain ⟨ua,wa,rfl⟩:=Kd.aG na.out;have Pa:=ba.out;have Qa:=ea.out;obtain ⟨_,_,_,_,_,_⟩:=b6 aa));refine bodyPost_ret (dW rfl _ _ oa 50 #[.int .i64 ia,.slice sa ja.length ta,.slice ua ka.length wa] (0,0) _ rfl (by (repeat refine up1 ?_);apply pt3;(repeat refine up1 ?_);refine bk3 ?_ ca;(repeat refine up1 ?_);exact aa.out) Try.underlying50 rfl (by kernel_rfl)) rfl ?_;exact ⟨_,_,eX,uR (rf6 ma.out pa aa (.int .i64 ia) (.slice sa ja.length ta) (.slice ua ka.length wa) (.int .i64 ia) (.slice sa ja.length ta) (.slice ua ka.length wa)),uR (rf6 na.out pa aa (.int .i64 ia) (.slice sa ja.length ta) (.slice ua ka.length wa) (.int .i64 ia) (.slice sa ja.length ta) (.slice ua ka.length wa)),uH HB.out⟩
/-! ### gu: function 45 -/
def gu.f (k : Nat) (l0 : List Int) : Option (Int × List Int × List Int × Int):=(bV.f k l0).bind fun ba=>((fA.f k ba.1 ba.2.1 ba.2.2).bind fun aa=>(some (aa.1,aa.2.1,aa.2.2.1,aa.2.2.2.1)))
theorem gu.calls (k : Nat) (A0 : Option Addr) (c0 : Nat) (l0 : List Int) (r1 : Int) (r2 : List Int) (r3 : List Int) (r4 : Int) (w : World) (Ka : Kd.C (Kd.int .u8) w A0 l0.length l0) (La : l0.length ≤ c0) (H : gu.f k l0 = some (r1,r2,r3,r4)) :
  Calls Try.prog 45 #[.slice A0 l0.length c0] w fun e w'=>∃ Ha Ia : Value,e = .returned (.tuple #[.agg #[.int .i64 r1,Ha,Ia],.int .i64 r4])∧Kd.R (Kd.int .i64) 2 w' w.heap.size (fun k_=>ax k_ Ia) Ha r2∧Kd.R (Kd.int .i64) 2 w' w.heap.size (fun k_=>ax k_ Ha) Ia r3∧Below w.heap.size w w':=by
 have lL:=Try.underlying50;have Ra:=zA Ka;have Sa:=zA La;clear Ka La;have HB:=zA (Below.refl w.heap.size w);unfold gu.f at H;replace H:=bO H;obtain ⟨⟨xa,ya,za⟩,A2,H⟩:=H;(try dsimp only at H);replace H:=bO H;obtain ⟨⟨ia,ja,ka,Da,Ea,Fa⟩,A3,H⟩:=H;(try dsimp only at H);simp only [Option.some.injEq,Prod.mk.injEq] at H;obtain ⟨rfl,rfl,rfl,rfl⟩:=H;go_enter Try.func45,Try.ntmps45;go_wp2_with (first | (refine bX 2 rfl #[.int .i64 0,.slice none 0 0,.slice none 0 0] 50 ?_;intro oa w4 hg aa hb;have Aa:=gq HB hg;have:=geI Aa;replace HB:=xH HB hb;clear hb hg) | ((with_reducible refine av (f:=66) rfl ?_);refine gL (some 8) Try.func66 #[.slice A0 l0.length c0] ?_;(with_reducible refine (bV.calls k _ _ l0 xa ya za w _ ?qa ?ra ?Ga A2.out).mono ?_);(case qa=>exact uH HB.out);(case ra=>exact Ra.out);(case Ga=>exact Sa.out);rintro e w5 ⟨IQ,rfl,hi,hb,hb2⟩;refine ⟨_,rfl,?_⟩;replace HB:=zA (hb);have da:=zA (hi);have ea:=zA (aI.qK hi (aX (g:=oa) (o:=.cells #[.int .i64 0,.slice none 0 0,.slice none 0 0] 50 (0,0)) (uB aa.out) hb2) (by decide));have:=neI ea;have ba:=zA (Ne.symm (aI.qK hi (aX (g:=oa) (o:=.cells #[.int .i64 0,.slice none 0 0,.slice none 0 0] 50 (0,0)) (uB aa.out) hb2) (by decide)));have:=neI ba;replace aa:=xB aa hb2;(try clear hi)) | ((with_reducible refine av (f:=127) rfl ?_);refine gL (some 9) Try.func127 #[.pointer (some ⟨IQ,0,none⟩)] ?_;(with_reducible refine (fA.calls k IQ xa ya za ia ja ka Da Ea Fa w _ ?qa ?ra A3.out).mono ?_);(case qa=>exact uI da.out);(case ra=>exact uH HB.out);rintro e w6 ⟨Ma,Na,rfl,Ta,Oa,hi,hb,hk⟩;refine ⟨_,rfl,?_⟩;replace aa:=kB hk aa ba;have ma:=lZ Ta HB;have na:=lZ Oa HB;replace HB:=zA (hb);replace da:=zA (hi);(try clear Oa)) | ((with_reducible refine bz (N:=4) rfl ?_);refine bx 4 #[.int .i64 0,.slice none 0 0,.slice none 0 0] 50 ?_;intro Ja hg w7 hbox hb;replace ma:=xR ma hb;replace na:=xR na hb;have pa:=zA (hbox);have Ba:=gH HB hg;have:=geI Ba;have Ca:=gH HB hg;replace HB:=zA (bG (uH HB.out) hb);have ca:=nL aa hg;have:=neI ca;have fa:=nG aa hg;have:=neI fa;replace aa:=xB aa hb;have ga:=sL da hg;have:=neI ga;have ha:=sG da hg;have:=neI ha;replace da:=zA (aI.below (uI da.out) hb);have:=geI Ca;clear hb hbox hg;have Ua:=fa.out;have Va:=ca.out;have Wa:=ha.out;have Xa:=ga.out;obtain ⟨_,_,_,_,_,_⟩:=b6 pa;obtain ⟨sa,ta,rfl⟩:=Kd.aG ma.out;obtain ⟨ua,wa,rfl⟩:=Kd.aG na.out;have Pa:=ba.out;have Qa:=ea.out;obtain ⟨_,_,_,_,_,_⟩:=b6 aa));refine bodyPost_ret (dW rfl _ _ oa 50 #[.int .i64 ia,.slice sa ja.length ta,.slice ua ka.length wa] (0,0) _ rfl (by (repeat refine up1 ?_);apply pt3;(repeat refine up1 ?_);refine bk3 ?_ ca;(repeat refine up1 ?_);exact aa.out) Try.underlying50 rfl (by kernel_rfl)) rfl ?_;exact ⟨_,_,eX,uR (rf6 ma.out pa aa (.int .i64 ia) (.slice sa ja.length ta) (.slice ua ka.length wa) (.int .i64 ia) (.slice sa ja.length ta) (.slice ua ka.length wa)),uR (rf6 na.out pa aa (.int .i64 ia) (.slice sa ja.length ta) (.slice ua ka.length wa) (.int .i64 ia) (.slice sa ja.length ta) (.slice ua ka.length wa)),uH HB.out⟩
/- The draws of primes, lists and polynomials come to some value, of small length; no condition. -/
open Go Go.RowKit Go.Proofs.YtknppcledhnkoaaW.PrintWords Go.Proofs.YtknppcledhnkoaaW.PrintLast Go.Proofs.YtknppcledhnkoaaW.PrintMore
section
variable {c : List Int} {i : Int}
theorem AB (s : St c i) (h : Int) : Ex (fun _=>fV.f c i h) (fun r=>St c r.2.1∧dD r.1 = true):=by
  unfold fV.f
  refine Ex.bind (oO s h _ (by decide)) (fun r hr=>Ex.now ⟨hr.1,?_⟩)
  have e : ∀ x ∈ ([2,3,5,7,7,11,13,17,31,101,997,10007] : List Int),dD x = true:=by decide
  exact e _ hr.2
theorem pV (s : St c i) (h n : Int) : Ex (fun _=>eZ.f c i h n) (fun r=>St c r.2.1):=by
  unfold eZ.f
  refine Ex.bind (jI s h 14) (fun r hr=>?_)
  refine Ex.ite (fun _=>?_) (fun _=>?_)
  · exact Ex.bind (oO hr.1 _ _ (by simp)) (fun r hr=>Ex.now hr.1)
  · exact Ex.bind (jI hr.1 _ _) (fun r hr=>Ex.now hr.1)
theorem G9 (p : Int) (m : Int) (d : Nat) : ∀ (j n h : Int) (o : List Int),St c j → n ≤ (d : Int) → o.length + d ≤ 1000 → Ex (fun k=>bJ.l0 k p n o m c j h) (fun r=>St c r.2.1∧r.1.length ≤ o.length + d):=by
  induction d with
  | zero =>
    intro j n h o s hn ho
    refine Ex.step (fun k=>by rw [bJ.l0]) ?_
    exact Ex.neg (by omega) (Ex.now ⟨s,by dsimp only;omega⟩)
  | succ d ih =>
    intro j n h o s hn ho
    refine Ex.step (fun k=>by rw [bJ.l0]) ?_
    refine Ex.ite (fun g=>?_) (fun g=>Ex.now ⟨s,by dsimp only;omega⟩)
    have hw : wrap64 (n - 1) = n - 1:=bQ (by omega) (by omega)
    have next : ∀ (j' h' x : Int),St c j' → Ex (fun k=>bJ.l0 k p (wrap64 (n - 1)) (o ++ [x]) m c j' h') (fun r=>St c r.2.1∧r.1.length ≤ o.length + (d + 1)):=by
      intro j' h' x s'
      rw [hw]
      refine Ex.weak (ih j' (n - 1) h' (o ++ [x]) s' (by omega) (by simp;omega)) (fun r hr=>⟨hr.1,?_⟩)
      have:=hr.2
      simp only [List.length_append,List.length_singleton] at this
      omega
    refine Ex.ite (fun _=>?_) (fun _=>?_)
    · exact Ex.bind (jI s h p) (fun r hr=>Ex.pos (by omega) (next _ _ _ hr.1))
    · refine Ex.bind (jI s h 3) (fun r hr=>?_)
      refine Ex.ite (fun _=>?_) (fun _=>?_)
      · exact Ex.bind (jI hr.1 _ p) (fun r hr=>Ex.pos (by omega) (next _ _ _ hr.1))
      · exact Ex.pos (by omega) (next _ _ _ hr.1)
theorem uE (s : St c i) (h p : Int) (n : Int) (hn : -1000 ≤ n∧n ≤ 100) : Ex (fun k=>gP.f k c i h p n) (fun r=>St c r.2.1∧r.1.length ≤ 102):=by
  unfold gP.f
  refine Ex.bind (jI s h _) (fun r hr=>?_)
  obtain ⟨s1,h1,h2,h3⟩:=hr
  rw [bQ (x:=n + 2) (by omega) (by omega)] at h2 h3
  have hb : r.1 ≤ 101:=by
    by_cases g : 1 ≤ n + 2
    · have:=h2 g;omega
    · have:=h3 (by omega);omega
  have hf : Ex (fun k=>bJ.f k c r.2.1 r.2.2 p r.1) (fun r'=>St c r'.2.1∧r'.1.length ≤ 102):=by
    unfold bJ.f
    refine Ex.bind (jI s1 _ 3) (fun r' hr'=>?_)
    refine Ex.weak (G9 p _ 101 _ _ _ [] hr'.1 (by omega) (by simp)) (fun a ha=>⟨ha.1,?_⟩)
    have:=ha.2
    simp only [List.length_nil] at this
    omega
  refine Ex.bind hf (fun r' hr'=>?_)
  refine Ex.bind (P:=fun l=>l = jr r'.1) ⟨_,nJ r'.1 (by unfold Sm;omega),rfl⟩ (fun l hl=>Ex.now ⟨hr'.1,?_⟩)
  have:=wy r'.1
  dsimp only
  rw [hl]
  have:=hr'.2
  omega
end
/- The draws of data of recurrences come to data, or to some lists of small length; no condition. -/
def Jd (p : Int) (a b : List Int) : Prop:=dD p = true∧(1 ≤ a.length∧a.length ≤ 12)∧b.length = a.length∧Nm p a∧Nm p b
section
variable {c : List Int} {i : Int}
theorem FV {p : Int} (hp : Pm p) (m : Int) (d : Nat) : ∀ (j h : Int) (o : List Int),St c j → Nm p o → o.length + d ≤ 1000 → Ex (fun k=>bJ.l0 k p (d : Int) o m c j h) (fun r=>St c r.2.1∧r.1.length = o.length + d∧Nm p r.1):=by
  have h2:=hp.two
  induction d with
  | zero =>
    intro j h o s no ho
    refine Ex.step (fun k=>by rw [bJ.l0]) ?_
    exact Ex.neg (by omega) (Ex.now ⟨s,rfl,no⟩)
  | succ d ih =>
    intro j h o s no ho
    refine Ex.step (fun k=>by rw [bJ.l0]) ?_
    refine Ex.pos (by omega) ?_
    have next : ∀ (j' h' x : Int),St c j' → 0 ≤ x∧x < p → Ex (fun k=>bJ.l0 k p (wrap64 (((d + 1 : Nat) : Int) - 1)) (o ++ [x]) m c j' h') (fun r=>St c r.2.1∧r.1.length = o.length + (d + 1)∧Nm p r.1):=by
      intro j' h' x s' hx
      rw [nT (i:=d + 1) (by omega) (by omega),Nat.add_sub_cancel]
      refine Ex.weak (ih j' h' (o ++ [x]) s' (no.append ((Nm.nil p).cons hx.1 hx.2)) (by simp;omega)) (fun r hr=>⟨hr.1,?_,hr.2.2⟩)
      have:=hr.2.1
      simp only [List.length_append,List.length_singleton] at this
      omega
    refine Ex.ite (fun _=>?_) (fun _=>?_)
    · exact Ex.bind (jI s h p) (fun r hr=>Ex.pos (by omega) (next _ _ _ hr.1 ⟨hr.2.1,hr.2.2.1 (by omega)⟩))
    · refine Ex.bind (jI s h 3) (fun r hr=>?_)
      refine Ex.ite (fun _=>?_) (fun _=>?_)
      · exact Ex.bind (jI hr.1 _ p) (fun r hr=>Ex.pos (by omega) (next _ _ _ hr.1 ⟨hr.2.1,hr.2.2.1 (by omega)⟩))
      · exact Ex.pos (by omega) (next _ _ _ hr.1 ⟨by omega,by omega⟩)
theorem AR {p : Int} (hp : Pm p) (s : St c i) (h : Int) (n : Nat) (hn : n ≤ 1000) : Ex (fun k=>bJ.f k c i h p (n : Int)) (fun r=>St c r.2.1∧r.1.length = n∧Nm p r.1):=by
  unfold bJ.f
  refine Ex.bind (jI s h 3) (fun r hr=>Ex.weak (FV hp _ n _ _ [] hr.1 (Nm.nil p) (by simpa using hn)) (fun a ha=>⟨ha.1,?_,ha.2.2⟩))
  simpa using ha.2.1
theorem Cq {p : Int} (hp : Pm p) (hq : dD p = true) (a : List Int) (na : Nm p a) (ha : 1 ≤ a.length∧a.length ≤ 12) (d : Nat) : ∀ (j h : Int) (b : List Int),St c j → Nm p b → b.length + d = a.length →
    Ex (fun k=>dz.l0 k p (d : Int) c j h p a b) (fun r=>Jd r.1 r.2.1 r.2.2.1∧St c r.2.2.2.1):=by
  have h2:=hp.two
  have ht:=hp.top
  induction d with
  | zero =>
    intro j h b s nb hb
    refine Ex.step (fun k=>by rw [dz.l0]) ?_
    refine Ex.neg (by omega) (Ex.bind (jI s h 6) (fun r hr=>Ex.ite (fun _=>Ex.pos (by omega) (Ex.pos (by omega) (Ex.now ⟨⟨hq,?_,?_,?_,nb⟩,hr.1⟩))) (fun _=>Ex.now ⟨⟨hq,ha,by dsimp only;omega,na,nb⟩,hr.1⟩)))
    · rw [eT,List.length_replicate];exact ha
    · rw [eT,List.length_replicate];dsimp only;omega
    · exact Nm.zeros hp.pos _
  | succ d ih =>
    intro j h b s nb hb
    refine Ex.step (fun k=>by rw [dz.l0]) ?_
    refine Ex.pos (by omega) ?_
    have w1 : wrap64 (p - 1) = p - 1:=bQ (by omega) (by omega)
    rw [w1]
    refine Ex.bind (jI s h (p - 1)) (fun r hr=>Ex.pos (by omega) ?_)
    have r1:=hr.2.1
    have r2:=hr.2.2.1 (by omega)
    rw [nT (i:=d + 1) (by omega) (by omega),Nat.add_sub_cancel,bQ (x:=1 + r.1) (by omega) (by omega)]
    exact ih _ _ _ hr.1 (nb.append ((Nm.nil p).cons (by omega) (by omega))) (by simp;omega)
theorem Cr (s : St c i) (h p n : Int) (hq : dD p = true) (hn : 1 ≤ n∧n ≤ 12) : Ex (fun k=>dz.f k c i h p n) (fun r=>Jd r.1 r.2.1 r.2.2.1∧St c r.2.2.2.1):=by
  have hp:=dD.pm hq
  unfold dz.f
  refine Ex.bind (jI s h n) (fun r hr=>?_)
  have r1:=hr.2.1
  have r2:=hr.2.2.1 (by omega)
  obtain ⟨m,hm⟩ : ∃ m : Nat,1 + r.1 = (m : Int):=⟨(1 + r.1).toNat,by omega⟩
  rw [hm,bQ (by omega) (by omega)]
  refine Ex.bind (AR hp hr.1 _ m (by omega)) (fun a ha=>?_)
  exact Cq hp hq a.1 ha.2.2 (by have:=ha.2.1;omega) m _ _ [] ha.1 (Nm.nil p) (by have:=ha.2.1;simp;omega)
theorem AQ (s : St c i) (h : Int) : Ex (fun k=>iB.f k c i h) (fun r=>Jd r.1 r.2.1 r.2.2.1∧St c r.2.2.2.1):=by
  unfold iB.f
  refine Ex.bind (AB s h) (fun a ha=>Ex.bind (oO ha.1 _ _ (by simp)) (fun q hq=>?_))
  have e : ∀ x ∈ ([2,3,4,6,12] : List Int),1 ≤ x∧x ≤ 12:=by decide
  exact Ex.bind (Cr hq.1 _ _ _ ha.2 (e _ hq.2)) (fun r hr=>Ex.now hr)
/-- Lists that may be no data. -/
def Jw (a b : List Int) : Prop:=(1 ≤ a.length∧a.length ≤ 12)∧1 ≤ b.length∧b.length ≤ 13
theorem Jw.sm {a b : List Int} (h : Jw a b) : Sm a.length∧Sm b.length:=by
  have:=h.1;have:=h.2
  exact ⟨by unfold Sm;omega,by unfold Sm;omega⟩
theorem Hq (s : St c i) (h p : Int) (a b : List Int) (hj : Jd p a b) : Ex (fun _=>eB.f c i h p a b) (fun r=>Jw r.2.1 r.2.2.1∧St c r.2.2.2.1):=by
  have ha:=hj.2.1
  have hb:=hj.2.2.1
  unfold eB.f
  refine Ex.bind (jI s h 40) (fun r hr=>?_)
  refine Ex.ite (fun _=>?_) (fun _=>?_)
  · exact Ex.bind (oO hr.1 _ _ (by simp)) (fun q hq=>Ex.now ⟨⟨by dsimp only;omega,by dsimp only;omega⟩,hq.1⟩)
  refine Ex.ite (fun _=>?_) (fun _=>?_)
  · refine Ex.bind (P:=fun y=>y = b) (Ex.eq (mZ b (by unfold Sm;omega)) rfl) (fun y hy=>?_)
    subst hy
    exact Ex.pos (by omega) (Ex.now ⟨⟨by dsimp only;omega,by simp,by simp;omega⟩,hr.1⟩)
  refine Ex.ite (fun _=>?_) (fun _=>?_)
  · refine Ex.bind (P:=fun y=>y = b) (Ex.eq (mZ b (by unfold Sm;omega)) rfl) (fun y hy=>?_)
    subst hy
    refine Ex.bind (jI hr.1 _ _) (fun q hq=>Ex.bind (oO hq.1 _ _ (by simp)) (fun u hu=>?_))
    have q1:=hq.2.1
    have q2:=hq.2.2.1 (by omega)
    exact Ex.pos q1 (Ex.pos q2 (Ex.now ⟨⟨by dsimp only;omega,by dsimp only;rw [List.length_set];omega,by dsimp only;rw [List.length_set];omega⟩,hu.1⟩))
  refine Ex.ite (fun _=>?_) (fun _=>Ex.now ⟨⟨by dsimp only;omega,by dsimp only;omega,by dsimp only;omega⟩,hr.1⟩)
  refine Ex.bind (P:=fun y=>y = a) (Ex.eq (mZ a (by unfold Sm;omega)) rfl) (fun y hy=>?_)
  subst hy
  refine Ex.bind (oO hr.1 _ _ (by simp)) (fun u hu=>Ex.pos (by omega) (Ex.now ⟨⟨by dsimp only;rw [List.length_set];omega,by dsimp only;omega,by dsimp only;omega⟩,hu.1⟩))
theorem uq (s : St c i) (h : Int) : Ex (fun k=>iy.f k c i h) (fun r=>Jw r.2.1 r.2.2.1∧St c r.2.2.2.1):=by
  unfold iy.f
  exact Ex.bind (AQ s h) (fun a ha=>Ex.bind (Hq ha.2 _ _ _ _ ha.1) (fun b hb=>Ex.now hb))
theorem AO (s : St c i) (h : Int) : Ex (fun k=>fA.f k c i h) (fun r=>Jw r.2.1 r.2.2.1):=by
  unfold fA.f
  exact Ex.bind (uq s h) (fun a ha=>Ex.bind (pV ha.2 _ _) (fun b _=>Ex.now ha.1))
end
/- A o7 divides a product only with one of its factors. -/
theorem dD.div {p : Int} (h : dD p = true) {j : Nat} (h2 : 2 ≤ j) (hj : (j : Int) * (j : Int) ≤ p) : ¬ (j : Int) ∣ p:=by
  intro hd
  simp only [dD,Bool.and_eq_true,decide_eq_true_eq] at h
  have hj1 : j < 101:=by
    apply Decidable.byContradiction
    intro g
    have:=GV (a:=(101 : Int)) (b:=(101 : Int)) (m:=(j : Int)) (n:=(j : Int)) (by omega) (by omega) (by omega) (by omega)
    omega
  exact h.2 j hj1 h2 hj (Int.emod_eq_zero_of_dvd hd)
theorem dD.gcd {p : Nat} (h : dD (p : Int) = true) {a : Nat} (h1 : 1 ≤ a) (ha : a < p) : Nat.gcd p a = 1:=by
  obtain ⟨g,hg⟩ : ∃ g,Nat.gcd p a = g:=⟨_,rfl⟩
  have hp:=(dD.pm h).two
  have d1 : g ∣ p:=hg ▸ Nat.gcd_dvd_left p a
  have d2 : g ∣ a:=hg ▸ Nat.gcd_dvd_right p a
  have l1 : g ≤ a:=Nat.le_of_dvd (by omega) d2
  have l0 : 0 < g:=hg ▸ Nat.gcd_pos_of_pos_right p (by omega)
  rw [hg]
  apply Decidable.byContradiction
  intro hne
  obtain ⟨q,hq⟩:=d1
  have hq2 : 2 ≤ q:=by
    rcases Nat.lt_or_ge q 2 with g2 | g2
    · exfalso
      have : q = 0 ∨ q = 1:=by omega
      rcases this with rfl | rfl
      · omega
      · omega
    · exact g2
  rcases Nat.le_total g q with hle | hle
  · refine dD.div h (j:=g) (by omega) ?_ ⟨(q : Int),by rw [hq];simp⟩
    have:=Nat.mul_le_mul_left g hle
    rw [← hq] at this
    exact_mod_cast this
  · refine dD.div h (j:=q) hq2 ?_ ⟨(g : Int),by rw [hq,Int.natCast_mul];exact Int.mul_comm _ _⟩
    have:=Nat.mul_le_mul_right q hle
    rw [← hq] at this
    exact_mod_cast this
/-- A number that p does not divide may be left out. -/
theorem dD.cancel {p a d : Int} (h : dD p = true) (ha : 1 ≤ a∧a < p) (hd : p ∣ a * d) : p ∣ d:=by
  obtain ⟨P,rfl⟩ : ∃ P : Nat,p = (P : Int):=⟨p.toNat,by omega⟩
  obtain ⟨A,rfl⟩ : ∃ A : Nat,a = (A : Int):=⟨a.toNat,by omega⟩
  have hg:=dD.gcd h (a:=A) (by omega) (by omega)
  have h1:=Int.natAbs_dvd_natAbs.2 hd
  rw [Int.natAbs_mul] at h1
  have h2 : P ∣ d.natAbs:=Nat.Coprime.dvd_of_dvd_mul_left (k:=P) (m:=A) (n:=d.natAbs) hg h1
  exact Int.natAbs_dvd_natAbs.1 h2
/- Monic polynomials are polynomials. -/
theorem xQ {p : Int} {f : List Int} {k : Nat} (nf : Nm p f) (h : Mon f k) (hk : k ≤ 24) : jH p f = true:=by
  simp only [jH,tY,Bool.and_eq_true,Bool.or_eq_true,decide_eq_true_eq]
  refine ⟨nf,by have:=h.1;omega,.inr ?_⟩
  rw [h.1,Nat.add_sub_cancel,h.2]
  decide
/- field.value: the value of a polynomial, read from the last number on: what the call answers, for every list within the reach and every p other than 0. -/
open Go.RowKit Go.Shelf Go.Proofs.YtknppcledhnkoaaW.PrintWords Go.Proofs.YtknppcledhnkoaaW.PrintLast Go.Proofs.YtknppcledhnkoaaW.PrintMore
attribute [local go_sem] Oper.semAt_some
/-- One round. -/
def ru (p x o c : Int) : Int:=Int.tmod (wrap64 (Int.tmod (wrap64 (wrap64 (o * x) + c)) p + p)) p
def valOf (p x : Int) (ys : List (Int × Int)) : Int:=ys.foldl (fun o y=>ru p x o y.2) 0
theorem wO (p x : Int) (ys : List (Int × Int)) (y : Int × Int) : valOf p x (ys ++ [y]) = ru p x (valOf p x ys) y.2:=by simp [valOf]
def iC.f (p : Int) (l : List Int) (x : Int) : Option Int:=if p = 0 then none else if l.length ≤ 17592186040320 then some (valOf p x (upto (bk l l.length) l.length)) else none

theorem xz {W : World} {B : Nat} {v : Value} {t : TypeId} (h : W.heap[B]? = some (.cells #[v] t (0,0))) : W.cell? ⟨B,0,none⟩ = some v∧W.frozen? ⟨B,0,none⟩ = false:=by
  constructor <;> simp [World.cell?,World.frozen?,h]
theorem pW (W : World) (v : Value) (t : TypeId) : (W.alloc (.cells #[v] t)).cell? ⟨W.heap.size,0,none⟩ = some v∧(W.alloc (.cells #[v] t)).frozen? ⟨W.heap.size,0,none⟩ = false :=
  xz (World.alloc_heap_new W _)
theorem lV {W : World} {a : Addr} {v : Value} (o : Obj) (h : W.cell? a = some v) : (W.alloc o).cell? a = some v:=cell_kept h (World.grownBy_alloc W o none) (fun r e=>by cases e)
theorem wP {W : World} {a : Addr} {v : Value} (o : Obj) (h : W.cell? a = some v) (hf : W.frozen? a = false) : (W.alloc o).frozen? a = false:=(frozen_kept h (World.grownBy_alloc W o none) (fun r e=>by cases e)).trans hf

set_option maxRecDepth 100000 in
set_option maxHeartbeats 2000000 in
theorem iC.FW (F : Fence) (n : Nat) (h1 : F.fn 124) (h2 : F.fn 154) (h3 : F.fn 162) (h4 : F.fn 94) (hro : F.round = none) (hn : 4 ≤ n)
    (hmod : ∀ (k m : Nat) (x y r : Int) (W : World),bM.f x y = some r → CallsIn (F.inRound k) m Try.prog 94 #[.int .i64 x,.int .i64 y] W fun e W'=>e = .returned (.int .i64 r)∧aQ W W')
    (a0 : Int) (A1 : Option Addr) (c1 : Nat) (l1 : List Int) (a2 : Int) (hp : a0 ≠ 0) (hl : l1.length ≤ 17592186040320) (w : World) (hI : xU w.heap.size w (.slice A1 l1.length c1) l1) :
    CallsIn F n Try.prog 124 #[.int .i64 a0,.slice A1 l1.length c1,.int .i64 a2] w fun e W'=>e = .returned (.int .i64 (valOf a0 a2 (upto (bk l1 l1.length) l1.length)))∧Below w.heap.size w W':=by
  have hn1 : 1 ≤ n:=by omega
  refine callsIn_of_wp_marks Try.func124 rfl h1 ?_ hro
  simp only [Try.ntmps124,List.size_toArray,List.length_cons,List.length_nil,Nat.reduceAdd,Nat.reduceSub,Array.replicate_succ,Array.replicate_zero,List.push_toArray,List.append_toArray,List.nil_append,List.cons_append]
  gi_wp2_with (gi_at_call 154;refine (Hr F (n - 1) h2 hro _ _ _ _).mono ?_;rintro e w' ⟨rfl,rfl⟩)
  have c0:=pW w (.int .i64 a0) 77
  have c1':=pW (w.alloc (.cells #[.int .i64 a0] 77)) (.int .i64 a2) 2
  have c2:=pW ((w.alloc (.cells #[.int .i64 a0] 77)).alloc (.cells #[.int .i64 a2] 2)) (.int .i64 0) 2
  have c3:=pW (((w.alloc (.cells #[.int .i64 a0] 77)).alloc (.cells #[.int .i64 a2] 2)).alloc (.cells #[.int .i64 0] 2)) (.slice A1 l1.length c1) 24
  simp only [World.size_alloc] at c1' c2 c3
  have hB0 : Below w.heap.size w ((((w.alloc (.cells #[.int .i64 a0] 77)).alloc (.cells #[.int .i64 a2] 2)).alloc (.cells #[.int .i64 0] 2)).alloc (.cells #[.slice A1 l1.length c1] 24)):=((((Below.refl _ w).alloc (Nat.le_refl _) _).alloc (by simp) _).alloc (by simp;omega) _).alloc (by simp;omega) _
  refine wpIn_rangeFunc_ownF hro hn1 (gf:=162) (lb:=#[.pointer (some ⟨w.heap.size + 1 + 1 + 1,0,none⟩)]) rfl h3 (enters_of Try.func162 (by kernel_rfl) rfl)
    (Cs F (n - 1) h3 hro (by omega) (w.heap.size + 1 + 1 + 1) w.heap.size (.slice A1 l1.length c1) l1 (by omega) _ (by simp) (by simp;omega) c3.1 (hI.below hB0)) (fun h k=>h.trans k)
    (fun W l o o' hl ho hc hw=>⟨belowK_b (by simp;omega) W l o o' hl ho hc hw,fun v hv=>cell_kept hv (grownBy_putObj' _ l o') (fun r e=>by cases e;exact ⟨_,ho,hc⟩)⟩) (Below.refl _ _) (fun _=>rfl)
    (fun pre W=>((W.cell? ⟨w.heap.size,0,none⟩ = some (.int .i64 a0)∧W.cell? ⟨w.heap.size + 1,0,none⟩ = some (.int .i64 a2))∧(W.cell? ⟨w.heap.size + 1 + 1,0,none⟩ = some (.int .i64 (valOf a0 a2 pre))∧W.frozen? ⟨w.heap.size + 1 + 1,0,none⟩ = false))∧Below w.heap.size w W)
    (fun _ _ _=>False)
    (OwnFrom.and (Own.from (fun s A B row hs hg hr=>⟨⟨cell_kept hs.1.1 hg hr,cell_kept hs.1.2 hg hr⟩,cell_kept hs.2.1 hg hr,(frozen_kept hs.2.1 hg hr).trans hs.2.2⟩) _) (ownFrom_below (Nat.le_refl _) (by simp;omega)))
    (fun _ _ _ _ _ hs _ _=>hs)
    ⟨⟨⟨lV _ (lV _ (lV _ c0.1)),lV _ (lV _ c1'.1)⟩,lV _ c2.1,wP _ c2.1 c2.2⟩,hB0⟩
    (fun x=>{ tmps:=#[.int .i64 a0,.slice A1 l1.length c1,.int .i64 a2,.pointer (some ⟨w.heap.size,0,none⟩),undef,.pointer (some ⟨w.heap.size + 1,0,none⟩),.int .i64 0,.pointer (some ⟨w.heap.size + 1 + 1,0,none⟩),undef,.int .i64 x.2,.slice A1 l1.length c1,.func (.func 162) #[] #[.pointer (some ⟨w.heap.size + 1 + 1 + 1,0,none⟩)],.int .i64 x.1,.int .i64 x.2,undef,undef,undef,undef,undef,undef,undef,undef],defers:=[] }) ?assign ?body ?done ?stop
  case assign =>
    intro l x W K hK
    gi_wp2
    exact hK
  case body =>
    rintro l pre x W ⟨⟨⟨hc0,hc1⟩,hc2,hf2⟩,hB⟩ _
    have hm : bM.f a0 (wrap64 (wrap64 (valOf a0 a2 pre * a2) + x.2)) = some (ru a0 a2 (valOf a0 a2 pre) x.2):=by
      unfold bM.f ru
      rw [if_neg hp]
    gi_wp2
    refine ⟨fun _=>by omega,(hmod _ _ _ _ _ _ hm).mono ?_⟩
    rintro e w' ⟨rfl,⟨nd,rfl⟩⟩
    have d0 : (W.drewN nd).cell? ⟨w.heap.size + 1 + 1,0,none⟩ = some (.int .i64 (valOf a0 a2 pre)):=hc2
    have d1 : (W.drewN nd).frozen? ⟨w.heap.size + 1 + 1,0,none⟩ = false:=hf2
    have d2 : (W.drewN nd).cell? ⟨w.heap.size,0,none⟩ = some (.int .i64 a0):=hc0
    have d3 : (W.drewN nd).cell? ⟨w.heap.size + 1,0,none⟩ = some (.int .i64 a2):=hc1
    have kO : KeepsOthers W (W.drewN nd):=⟨Nat.le_refl _,fun _ _ h _=>h⟩
    have kB : Below w.heap.size W (W.drewN nd):=fu (Below.refl _ _) nd
    have oth : ∀ (g : Nat) (v v' : Value),g ≠ w.heap.size + 1 + 1 → (W.drewN nd).cell? ⟨g,0,none⟩ = some v → ((W.drewN nd).setCell ⟨w.heap.size + 1 + 1,0,none⟩ v').cell? ⟨g,0,none⟩ = some v:=by
      intro g v v' hg hv
      exact (World.cell?_setCell_far _ _ _ _ (fun e=>hg e.symm)).trans hv
    gi_wp2
    exact ⟨kO.trans (KeepsOthers.setCell _ _ _),⟨kB.setCell (p:=⟨w.heap.size + 1 + 1,0,none⟩) (show w.heap.size ≤ w.heap.size + 1 + 1 from by omega) _,fun v hv=>oth _ _ _ (by omega) hv⟩,⟨⟨oth _ _ _ (by omega) d2,oth _ _ _ (by omega) d3⟩,by rw [wO];exact World.cell?_setCell_same' _ _ _ (by rw [d0];rfl),by rw [World.frozen?_setCell];exact d1⟩,(hB.trans kB).setCell (p:=⟨w.heap.size + 1 + 1,0,none⟩) (show w.heap.size ≤ w.heap.size + 1 + 1 from by omega) _⟩
  case done =>
    rintro D ys W hD rfl ⟨⟨_,hc,_⟩,hB⟩ hK
    gi_wp2
    refine ⟨by simp,.inl ⟨_,_,rfl,run_takeDeferred hK,?_⟩⟩
    exact ⟨_,results_tmp rfl _ _ _,rfl,hB.trans (belowK_b (w:=w) (Nat.le_refl _) W D _ _ (by simp at hD;omega) hK rfl rfl)⟩
  case stop =>
    rintro D c pre W _ _ h _
    exact h.elim
/-- What a slice that came in holds, as the loop wants it. -/
theorem Ct {w : World} {A1 : Option Addr} {c1 : Nat} {l1 : List Int} (hr1 : Kd.C (Kd.int .i64) w A1 l1.length l1) (hc1 : l1.length ≤ c1) : xU w.heap.size w (.slice A1 l1.length c1) l1:=by
  have h:=Kd.j5 (enc:=Value.int .i64) (d:=(0 : Int)) (h1:=fun _=>rfl) hr1
  by_cases h0 : l1.length = 0
  · rw [List.length_eq_zero_iff] at h0
    subst h0
    exact .inl ⟨rfl,A1,c1,rfl⟩
  · obtain ⟨ad,rfl,hc⟩:=h.2.2 (by omega)
    refine .inr ⟨ad,c1,rfl,?_,fun j hj=>?_⟩
    · have:=World.block_lt_of_cell? w _ (hc 0 (by omega))
      rwa [add_block] at this
    · have:=hc j hj
      rw [List.getD_eq_getElem?_getD] at this
      exact this
theorem iC.calls (a0 : Int) (A1 : Option Addr) (c1 : Nat) (l1 : List Int) (a2 : Int) (r : Int) (w : World) (hr1 : Kd.C (Kd.int .i64) w A1 l1.length l1) (hc1 : l1.length ≤ c1) (h : iC.f a0 l1 a2 = some r) :
    Calls Try.prog 124 #[.int .i64 a0,.slice A1 l1.length c1,.int .i64 a2] w fun e w'=>e = .returned (.int .i64 r)∧Below w.heap.size w w':=by
  unfold iC.f at h
  split at h
  · cases h
  · rename_i hp
    split at h
    · rename_i hl
      cases h
      exact callsIn_wide.1 (iC.FW Fence.wide 4 trivial trivial trivial trivial rfl (by omega) (fun k m x y r W hm=>(CallsIn.inRound k (callsIn_wide.2 (bM.calls x y r W hm)))) a0 A1 c1 l1 a2 hp hl w (Ct hr1 hc1))
    · cases h
/-! ### bT: function 40 -/
def bT.j0 : Nat → Int → Int → Int → Int → List Int → List Int → Option (Int × Int)
 | 0,_,_,_,_,_,_=>none
 | k + 1,x1,x2,x8,aa,ba,ca=>if x8 = 0 then ((bY.f aa ba ca).bind fun ea=>((bH.f k aa ba ca).bind fun da=>(if 0 ≤ x1 then (if x1 < (da.length : Int) then ((iC.f ea (jS da x1) x2).bind fun fa=>(some (fa,0))) else (none)) else (none)))) else (some (0,x8))
def bT.f (k : Nat) (aa : Int) (ba : List Int) (ca : List Int) (a1 : Int) (a2 : Int) : Option (Int × Int):=(bB.f aa ba ca).bind fun da=>((dB.f a1 0 da).bind fun ea=>(if ea = true then ((bY.f aa ba ca).bind fun fa=>((cz.f fa a2).bind fun ga=>((bR.f k aa ba ca ga).bind fun ha=>(bT.j0 k a1 a2 ha aa ba ca)))) else ((bR.f k aa ba ca false).bind fun ia=>(bT.j0 k a1 a2 ia aa ba ca))))
def bT.T1 : Bool × List (List Nat × List Nat):=(true,tz [[],[],[],[2],[1,3,3],[4,4],[5],[6,5,5],[5],[7,8,7,5],[5,9],[0,10,9],[11,11,0,1,2,3,4,5,6,7,8,9,10,11]] [(4,[1,3]),(5,[4]),(7,[5,6]),(9,[5,7,8]),(11,[0,10]),(12,[11])])
def bT.B1 : List Nat:=[0,0,0,4,14,30,62,126,62,510,1022,2047,4095]
theorem bT.nV : gY .any (opsOf Try.f40 1) = bT.T1:=by kernel_rfl
theorem bT.lH : eu bT.T1.2 bT.B1 = true:=by kernel_rfl
def bT.T4 : Bool × List (List Nat × List Nat):=(true,tz [[],[0],[],[2,1],[],[3,4],[5],[],[1,6,7,3],[8,8,0,1,2,3,4,5,6,7,8],[9,0,1,2,3,4,5,6,7,8,9]] [(3,[2]),(8,[1,6,7]),(9,[8]),(10,[])])
def bT.B4 : List Nat:=[0,1,0,7,0,31,63,0,255,511,1023]
theorem bT.uO : gY .any (opsOf Try.f40 4) = bT.T4:=by kernel_rfl
theorem bT.p8 : eu bT.T4.2 bT.B4 = true:=by kernel_rfl
theorem bT.calls (k : Nat) (ea : Int) (ka : Option Addr) (ma : Nat) (ba : List Int) (na : Option Addr) (oa : Nat) (ca : List Int) (a1 : Int) (a2 : Int) (r1 : Int) (r2 : Int) (w : World) (Ja : Kd.C (Kd.int .i64) w ka ba.length ba) (Ka : ba.length ≤ ma) (La : Kd.C (Kd.int .i64) w na ca.length ca) (Ma : ca.length ≤ oa) (H : bT.f k ea ba ca a1 a2 = some (r1,r2)) :
  Calls Try.prog 40 #[.agg #[.int .i64 ea,.slice ka ba.length ma,.slice na ca.length oa],.int .i64 a1,.int .i64 a2] w fun e w'=>e = .returned (.tuple #[.int .i64 r1,.int .i64 r2])∧Below w.heap.size w w':=by
 have lL:=Try.underlying50;have qa:=zA Ja;have ra:=zA Ka;clear Ja Ka;have sa:=zA La;have ta:=zA Ma;clear La Ma;have HB:=zA (Below.refl w.heap.size w);unfold bT.f at H;have Wa:=zA H;clear H;go_enter Try.func40,Try.ntmps40;go_upto_region 1 with (first | (refine bX 3 rfl #[.int .i64 ea,.slice ka ba.length ma,.slice na ca.length oa] 50 ?_;intro da w5 hg aa hb;have Pa:=gq HB hg;have:=geI Pa;replace HB:=xH HB hb;clear hb hg));(try simp only [Act.put,ls,lz,ln]);go_cut [8] (fun v8 wc=>∃ (kq : Nat) (Qa : Int),v8 = .int .i64 Qa∧au (bT.j0 kq a1 a2 Qa ea ba ca = some (r1,r2))∧au (kq ≤ k)∧au (wc.heap[da]? = some (.cells #[.int .i64 ea,(.slice ka ba.length ma),(.slice na ca.length oa)] 50 (0,0)))∧au (Below w.heap.size w wc))
 case first =>
  have H:=Wa.out;clear Wa;replace H:=bO H;obtain ⟨ua,A6,H⟩:=H;replace H:=bO H;obtain ⟨Za,A7,H⟩:=H;replace H:=gB H;obtain ⟨rfl,H⟩|⟨rfl,H⟩:=H
  ·replace H:=bO H;obtain ⟨Ba,A9,H⟩:=H;replace H:=bO H;obtain ⟨Ca,eb,H⟩:=H;replace H:=bO H;obtain ⟨Na,fb,H⟩:=H;have H':=zA H;clear H;(try go_wp2);replace aa:=bD aa;replace HB:=zA (aK HB.out);refine dM (n:=13) (S:=fun w'=>w'.cell? ⟨da,0,none⟩ = some (.int .i64 ea)∧w'.cell? ⟨da,1,none⟩ = some (.slice ka ba.length ma)∧w'.cell? ⟨da,2,none⟩ = some (.slice na ca.length oa)) (ds:=[]) (bl 13 0) (by kernel_rfl) rfl rfl ⟨bcu aa 0,bcu aa 1,bcu aa 2⟩ (fun hHeld=>?_);refine bF bT.nV bT.lH (fun HT_ HW_=>?_);generalize w5.drew = qb at aa HB hHeld ⊢;refine pu_ 1 10 (bl 13 2) HT_ ?_;refine ta_ 0 9 (bl 13 3) HT_ HW_ hHeld ?_;refine ta_ 2 11 (bl 13 7) HT_ HW_ hHeld ?_;refine on_ 3 (some 12) (bl 13 15) HT_ (fun K hK=>?_);refine gS Try.func107 #[.agg #[.int .i64 ea,.slice ka ba.length ma,.slice na ca.length oa]] ?_;(with_reducible refine (bB.calls ea _ _ ba _ _ ca ua _ ?fa ?ga ?ha ?ia A6.out).mono ?_);(case fa=>exact cB qa HB);(case ga=>exact ra.out);(case ha=>exact cB sa HB);(case ia=>exact ta.out);rintro e rb ⟨rfl,hb⟩;refine ⟨_,rfl,?_⟩;replace aa:=xB aa hb;replace HB:=xH HB hb;refine hK.out _ _ ⟨bcu aa 0,bcu aa 1,bcu aa 2⟩ (fun hHeld=>?_);clear hK K;refine no_ 12 ?_;refine on_ 4 (some 13) (bl 13 31) HT_ (fun K hK=>?_);refine gS Try.func74 #[.int .i64 a1,.int .i64 0,.int .i64 ua] ?_;(with_reducible refine (dB.calls a1 0 ua true _ A7.out).mono ?_);rintro e w' ⟨rfl,⟨nd,rfl⟩⟩;refine ⟨_,rfl,?_⟩;refine hK.out _ _ ⟨bcu aa 0,bcu aa 1,bcu aa 2⟩ (fun hHeld=>?_);clear hK K;refine no_ 13 ?_;refine pv2 5 14 8 17 (bl 13 319) HT_ ?_;refine ta_ 6 15 (bl 13 383) HT_ HW_ hHeld ?_;refine on_ 7 (some 16) (bl 13 511) HT_ (fun K hK=>?_);refine gS Try.func120 #[.agg #[.int .i64 ea,.slice ka ba.length ma,.slice na ca.length oa]] ?_;(with_reducible refine (bY.calls ea _ _ ba _ _ ca Ba _ ?fa ?ga ?ha ?ia A9.out).mono ?_);(case fa=>exact cH qa HB);(case ga=>exact ra.out);(case ha=>exact cH sa HB);(case ia=>exact ta.out);rintro e sb ⟨rfl,hb⟩;refine ⟨_,rfl,?_⟩;replace aa:=xB aa hb;replace HB:=xH HB hb;refine hK.out _ _ ⟨bcu aa 0,bcu aa 1,bcu aa 2⟩ (fun hHeld=>?_);clear hK K;refine no_ 16 ?_;refine on_ 9 (some 18) (bl 13 1023) HT_ (fun K hK=>?_);refine gS Try.func121 #[.int .i64 Ba,.int .i64 a2] ?_;(with_reducible refine (cz.calls Ba a2 Ca _ eb.out).mono ?_);rintro e w' ⟨rfl,⟨nd,rfl⟩⟩;refine ⟨_,rfl,?_⟩;refine hK.out _ _ ⟨bcu aa 0,bcu aa 1,bcu aa 2⟩ (fun hHeld=>?_);clear hK K;refine no_ 18 ?_;refine pu_ 10 19 (bl 13 2047) HT_ ?_;refine on_ 11 (some 20) (bl 13 4095) HT_ (fun K hK=>?_);refine gS Try.func105 #[.agg #[.int .i64 ea,.slice ka ba.length ma,.slice na ca.length oa],.bool Ca] ?_;(with_reducible refine (bR.calls k ea _ _ ba _ _ ca Ca Na _ ?fa ?ga ?ha ?ia fb.out).mono ?_);(case fa=>exact cH qa HB);(case ga=>exact ra.out);(case ha=>exact cH sa HB);(case ia=>exact ta.out);rintro e tb ⟨rfl,hb⟩;refine ⟨_,rfl,?_⟩;replace aa:=xB aa hb;replace HB:=xH HB hb;refine hK.out _ _ ⟨bcu aa 0,bcu aa 1,bcu aa 2⟩ (fun hHeld=>?_);clear hK K;refine no_ 20 ?_;refine pu_ 12 8 (bl 13 8191) HT_ ?_;refine done_ (done_of HT_.out (by kernel_rfl)) ?_;(try go_wp2);go_meet;(case rel=>exact ⟨_,(Na),eS,H',⟨by first | omega | exact Nat.le_refl _⟩,⟨uB aa.out⟩,⟨uH HB.out⟩⟩)
  ·replace H:=bO H;obtain ⟨Oa,gb,H⟩:=H;have H':=zA H;clear H;(try go_wp2);replace aa:=bD aa;replace HB:=zA (aK HB.out);refine dM (n:=13) (S:=fun w'=>w'.cell? ⟨da,0,none⟩ = some (.int .i64 ea)∧w'.cell? ⟨da,1,none⟩ = some (.slice ka ba.length ma)∧w'.cell? ⟨da,2,none⟩ = some (.slice na ca.length oa)) (ds:=[]) (bl 13 0) (by kernel_rfl) rfl rfl ⟨bcu aa 0,bcu aa 1,bcu aa 2⟩ (fun hHeld=>?_);refine bF bT.nV bT.lH (fun HT_ HW_=>?_);generalize w5.drew = ub at aa HB hHeld ⊢;refine pu_ 1 10 (bl 13 2) HT_ ?_;refine ta_ 0 9 (bl 13 3) HT_ HW_ hHeld ?_;refine ta_ 2 11 (bl 13 7) HT_ HW_ hHeld ?_;refine on_ 3 (some 12) (bl 13 15) HT_ (fun K hK=>?_);refine gS Try.func107 #[.agg #[.int .i64 ea,.slice ka ba.length ma,.slice na ca.length oa]] ?_;(with_reducible refine (bB.calls ea _ _ ba _ _ ca ua _ ?fa ?ga ?ha ?ia A6.out).mono ?_);(case fa=>exact cB qa HB);(case ga=>exact ra.out);(case ha=>exact cB sa HB);(case ia=>exact ta.out);rintro e vb ⟨rfl,hb⟩;refine ⟨_,rfl,?_⟩;replace aa:=xB aa hb;replace HB:=xH HB hb;refine hK.out _ _ ⟨bcu aa 0,bcu aa 1,bcu aa 2⟩ (fun hHeld=>?_);clear hK K;refine no_ 12 ?_;refine on_ 4 (some 13) (bl 13 31) HT_ (fun K hK=>?_);refine gS Try.func74 #[.int .i64 a1,.int .i64 0,.int .i64 ua] ?_;(with_reducible refine (dB.calls a1 0 ua false _ A7.out).mono ?_);rintro e w' ⟨rfl,⟨nd,rfl⟩⟩;refine ⟨_,rfl,?_⟩;refine hK.out _ _ ⟨bcu aa 0,bcu aa 1,bcu aa 2⟩ (fun hHeld=>?_);clear hK K;refine no_ 13 ?_;refine pu_ 5 14 (bl 13 63) HT_ ?_;refine un_ 6 15 (bl 13 127) HT_ ?_;refine un_ 7 16 (bl 13 255) HT_ ?_;refine un_ 8 17 (bl 13 511) HT_ ?_;refine un_ 9 18 (bl 13 1023) HT_ ?_;refine pu_ 10 19 (bl 13 2047) HT_ ?_;refine on_ 11 (some 20) (bl 13 4095) HT_ (fun K hK=>?_);refine gS Try.func105 #[.agg #[.int .i64 ea,.slice ka ba.length ma,.slice na ca.length oa],.bool false] ?_;(with_reducible refine (bR.calls k ea _ _ ba _ _ ca false Oa _ ?fa ?ga ?ha ?ia gb.out).mono ?_);(case fa=>exact cH qa HB);(case ga=>exact ra.out);(case ha=>exact cH sa HB);(case ia=>exact ta.out);rintro e wb ⟨rfl,hb⟩;refine ⟨_,rfl,?_⟩;replace aa:=xB aa hb;replace HB:=xH HB hb;refine hK.out _ _ ⟨bcu aa 0,bcu aa 1,bcu aa 2⟩ (fun hHeld=>?_);clear hK K;refine no_ 20 ?_;refine pu_ 12 8 (bl 13 8191) HT_ ?_;refine done_ (done_of HT_.out (by kernel_rfl)) ?_;(try go_wp2);go_meet;(case rel=>exact ⟨_,(Oa),eS,H',⟨by first | omega | exact Nat.le_refl _⟩,⟨uB aa.out⟩,⟨uH HB.out⟩⟩)
 case rest =>
  clear Wa;obtain ⟨kq,Qa,rfl,HA,xb,aa,HB⟩:=hcut
  cases kq with
  | zero=>exact absurd HA.out (by simp [bT.j0])
  | succ ib =>
   have H:=HA.out;clear HA;simp only [bT.j0] at H;replace H:=gE H;obtain ⟨ab,Ra,Sa,H⟩|⟨ab,Ra,Sa,H⟩:=H
   ·simp only [Option.some.injEq,Prod.mk.injEq] at H;obtain ⟨rfl,rfl⟩:=H;go_wp2;go_ret2;exact ⟨eX,uH HB.out⟩
   clear ab;replace H:=bO H;obtain ⟨Da,jb,H⟩:=H;replace H:=bO H;obtain ⟨wa,kb,H⟩:=H;replace H:=gD H;obtain ⟨bb,H⟩:=H;replace H:=gD H;obtain ⟨cb,H⟩:=H;replace H:=bO H;obtain ⟨Ta,mb,H⟩:=H;simp only [Option.some.injEq,Prod.mk.injEq] at H;obtain ⟨rfl,rfl⟩:=H;(try go_wp2);replace aa:=bD aa;replace HB:=zA (aK HB.out);refine dM (n:=11) (S:=fun w'=>w'.cell? ⟨da,0,none⟩ = some (.int .i64 ea)∧w'.cell? ⟨da,1,none⟩ = some (.slice ka ba.length ma)∧w'.cell? ⟨da,2,none⟩ = some (.slice na ca.length oa)) (ds:=[]) (bl 11 0) (by kernel_rfl) rfl rfl ⟨bcu aa 0,bcu aa 1,bcu aa 2⟩ (fun hHeld=>?_);refine bF bT.uO bT.p8 (fun HT_ HW_=>?_);generalize wc.drew = yb at aa HB hHeld ⊢;refine pv2 4 28 7 31 (bl 11 144) HT_ ?_;refine ta_ 0 24 (bl 11 145) HT_ HW_ hHeld ?_;refine ta_ 2 26 (bl 11 149) HT_ HW_ hHeld ?_;refine on_ 1 (some 25) (bl 11 151) HT_ (fun K hK=>?_);refine gS Try.func120 #[.agg #[.int .i64 ea,.slice ka ba.length ma,.slice na ca.length oa]] ?_;(with_reducible refine (bY.calls ea _ _ ba _ _ ca Da _ ?fa ?ga ?ha ?ia jb.out).mono ?_);(case fa=>exact cB qa HB);(case ga=>exact ra.out);(case ha=>exact cB sa HB);(case ia=>exact ta.out);rintro e zb ⟨rfl,hb⟩;refine ⟨_,rfl,?_⟩;replace aa:=xB aa hb;replace HB:=xH HB hb;refine hK.out _ _ ⟨bcu aa 0,bcu aa 1,bcu aa 2⟩ (fun hHeld=>?_);clear hK K;refine no_ 25 ?_;refine on_ 3 (some 27) (bl 11 159) HT_ (fun K hK=>?_);refine gS Try.func110 #[.agg #[.int .i64 ea,.slice ka ba.length ma,.slice na ca.length oa]] ?_;(with_reducible refine (bH.calls ib ea _ _ ba _ _ ca wa _ ?fa ?ga ?ha ?ia kb.out).mono ?_);(case fa=>exact cB qa HB);(case ga=>exact ra.out);(case ha=>exact cB sa HB);(case ia=>exact ta.out);rintro e Ab ⟨db,rfl,nb,hb⟩;refine ⟨_,rfl,?_⟩;have pa:=zA (Kd.pK (Kd.pM (ok':=fun k_=>k_ ≠ da) nb (fun k_ hk_=>(Kd.iT (g:=da) (o:=.cells #[.int .i64 ea,.slice ka ba.length ma,.slice na ca.length oa] 50 (0,0)) (uB aa.out) k_ hk_))) (dw (uH HB.out)));replace aa:=xB aa hb;replace HB:=xH HB hb;obtain ⟨ob,pb,Ua⟩:=Kd.pO pa.out;(first | subst Ua | (obtain ⟨f4_,f5_⟩:=sq Ua;subst f4_;subst f5_));have za : 0 ≤ (a1 : Int):=oD;have Aa : a1 < (wa.length : Int):=oD;obtain ⟨Xa,Ga,Ha,Va,Ea,xa,AY⟩:=vU (Kd.kz pa.out).2.2 a1 za Aa;cases Va;obtain ⟨Ya,Ia,Ht,Dq⟩:=Kd.E9 pa.out [] a1 za (by first | exact Aa | exact of_decide_eq_true (by first | (with_reducible assumption) | assumption) | (have e_:=(Kd.kz pa.out).1;omega));obtain ⟨Lr,Ls,rfl,wQ,wR⟩:=Kd.oZ Ht;have sV:=Dq 0 _ rfl;rw [Nat.add_zero,show ((Kd.slice 2 (Kd.int .i64))).sz = 1 from rfl,Nat.mul_one] at sV;replace sV:=Option.some.inj (sV.symm.trans Ea);injection sV with hva_ hvn_ hvc_;rw [hva_] at wR;rw [hvc_] at wQ;have ya:=zA (show Kd.V (Kd.int .i64) 2 _ w.heap.size _ _ (jS wa a1) from Kd.JE wQ wR);clear hva_ hvn_ hvc_ wR wQ;clear Dq Ia;have ja:=zA AY;have Fa:=zA xa;clear AY xa;replace za:=eq_true za;replace Aa:=eq_true Aa;refine hK.out _ _ ⟨bcu aa 0,bcu aa 1,bcu aa 2⟩ (fun hHeld=>?_);clear hK K;refine no_ 27 ?_;refine pu_ 5 29 (bl 11 191) HT_ ?_;refine lo_ 6 30 (bl 11 255) HT_ hHeld ?_;refine on_ 8 (some 32) (bl 11 511) HT_ (fun K hK=>?_);refine gS Try.func124 #[.int .i64 Da,.slice Ga (jS wa a1).length Ha,.int .i64 a2] ?_;(with_reducible refine (iC.calls Da _ _ (jS wa a1) a2 Ta _ ?fa ?ga mb.out).mono ?_);(case fa=>repeat (first | exact (by repeat (first | (with_reducible exact ja.out) | (with_reducible refine Kd.C_alloc ?_ _) | (with_reducible refine Kd.C_drewN ?_ _) | (with_reducible refine Kd.pQ ?_) | exact ja.out)) | (with_reducible refine Kd.C_alloc ?_ _) | (with_reducible refine Kd.C_drewN ?_ _) | (with_reducible refine Kd.pQ ?_)));(case ga=>exact Fa.out);rintro e Bb ⟨rfl,hb⟩;refine ⟨_,rfl,?_⟩;replace pa:=zA (Kd.mR (uN pa.out) hb);replace ya:=zA (Kd.jE (uV ya.out) hb);replace aa:=xB aa hb;replace ja:=zA (Kd.kF (by repeat (first | (with_reducible exact ja.out) | (with_reducible refine Kd.C_alloc ?_ _) | (with_reducible refine Kd.C_drewN ?_ _) | (with_reducible refine Kd.pQ ?_) | exact ja.out)) hb);replace HB:=xH HB hb;refine hK.out _ _ ⟨bcu aa 0,bcu aa 1,bcu aa 2⟩ (fun hHeld=>?_);clear hK K;refine no_ 32 ?_;refine pv2 9 6 10 7 (bl 11 2047) HT_ ?_;refine done_ (done_of HT_.out (by kernel_rfl)) ?_;(try go_wp2);go_ret2;exact ⟨eX,uH HB.out⟩
/- Values of polynomials: the program's and the reference's come to one number; no condition. -/
/-- The first k numbers from behind taken in. -/
def yB (p x : Int) (l : List Int) : Nat → Int
  | 0=>0
  | k + 1=>(yB p x l k * x + l.getD (l.length - 1 - k) 0) % p
theorem Dr {p : Int} (hp : Pm p) (x : Int) (l : List Int) (k : Nat) : 0 ≤ yB p x l k∧yB p x l k < p:=by
  cases k with
  | zero=>exact ⟨Int.le_refl _,hp.pos⟩
  | succ k=>exact iD hp.pos _
def zC (p x : Int) (l : List Int) : Int:=yB p x l l.length
theorem CS {p : Int} (hp : Pm p) (x : Int) (l : List Int) : 0 ≤ zC p x l∧zC p x l < p:=Dr hp x l _
theorem Cu {p x o c : Int} (hp : Pm p) (hx : 0 ≤ x∧x < p) (ho : 0 ≤ o∧o < p) (hc : 0 ≤ c∧c < p) : ru p x o c = (o * x + c) % p:=by
  have h:=rz hp ho.1 ho.2 hx.1 hx.2
  have ht:=hp.top
  unfold ru
  rw [bQ (x:=o * x) (by omega) (by omega),bQ (x:=o * x + c) (by omega) (by omega),yK hp]
theorem Cv {p x : Int} (hp : Pm p) (hx : 0 ≤ x∧x < p) (l : List Int) (hl : Nm p l) (k : Nat) (hk : k ≤ l.length) : valOf p x (upto (bk l l.length) k) = yB p x l k:=by
  induction k with
  | zero=>rfl
  | succ k ih =>
    have hg:=hl.get (i:=l.length - 1 - k) (by omega)
    have hv:=Dr hp x l k
    rw [ut,wO,ih (by omega),yB]
    have e : (bk l l.length k).2 = l.getD (l.length - 1 - k) 0:=by simp [bk,List.getD_eq_getElem?_getD]
    rw [e,Cu hp hx hv hg]
theorem yC {p x : Int} (hp : Pm p) (hx : 0 ≤ x∧x < p) (l : List Int) (hl : Nm p l) (hs : Sm l.length) : iC.f p l x = some (zC p x l):=by
  unfold iC.f
  unfold Sm at hs
  rw [if_neg hp.ne,if_pos (by omega),Cv hp hx l hl l.length (Nat.le_refl _)];rfl
/- ValueOf: for all arguments the program and the reference come to one value; no condition. -/

/- Numbers modulo P as a ring of their own; sums there: plain; no condition. -/
section
variable {P : Nat} [NeZero P]
/-- A whole number's rest modulo P. -/
def fz (P : Nat) [NeZero P] (x : Int) : Fin P:=⟨(x % (P : Int)).toNat,by
  have:=Nat.pos_of_neZero P
  have:=Int.emod_nonneg x (show (P : Int) ≠ 0 by omega)
  have:=Int.emod_lt_of_pos x (show 0 < (P : Int) by omega)
  omega⟩
theorem oH (x : Int) : ((fz P x).val : Int) = x % (P : Int):=by
  have:=Nat.pos_of_neZero P
  have:=Int.emod_nonneg x (show (P : Int) ≠ 0 by omega)
  show (((x % (P : Int)).toNat : Nat) : Int) = _
  omega
theorem vK {x y : Int} : fz P x = fz P y ↔ x % (P : Int) = y % (P : Int):=by
  constructor
  · intro h
    rw [← oH,← oH,h]
  · intro h
    apply Fin.ext
    have h1:=oH (P:=P) x
    have h2:=oH (P:=P) y
    omega
theorem Jp (x : Int) : fz P (x % (P : Int)) = fz P x:=vK.2 (Int.emod_emod _ _)
theorem oU (x y : Int) : fz P (x + y) = fz P x + fz P y:=by
  apply Fin.ext
  apply Int.ofNat.inj
  show (((fz P (x + y)).val : Nat) : Int) = (((fz P x + fz P y).val : Nat) : Int)
  rw [Fin.val_add,Int.natCast_emod,Int.natCast_add,oH,oH,oH,← Int.add_emod]
theorem lX (x y : Int) : fz P (x * y) = fz P x * fz P y:=by
  apply Fin.ext
  apply Int.ofNat.inj
  show (((fz P (x * y)).val : Nat) : Int) = (((fz P x * fz P y).val : Nat) : Int)
  rw [Fin.val_mul,Int.natCast_emod,Int.natCast_mul,oH,oH,oH,← Int.mul_emod]
theorem kE : fz P 0 = 0:=by
  apply Fin.ext
  show ((0 : Int) % (P : Int)).toNat = (0 : Fin P).val
  simp
theorem kJ : fz P 1 = 1:=by
  apply Fin.ext
  apply Int.ofNat.inj
  show (((fz P 1).val : Nat) : Int) = (((1 : Fin P).val : Nat) : Int)
  rw [oH]
  show (1 : Int) % (P : Int) = ((1 % P : Nat) : Int)
  simp
theorem mY (x : Int) : fz P (-x) = -fz P x:=by
  have h : fz P (-x) + fz P x = 0:=by rw [← oU,Int.add_left_neg,kE]
  grind
theorem xG {x : Int} : fz P x = 0 ↔ x % (P : Int) = 0:=by
  rw [← kE,vK,Int.zero_emod]
/-- Sums. -/
def sF (g : Nat → Fin P) : Nat → Fin P
  | 0=>0
  | n + 1=>sF g n + g n
theorem Jq (g : Nat → Int) (n : Nat) : fz P (sumTo g n) = sF (fun i=>fz P (g i)) n:=by
  induction n with
  | zero=>exact kE
  | succ n ih=>rw [sumTo,oU,ih];rfl
theorem oz {g h : Nat → Fin P} (n : Nat) (e : ∀ i,i < n → g i = h i) : sF g n = sF h n:=by
  induction n with
  | zero=>rfl
  | succ n ih=>rw [sF,sF,ih (fun i hi=>e i (by omega)),e n (by omega)]
theorem yx {g : Nat → Fin P} (n : Nat) (e : ∀ i,i < n → g i = 0) : sF g n = 0:=by
  induction n with
  | zero=>rfl
  | succ n ih=>rw [sF,ih (fun i hi=>e i (by omega)),e n (by omega)];grind
theorem Cw (g h : Nat → Fin P) (n : Nat) : sF (fun i=>g i + h i) n = sF g n + sF h n:=by
  induction n with
  | zero=>simp only [sF];grind
  | succ n ih=>simp only [sF];rw [ih];grind
theorem Cx (c : Fin P) (g : Nat → Fin P) (n : Nat) : sF (fun i=>c * g i) n = c * sF g n:=by
  induction n with
  | zero=>simp only [sF];grind
  | succ n ih=>simp only [sF];rw [ih];grind
theorem CP (c : Fin P) (g : Nat → Fin P) (n : Nat) : sF (fun i=>g i * c) n = sF g n * c:=by
  induction n with
  | zero=>simp only [sF];grind
  | succ n ih=>simp only [sF];rw [ih];grind
theorem qA (g : Nat → Fin P) (n : Nat) : sF g (n + 1) = g 0 + sF (fun t=>g (t + 1)) n:=by
  induction n with
  | zero=>simp only [sF];grind
  | succ n ih=>rw [sF,ih,sF];grind
theorem Hu {g : Nat → Fin P} {n : Nat} (e : ∀ i,n ≤ i → g i = 0) (d : Nat) : sF g (n + d) = sF g n:=by
  induction d with
  | zero=>rfl
  | succ d ih=>rw [← Nat.add_assoc,sF,ih,e _ (by omega)];grind
theorem KJ {g : Nat → Fin P} {n m : Nat} (h : n ≤ m) (e : ∀ i,n ≤ i → g i = 0) : sF g m = sF g n:=by
  obtain ⟨d,rfl⟩:=Nat.le.dest h
  exact Hu e d
/-- One place alone. -/
theorem KI {g : Nat → Fin P} {n k : Nat} (hk : k < n) (e : ∀ i,i < n → i ≠ k → g i = 0) : sF g n = g k:=by
  induction n with
  | zero=>omega
  | succ n ih =>
    rw [sF]
    by_cases c : k = n
    · subst c
      rw [yx k (fun i hi=>e i (by omega) (by omega))]
      grind
    · rw [ih (by omega) (fun i hi=>e i (by omega)),e n (by omega) (by omega)]
      grind
/-- The numbers of a list. -/
def cf (P : Nat) [NeZero P] (f : List Int) (i : Nat) : Fin P:=fz P (f.getD i 0)
theorem lY {f : List Int} {i : Nat} (h : f.length ≤ i) : cf P f i = 0:=by
  unfold cf
  rw [List.getD_eq_getElem?_getD,List.getElem?_eq_none h]
  exact kE
end
/- Three-term recurrences and the pairing of a functional: orthogonality, what vanishes on all of them, Christoffel and Darboux: plain; no condition. -/
section
variable {P : Nat} [NeZero P] {m : Nat → Fin P} {N : Nat}
/-- What the functional makes of f times x^k. -/
def lam (m : Nat → Fin P) (N : Nat) (f : Nat → Fin P) (k : Nat) : Fin P:=sF (fun t=>f t * m (t + k)) N
/-- What the functional makes of f times g. -/
def bi (m : Nat → Fin P) (N : Nat) (f g : Nat → Fin P) : Fin P:=sF (fun j=>g j * lam m N f j) N
/-- Times x. -/
def xs (f : Nat → Fin P) : Nat → Fin P
  | 0=>0
  | i + 1=>f i
theorem Dt (f g h : Nat → Fin P) (c : Fin P) : bi m N h (fun i=>f i + c * g i) = bi m N h f + c * bi m N h g:=by
  unfold bi
  rw [← Cx,← Cw]
  exact oz N fun t _=>by grind
/-- Monic polynomials by a recurrence of three terms, with their norms, up to n. -/
structure Tri (m : Nat → Fin P) (N n : Nat) (Q Qb : Nat → Nat → Fin P) (al be h : Nat → Fin P) : Prop where
  q0 : ∀ i,Q 0 i = if i = 0 then 1 else 0
  b0 : ∀ i,Qb 0 i = 0
  bs : ∀ k,Qb (k + 1) = Q k
  st : ∀ k i,Q (k + 1) i = xs (Q k) i - al k * Q k i - be k * Qb k i
  nn : n + 2 ≤ N
  hk : ∀ k,k ≤ n → h k = bi m N (Q k) (Q k)
  ak : ∀ k,k < n → al k * h k = bi m N (xs (Q k)) (Q k)
  bk : ∀ k,k < n → be (k + 1) * h k = h (k + 1)
section
variable {n : Nat} {Q Qb : Nat → Nat → Fin P} {al be h : Nat → Fin P} (T : Tri m N n Q Qb al be h)
include T
theorem Tri.sup (k : Nat) : ∀ i,k < i → Q k i = 0∧Qb k i = 0:=by
  induction k with
  | zero=>intro i hi;exact ⟨by rw [T.q0,if_neg (by omega)],T.b0 i⟩
  | succ k ih =>
    intro i hi
    obtain ⟨j,rfl⟩ : ∃ j,i = j + 1:=⟨i - 1,by omega⟩
    have h1:=ih (j + 1) (by omega)
    have h2:=ih j (by omega)
    refine ⟨?_,by rw [T.bs];exact h1.1⟩
    rw [T.st,h1.1,h1.2]
    simp only [xs]
    rw [h2.1]
    grind
theorem Tri.top (k : Nat) : Q k k = 1:=by
  induction k with
  | zero=>rw [T.q0,if_pos rfl]
  | succ k ih =>
    have h1:=T.sup k (k + 1) (by omega)
    rw [T.st,h1.1,h1.2]
    simp only [xs]
    rw [ih]
    grind
theorem Tri.step (f : Nat → Fin P) (k : Nat) : bi m N f (Q (k + 1)) = bi m N f (xs (Q k)) - al k * bi m N f (Q k) - be k * bi m N f (Qb k):=by
  have e : Q (k + 1) = fun i=>(fun i=>xs (Q k) i + (-al k) * Q k i) i + (-be k) * Qb k i:=by
    funext i
    rw [T.st]
    grind
  rw [e,Dt (fun i=>xs (Q k) i + (-al k) * Q k i),Dt (xs (Q k))]
  grind
theorem Tri.far {k : Nat} (hk : k ≤ n) : ∀ i,N ≤ i + 1 → Q k i = 0:=fun i hi=>(T.sup k i (by have:=T.nn;omega)).1
end
/-! ### values -/
def pw (x : Fin P) : Nat → Fin P
  | 0=>1
  | i + 1=>pw x i * x
def va (N : Nat) (x : Fin P) (f : Nat → Fin P) : Fin P:=sF (fun i=>f i * pw x i) N
theorem EN (x : Fin P) (f g : Nat → Fin P) (c : Fin P) : va N x (fun i=>f i + c * g i) = va N x f + c * va N x g:=by
  unfold va
  rw [← Cx,← Cw]
  exact oz N fun t _=>by grind
theorem Jt (x : Fin P) : va N x (fun _=>0) = 0:=yx N fun _ _=>by grind
theorem LP (x : Fin P) {f : Nat → Fin P} (hf : ∀ i,N ≤ i + 1 → f i = 0) : va N x (xs f) = x * va N x f:=by
  cases N with
  | zero=>simp only [va,sF];grind
  | succ M =>
    unfold va
    rw [qA,sF,hf M (Nat.le_refl _)]
    have : sF (fun t=>xs f (t + 1) * pw x (t + 1)) M = sF (fun t=>x * (f t * pw x t)) M:=oz M fun t _=>by simp only [xs,pw];grind
    rw [this,Cx]
    simp only [xs]
    grind
section
variable {n : Nat} {Q Qb : Nat → Nat → Fin P} {al be h iv : Nat → Fin P} (T : Tri m N n Q Qb al be h)
include T
end
end
/- Fermat: the power p - 2 is the inverse; no condition but that p is a o7. -/
/-- How many ways to choose k of n. -/
def chs : Nat → Nat → Int
  | _,0=>1
  | 0,_ + 1=>0
  | n + 1,k + 1=>chs n k + chs n (k + 1)
theorem sW (n k : Nat) : chs (n + 1) (k + 1) = chs n k + chs n (k + 1):=by rw [chs]
theorem vB (n : Nat) : ∀ k,n < k → chs n k = 0:=by
  induction n with
  | zero =>
    intro k h
    obtain ⟨j,rfl⟩ : ∃ j,k = j + 1:=⟨k - 1,by omega⟩
    rw [chs]
  | succ n ih =>
    intro k h
    obtain ⟨j,rfl⟩ : ∃ j,k = j + 1:=⟨k - 1,by omega⟩
    rw [chs,ih j (by omega),ih (j + 1) (by omega)];rfl
theorem FX (n : Nat) : chs n n = 1:=by
  induction n with
  | zero=>rw [chs]
  | succ n ih=>rw [chs,ih,vB n (n + 1) (by omega)];rfl
theorem pX (n : Nat) : chs n 0 = 1:=by cases n <;> rw [chs]
theorem Hw (n : Nat) : ∀ k : Nat,((k : Int) + 1) * chs (n + 1) (k + 1) = ((n : Int) + 1) * chs n k:=by
  induction n with
  | zero =>
    intro k
    cases k with
    | zero=>simp [chs]
    | succ k=>rw [sW,vB 0 (k + 1) (by omega),vB 0 (k + 1 + 1) (by omega)];simp
  | succ n ih =>
    intro k
    cases k with
    | zero =>
      have h:=ih 0
      rw [sW (n + 1)]
      simp only [pX,Int.natCast_succ,Int.natCast_zero] at h ⊢
      clear ih
      generalize chs (n + 1) (0 + 1) = a at *
      omega
    | succ k =>
      have h1:=ih k
      have h2:=ih (k + 1)
      have e:=sW n k
      rw [sW (n + 1)]
      simp only [Int.natCast_succ] at *
      clear ih
      generalize chs (n + 1) (k + 1) = a at *
      generalize chs (n + 1) (k + 1 + 1) = b at *
      generalize chs n k = c at *
      generalize chs n (k + 1) = d at *
      grind
section
variable {P : Nat} [NeZero P]
theorem Lt (a : Int) (n : Nat) : fz P ((a + 1) ^ n) = sF (fun k=>fz P (chs n k) * fz P (a ^ k)) (n + 1):=by
  induction n with
  | zero =>
    simp only [sF,Int.pow_zero,kJ]
    rw [show chs 0 0 = 1 from rfl,kJ]
    grind
  | succ n ih =>
    have e : ∀ k,fz P (chs (n + 1) (k + 1)) * fz P (a ^ (k + 1)) = fz P (chs n k) * fz P (a ^ k) * fz P a + fz P (chs n (k + 1)) * fz P (a ^ (k + 1)):=by
      intro k
      rw [chs,oU,Int.pow_succ,lX]
      grind
    rw [Int.pow_succ,lX,ih,qA (fun k=>fz P (chs (n + 1) k) * fz P (a ^ k)),oz (n + 1) (fun k _=>e k),Cw,CP,oU,kJ]
    have l : sF (fun k=>fz P (chs n (k + 1)) * fz P (a ^ (k + 1))) (n + 1) + 1 = sF (fun k=>fz P (chs n k) * fz P (a ^ k)) (n + 1):=by
      rw [qA (fun k=>fz P (chs n k) * fz P (a ^ k))]
      show sF (fun k=>fz P (chs n (k + 1)) * fz P (a ^ (k + 1))) n + fz P (chs n (n + 1)) * fz P (a ^ (n + 1)) + 1 = _
      rw [vB n (n + 1) (by omega),pX,kE,Int.pow_zero,kJ]
      grind
    rw [pX,Int.pow_zero,kJ]
    generalize sF (fun k=>fz P (chs n k) * fz P (a ^ k)) (n + 1) = s at *
    generalize sF (fun k=>fz P (chs n (k + 1)) * fz P (a ^ (k + 1))) (n + 1) = t at *
    grind
end
theorem Es {p : Int} (h : dD p = true) {k n : Nat} (hn : p = (n : Int) + 1) (hk : k < n) : p ∣ chs (n + 1) (k + 1):=by
  refine dD.cancel h (a:=(k : Int) + 1) ⟨by omega,by omega⟩ ?_
  rw [Hw,← hn]
  exact ⟨_,rfl⟩
theorem MB {p : Int} (h : dD p = true) (a : Nat) : ((a : Int) ^ p.toNat) % p = (a : Int) % p:=by
  have hp:=(dD.pm h).two
  obtain ⟨n,hn⟩ : ∃ n : Nat,p = (n : Int) + 1:=⟨(p - 1).toNat,by omega⟩
  have hP : p.toNat = n + 1:=by omega
  have e1 : p = ((n + 1 : Nat) : Int):=by omega
  have key : fz (n + 1) ((a : Int) ^ (n + 1)) = fz (n + 1) (a : Int):=by
    induction a with
    | zero=>rw [Int.pow_succ];simp
    | succ a ih =>
      rw [Int.natCast_succ,Lt,sF,qA,yx n (fun t ht=>?_),pX,FX,Int.pow_zero,kJ,oU,ih,kJ]
      · grind
      · have hd:=Es h hn ht
        rw [e1] at hd
        rw [xG.2 (Int.emod_eq_zero_of_dvd hd)]
        grind
  rw [hP,e1]
  exact vK.1 key
/-- Fermat. -/
theorem JQ {p : Int} (h : dD p = true) {x : Int} (hx : 1 ≤ x∧x < p) : x ^ (p.toNat - 1) % p = 1:=by
  have hp:=(dD.pm h).two
  obtain ⟨a,rfl⟩ : ∃ a : Nat,x = (a : Int):=⟨x.toNat,by omega⟩
  have h1:=MB h a
  rw [show p.toNat = p.toNat - 1 + 1 from by omega,Int.pow_succ] at h1
  have h2 : p ∣ (a : Int) * ((a : Int) ^ (p.toNat - 1) - 1):=by
    have:=Int.emod_emod_of_dvd ((a : Int) ^ (p.toNat - 1) * a - a) (Int.dvd_refl p)
    refine Int.dvd_of_emod_eq_zero ?_
    rw [show (a : Int) * ((a : Int) ^ (p.toNat - 1) - 1) = (a : Int) ^ (p.toNat - 1) * a - a from by grind,Int.sub_emod,h1,Int.sub_self,Int.zero_emod]
  have h3:=dD.cancel h hx h2
  have h4:=Int.emod_eq_zero_of_dvd h3
  have h5 : ((a : Int) ^ (p.toNat - 1) - 1 + 1) % p = 1 % p:=by rw [Int.add_emod,h4,Int.zero_add,Int.emod_emod]
  rw [Int.sub_add_cancel] at h5
  rw [h5]
  exact Int.emod_eq_of_lt (by omega) (by omega)
theorem FY {p : Int} (h : dD p = true) {x : Int} (hx : 1 ≤ x∧x < p) : (x * oV p x) % p = 1:=by
  have hp:=dD.pm h
  have h2:=hp.two
  have e : x * x ^ (p.toNat - 2) = x ^ (p.toNat - 1):=by
    rw [show p.toNat - 1 = p.toNat - 2 + 1 from by omega,Int.pow_succ,Int.mul_comm]
  rw [oV,CQ hp,Int.mul_emod,Int.emod_emod,← Int.mul_emod,e]
  exact JQ h hx
theorem yw {p : Int} (h : dD p = true) [NeZero p.toNat] {x : Int} (hx : 0 ≤ x∧x < p) (h0 : fz p.toNat x ≠ 0) : fz p.toNat x * fz p.toNat (oV p x) = 1:=by
  have hp:=dD.pm h
  have h2:=hp.two
  have e : ((p.toNat : Nat) : Int) = p:=by omega
  have h1 : 1 ≤ x:=by
    apply Decidable.byContradiction
    intro g
    exact h0 (by rw [show x = 0 from by omega];exact kE)
  rw [← lX,← kJ,vK,e,FY h ⟨h1,hx.2⟩,Int.emod_eq_of_lt (by omega) (by omega)]
/- Continuants: a recurrence of three terms from both sides, reversed data: plain; no condition. -/
section
variable {P : Nat} [NeZero P] (al be : Nat → Fin P)
/-- (x - a) f - b g. -/
def rop (a b : Fin P) (f g : Nat → Fin P) : Nat → Fin P:=fun i=>xs f i - a * f i - b * g i
/-- The polynomials of n - 1 and of n numbers from place s on. -/
def kon (s : Nat) : Nat → (Nat → Fin P) × (Nat → Fin P)
  | 0=>(fun _=>0,fun i=>if i = 0 then 1 else 0)
  | n + 1=>((kon s n).2,rop (al (s + n)) (be (s + n)) (kon s n).2 (kon s n).1)
theorem FZ (a b c d : Fin P) (u v w z : Nat → Fin P) : rop c d (rop a b u v) (rop a b w z) = rop a b (rop c d u w) (rop c d v z):=by
  funext i
  cases i with
  | zero=>simp only [rop,xs];grind
  | succ i=>simp only [rop,xs];grind
theorem F3 (n : Nat) : ∀ s,(kon al be s (n + 1)).2 = rop (al s) (be (s + 1)) (kon al be (s + 1) n).2 (kon al be (s + 2) n).1∧(kon al be s (n + 2)).2 = rop (al s) (be (s + 1)) (kon al be (s + 1) (n + 1)).2 (kon al be (s + 2) (n + 1)).1:=by
  induction n with
  | zero =>
    intro s
    constructor
    · funext i
      simp only [kon,rop,Nat.add_zero]
      grind
    · funext i
      cases i with
      | zero=>simp only [kon,rop,xs,Nat.add_zero];grind
      | succ i =>
        cases i with
        | zero=>simp only [kon,rop,xs,Nat.add_zero];grind
        | succ i=>simp only [kon,rop,xs,Nat.add_zero];grind
  | succ n ih =>
    intro s
    refine ⟨(ih s).2,?_⟩
    have e : (kon al be s (n + 1 + 2)).2 = rop (al (s + (n + 2))) (be (s + (n + 2))) (kon al be s (n + 2)).2 (kon al be s (n + 1)).2:=rfl
    rw [e,(ih s).2,(ih s).1,FZ]
    have e1 : (kon al be (s + 1) (n + 1 + 1)).2 = rop (al (s + 1 + (n + 1))) (be (s + 1 + (n + 1))) (kon al be (s + 1) (n + 1)).2 (kon al be (s + 1) n).2:=rfl
    have e2 : (kon al be (s + 2) (n + 1 + 1)).1 = rop (al (s + 2 + n)) (be (s + 2 + n)) (kon al be (s + 2) n).2 (kon al be (s + 2) n).1:=rfl
    rw [e1,e2,show s + 1 + (n + 1) = s + (n + 2) from by omega,show s + 2 + n = s + (n + 2) from by omega]
    rfl
/-- Data read from the other end. -/
theorem G7 (al' be' : Nat → Fin P) (N : Nat) (ha : ∀ i,i < N → al' i = al (N - 1 - i)) (hb : ∀ i,1 ≤ i → i < N → be' i = be (N - i)) (n : Nat) : n ≤ N →
    (kon al' be' 0 n).2 = (kon al be (N - n) n).2∧(1 ≤ n → (kon al' be' 0 n).1 = (kon al be (N - n + 1) (n - 1)).2):=by
  induction n with
  | zero=>intro _;exact ⟨rfl,fun h=>by omega⟩
  | succ n ih =>
    intro h
    obtain ⟨h1,h2⟩:=ih (by omega)
    refine ⟨?_,fun _=>?_⟩
    · have e : (kon al' be' 0 (n + 1)).2 = rop (al' (0 + n)) (be' (0 + n)) (kon al' be' 0 n).2 (kon al' be' 0 n).1:=rfl
      rw [e,Nat.zero_add,(F3 al be n (N - (n + 1))).1,h1,ha n (by omega),show N - 1 - n = N - (n + 1) from by omega,show N - (n + 1) + 1 = N - n from by omega]
      cases n with
      | zero=>funext i;simp only [kon,rop];grind
      | succ n =>
        rw [h2 (by omega),hb (n + 1) (by omega) (by omega)]
        show _ = rop _ _ _ (kon al be (N - (n + 1 + 1) + 2) n).2
        rw [show N - (n + 1 + 1) + 2 = N - (n + 1) + 1 from by omega,Nat.add_sub_cancel]
    · show (kon al' be' 0 n).2 = _
      rw [h1,show N - (n + 1) + 1 = N - n from by omega,Nat.add_sub_cancel]
end
end Go.Proofs.Ytknppcledhnkoaa.Pr
