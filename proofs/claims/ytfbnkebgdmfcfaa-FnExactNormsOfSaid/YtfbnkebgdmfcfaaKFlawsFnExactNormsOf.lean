/- Printed by a program of this session out of the translation: what these functions of the program compute, under the conditions that each theorem names. -/
import Derived.Test.YtfbnkebgdmfcfaaKC01
import Derived.Test.YtfbnkebgdmfcfaaKC03
import Derived.Test.YtfbnkebgdmfcfaaKC02
import Derived.Test.YtfbnkebgdmfcfaaKNormsOf1
namespace Go.Proofs.Ytfbnkebgdmfcfaa.Pr
open Go.RowKit Go.Proofs.YtfbnkebgdmfcfaaW.PrintWords Go.Proofs.YtfbnkebgdmfcfaaW.PrintLast Go.Proofs.YtfbnkebgdmfcfaaW.PrintMore
attribute [local go_sem] max2_int min2_int max_two min_two max_three min_three max_four min_four   -- for this text's walks alone
set_option linter.unusedVariables false
set_option linter.unusedSimpArgs false

/-! ### laws_FnExactNormsOf: function 8 -/
mutual
def laws_FnExactNormsOf.j0 : Nat → List Int → Int → List Int → Int → Bool → Int → List Int → Int → List Int → Option (Bool)
 | 0, _, _, _, _, _, _, _, _, _ => none
 | k + 1, x4, x5, x7, x8, x40, x539000, x539001, x553000, x553001 => if x40 = true then (some false) else ((laws_toMoments.f k x539000 x539001).bind fun bt558 => ((laws_eqMoments.f k x553000 x553001 bt558.1 bt558.2).bind fun t562 => (if t562 = true then ((laws_markMoments.f k x553000 x553001 1).bind fun bt563 => (if bt563.1 < 0 then (laws_FnExactNormsOf.j1 k x4 x5 x7 true x539000 x539001) else ((laws_eqInt64S.f k x7 x4).bind fun t565 => (if t565 = true then (laws_FnExactNormsOf.j1 k x4 x5 x7 (x8 != x5) x539000 x539001) else (laws_FnExactNormsOf.j1 k x4 x5 x7 true x539000 x539001))))) else (some false))))
def laws_FnExactNormsOf.j1 : Nat → List Int → Int → List Int → Bool → Int → List Int → Option (Bool)
 | 0, _, _, _, _, _, _ => none
 | k + 1, x4, x5, x7, x61, x539000, x539001 => if x61 = true then (some false) else ((laws_markInt64S.f k x7 1).bind fun bt566 => ((laws_heldInt64S.f k bt566.2 1).bind fun t568 => (if t568 < 0 then (some false) else (if t568 = bt566.1 then ((laws_toMoments.f k x539000 x539001).bind fun bt569 => ((impl_NormsOf.f k bt569.1 bt569.2).bind fun bt573 => ((laws_eqInt64S.f k bt573.1 x4).bind fun t577 => (if t577 = true then (laws_FnExactNormsOf.j2 k bt566.2 bt566.1 (bt573.2 != x5)) else (laws_FnExactNormsOf.j2 k bt566.2 bt566.1 true))))) else (some false)))))
def laws_FnExactNormsOf.j2 : Nat → List Int → Int → Bool → Option (Bool)
 | 0, _, _, _ => none
 | k + 1, x7, x10, x87 => if x87 = true then (some false) else ((laws_heldInt64S.f k x7 1).bind fun t578 => (if t578 < 0 then (some false) else (if t578 = x10 then (some true) else (some false))))
end
def laws_FnExactNormsOf.f (k : Nat) (a0_0 : Int) (l0_1 : List Int) : Option (Bool) := (laws_szMoments.f a0_0 l0_1 1048576).bind fun t539 => (if t539 < 0 then (some true) else ((laws_toMoments.f k a0_0 l0_1).bind fun bt540 => ((spec_NormsOf.f k bt540.1 bt540.2).bind fun bt544 => ((laws_toMoments.f k a0_0 l0_1).bind fun bt548 => ((impl_NormsOf.f k bt548.1 bt548.2).bind fun bt553 => ((laws_eqInt64S.f k bt553.1 bt544.1).bind fun t557 => (if t557 = true then (laws_FnExactNormsOf.j0 k bt544.1 bt544.2 bt553.1 bt553.2 (bt553.2 != bt544.2) a0_0 l0_1 bt548.1 bt548.2) else (laws_FnExactNormsOf.j0 k bt544.1 bt544.2 bt553.1 bt553.2 true a0_0 l0_1 bt548.1 bt548.2))))))))
set_option maxHeartbeats 8000000 in
set_option maxRecDepth 100000 in
theorem laws_FnExactNormsOf.calls (k : Nat) (a0_0 : Int) (A0_1 : Option Addr) (c0_1 : Nat) (l0_1 : List Int) (r : Bool) (hr_ : r = true) (w : World) (hr0_1 : Kd.C (Kd.int .i64) w A0_1 l0_1.length l0_1) (hc0_1 : l0_1.length ≤ c0_1) (h : laws_FnExactNormsOf.f k a0_0 l0_1 = some r) :
  Calls Try.prog 8 #[.agg #[.int .i64 a0_0, .slice A0_1 l0_1.length c0_1]] w fun e w' => e = .returned (.bool r) ∧ Below w.heap.size w w' := by
 have hu34 := Try.underlying34
 have hu40 := Try.underlying40
 have HRT := zA hr_
 clear hr_
 have HR0_1 := zA hr0_1
 have HC0_1 := zA hc0_1
 clear hr0_1 hc0_1
 have HB := zA (Below.refl w.heap.size w)
 have H : ((laws_szMoments.f a0_0 l0_1 1048576).bind fun t539 => (if t539 < 0 then (some true) else ((laws_toMoments.f k a0_0 l0_1).bind fun bt540 => ((spec_NormsOf.f k bt540.1 bt540.2).bind fun bt544 => ((laws_toMoments.f k a0_0 l0_1).bind fun bt548 => ((impl_NormsOf.f k bt548.1 bt548.2).bind fun bt553 => ((laws_eqInt64S.f k bt553.1 bt544.1).bind fun t557 => (if t557 = true then (laws_FnExactNormsOf.j0 k bt544.1 bt544.2 bt553.1 bt553.2 (bt553.2 != bt544.2) a0_0 l0_1 bt548.1 bt548.2) else (laws_FnExactNormsOf.j0 k bt544.1 bt544.2 bt553.1 bt553.2 true a0_0 l0_1 bt548.1 bt548.2))))))))) = some r := h
 clear h
 replace H := Option.bind_eq_some_iff.mp H
 obtain ⟨t539, A20, H⟩ := H
 replace H : (if t539 < 0 then (some true) else ((laws_toMoments.f k a0_0 l0_1).bind fun bt540 => ((spec_NormsOf.f k bt540.1 bt540.2).bind fun bt544 => ((laws_toMoments.f k a0_0 l0_1).bind fun bt548 => ((impl_NormsOf.f k bt548.1 bt548.2).bind fun bt553 => ((laws_eqInt64S.f k bt553.1 bt544.1).bind fun t557 => (if t557 = true then (laws_FnExactNormsOf.j0 k bt544.1 bt544.2 bt553.1 bt553.2 (bt553.2 != bt544.2) a0_0 l0_1 bt548.1 bt548.2) else (laws_FnExactNormsOf.j0 k bt544.1 bt544.2 bt553.1 bt553.2 true a0_0 l0_1 bt548.1 bt548.2)))))))) = some r := H
 have A2 := zA A20
 clear A20
 by_cases c3 : t539 < 0
 rotate_left
 ·rw [if_neg c3] at H
  have c3b0 : decide (t539 < 0) = false := decide_eq_false c3
  clear c3
  replace H := Option.bind_eq_some_iff.mp H
  obtain ⟨⟨t540, t541⟩, A70, H⟩ := H
  replace H : ((spec_NormsOf.f k t540 t541).bind fun bt544 => ((laws_toMoments.f k a0_0 l0_1).bind fun bt548 => ((impl_NormsOf.f k bt548.1 bt548.2).bind fun bt553 => ((laws_eqInt64S.f k bt553.1 bt544.1).bind fun t557 => (if t557 = true then (laws_FnExactNormsOf.j0 k bt544.1 bt544.2 bt553.1 bt553.2 (bt553.2 != bt544.2) a0_0 l0_1 bt548.1 bt548.2) else (laws_FnExactNormsOf.j0 k bt544.1 bt544.2 bt553.1 bt553.2 true a0_0 l0_1 bt548.1 bt548.2)))))) = some r := H
  have A7 := zA A70
  clear A70
  replace H := Option.bind_eq_some_iff.mp H
  obtain ⟨⟨t544, t547⟩, A80, H⟩ := H
  replace H : ((laws_toMoments.f k a0_0 l0_1).bind fun bt548 => ((impl_NormsOf.f k bt548.1 bt548.2).bind fun bt553 => ((laws_eqInt64S.f k bt553.1 t544).bind fun t557 => (if t557 = true then (laws_FnExactNormsOf.j0 k t544 t547 bt553.1 bt553.2 (bt553.2 != t547) a0_0 l0_1 bt548.1 bt548.2) else (laws_FnExactNormsOf.j0 k t544 t547 bt553.1 bt553.2 true a0_0 l0_1 bt548.1 bt548.2))))) = some r := H
  have A8 := zA A80
  clear A80
  replace H := Option.bind_eq_some_iff.mp H
  obtain ⟨⟨t548, t549⟩, A90, H⟩ := H
  replace H : ((impl_NormsOf.f k t548 t549).bind fun bt553 => ((laws_eqInt64S.f k bt553.1 t544).bind fun t557 => (if t557 = true then (laws_FnExactNormsOf.j0 k t544 t547 bt553.1 bt553.2 (bt553.2 != t547) a0_0 l0_1 t548 t549) else (laws_FnExactNormsOf.j0 k t544 t547 bt553.1 bt553.2 true a0_0 l0_1 t548 t549)))) = some r := H
  have A9 := zA A90
  clear A90
  replace H := Option.bind_eq_some_iff.mp H
  obtain ⟨⟨t553, t556⟩, A100, H⟩ := H
  replace H : ((laws_eqInt64S.f k t553 t544).bind fun t557 => (if t557 = true then (laws_FnExactNormsOf.j0 k t544 t547 t553 t556 (t556 != t547) a0_0 l0_1 t548 t549) else (laws_FnExactNormsOf.j0 k t544 t547 t553 t556 true a0_0 l0_1 t548 t549))) = some r := H
  have A10 := zA A100
  clear A100
  have HC11 := zA H
  clear H
  go_enter Try.func8, Try.ntmps8
  go_upto_region 8 with (first | ((with_reducible refine gate_dst (N := 1) rfl ?_); refine bx 1 #[.int .i64 a0_0, .slice A0_1 l0_1.length c0_1] 34 ?_; intro gb538 hg w12 hbox hb; have BK538 := zA (hbox); have GW538 := gq HB hg; have GE538 := gq HB hg; replace HB := xH HB hb; have := geI GE538; clear hb hbox hg; have hcz13_0 := bc BK538 0; have hcz13_1 := bc BK538 1; have hfz13_0 := bf BK538 0; have hfz13_1 := bf BK538 1) | ((with_reducible refine gate_callee (f := 22) rfl ?_); refine gL (some 16) Try.func22 #[.agg #[.int .i64 a0_0, .slice A0_1 l0_1.length c0_1], .int .i64 1048576] ?_; (with_reducible refine (laws_szMoments.calls a0_0 _ _ l0_1 1048576 t539 _ ?side1 ?side2 A2.out).mono ?_); (case side1 => exact uC ((Kd.C_below HR0_1.out HB.out))); (case side2 => exact HC0_1.out); rintro e w14 ⟨rfl, hb⟩; refine ⟨_, rfl, ?_⟩; replace BK538 := xB BK538 hb; replace HB := xH HB hb; (try clear hb); (try clear hb2); (try clear hk); (try clear hi); have hcz15_0 := bc BK538 0; have hcz15_1 := bc BK538 1; have hfz15_0 := bf BK538 0; have hfz15_1 := bf BK538 1) | ((with_reducible refine gate_callee (f := 24) rfl ?_); refine gL (some 21) Try.func24 #[.agg #[.int .i64 a0_0, .slice A0_1 l0_1.length c0_1]] ?_; (with_reducible refine (laws_toMoments.calls k a0_0 _ _ l0_1 t540 t541 _ ?side1 ?side2 A7.out).mono ?_); (case side1 => exact uC ((Kd.C_below HR0_1.out HB.out))); (case side2 => exact HC0_1.out); rintro e w16 ⟨v542, rfl, ho0, hb⟩; refine ⟨_, rfl, ?_⟩; have HO543 := zA (Kd.R_lower ho0 (below_size (uH HB.out))); replace BK538 := xB BK538 hb; replace HB := xH HB hb; (try clear hb); (try clear hb2); (try clear hk); (try clear hi); (try clear ho0); obtain ⟨Ao17, co17, eo17⟩ := Kd.R_slice HO543.out; subst eo17) | ((with_reducible refine gate_callee (f := 41) rfl ?_); refine gL (some 22) Try.func41 #[.agg #[.int .i64 t540, .slice Ao17 t541.length co17]] ?_; (with_reducible refine (spec_NormsOf.calls k t540 _ _ t541 t544 t547 _ ?side1 ?side2 A8.out).mono ?_); (case side1 => exact uC ((Kd.R_reads' HO543.out).2.2)); (case side2 => exact (Kd.R_reads' HO543.out).2.1); rintro e w18 ⟨v545, rfl, ho0, hb⟩; refine ⟨_, rfl, ?_⟩; have HO546 := zA (Kd.R_lower (Kd.R_new' ho0 (Kd.R_lt (uR HO543.out))) (below_size (uH HB.out))); replace HO543 := zA (Kd.R_elder' (uR HO543.out) (Kd.R_base ho0) hb); replace BK538 := xB BK538 hb; replace HB := xH HB hb; (try clear hb); (try clear hb2); (try clear hk); (try clear hi); (try clear ho0); have hcz19_0 := bc BK538 0; have hcz19_1 := bc BK538 1; have hfz19_0 := bf BK538 0; have hfz19_1 := bf BK538 1) | ((with_reducible refine gate_callee (f := 24) rfl ?_); refine gL (some 26) Try.func24 #[.agg #[.int .i64 a0_0, .slice A0_1 l0_1.length c0_1]] ?_; (with_reducible refine (laws_toMoments.calls k a0_0 _ _ l0_1 t548 t549 _ ?side1 ?side2 A9.out).mono ?_); (case side1 => exact uC ((Kd.C_below HR0_1.out HB.out))); (case side2 => exact HC0_1.out); rintro e w20 ⟨v550, rfl, ho0, hb⟩; refine ⟨_, rfl, ?_⟩; have HO551 := zA (Kd.R_lower (Kd.R_new' (Kd.R_new' ho0 (Kd.R_lt (uR HO543.out))) (Kd.R_lt (uR HO546.out))) (below_size (uH HB.out))); replace HO543 := zA (Kd.R_elder' (uR HO543.out) (Kd.R_base ho0) hb); replace HO546 := zA (Kd.R_elder' (uR HO546.out) (Kd.R_base ho0) hb); replace BK538 := xB BK538 hb; replace HB := xH HB hb; (try clear hb); (try clear hb2); (try clear hk); (try clear hi); (try clear ho0)) | ((with_reducible refine gate_dst (N := 6) rfl ?_); refine bx 6 #[.int .i64 0, .slice none 0 0] 40 ?_; intro gb552 hg w21 hbox hb; replace HO543 := xR HO543 hb; replace HO546 := xR HO546 hb; replace HO551 := xR HO551 hb; have BK552 := zA (hbox); have GW552 := gq HB hg; have GE552 := gq HB hg; replace HB := xH HB hb; have NB538_552 := zA ((by rw [hg]; exact neL BK538 : gb538 ≠ gb552)); have NB552_538 := zA ((by rw [hg]; exact neG BK538 : gb552 ≠ gb538)); replace BK538 := xB BK538 hb; have := geI GE552; clear hb hbox hg; have hnb22 := NB552_538.out; have hnc22 := NB538_552.out; have hcz23_0 := bc BK552 0; have hcz23_1 := bc BK552 1; have hfz23_0 := bf BK552 0; have hfz23_1 := bf BK552 1; obtain ⟨Ao24, co24, eo24⟩ := Kd.R_slice HO551.out; subst eo24) | ((with_reducible refine gate_callee (f := 42) rfl ?_); refine gL (some 29) Try.func42 #[.agg #[.int .i64 t548, .slice Ao24 t549.length co24]] ?_; (with_reducible refine (impl_NormsOf.calls k t548 _ _ t549 t553 t556 _ ?side1 ?side2 A10.out).mono ?_); (case side1 => refine (Kd.R_reads' (e := 2) (base := w.heap.size) (ok := fun k_ => ((True ∧ ax k_ (.slice Ao17 t541.length co17)) ∧ some k_ ≠ (v545 : Value).ownBlock)) (n := t549.length) (c := co24) ?_).2.2; exact (uR ((rf2 HO551 BK552 (by decide) (.int .i64 t548) (.slice Ao24 t549.length co24))))); (case side2 => exact (Kd.R_reads' HO551.out).2.1); rintro e w25 ⟨v554, rfl, ho0, hb⟩; refine ⟨_, rfl, ?_⟩; have HO555 := zA (Kd.R_lower (Kd.R_new' (Kd.R_new' (Kd.R_new' ho0 (Kd.R_lt (uR ((rf2 HO543 BK552 (by decide) (.int .i64 t548) (.slice Ao24 t549.length co24)))))) (Kd.R_lt (uR ((rf2 HO546 BK552 (by decide) (.int .i64 t548) (.slice Ao24 t549.length co24)))))) (Kd.R_lt (uR ((rf2 HO551 BK552 (by decide) (.int .i64 t548) (.slice Ao24 t549.length co24)))))) (below_size (uH HB.out))); replace HO543 := zA (Kd.R_elder' (uR ((rf2 HO543 BK552 (by decide) (.int .i64 t548) (.slice Ao24 t549.length co24)))) (Kd.R_base ho0) hb); replace HO546 := zA (Kd.R_elder' (uR ((rf2 HO546 BK552 (by decide) (.int .i64 t548) (.slice Ao24 t549.length co24)))) (Kd.R_base ho0) hb); replace HO551 := zA (Kd.R_elder' (uR ((rf2 HO551 BK552 (by decide) (.int .i64 t548) (.slice Ao24 t549.length co24)))) (Kd.R_base ho0) hb); replace BK538 := zA (blk_below (g := gb538) (o := .cells #[.int .i64 a0_0, .slice A0_1 l0_1.length c0_1] 34 (0, 0)) (by (repeat refine up1 ?_); refine blk_far ?_ NB538_552.out _; (repeat refine up1 ?_); refine blk_far ?_ NB538_552.out _; (repeat refine up1 ?_); exact BK538.out) hb); replace BK552 := zA (blk_below (g := gb552) (o := .cells #[.int .i64 t548, .slice Ao24 t549.length co24] 40 (0, 0)) (by (repeat refine up1 ?_); refine blk_put (cs := #[.int .i64 t548, .slice none 0 0]) ?_ 1 _ rfl; (repeat refine up1 ?_); refine blk_put (cs := #[.int .i64 0, .slice none 0 0]) ?_ 0 _ rfl; (repeat refine up1 ?_); exact BK552.out) hb); replace HB := xH HB hb; (try clear hb); (try clear hb2); (try clear hk); (try clear hi); (try clear ho0)))
  (try simp only [Act.put, ls, lz, ln])
  go_cut [40] (fun v40 wc => ∃ (kq : Nat) (x40_10 : Bool), v40 = .bool x40_10 ∧ Aside0 (laws_FnExactNormsOf.j0 kq t544 t547 t553 t556 x40_10 a0_0 l0_1 t548 t549 = some r) ∧ Aside0 (kq ≤ k) ∧ Aside0 (Kd.R (Kd.int .i64) 2 wc w.heap.size (fun k_ => some k_ ≠ (v554 : Value).ownBlock ∧ ax k_ (.slice Ao24 t549.length co24)) v545 t544) ∧ Aside0 (Kd.R (Kd.int .i64) 2 wc w.heap.size (fun k_ => some k_ ≠ (v545 : Value).ownBlock ∧ ax k_ (.slice Ao24 t549.length co24)) v554 t553) ∧ Aside0 (Kd.R (Kd.int .i64) 2 wc w.heap.size (fun k_ => some k_ ≠ (v545 : Value).ownBlock ∧ some k_ ≠ (v554 : Value).ownBlock) (.slice Ao24 t549.length co24) t549) ∧ Aside0 (wc.heap[gb538]? = some (.cells #[.int .i64 a0_0, (.slice A0_1 l0_1.length c0_1)] 34 (0, 0))) ∧ Aside0 (wc.heap[gb552]? = some (.cells #[.int .i64 t548, (.slice Ao24 t549.length co24)] 40 (0, 0))) ∧ Aside0 (Below w.heap.size w wc))
  case first =>
   have H := HC11.out
   clear HC11
   replace H := Option.bind_eq_some_iff.mp H
   obtain ⟨t557, A260, H⟩ := H
   replace H : (if t557 = true then (laws_FnExactNormsOf.j0 k t544 t547 t553 t556 (t556 != t547) a0_0 l0_1 t548 t549) else (laws_FnExactNormsOf.j0 k t544 t547 t553 t556 true a0_0 l0_1 t548 t549)) = some r := H
   have A26 := zA A260
   clear A260
   by_cases c27 : t557 = true
   ·subst c27
    have H1 : (laws_FnExactNormsOf.j0 k t544 t547 t553 t556 (t556 != t547) a0_0 l0_1 t548 t549) = some r := by rw [if_pos rfl] at H; exact H
    clear H
    have H := H1
    clear H1
    have H' := zA H
    clear H
    obtain ⟨Ao28, co28, eo28⟩ := Kd.R_slice HO555.out
    subst eo28
    obtain ⟨Ao29, co29, eo29⟩ := Kd.R_slice HO546.out
    subst eo29
    go_wp2_with (first | ((with_reducible refine gate_callee (f := 29) rfl ?_); refine gL (some 34) Try.func29 #[.slice Ao28 t553.length co28, .slice Ao29 t544.length co29] ?_; (with_reducible refine (laws_eqInt64S.calls k _ _ t553 _ _ t544 true _ ?side1 ?side2 ?side3 ?side4 A26.out).mono ?_); (case side1 => exact uC ((Kd.R_reads' HO555.out).2.2)); (case side2 => exact (Kd.R_reads' HO555.out).2.1); (case side3 => exact uC ((Kd.R_reads' HO546.out).2.2)); (case side4 => exact (Kd.R_reads' HO546.out).2.1); rintro e w' ⟨rfl, ⟨nd, rfl⟩⟩; refine ⟨_, rfl, ?_⟩))
    go_meet
    case rel => exact ⟨_, ((t556 != t547)), (by first | rfl | (simp; done) | (simp [*]; done)), H', ⟨by first | omega | exact Nat.le_refl _⟩, ⟨uR (Kd.R_mono HO546.out (fun _ hk => ⟨hk.2, hk.1.2⟩))⟩, ⟨uR (Kd.R_mono HO555.out (fun _ hk => ⟨hk.1.2, hk.2⟩))⟩, ⟨uR (Kd.R_mono HO551.out (fun _ hk => ⟨hk.1.2, hk.2⟩))⟩, ⟨uB BK538.out⟩, ⟨uB BK552.out⟩, ⟨uH HB.out⟩⟩
   ·replace c27 := Bool.eq_false_iff.mpr c27
    subst c27
    have H1 : (laws_FnExactNormsOf.j0 k t544 t547 t553 t556 true a0_0 l0_1 t548 t549) = some r := by rw [if_neg (show ¬ (false = true) by decide)] at H; exact H
    clear H
    have H := H1
    clear H1
    have H' := zA H
    clear H
    obtain ⟨Ao30, co30, eo30⟩ := Kd.R_slice HO555.out
    subst eo30
    obtain ⟨Ao31, co31, eo31⟩ := Kd.R_slice HO546.out
    subst eo31
    go_wp2_with (first | ((with_reducible refine gate_callee (f := 29) rfl ?_); refine gL (some 34) Try.func29 #[.slice Ao30 t553.length co30, .slice Ao31 t544.length co31] ?_; (with_reducible refine (laws_eqInt64S.calls k _ _ t553 _ _ t544 false _ ?side1 ?side2 ?side3 ?side4 A26.out).mono ?_); (case side1 => exact uC ((Kd.R_reads' HO555.out).2.2)); (case side2 => exact (Kd.R_reads' HO555.out).2.1); (case side3 => exact uC ((Kd.R_reads' HO546.out).2.2)); (case side4 => exact (Kd.R_reads' HO546.out).2.1); rintro e w' ⟨rfl, ⟨nd, rfl⟩⟩; refine ⟨_, rfl, ?_⟩))
    go_meet
    case rel => exact ⟨_, (true), (by first | rfl | (simp; done) | (simp [*]; done)), H', ⟨by first | omega | exact Nat.le_refl _⟩, ⟨uR (Kd.R_mono HO546.out (fun _ hk => ⟨hk.2, hk.1.2⟩))⟩, ⟨uR (Kd.R_mono HO555.out (fun _ hk => ⟨hk.1.2, hk.2⟩))⟩, ⟨uR (Kd.R_mono HO551.out (fun _ hk => ⟨hk.1.2, hk.2⟩))⟩, ⟨uB BK538.out⟩, ⟨uB BK552.out⟩, ⟨uH HB.out⟩⟩
  case rest =>
   clear HC11
   (try clear c2);(try clear p2);(try clear c3);(try clear c3b0);(try clear c4);(try clear c8);(try clear c22);(try clear c24);(try clear c27);(try clear c29);(try clear hcz13_0);(try clear hcz13_1);(try clear hcz15_0);(try clear hcz15_1);(try clear hcz19_0);(try clear hcz19_1);(try clear hcz23_0);(try clear hcz23_1);(try clear hcz5_0);(try clear hcz5_1);(try clear hfz13_0);(try clear hfz13_1);(try clear hfz15_0)
   (try clear hfz15_1);(try clear hfz19_0);(try clear hfz19_1);(try clear hfz23_0);(try clear hfz23_1);(try clear hfz5_0);(try clear hfz5_1)
   obtain ⟨kq, x40_10, rfl, HA, HJ10, HO_4, HO_7, HO_553001, BK538, BK552, HB⟩ := hcut
   cases kq with
   | zero => exact absurd HA.out (by simp [laws_FnExactNormsOf.j0])
   | succ kj10 =>
    have H := HA.out
    clear HA
    simp only [laws_FnExactNormsOf.j0] at H
    by_cases c32 : x40_10 = true
    ·subst c32
     have H1 : (some false) = some r := by rw [if_pos rfl] at H; exact H
     clear H
     have H := H1
     clear H1
     rw [HRT.out] at H
     exact absurd H (by simp)
    ·replace c32 := Bool.eq_false_iff.mpr c32
     subst c32
     have H1 : ((laws_toMoments.f kj10 a0_0 l0_1).bind fun bt558 => ((laws_eqMoments.f kj10 t548 t549 bt558.1 bt558.2).bind fun t562 => (if t562 = true then ((laws_markMoments.f kj10 t548 t549 1).bind fun bt563 => (if bt563.1 < 0 then (laws_FnExactNormsOf.j1 kj10 t544 t547 t553 true a0_0 l0_1) else ((laws_eqInt64S.f kj10 t553 t544).bind fun t565 => (if t565 = true then (laws_FnExactNormsOf.j1 kj10 t544 t547 t553 (t556 != t547) a0_0 l0_1) else (laws_FnExactNormsOf.j1 kj10 t544 t547 t553 true a0_0 l0_1))))) else (some false)))) = some r := by rw [if_neg (show ¬ (false = true) by decide)] at H; exact H
     clear H
     have H := H1
     clear H1
     replace H := Option.bind_eq_some_iff.mp H
     obtain ⟨⟨t558, t559⟩, A330, H⟩ := H
     replace H : ((laws_eqMoments.f kj10 t548 t549 t558 t559).bind fun t562 => (if t562 = true then ((laws_markMoments.f kj10 t548 t549 1).bind fun bt563 => (if bt563.1 < 0 then (laws_FnExactNormsOf.j1 kj10 t544 t547 t553 true a0_0 l0_1) else ((laws_eqInt64S.f kj10 t553 t544).bind fun t565 => (if t565 = true then (laws_FnExactNormsOf.j1 kj10 t544 t547 t553 (t556 != t547) a0_0 l0_1) else (laws_FnExactNormsOf.j1 kj10 t544 t547 t553 true a0_0 l0_1))))) else (some false))) = some r := H
     have A33 := zA A330
     clear A330
     replace H := Option.bind_eq_some_iff.mp H
     obtain ⟨t562, A340, H⟩ := H
     replace H : (if t562 = true then ((laws_markMoments.f kj10 t548 t549 1).bind fun bt563 => (if bt563.1 < 0 then (laws_FnExactNormsOf.j1 kj10 t544 t547 t553 true a0_0 l0_1) else ((laws_eqInt64S.f kj10 t553 t544).bind fun t565 => (if t565 = true then (laws_FnExactNormsOf.j1 kj10 t544 t547 t553 (t556 != t547) a0_0 l0_1) else (laws_FnExactNormsOf.j1 kj10 t544 t547 t553 true a0_0 l0_1))))) else (some false)) = some r := H
     have A34 := zA A340
     clear A340
     by_cases c35 : t562 = true
     ·subst c35
      have H1 : ((laws_markMoments.f kj10 t548 t549 1).bind fun bt563 => (if bt563.1 < 0 then (laws_FnExactNormsOf.j1 kj10 t544 t547 t553 true a0_0 l0_1) else ((laws_eqInt64S.f kj10 t553 t544).bind fun t565 => (if t565 = true then (laws_FnExactNormsOf.j1 kj10 t544 t547 t553 (t556 != t547) a0_0 l0_1) else (laws_FnExactNormsOf.j1 kj10 t544 t547 t553 true a0_0 l0_1))))) = some r := by rw [if_pos rfl] at H; exact H
      clear H
      have H := H1
      clear H1
      replace H := Option.bind_eq_some_iff.mp H
      obtain ⟨⟨t563, t564⟩, A360, H⟩ := H
      replace H : (if t563 < 0 then (laws_FnExactNormsOf.j1 kj10 t544 t547 t553 true a0_0 l0_1) else ((laws_eqInt64S.f kj10 t553 t544).bind fun t565 => (if t565 = true then (laws_FnExactNormsOf.j1 kj10 t544 t547 t553 (t556 != t547) a0_0 l0_1) else (laws_FnExactNormsOf.j1 kj10 t544 t547 t553 true a0_0 l0_1)))) = some r := H
      have A36 := zA A360
      clear A360
      have HC37 := zA H
      clear H
      try go_wp2
      replace HO_4 := zA (Kd.R_drew HO_4.out)
      replace HO_7 := zA (Kd.R_drew HO_7.out)
      replace HO_553001 := zA (Kd.R_drew HO_553001.out)
      replace BK538 := zA (blk_drew BK538.out)
      replace BK552 := zA (blk_drew BK552.out)
      replace HB := zA (below_drew1 HB.out)
      refine start_ (n := 5) (S := fun w' => w'.cell? ⟨gb552, 0, none⟩ = some (.int .i64 t548) ∧ w'.cell? ⟨gb552, 1, none⟩ = some (.slice Ao24 t549.length co24) ∧ w'.cell? ⟨gb538, 0, none⟩ = some (.int .i64 a0_0) ∧ w'.cell? ⟨gb538, 1, none⟩ = some (.slice A0_1 l0_1.length c0_1)) (ds := []) #[false, false, false, false, false] (by kernel_rfl) rfl rfl ⟨bcu BK552 0, bcu BK552 1, bcu BK538 0, bcu BK538 1⟩ (fun hHeld => ?_)
      generalize wc.drew = w38 at HO_4 HO_7 HO_553001 BK538 BK552 HB hHeld ⊢
      refine take_ (i := 0) (N := some 41) (v := ?_) (a' := ?_) (bl 5 1) rfl rfl (by kernel_rfl) (fun _ _ _ h => h) (Or.inl ⟨by rfl, ?_⟩) hHeld ?_ ?_
      rotate_left
      ·rintro w' ⟨s0, s1, s2, s3⟩
       go_simp
       with_reducible rfl
      rotate_left
      ·simp only [Act.put, ls, lz, ln, i64_w, i32_w]
       rfl
      refine take_ (i := 1) (N := some 42) (v := ?_) (a' := ?_) (bl 5 3) rfl rfl (by kernel_rfl) (fun _ _ _ h => h) (Or.inl ⟨by rfl, ?_⟩) hHeld ?_ ?_
      rotate_left
      ·rintro w' ⟨s0, s1, s2, s3⟩
       go_simp
       with_reducible rfl
      rotate_left
      ·simp only [Act.put, ls, lz, ln, i64_w, i32_w]
       rfl
      refine one_ (i := 2) (N := some 43) (bl 5 7) rfl rfl (by kernel_rfl) (by decide) (fun K hK => ?_)
      refine gS Try.func24 #[.agg #[.int .i64 a0_0, .slice A0_1 l0_1.length c0_1]] ?_
      with_reducible refine (laws_toMoments.calls kj10 a0_0 _ _ l0_1 t558 t559 _ ?side1 ?side2 A33.out).mono ?_
      (case side1 => exact uC ((Kd.C_below HR0_1.out HB.out)))
      (case side2 => exact HC0_1.out)
      rintro e w39 ⟨v560, rfl, ho0, hb⟩
      refine ⟨_, rfl, ?_⟩
      have HO561 := zA (Kd.R_lower (Kd.R_new' (Kd.R_new' (Kd.R_new' ho0 (Kd.R_lt (uR HO_4.out))) (Kd.R_lt (uR HO_7.out))) (Kd.R_lt (uR HO_553001.out))) (below_size (uH HB.out)))
      replace HO_4 := zA (Kd.R_elder' (uR HO_4.out) (Kd.R_base ho0) hb)
      replace HO_7 := zA (Kd.R_elder' (uR HO_7.out) (Kd.R_base ho0) hb)
      replace HO_553001 := zA (Kd.R_elder' (uR HO_553001.out) (Kd.R_base ho0) hb)
      replace BK538 := xB BK538 hb
      replace BK552 := xB BK552 hb
      replace HB := xH HB hb
      (try clear hb); (try clear hb2); (try clear hk); (try clear hi); (try clear ho0)
      obtain ⟨Ao40, co40, eo40⟩ := Kd.R_slice HO561.out
      (first | subst eo40 | (injection eo40 with f1_ f2_ f3_; have f4_ := f1_.symm; have f5_ := f3_.symm; clear f1_ f2_ f3_; subst f4_; subst f5_))
      refine hK.out _ _ ⟨bcu BK552 0, bcu BK552 1, bcu BK538 0, bcu BK538 1⟩ (fun hHeld => ?_)
      clear hK K
      refine no_ 43 ?_
      refine one_ (i := 3) (N := some 44) (bl 5 15) rfl rfl (by kernel_rfl) (by decide) (fun K hK => ?_)
      refine gS Try.func28 #[.agg #[.int .i64 t548, .slice Ao24 t549.length co24], .agg #[.int .i64 t558, .slice Ao40 t559.length co40]] ?_
      with_reducible refine (laws_eqMoments.calls kj10 t548 _ _ t549 t558 _ _ t559 true _ ?side1 ?side2 ?side3 ?side4 A34.out).mono ?_
      (case side1 => exact uC ((Kd.R_reads' HO_553001.out).2.2))
      (case side2 => exact (Kd.R_reads' HO_553001.out).2.1)
      (case side3 => exact uC ((Kd.R_reads' HO561.out).2.2))
      (case side4 => exact (Kd.R_reads' HO561.out).2.1)
      rintro e w41 ⟨rfl, hb⟩
      refine ⟨_, rfl, ?_⟩
      replace HO_4 := xR HO_4 hb
      replace HO_7 := xR HO_7 hb
      replace HO_553001 := xR HO_553001 hb
      replace HO561 := xR HO561 hb
      replace BK538 := xB BK538 hb
      replace BK552 := xB BK552 hb
      replace HB := xH HB hb
      (try clear hb); (try clear hb2); (try clear hk); (try clear hi)
      refine hK.out _ _ ⟨bcu BK552 0, bcu BK552 1, bcu BK538 0, bcu BK538 1⟩ (fun hHeld => ?_)
      clear hK K
      refine no_ 44 ?_
      refine pure_ (i := 4) (N := some 45) (v := ?_) (a' := ?_) (bl 5 31) rfl rfl (by kernel_rfl) (fun _ _ _ h => h) (Or.inl ⟨by rfl, ?_⟩) ?_ ?_
      rotate_left
      ·intro w'
       go_simp
       with_reducible rfl
      rotate_left
      ·simp only [Act.put, ls, lz, ln, i64_w, i32_w]
       rfl
      refine done_ (by kernel_rfl) ?_
      have hnb42 := NB552_538.out; have hnc42 := NB538_552.out
      have hcz43_0 := bc BK552 0
      have hcz43_1 := bc BK552 1
      have hfz43_0 := bf BK552 0
      have hfz43_1 := bf BK552 1
      go_upto_region 14 with (first | ((with_reducible refine gate_callee (f := 30) rfl ?_); refine gL (some 48) Try.func30 #[.agg #[.int .i64 t548, .slice Ao24 t549.length co24], .int .i64 1] ?_; (with_reducible refine (laws_markMoments.calls kj10 t548 (fun k_ => some k_ = (.slice Ao24 t549.length co24 : Value).ownBlock) (.slice Ao24 t549.length co24) t549 1 t563 t564 w _ ?side1 ?side2 A36.out).mono ?_); (case side1 => repeat (first | (with_reducible first | exact HB.out | apply below_alloc | apply pw_below_drewN | apply below_drew1 | refine below_set ?_ GE538.out | refine below_set ?_ GE552.out) | exact HB.out)); (case side2 => exact Kd.R_tight rfl HO_553001.out); rintro e w44 ⟨rfl, hy0, hb, hkp⟩; refine ⟨_, rfl, ?_⟩; replace HO_4 := zA (Kd.R_mono (ok' := fun k_ => some k_ ≠ (v554 : Value).ownBlock ∧ ax k_ (.slice Ao24 t549.length co24) ∧ ax k_ (.slice Ao40 t559.length co40)) (Kd.R_keptB (HO_4.out) hkp (fun k_ hk_ hs_ => (hk_.1.2) hs_)) (fun k_ hk_ => ⟨hk_.1.1.1, hk_.1.1.2, hk_.1.2⟩)); replace HO_7 := zA (Kd.R_mono (ok' := fun k_ => some k_ ≠ (v545 : Value).ownBlock ∧ ax k_ (.slice Ao24 t549.length co24) ∧ ax k_ (.slice Ao40 t559.length co40)) (Kd.R_keptB (HO_7.out) hkp (fun k_ hk_ hs_ => (hk_.1.2) hs_)) (fun k_ hk_ => ⟨hk_.1.1.1, hk_.1.1.2, hk_.1.2⟩)); replace BK538 := zA (blk_kept (uB BK538.out) hkp (fun hs_ => (fun e_ => (Kd.R_ne HO_553001.out BK538.out (by decide)) e_) hs_)); replace BK552 := zA (blk_kept (uB BK552.out) hkp (fun hs_ => (fun e_ => (Kd.R_ne HO_553001.out BK552.out (by decide)) e_) hs_)); replace HO_553001 := zA (Kd.R_reok rfl hy0 (fun k_ e_ => HO_553001.out.1 k_ e_)); replace HO561 := zA (Kd.R_mono (ok' := fun k_ => some k_ ≠ (v545 : Value).ownBlock ∧ some k_ ≠ (v554 : Value).ownBlock ∧ ax k_ (.slice Ao24 t549.length co24)) (Kd.R_keptB (HO561.out) hkp (fun k_ hk_ hs_ => (hk_.2) hs_)) (fun k_ hk_ => ⟨hk_.1.1.1.2, hk_.1.1.2, hk_.1.2⟩)); replace HB := zA (hb); (try clear hb); (try clear hkp); (try clear hy0)))
      (try simp only [Act.put, ls, lz, ln])
      go_cut [61] (fun v61 wc => ∃ (kq : Nat) (x61_36 : Bool), v61 = .bool x61_36 ∧ Aside0 (laws_FnExactNormsOf.j1 kq t544 t547 t553 x61_36 a0_0 l0_1 = some r) ∧ Aside0 (kq ≤ kj10) ∧ Aside0 (Kd.R (Kd.int .i64) 2 wc w.heap.size (fun k_ => some k_ ≠ (v554 : Value).ownBlock ∧ ax k_ (.slice Ao24 t549.length co24)) v545 t544) ∧ Aside0 (Kd.R (Kd.int .i64) 2 wc w.heap.size (fun k_ => some k_ ≠ (v545 : Value).ownBlock ∧ ax k_ (.slice Ao24 t549.length co24)) v554 t553) ∧ Aside0 (Kd.R (Kd.int .i64) 2 wc w.heap.size (fun k_ => some k_ ≠ (v545 : Value).ownBlock ∧ some k_ ≠ (v554 : Value).ownBlock) (.slice Ao24 t549.length co24) t564) ∧ Aside0 (wc.heap[gb538]? = some (.cells #[.int .i64 a0_0, (.slice A0_1 l0_1.length c0_1)] 34 (0, 0))) ∧ Aside0 (wc.heap[gb552]? = some (.cells #[.int .i64 t548, (.slice Ao24 t549.length co24)] 40 (0, 0))) ∧ Aside0 (Below w.heap.size w wc))
      case first =>
       have H := HC37.out
       clear HC37
       by_cases c45 : t563 < 0
       rotate_left
       ·rw [if_neg c45] at H
        have c45b0 : decide (t563 < 0) = false := decide_eq_false c45
        clear c45
        (first | rw [c45b0] | (simp only [i64_w, i32_w]; rw [c45b0]) | skip)
        replace H := Option.bind_eq_some_iff.mp H
        obtain ⟨t565, A460, H⟩ := H
        replace H : (if t565 = true then (laws_FnExactNormsOf.j1 kj10 t544 t547 t553 (t556 != t547) a0_0 l0_1) else (laws_FnExactNormsOf.j1 kj10 t544 t547 t553 true a0_0 l0_1)) = some r := H
        have A46 := zA A460
        clear A460
        by_cases c47 : t565 = true
        ·subst c47
         have H1 : (laws_FnExactNormsOf.j1 kj10 t544 t547 t553 (t556 != t547) a0_0 l0_1) = some r := by rw [if_pos rfl] at H; exact H
         clear H
         have H := H1
         clear H1
         have H' := zA H
         clear H
         obtain ⟨Ao48, co48, eo48⟩ := Kd.R_slice HO_7.out
         subst eo48
         obtain ⟨Ao49, co49, eo49⟩ := Kd.R_slice HO_4.out
         subst eo49
         go_wp2_with (first | (go_at_call 29; (with_reducible refine (laws_eqInt64S.calls kj10 _ _ t553 _ _ t544 true _ ?side1 ?side2 ?side3 ?side4 A46.out).mono ?_); (case side1 => exact uC ((Kd.R_reads' HO_7.out).2.2)); (case side2 => exact (Kd.R_reads' HO_7.out).2.1); (case side3 => exact uC ((Kd.R_reads' HO_4.out).2.2)); (case side4 => exact (Kd.R_reads' HO_4.out).2.1); rintro e w' ⟨rfl, ⟨nd, rfl⟩⟩))
         go_meet
         case rel => exact ⟨_, ((t556 != t547)), (by first | rfl | (simp; done) | (simp [*]; done)), H', ⟨by have := HJ10.out; first | omega | exact Nat.le_refl _⟩, ⟨uR (Kd.R_mono HO_4.out (fun _ hk => ⟨hk.1, hk.2.1⟩))⟩, ⟨uR (Kd.R_mono HO_7.out (fun _ hk => ⟨hk.1, hk.2.1⟩))⟩, ⟨uR (Kd.R_mono HO_553001.out (fun _ hk => ⟨hk.1.1, hk.1.2⟩))⟩, ⟨uB BK538.out⟩, ⟨uB BK552.out⟩, ⟨uH HB.out⟩⟩
        ·replace c47 := Bool.eq_false_iff.mpr c47
         subst c47
         have H1 : (laws_FnExactNormsOf.j1 kj10 t544 t547 t553 true a0_0 l0_1) = some r := by rw [if_neg (show ¬ (false = true) by decide)] at H; exact H
         clear H
         have H := H1
         clear H1
         have H' := zA H
         clear H
         obtain ⟨Ao50, co50, eo50⟩ := Kd.R_slice HO_7.out
         subst eo50
         obtain ⟨Ao51, co51, eo51⟩ := Kd.R_slice HO_4.out
         subst eo51
         go_wp2_with (first | (go_at_call 29; (with_reducible refine (laws_eqInt64S.calls kj10 _ _ t553 _ _ t544 false _ ?side1 ?side2 ?side3 ?side4 A46.out).mono ?_); (case side1 => exact uC ((Kd.R_reads' HO_7.out).2.2)); (case side2 => exact (Kd.R_reads' HO_7.out).2.1); (case side3 => exact uC ((Kd.R_reads' HO_4.out).2.2)); (case side4 => exact (Kd.R_reads' HO_4.out).2.1); rintro e w' ⟨rfl, ⟨nd, rfl⟩⟩))
         go_meet
         case rel => exact ⟨_, (true), (by first | rfl | (simp; done) | (simp [*]; done)), H', ⟨by have := HJ10.out; first | omega | exact Nat.le_refl _⟩, ⟨uR (Kd.R_mono HO_4.out (fun _ hk => ⟨hk.1, hk.2.1⟩))⟩, ⟨uR (Kd.R_mono HO_7.out (fun _ hk => ⟨hk.1, hk.2.1⟩))⟩, ⟨uR (Kd.R_mono HO_553001.out (fun _ hk => ⟨hk.1.1, hk.1.2⟩))⟩, ⟨uB BK538.out⟩, ⟨uB BK552.out⟩, ⟨uH HB.out⟩⟩
       rw [if_pos c45] at H
       have c45b0 : decide (t563 < 0) = true := decide_eq_true c45
       clear c45
       (first | rw [c45b0] | (simp only [i64_w, i32_w]; rw [c45b0]) | skip)
       have H' := zA H
       clear H
       go_wp2
       go_meet
       case rel => exact ⟨_, (true), (by first | rfl | (simp; done) | (simp [*]; done)), H', ⟨by have := HJ10.out; first | omega | exact Nat.le_refl _⟩, ⟨uR (Kd.R_mono HO_4.out (fun _ hk => ⟨hk.1, hk.2.1⟩))⟩, ⟨uR (Kd.R_mono HO_7.out (fun _ hk => ⟨hk.1, hk.2.1⟩))⟩, ⟨uR (Kd.R_mono HO_553001.out (fun _ hk => ⟨hk.1.1, hk.1.2⟩))⟩, ⟨uB BK538.out⟩, ⟨uB BK552.out⟩, ⟨uH HB.out⟩⟩
      case rest =>
       clear HC37
       (try clear c2);(try clear p2);(try clear c3);(try clear c3b0);(try clear c4);(try clear c8);(try clear c22);(try clear c24);(try clear c27);(try clear c28);(try clear c29);(try clear c30);(try clear c32);(try clear c35);(try clear c41);(try clear c42);(try clear c45);(try clear c45b0);(try clear c47);(try clear hcz13_0);(try clear hcz13_1);(try clear hcz15_0);(try clear hcz15_1);(try clear hcz19_0)
       (try clear hcz19_1);(try clear hcz23_0);(try clear hcz23_1);(try clear hcz43_0);(try clear hcz43_1);(try clear hcz5_0);(try clear hcz5_1);(try clear hfz13_0);(try clear hfz13_1);(try clear hfz15_0);(try clear hfz15_1);(try clear hfz19_0);(try clear hfz19_1);(try clear hfz23_0);(try clear hfz23_1);(try clear hfz43_0);(try clear hfz43_1);(try clear hfz5_0);(try clear hfz5_1);(try clear p2)
       obtain ⟨kq, x61_36, rfl, HA, HJ36, HO_4, HO_7, HO_553001, BK538, BK552, HB⟩ := hcut
       have hl553001_36 := (Kd.R_reads' HO_553001.out).1
       rw [hl553001_36] at HO_553001
       (try simp only [hl553001_36])
       (try simp only [hl553001_36] at BK538)
       (try simp only [hl553001_36] at BK552)
       (try simp only [hl553001_36] at HO_4)
       (try simp only [hl553001_36] at HO_7)
       cases kq with
       | zero => exact absurd HA.out (by simp [laws_FnExactNormsOf.j1])
       | succ kj36 =>
        have H := HA.out
        clear HA
        simp only [laws_FnExactNormsOf.j1] at H
        by_cases c52 : x61_36 = true
        ·subst c52
         have H1 : (some false) = some r := by rw [if_pos rfl] at H; exact H
         clear H
         have H := H1
         clear H1
         rw [HRT.out] at H
         exact absurd H (by simp)
        ·replace c52 := Bool.eq_false_iff.mpr c52
         subst c52
         have H1 : ((laws_markInt64S.f kj36 t553 1).bind fun bt566 => ((laws_heldInt64S.f kj36 bt566.2 1).bind fun t568 => (if t568 < 0 then (some false) else (if t568 = bt566.1 then ((laws_toMoments.f kj36 a0_0 l0_1).bind fun bt569 => ((impl_NormsOf.f kj36 bt569.1 bt569.2).bind fun bt573 => ((laws_eqInt64S.f kj36 bt573.1 t544).bind fun t577 => (if t577 = true then (laws_FnExactNormsOf.j2 kj36 bt566.2 bt566.1 (bt573.2 != t547)) else (laws_FnExactNormsOf.j2 kj36 bt566.2 bt566.1 true))))) else (some false))))) = some r := by rw [if_neg (show ¬ (false = true) by decide)] at H; exact H
         clear H
         have H := H1
         clear H1
         replace H := Option.bind_eq_some_iff.mp H
         obtain ⟨⟨t566, t567⟩, A530, H⟩ := H
         replace H : ((laws_heldInt64S.f kj36 t567 1).bind fun t568 => (if t568 < 0 then (some false) else (if t568 = t566 then ((laws_toMoments.f kj36 a0_0 l0_1).bind fun bt569 => ((impl_NormsOf.f kj36 bt569.1 bt569.2).bind fun bt573 => ((laws_eqInt64S.f kj36 bt573.1 t544).bind fun t577 => (if t577 = true then (laws_FnExactNormsOf.j2 kj36 t567 t566 (bt573.2 != t547)) else (laws_FnExactNormsOf.j2 kj36 t567 t566 true))))) else (some false)))) = some r := H
         have A53 := zA A530
         clear A530
         replace H := Option.bind_eq_some_iff.mp H
         obtain ⟨t568, A540, H⟩ := H
         replace H : (if t568 < 0 then (some false) else (if t568 = t566 then ((laws_toMoments.f kj36 a0_0 l0_1).bind fun bt569 => ((impl_NormsOf.f kj36 bt569.1 bt569.2).bind fun bt573 => ((laws_eqInt64S.f kj36 bt573.1 t544).bind fun t577 => (if t577 = true then (laws_FnExactNormsOf.j2 kj36 t567 t566 (bt573.2 != t547)) else (laws_FnExactNormsOf.j2 kj36 t567 t566 true))))) else (some false))) = some r := H
         have A54 := zA A540
         clear A540
         by_cases c55 : t568 < 0
         rotate_left
         ·rw [if_neg c55] at H
          have c55b0 : decide (t568 < 0) = false := decide_eq_false c55
          clear c55
          by_cases c56 : t568 = t566
          rotate_left
          ·rw [if_neg c56] at H
           have c56b0 : (t568 == t566) = false := beq_eq_false_iff_ne.mpr c56
           have c56b1 : (t568 != t566) = true := bne_iff_ne.mpr c56
           rw [HRT.out] at H
           exact absurd H (by simp)
          rw [if_pos c56] at H
          have c56b0 : (t568 == t566) = true := beq_iff_eq.mpr c56
          have c56b1 : (t568 != t566) = false := bne_eq_false_iff_eq.mpr c56
          clear c56
          replace H := Option.bind_eq_some_iff.mp H
          obtain ⟨⟨t569, t570⟩, A570, H⟩ := H
          replace H : ((impl_NormsOf.f kj36 t569 t570).bind fun bt573 => ((laws_eqInt64S.f kj36 bt573.1 t544).bind fun t577 => (if t577 = true then (laws_FnExactNormsOf.j2 kj36 t567 t566 (bt573.2 != t547)) else (laws_FnExactNormsOf.j2 kj36 t567 t566 true)))) = some r := H
          have A57 := zA A570
          clear A570
          replace H := Option.bind_eq_some_iff.mp H
          obtain ⟨⟨t573, t576⟩, A580, H⟩ := H
          replace H : ((laws_eqInt64S.f kj36 t573 t544).bind fun t577 => (if t577 = true then (laws_FnExactNormsOf.j2 kj36 t567 t566 (t576 != t547)) else (laws_FnExactNormsOf.j2 kj36 t567 t566 true))) = some r := H
          have A58 := zA A580
          clear A580
          have HC59 := zA H
          clear H
          obtain ⟨Ao60, co60, eo60⟩ := Kd.R_slice HO_7.out
          subst eo60
          go_upto_region 25 with (first | ((with_reducible refine gate_callee (f := 31) rfl ?_); refine gL (some 64) Try.func31 #[.slice Ao60 t553.length co60, .int .i64 1] ?_; (with_reducible refine (laws_markInt64S.calls kj36 (fun k_ => some k_ = (.slice Ao60 t553.length co60 : Value).ownBlock) (.slice Ao60 t553.length co60) t553 1 t566 t567 w _ ?side1 ?side2 A53.out).mono ?_); (case side1 => repeat (first | (with_reducible first | exact HB.out | apply below_alloc | apply pw_below_drewN | apply below_drew1 | refine below_set ?_ GE538.out | refine below_set ?_ GE552.out) | exact HB.out)); (case side2 => exact Kd.R_tight rfl HO_7.out); rintro e w61 ⟨rfl, hy0, hb, hkp⟩; refine ⟨_, rfl, ?_⟩; replace HO_4 := zA (Kd.R_mono (ok' := fun k_ => ax k_ (.slice Ao60 t553.length co60) ∧ ax k_ (.slice Ao24 t564.length co24)) (Kd.R_keptB (HO_4.out) hkp (fun k_ hk_ hs_ => (hk_.1) hs_)) (fun k_ hk_ => ⟨hk_.1.1, hk_.1.2⟩)); replace HO_553001 := zA (Kd.R_mono (ok' := fun k_ => some k_ ≠ (v545 : Value).ownBlock ∧ ax k_ (.slice Ao60 t553.length co60)) (Kd.R_keptB (HO_553001.out) hkp (fun k_ hk_ hs_ => (hk_.2) hs_)) (fun k_ hk_ => ⟨hk_.1.1, hk_.1.2⟩)); replace BK538 := zA (blk_kept (uB BK538.out) hkp (fun hs_ => (fun e_ => (Kd.R_ne HO_7.out BK538.out (by decide)) e_) hs_)); replace BK552 := zA (blk_kept (uB BK552.out) hkp (fun hs_ => (fun e_ => (Kd.R_ne HO_7.out BK552.out (by decide)) e_) hs_)); replace HO_7 := zA (Kd.R_reok rfl hy0 (fun k_ e_ => HO_7.out.1 k_ e_)); replace HB := zA (hb); (try clear hb); (try clear hkp); (try clear hy0)) | ((with_reducible refine gate_callee (f := 40) rfl ?_); refine goesL_ (some 67) rfl rfl Try.func40 (by kernel_rfl) rfl #[.slice Ao60 t567.length co60, .int .i64 1] rfl (by (try simp only [la, lb, lc]); first | done | (rw [show t567.length = t553.length from (Kd.R_reads' HO_7.out).1.symm] <;> rfl) | rfl | (simp only [ld, le]; rfl)) ?_; (with_reducible refine (laws_heldInt64S.calls kj36 _ _ t567 1 t568 _ ?side1 ?side2 A54.out).mono ?_); (case side1 => exact uC ((Kd.R_reads' HO_7.out).2.2)); (case side2 => rw [show t567.length = t553.length from (Kd.R_reads' HO_7.out).1.symm]; exact (Kd.R_reads' HO_7.out).2.1); rintro e w' ⟨rfl, ⟨nd, rfl⟩⟩; refine ⟨_, rfl, ?_⟩; have hnb62 := NB538_552.out; have hnc62 := NB552_538.out; have hcz63_0 := bc BK538 0; have hcz63_1 := bc BK538 1; have hfz63_0 := bf BK538 0; have hfz63_1 := bf BK538 1) | ((with_reducible refine gate_callee (f := 24) rfl ?_); refine gL (some 75) Try.func24 #[.agg #[.int .i64 a0_0, .slice A0_1 l0_1.length c0_1]] ?_; (with_reducible refine (laws_toMoments.calls kj36 a0_0 _ _ l0_1 t569 t570 _ ?side1 ?side2 A57.out).mono ?_); (case side1 => repeat (first | exact (Kd.C_below HR0_1.out (uH HB.out)) | (with_reducible refine Kd.C_alloc ?_ _) | (with_reducible refine Kd.C_drewN ?_ _) | (with_reducible refine Kd.C_drew ?_))); (case side2 => exact HC0_1.out); rintro e w64 ⟨v571, rfl, ho0, hb⟩; refine ⟨_, rfl, ?_⟩; have HO572 := zA (Kd.R_lower (Kd.R_new' (Kd.R_new' (Kd.R_new' ho0 (Kd.R_lt (uR HO_4.out))) (Kd.R_lt (uR HO_7.out))) (Kd.R_lt (uR HO_553001.out))) (below_size (uH HB.out))); replace HO_4 := zA (Kd.R_elder' (uR HO_4.out) (Kd.R_base ho0) hb); replace HO_7 := zA (Kd.R_elder' (uR HO_7.out) (Kd.R_base ho0) hb); replace HO_553001 := zA (Kd.R_elder' (uR HO_553001.out) (Kd.R_base ho0) hb); replace BK538 := xB BK538 hb; replace BK552 := xB BK552 hb; replace HB := xH HB hb; (try clear hb); (try clear hb2); (try clear hk); (try clear hi); (try clear ho0); obtain ⟨Ao65, co65, eo65⟩ := Kd.R_slice HO572.out; subst eo65) | ((with_reducible refine gate_callee (f := 42) rfl ?_); refine gL (some 76) Try.func42 #[.agg #[.int .i64 t569, .slice Ao65 t570.length co65]] ?_; (with_reducible refine (impl_NormsOf.calls kj36 t569 _ _ t570 t573 t576 _ ?side1 ?side2 A58.out).mono ?_); (case side1 => exact uC ((Kd.R_reads' HO572.out).2.2)); (case side2 => exact (Kd.R_reads' HO572.out).2.1); rintro e w66 ⟨v574, rfl, ho0, hb⟩; refine ⟨_, rfl, ?_⟩; have HO575 := zA (Kd.R_lower (Kd.R_new' (Kd.R_new' (Kd.R_new' (Kd.R_new' ho0 (Kd.R_lt (uR HO_4.out))) (Kd.R_lt (uR HO_7.out))) (Kd.R_lt (uR HO_553001.out))) (Kd.R_lt (uR HO572.out))) (below_size (uH HB.out))); replace HO_4 := zA (Kd.R_elder' (uR HO_4.out) (Kd.R_base ho0) hb); replace HO_7 := zA (Kd.R_elder' (uR HO_7.out) (Kd.R_base ho0) hb); replace HO_553001 := zA (Kd.R_elder' (uR HO_553001.out) (Kd.R_base ho0) hb); replace HO572 := zA (Kd.R_elder' (uR HO572.out) (Kd.R_base ho0) hb); replace BK538 := xB BK538 hb; replace BK552 := xB BK552 hb; replace HB := xH HB hb; (try clear hb); (try clear hb2); (try clear hk); (try clear hi); (try clear ho0)))
          (try simp only [Act.put, ls, lz, ln])
          go_cut [87] (fun v87 wc => ∃ (kq : Nat) (x87_58 : Bool), v87 = .bool x87_58 ∧ Aside0 (laws_FnExactNormsOf.j2 kq t567 t566 x87_58 = some r) ∧ Aside0 (kq ≤ kj36) ∧ Aside0 (Kd.R (Kd.int .i64) 2 wc w.heap.size (fun k_ => ax k_ (.slice Ao24 t564.length co24)) (.slice Ao60 t553.length co60) t567) ∧ Aside0 (Kd.R (Kd.int .i64) 2 wc w.heap.size (fun k_ => ax k_ (.slice Ao60 t553.length co60)) (.slice Ao24 t564.length co24) t564) ∧ Aside0 (wc.heap[gb538]? = some (.cells #[.int .i64 a0_0, (.slice A0_1 l0_1.length c0_1)] 34 (0, 0))) ∧ Aside0 (wc.heap[gb552]? = some (.cells #[.int .i64 t548, (.slice Ao24 t564.length co24)] 40 (0, 0))) ∧ Aside0 (Below w.heap.size w wc))
          case first =>
           have H := HC59.out
           clear HC59
           replace H := Option.bind_eq_some_iff.mp H
           obtain ⟨t577, A670, H⟩ := H
           replace H : (if t577 = true then (laws_FnExactNormsOf.j2 kj36 t567 t566 (t576 != t547)) else (laws_FnExactNormsOf.j2 kj36 t567 t566 true)) = some r := H
           have A67 := zA A670
           clear A670
           by_cases c68 : t577 = true
           ·subst c68
            have H1 : (laws_FnExactNormsOf.j2 kj36 t567 t566 (t576 != t547)) = some r := by rw [if_pos rfl] at H; exact H
            clear H
            have H := H1
            clear H1
            have H' := zA H
            clear H
            obtain ⟨Ao69, co69, eo69⟩ := Kd.R_slice HO575.out
            subst eo69
            obtain ⟨Ao70, co70, eo70⟩ := Kd.R_slice HO_4.out
            subst eo70
            go_wp2_with (first | ((with_reducible refine gate_callee (f := 29) rfl ?_); refine gL (some 81) Try.func29 #[.slice Ao69 t573.length co69, .slice Ao70 t544.length co70] ?_; (with_reducible refine (laws_eqInt64S.calls kj36 _ _ t573 _ _ t544 true _ ?side1 ?side2 ?side3 ?side4 A67.out).mono ?_); (case side1 => exact uC ((Kd.R_reads' HO575.out).2.2)); (case side2 => exact (Kd.R_reads' HO575.out).2.1); (case side3 => exact uC ((Kd.R_reads' HO_4.out).2.2)); (case side4 => exact (Kd.R_reads' HO_4.out).2.1); rintro e w' ⟨rfl, ⟨nd, rfl⟩⟩; refine ⟨_, rfl, ?_⟩))
            go_meet
            case rel => exact ⟨_, ((t576 != t547)), (by first | rfl | (simp; done) | (simp [*]; done)), H', ⟨by have := HJ10.out; have := HJ36.out; first | omega | exact Nat.le_refl _⟩, ⟨by (try simp only [hl553001_36]); (with_reducible repeat (first | apply Kd.R_alloc | apply Kd.R_drewN | apply Kd.R_drew)); exact Kd.R_mono HO_7.out (fun _ hk => hk.1.1.2)⟩, ⟨by (try simp only [hl553001_36]); (with_reducible repeat (first | apply Kd.R_alloc | apply Kd.R_drewN | apply Kd.R_drew)); exact Kd.R_mono HO_553001.out (fun _ hk => hk.1.1.2)⟩, ⟨by (try simp only [hl553001_36]); (repeat refine up1 ?_); exact BK538.out⟩, ⟨by (try simp only [hl553001_36]); (repeat refine up1 ?_); exact BK552.out⟩, ⟨uH HB.out⟩⟩
           ·replace c68 := Bool.eq_false_iff.mpr c68
            subst c68
            have H1 : (laws_FnExactNormsOf.j2 kj36 t567 t566 true) = some r := by rw [if_neg (show ¬ (false = true) by decide)] at H; exact H
            clear H
            have H := H1
            clear H1
            have H' := zA H
            clear H
            obtain ⟨Ao71, co71, eo71⟩ := Kd.R_slice HO575.out
            subst eo71
            obtain ⟨Ao72, co72, eo72⟩ := Kd.R_slice HO_4.out
            subst eo72
            go_wp2_with (first | ((with_reducible refine gate_callee (f := 29) rfl ?_); refine gL (some 81) Try.func29 #[.slice Ao71 t573.length co71, .slice Ao72 t544.length co72] ?_; (with_reducible refine (laws_eqInt64S.calls kj36 _ _ t573 _ _ t544 false _ ?side1 ?side2 ?side3 ?side4 A67.out).mono ?_); (case side1 => exact uC ((Kd.R_reads' HO575.out).2.2)); (case side2 => exact (Kd.R_reads' HO575.out).2.1); (case side3 => exact uC ((Kd.R_reads' HO_4.out).2.2)); (case side4 => exact (Kd.R_reads' HO_4.out).2.1); rintro e w' ⟨rfl, ⟨nd, rfl⟩⟩; refine ⟨_, rfl, ?_⟩))
            go_meet
            case rel => exact ⟨_, (true), (by first | rfl | (simp; done) | (simp [*]; done)), H', ⟨by have := HJ10.out; have := HJ36.out; first | omega | exact Nat.le_refl _⟩, ⟨by (try simp only [hl553001_36]); (with_reducible repeat (first | apply Kd.R_alloc | apply Kd.R_drewN | apply Kd.R_drew)); exact Kd.R_mono HO_7.out (fun _ hk => hk.1.1.2)⟩, ⟨by (try simp only [hl553001_36]); (with_reducible repeat (first | apply Kd.R_alloc | apply Kd.R_drewN | apply Kd.R_drew)); exact Kd.R_mono HO_553001.out (fun _ hk => hk.1.1.2)⟩, ⟨by (try simp only [hl553001_36]); (repeat refine up1 ?_); exact BK538.out⟩, ⟨by (try simp only [hl553001_36]); (repeat refine up1 ?_); exact BK552.out⟩, ⟨uH HB.out⟩⟩
          case rest =>
           clear HC59
           (try clear c2);(try clear p2);(try clear c3);(try clear c3b0);(try clear c4);(try clear c5);(try clear c6);(try clear c8);(try clear c22);(try clear c24);(try clear c27);(try clear c28);(try clear c29);(try clear c30);(try clear c31);(try clear c32);(try clear c35);(try clear c40);(try clear c41);(try clear c42);(try clear c45);(try clear c45b0);(try clear c47);(try clear c52);(try clear c55)
           (try clear c55b0);(try clear c56);(try clear c56b0);(try clear c56b1);(try clear c62);(try clear c68);(try clear hcz13_0);(try clear hcz13_1);(try clear hcz15_0);(try clear hcz15_1);(try clear hcz19_0);(try clear hcz19_1);(try clear hcz23_0);(try clear hcz23_1);(try clear hcz43_0);(try clear hcz43_1);(try clear hcz5_0);(try clear hcz5_1);(try clear hcz63_0);(try clear hcz63_1);(try clear hfz13_0)
           (try clear hfz13_1);(try clear hfz15_0);(try clear hfz15_1);(try clear hfz19_0);(try clear hfz19_1);(try clear hfz23_0);(try clear hfz23_1);(try clear hfz43_0);(try clear hfz43_1);(try clear hfz5_0);(try clear hfz5_1);(try clear hfz63_0);(try clear hfz63_1);(try clear p2)
           obtain ⟨kq, x87_58, rfl, HA, HJ58, HO_7, HO_553001, BK538, BK552, HB⟩ := hcut
           have hl7_58 := (Kd.R_reads' HO_7.out).1
           rw [hl7_58] at HO_7
           (try simp only [hl7_58])
           (try simp only [hl7_58] at BK538)
           (try simp only [hl7_58] at BK552)
           (try simp only [hl7_58] at HO_553001)
           cases kq with
           | zero => exact absurd HA.out (by simp [laws_FnExactNormsOf.j2])
           | succ kj58 =>
            have H := HA.out
            clear HA
            simp only [laws_FnExactNormsOf.j2] at H
            by_cases c73 : x87_58 = true
            ·subst c73
             have H1 : (some false) = some r := by rw [if_pos rfl] at H; exact H
             clear H
             have H := H1
             clear H1
             rw [HRT.out] at H
             exact absurd H (by simp)
            ·replace c73 := Bool.eq_false_iff.mpr c73
             subst c73
             have H1 : ((laws_heldInt64S.f kj58 t567 1).bind fun t578 => (if t578 < 0 then (some false) else (if t578 = t566 then (some true) else (some false)))) = some r := by rw [if_neg (show ¬ (false = true) by decide)] at H; exact H
             clear H
             have H := H1
             clear H1
             replace H := Option.bind_eq_some_iff.mp H
             obtain ⟨t578, A740, H⟩ := H
             replace H : (if t578 < 0 then (some false) else (if t578 = t566 then (some true) else (some false))) = some r := H
             have A74 := zA A740
             clear A740
             by_cases c75 : t578 < 0
             rotate_left
             ·rw [if_neg c75] at H
              have c75b0 : decide (t578 < 0) = false := decide_eq_false c75
              clear c75
              by_cases c76 : t578 = t566
              rotate_left
              ·rw [if_neg c76] at H
               have c76b0 : (t578 == t566) = false := beq_eq_false_iff_ne.mpr c76
               have c76b1 : (t578 != t566) = true := bne_iff_ne.mpr c76
               rw [HRT.out] at H
               exact absurd H (by simp)
              rw [if_pos c76] at H
              have c76b0 : (t578 == t566) = true := beq_iff_eq.mpr c76
              have c76b1 : (t578 != t566) = false := bne_eq_false_iff_eq.mpr c76
              clear c76
              obtain rfl := Option.some.inj H
              go_wp2_with (first | ((with_reducible refine gate_callee (f := 40) rfl ?_); refine gL (some 90) Try.func40 #[.slice Ao60 t567.length co60, .int .i64 1] ?_; (with_reducible refine (laws_heldInt64S.calls kj58 _ _ t567 1 t578 _ ?side1 ?side2 A74.out).mono ?_); (case side1 => exact uC ((Kd.R_reads' HO_7.out).2.2)); (case side2 => exact (Kd.R_reads' HO_7.out).2.1); rintro e w' ⟨rfl, ⟨nd, rfl⟩⟩; refine ⟨_, rfl, ?_⟩))
              go_ret
              exact ⟨by first | rfl | (simp [errW_none, errW_some] <;> rfl) | (simp [*, errW_none, errW_some] <;> rfl), uH HB.out⟩
             rw [if_pos c75] at H
             have c75b0 : decide (t578 < 0) = true := decide_eq_true c75
             clear c75
             rw [HRT.out] at H
             exact absurd H (by simp)
         rw [if_pos c55] at H
         have c55b0 : decide (t568 < 0) = true := decide_eq_true c55
         clear c55
         rw [HRT.out] at H
         exact absurd H (by simp)
     ·replace c35 := Bool.eq_false_iff.mpr c35
      subst c35
      have H1 : (some false) = some r := by rw [if_neg (show ¬ (false = true) by decide)] at H; exact H
      clear H
      have H := H1
      clear H1
      rw [HRT.out] at H
      exact absurd H (by simp)

 rw [if_pos c3] at H
 have c3b0 : decide (t539 < 0) = true := decide_eq_true c3
 clear c3
 obtain rfl := Option.some.inj H
 go_enter Try.func8, Try.ntmps8
 go_wp2_with (first | ((with_reducible refine gate_dst (N := 1) rfl ?_); refine bx 1 #[.int .i64 a0_0, .slice A0_1 l0_1.length c0_1] 34 ?_; intro gb538 hg w4 hbox hb; have BK538 := zA (hbox); have GW538 := gq HB hg; have GE538 := gq HB hg; replace HB := xH HB hb; have := geI GE538; clear hb hbox hg; have hcz5_0 := bc BK538 0; have hcz5_1 := bc BK538 1; have hfz5_0 := bf BK538 0; have hfz5_1 := bf BK538 1) | ((with_reducible refine gate_callee (f := 22) rfl ?_); refine gL (some 16) Try.func22 #[.agg #[.int .i64 a0_0, .slice A0_1 l0_1.length c0_1], .int .i64 1048576] ?_; (with_reducible refine (laws_szMoments.calls a0_0 _ _ l0_1 1048576 t539 _ ?side1 ?side2 A2.out).mono ?_); (case side1 => exact uC ((Kd.C_below HR0_1.out HB.out))); (case side2 => exact HC0_1.out); rintro e w6 ⟨rfl, hb⟩; refine ⟨_, rfl, ?_⟩; replace BK538 := xB BK538 hb; replace HB := xH HB hb; (try clear hb); (try clear hb2); (try clear hk); (try clear hi)))
 go_ret
 exact ⟨by first | rfl | (simp [errW_none, errW_some] <;> rfl) | (simp [*, errW_none, errW_some] <;> rfl), uH HB.out⟩
/-- THE ONE PURE STATEMENT of laws_FnExactNormsOf: yours. -/
def laws_FnExactNormsOf.Pure : Prop := ∀ (a0_0 : Int) (l0_1 : List Int), (Lit.int .i64 a0_0).wf = true → l0_1.length ≤ maxLen → (∀ x ∈ l0_1, (Lit.int .i64 x).wf = true) → ∃ k, laws_FnExactNormsOf.f k a0_0 l0_1 = some true
theorem laws_FnExactNormsOf.walk (P : laws_FnExactNormsOf.Pure) (a0_0 : Int) (a0_1 : Option Addr) (len0_1 cap0_1 : Nat) (z0_1 : List Int) (w : World) (w0_0 : (Lit.int .i64 a0_0).wf = true) (w0_1 : (a0_1 = none ∧ len0_1 = 0 ∧ cap0_1 = 0 ∧ z0_1 = []) ∨ ∃ x, a0_1 = some x ∧ len0_1 ≤ cap0_1 ∧ cap0_1 ≤ maxLen ∧ z0_1.length = cap0_1 ∧ (∀ i, i < z0_1.length → w.cell? (x.add i) = some (.int .i64 (z0_1.getD i 0))) ∧ ∀ n ∈ z0_1, (Lit.int .i64 n).wf = true) :
  Calls Try.prog 8 #[.agg #[.int .i64 a0_0, .slice a0_1 len0_1 cap0_1]] w fun e w' => e = .returned (.bool true) ∧ Below w.heap.size w w' := by
 obtain ⟨l0_1, rfl, hr0_1, hm0_1, hw0_1, hc0_1⟩ := ReadsInt.ofRowC w0_1
 obtain ⟨k, h⟩ := P a0_0 l0_1 w0_0 hm0_1 hw0_1
 refine (laws_FnExactNormsOf.calls k a0_0 _ _ l0_1 true rfl w (Kd.C_of_reads (d := (0 : Int)) (h1 := fun _ => rfl) hr0_1) hc0_1 h).mono ?_
 rintro e w' ⟨rfl, hd⟩
 exact ⟨rfl, hd⟩

end Go.Proofs.Ytfbnkebgdmfcfaa.Pr
