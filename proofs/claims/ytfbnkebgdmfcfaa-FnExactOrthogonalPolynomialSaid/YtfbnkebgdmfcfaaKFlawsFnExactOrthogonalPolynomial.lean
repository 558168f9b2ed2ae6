/- Printed by a program of this session out of the translation: what these functions of the program compute, under the conditions that each theorem names. -/
import Derived.Test.YtfbnkebgdmfcfaaKOrthogonalPolynomial1
import Derived.Test.YtfbnkebgdmfcfaaKOrthogonalPolynomial3
import Derived.Test.YtfbnkebgdmfcfaaKOrthogonalPolynomial2
import Derived.Test.YtfbnkebgdmfcfaaKFspecOrthogonalPolynomial
import Derived.Test.YtfbnkebgdmfcfaaKOrthogonalPolynomial10
namespace Go.Proofs.Ytfbnkebgdmfcfaa.Pr
open Go.RowKit Go.Proofs.YtfbnkebgdmfcfaaW.PrintWords Go.Proofs.YtfbnkebgdmfcfaaW.PrintLast Go.Proofs.YtfbnkebgdmfcfaaW.PrintMore
attribute [local go_sem] max2_int min2_int max_two min_two max_three min_three max_four min_four   -- for this text's walks alone
set_option linter.unusedVariables false
set_option linter.unusedSimpArgs false

/-! ### laws_FnExactOrthogonalPolynomial: function 7 -/
mutual
def laws_FnExactOrthogonalPolynomial.j0 : Nat → Int → List Int → Int → List Int → Int → Bool → Int → List Int → Int → List Int → Option (Bool)
 | 0, _, _, _, _, _, _, _, _, _, _ => none
 | k + 1, x1, x6, x7, x9, x10, x44, x489000, x489001, x503000, x503001 => if x44 = true then (some false) else ((laws_toMoments.f k x489000 x489001).bind fun bt508 => ((laws_eqMoments.f k x503000 x503001 bt508.1 bt508.2).bind fun t512 => (if t512 = true then ((laws_markMoments.f k x503000 x503001 1).bind fun bt513 => (if bt513.1 < 0 then (laws_FnExactOrthogonalPolynomial.j1 k x1 x6 x7 x9 true x489000 x489001) else ((laws_eqInt64S.f k x9 x6).bind fun t515 => (if t515 = true then (laws_FnExactOrthogonalPolynomial.j1 k x1 x6 x7 x9 (x10 != x7) x489000 x489001) else (laws_FnExactOrthogonalPolynomial.j1 k x1 x6 x7 x9 true x489000 x489001))))) else (some false))))
def laws_FnExactOrthogonalPolynomial.j1 : Nat → Int → List Int → Int → List Int → Bool → Int → List Int → Option (Bool)
 | 0, _, _, _, _, _, _, _ => none
 | k + 1, x1, x6, x7, x9, x65, x489000, x489001 => if x65 = true then (some false) else ((laws_markInt64S.f k x9 1).bind fun bt516 => ((laws_heldInt64S.f k bt516.2 1).bind fun t518 => (if t518 < 0 then (some false) else (if t518 = bt516.1 then ((laws_toMoments.f k x489000 x489001).bind fun bt519 => ((impl_OrthogonalPolynomial.f k bt519.1 bt519.2 x1).bind fun bt523 => ((laws_eqInt64S.f k bt523.1 x6).bind fun t527 => (if t527 = true then (laws_FnExactOrthogonalPolynomial.j2 k bt516.2 bt516.1 (bt523.2 != x7)) else (laws_FnExactOrthogonalPolynomial.j2 k bt516.2 bt516.1 true))))) else (some false)))))
def laws_FnExactOrthogonalPolynomial.j2 : Nat → List Int → Int → Bool → Option (Bool)
 | 0, _, _, _ => none
 | k + 1, x9, x12, x92 => if x92 = true then (some false) else ((laws_heldInt64S.f k x9 1).bind fun t528 => (if t528 < 0 then (some false) else (if t528 = x12 then (some true) else (some false))))
end
def laws_FnExactOrthogonalPolynomial.f (k : Nat) (a0_0 : Int) (l0_1 : List Int) (a1 : Int) : Option (Bool) := (laws_szMoments.f a0_0 l0_1 1048576).bind fun t489 => (if t489 < 0 then (some true) else ((laws_toMoments.f k a0_0 l0_1).bind fun bt490 => ((spec_OrthogonalPolynomial.f k bt490.1 bt490.2 a1).bind fun bt494 => ((laws_toMoments.f k a0_0 l0_1).bind fun bt498 => ((impl_OrthogonalPolynomial.f k bt498.1 bt498.2 a1).bind fun bt503 => ((laws_eqInt64S.f k bt503.1 bt494.1).bind fun t507 => (if t507 = true then (laws_FnExactOrthogonalPolynomial.j0 k a1 bt494.1 bt494.2 bt503.1 bt503.2 (bt503.2 != bt494.2) a0_0 l0_1 bt498.1 bt498.2) else (laws_FnExactOrthogonalPolynomial.j0 k a1 bt494.1 bt494.2 bt503.1 bt503.2 true a0_0 l0_1 bt498.1 bt498.2))))))))
set_option maxHeartbeats 8000000 in
set_option maxRecDepth 100000 in
theorem laws_FnExactOrthogonalPolynomial.calls (k : Nat) (a0_0 : Int) (A0_1 : Option Addr) (c0_1 : Nat) (l0_1 : List Int) (a1 : Int) (r : Bool) (hr_ : r = true) (w : World) (hr0_1 : Kd.C (Kd.int .i64) w A0_1 l0_1.length l0_1) (hc0_1 : l0_1.length ≤ c0_1) (h : laws_FnExactOrthogonalPolynomial.f k a0_0 l0_1 a1 = some r) :
  Calls Try.prog 7 #[.agg #[.int .i64 a0_0, .slice A0_1 l0_1.length c0_1], .int .i64 a1] w fun e w' => e = .returned (.bool r) ∧ Below w.heap.size w w' := by
 have hu34 := Try.underlying34
 have hu40 := Try.underlying40
 have HRT := zA hr_
 clear hr_
 have HR0_1 := zA hr0_1
 have HC0_1 := zA hc0_1
 clear hr0_1 hc0_1
 have HB := zA (Below.refl w.heap.size w)
 have H : ((laws_szMoments.f a0_0 l0_1 1048576).bind fun t489 => (if t489 < 0 then (some true) else ((laws_toMoments.f k a0_0 l0_1).bind fun bt490 => ((spec_OrthogonalPolynomial.f k bt490.1 bt490.2 a1).bind fun bt494 => ((laws_toMoments.f k a0_0 l0_1).bind fun bt498 => ((impl_OrthogonalPolynomial.f k bt498.1 bt498.2 a1).bind fun bt503 => ((laws_eqInt64S.f k bt503.1 bt494.1).bind fun t507 => (if t507 = true then (laws_FnExactOrthogonalPolynomial.j0 k a1 bt494.1 bt494.2 bt503.1 bt503.2 (bt503.2 != bt494.2) a0_0 l0_1 bt498.1 bt498.2) else (laws_FnExactOrthogonalPolynomial.j0 k a1 bt494.1 bt494.2 bt503.1 bt503.2 true a0_0 l0_1 bt498.1 bt498.2))))))))) = some r := h
 clear h
 replace H := Option.bind_eq_some_iff.mp H
 obtain ⟨t489, A30, H⟩ := H
 replace H : (if t489 < 0 then (some true) else ((laws_toMoments.f k a0_0 l0_1).bind fun bt490 => ((spec_OrthogonalPolynomial.f k bt490.1 bt490.2 a1).bind fun bt494 => ((laws_toMoments.f k a0_0 l0_1).bind fun bt498 => ((impl_OrthogonalPolynomial.f k bt498.1 bt498.2 a1).bind fun bt503 => ((laws_eqInt64S.f k bt503.1 bt494.1).bind fun t507 => (if t507 = true then (laws_FnExactOrthogonalPolynomial.j0 k a1 bt494.1 bt494.2 bt503.1 bt503.2 (bt503.2 != bt494.2) a0_0 l0_1 bt498.1 bt498.2) else (laws_FnExactOrthogonalPolynomial.j0 k a1 bt494.1 bt494.2 bt503.1 bt503.2 true a0_0 l0_1 bt498.1 bt498.2)))))))) = some r := H
 have A3 := zA A30
 clear A30
 by_cases c4 : t489 < 0
 rotate_left
 ·rw [if_neg c4] at H
  have c4b0 : decide (t489 < 0) = false := decide_eq_false c4
  clear c4
  replace H := Option.bind_eq_some_iff.mp H
  obtain ⟨⟨t490, t491⟩, A80, H⟩ := H
  replace H : ((spec_OrthogonalPolynomial.f k t490 t491 a1).bind fun bt494 => ((laws_toMoments.f k a0_0 l0_1).bind fun bt498 => ((impl_OrthogonalPolynomial.f k bt498.1 bt498.2 a1).bind fun bt503 => ((laws_eqInt64S.f k bt503.1 bt494.1).bind fun t507 => (if t507 = true then (laws_FnExactOrthogonalPolynomial.j0 k a1 bt494.1 bt494.2 bt503.1 bt503.2 (bt503.2 != bt494.2) a0_0 l0_1 bt498.1 bt498.2) else (laws_FnExactOrthogonalPolynomial.j0 k a1 bt494.1 bt494.2 bt503.1 bt503.2 true a0_0 l0_1 bt498.1 bt498.2)))))) = some r := H
  have A8 := zA A80
  clear A80
  replace H := Option.bind_eq_some_iff.mp H
  obtain ⟨⟨t494, t497⟩, A90, H⟩ := H
  replace H : ((laws_toMoments.f k a0_0 l0_1).bind fun bt498 => ((impl_OrthogonalPolynomial.f k bt498.1 bt498.2 a1).bind fun bt503 => ((laws_eqInt64S.f k bt503.1 t494).bind fun t507 => (if t507 = true then (laws_FnExactOrthogonalPolynomial.j0 k a1 t494 t497 bt503.1 bt503.2 (bt503.2 != t497) a0_0 l0_1 bt498.1 bt498.2) else (laws_FnExactOrthogonalPolynomial.j0 k a1 t494 t497 bt503.1 bt503.2 true a0_0 l0_1 bt498.1 bt498.2))))) = some r := H
  have A9 := zA A90
  clear A90
  replace H := Option.bind_eq_some_iff.mp H
  obtain ⟨⟨t498, t499⟩, A100, H⟩ := H
  replace H : ((impl_OrthogonalPolynomial.f k t498 t499 a1).bind fun bt503 => ((laws_eqInt64S.f k bt503.1 t494).bind fun t507 => (if t507 = true then (laws_FnExactOrthogonalPolynomial.j0 k a1 t494 t497 bt503.1 bt503.2 (bt503.2 != t497) a0_0 l0_1 t498 t499) else (laws_FnExactOrthogonalPolynomial.j0 k a1 t494 t497 bt503.1 bt503.2 true a0_0 l0_1 t498 t499)))) = some r := H
  have A10 := zA A100
  clear A100
  replace H := Option.bind_eq_some_iff.mp H
  obtain ⟨⟨t503, t506⟩, A110, H⟩ := H
  replace H : ((laws_eqInt64S.f k t503 t494).bind fun t507 => (if t507 = true then (laws_FnExactOrthogonalPolynomial.j0 k a1 t494 t497 t503 t506 (t506 != t497) a0_0 l0_1 t498 t499) else (laws_FnExactOrthogonalPolynomial.j0 k a1 t494 t497 t503 t506 true a0_0 l0_1 t498 t499))) = some r := H
  have A11 := zA A110
  clear A110
  have HC12 := zA H
  clear H
  go_enter Try.func7, Try.ntmps7
  go_upto_region 8 with (first | ((with_reducible refine gate_dst (N := 2) rfl ?_); refine bx 2 #[.int .i64 a0_0, .slice A0_1 l0_1.length c0_1] 34 ?_; intro gb488 hg w13 hbox hb; have BK488 := zA (hbox); have GW488 := gq HB hg; have GE488 := gq HB hg; replace HB := xH HB hb; have := geI GE488; clear hb hbox hg; have hcz14_0 := bc BK488 0; have hcz14_1 := bc BK488 1; have hfz14_0 := bf BK488 0; have hfz14_1 := bf BK488 1) | ((with_reducible refine gate_callee (f := 22) rfl ?_); refine gL (some 18) Try.func22 #[.agg #[.int .i64 a0_0, .slice A0_1 l0_1.length c0_1], .int .i64 1048576] ?_; (with_reducible refine (laws_szMoments.calls a0_0 _ _ l0_1 1048576 t489 _ ?side1 ?side2 A3.out).mono ?_); (case side1 => exact uC ((Kd.C_below HR0_1.out HB.out))); (case side2 => exact HC0_1.out); rintro e w15 ⟨rfl, hb⟩; refine ⟨_, rfl, ?_⟩; replace BK488 := xB BK488 hb; replace HB := xH HB hb; (try clear hb); (try clear hb2); (try clear hk); (try clear hi); have hcz16_0 := bc BK488 0; have hcz16_1 := bc BK488 1; have hfz16_0 := bf BK488 0; have hfz16_1 := bf BK488 1) | ((with_reducible refine gate_callee (f := 24) rfl ?_); refine gL (some 23) Try.func24 #[.agg #[.int .i64 a0_0, .slice A0_1 l0_1.length c0_1]] ?_; (with_reducible refine (laws_toMoments.calls k a0_0 _ _ l0_1 t490 t491 _ ?side1 ?side2 A8.out).mono ?_); (case side1 => exact uC ((Kd.C_below HR0_1.out HB.out))); (case side2 => exact HC0_1.out); rintro e w17 ⟨v492, rfl, ho0, hb⟩; refine ⟨_, rfl, ?_⟩; have HO493 := zA (Kd.R_lower ho0 (below_size (uH HB.out))); replace BK488 := xB BK488 hb; replace HB := xH HB hb; (try clear hb); (try clear hb2); (try clear hk); (try clear hi); (try clear ho0); obtain ⟨Ao18, co18, eo18⟩ := Kd.R_slice HO493.out; subst eo18) | ((with_reducible refine gate_callee (f := 38) rfl ?_); refine gL (some 25) Try.func38 #[.agg #[.int .i64 t490, .slice Ao18 t491.length co18], .int .i64 a1] ?_; (with_reducible refine (spec_OrthogonalPolynomial.calls k t490 _ _ t491 a1 t494 t497 _ ?side1 ?side2 A9.out).mono ?_); (case side1 => exact uC ((Kd.R_reads' HO493.out).2.2)); (case side2 => exact (Kd.R_reads' HO493.out).2.1); rintro e w19 ⟨v495, rfl, ho0, hb⟩; refine ⟨_, rfl, ?_⟩; have HO496 := zA (Kd.V_lower (Kd.V_mono (ok' := fun k_ => ax k_ (.slice Ao18 t491.length co18) ∧ k_ ≠ gb488) ho0 (fun k_ hk_ => ⟨(Kd.fresh' (Kd.R_lt (uR HO493.out)) k_ hk_), (Kd.freshB (g := gb488) (o := .cells #[.int .i64 a0_0, .slice A0_1 l0_1.length c0_1] 34 (0, 0)) (uB BK488.out) k_ hk_)⟩)) (below_size (uH HB.out))); replace HO493 := xR HO493 hb; replace BK488 := xB BK488 hb; replace HB := xH HB hb; (try clear hb); (try clear hb2); (try clear hk); (try clear hi); (try clear ho0); have hcz20_0 := bc BK488 0; have hcz20_1 := bc BK488 1; have hfz20_0 := bf BK488 0; have hfz20_1 := bf BK488 1) | ((with_reducible refine gate_callee (f := 24) rfl ?_); refine gL (some 29) Try.func24 #[.agg #[.int .i64 a0_0, .slice A0_1 l0_1.length c0_1]] ?_; (with_reducible refine (laws_toMoments.calls k a0_0 _ _ l0_1 t498 t499 _ ?side1 ?side2 A10.out).mono ?_); (case side1 => exact uC ((Kd.C_below HR0_1.out HB.out))); (case side2 => exact HC0_1.out); rintro e w21 ⟨v500, rfl, ho0, hb⟩; refine ⟨_, rfl, ?_⟩; replace HO496 := zA (Kd.V_elder' (by (with_reducible repeat (first | apply Kd.V_alloc | apply Kd.V_drewN | apply Kd.V_drew)); exact HO496.out) (Kd.R_base ho0) hb); have HO501 := zA (Kd.R_lower (Kd.R_new' ho0 (Kd.R_lt (uR HO493.out))) (below_size (uH HB.out))); replace HO493 := zA (Kd.R_elder' (uR HO493.out) (Kd.R_base ho0) hb); replace BK488 := xB BK488 hb; replace HB := xH HB hb; (try clear hb); (try clear hb2); (try clear hk); (try clear hi); (try clear ho0)) | ((with_reducible refine gate_dst (N := 8) rfl ?_); refine bx 8 #[.int .i64 0, .slice none 0 0] 40 ?_; intro gb502 hg w22 hbox hb; replace HO493 := xR HO493 hb; replace HO496 := zA (Kd.V_below (Kd.V_elderB (by (with_reducible repeat (first | apply Kd.V_alloc | apply Kd.V_drewN | apply Kd.V_drew)); exact HO496.out) gb502 (Nat.le_of_eq hg.symm)) hb); replace HO501 := xR HO501 hb; have BK502 := zA (hbox); have GW502 := gq HB hg; have GE502 := gq HB hg; replace HB := xH HB hb; have NB488_502 := zA ((by rw [hg]; exact neL BK488 : gb488 ≠ gb502)); have NB502_488 := zA ((by rw [hg]; exact neG BK488 : gb502 ≠ gb488)); replace BK488 := xB BK488 hb; have := geI GE502; clear hb hbox hg; have hnb23 := NB502_488.out; have hnc23 := NB488_502.out; have hcz24_0 := bc BK502 0; have hcz24_1 := bc BK502 1; have hfz24_0 := bf BK502 0; have hfz24_1 := bf BK502 1; obtain ⟨Ao25, co25, eo25⟩ := Kd.R_slice HO501.out; subst eo25) | ((with_reducible refine gate_callee (f := 39) rfl ?_); refine gL (some 33) Try.func39 #[.agg #[.int .i64 t498, .slice Ao25 t499.length co25], .int .i64 a1] ?_; (with_reducible refine (impl_OrthogonalPolynomial.calls k t498 _ _ t499 a1 t503 t506 _ ?side1 ?side2 A11.out).mono ?_); (case side1 => refine (Kd.R_reads' (e := 2) (base := w.heap.size) (ok := fun k_ => (True ∧ ax k_ (.slice Ao18 t491.length co18))) (n := t499.length) (c := co25) ?_).2.2; exact (uR ((rf2 HO501 BK502 (by decide) (.int .i64 t498) (.slice Ao25 t499.length co25))))); (case side2 => exact (Kd.R_reads' HO501.out).2.1); rintro e w26 ⟨v504, rfl, ho0, hb⟩; refine ⟨_, rfl, ?_⟩; replace HO496 := zA (Kd.V_elder' (by (with_reducible repeat (first | apply Kd.V_alloc | apply Kd.V_drewN | apply Kd.V_drew)); exact (Kd.V_mono (Kd.V_far (p := ⟨gb502, 1, none⟩) (Kd.V_far (p := ⟨gb502, 0, none⟩) (Kd.V_mono HO496.out (fun k_ hk => (⟨hk, hk.2⟩ : _ ∧ k_ ≠ gb502))) (fun _ hk => hk.2) (.int .i64 t498)) (fun _ hk => hk.2) (.slice Ao25 t499.length co25)) (fun _ h_ => h_.1))) (Kd.R_base ho0) hb); have HO505 := zA (Kd.R_lower (Kd.R_new' (Kd.R_new' ho0 (Kd.R_lt (uR ((rf2 HO493 BK502 (by decide) (.int .i64 t498) (.slice Ao25 t499.length co25)))))) (Kd.R_lt (uR ((rf2 HO501 BK502 (by decide) (.int .i64 t498) (.slice Ao25 t499.length co25)))))) (below_size (uH HB.out))); replace HO493 := zA (Kd.R_elder' (uR ((rf2 HO493 BK502 (by decide) (.int .i64 t498) (.slice Ao25 t499.length co25)))) (Kd.R_base ho0) hb); replace HO501 := zA (Kd.R_elder' (uR ((rf2 HO501 BK502 (by decide) (.int .i64 t498) (.slice Ao25 t499.length co25)))) (Kd.R_base ho0) hb); replace BK488 := zA (blk_below (g := gb488) (o := .cells #[.int .i64 a0_0, .slice A0_1 l0_1.length c0_1] 34 (0, 0)) (by (repeat refine up1 ?_); refine blk_far ?_ NB488_502.out _; (repeat refine up1 ?_); refine blk_far ?_ NB488_502.out _; (repeat refine up1 ?_); exact BK488.out) hb); replace BK502 := zA (blk_below (g := gb502) (o := .cells #[.int .i64 t498, .slice Ao25 t499.length co25] 40 (0, 0)) (by (repeat refine up1 ?_); refine blk_put (cs := #[.int .i64 t498, .slice none 0 0]) ?_ 1 _ rfl; (repeat refine up1 ?_); refine blk_put (cs := #[.int .i64 0, .slice none 0 0]) ?_ 0 _ rfl; (repeat refine up1 ?_); exact BK502.out) hb); replace HB := xH HB hb; (try clear hb); (try clear hb2); (try clear hk); (try clear hi); (try clear ho0)))
  (try simp only [Act.put, ls, lz, ln])
  go_cut [44] (fun v44 wc => ∃ (kq : Nat) (x44_11 : Bool), v44 = .bool x44_11 ∧ Aside0 (laws_FnExactOrthogonalPolynomial.j0 kq a1 t494 t497 t503 t506 x44_11 a0_0 l0_1 t498 t499 = some r) ∧ Aside0 (kq ≤ k) ∧ Aside0 (Kd.V (Kd.int .i64) 2 wc w.heap.size (fun k_ => some k_ ≠ (v504 : Value).ownBlock ∧ ax k_ (.slice Ao25 t499.length co25) ∧ k_ ≠ gb488 ∧ k_ ≠ gb502) v495 t494) ∧ Aside0 (Kd.R (Kd.int .i64) 2 wc w.heap.size (fun k_ => ax k_ (.slice Ao25 t499.length co25)) v504 t503) ∧ Aside0 (Kd.R (Kd.int .i64) 2 wc w.heap.size (fun k_ => some k_ ≠ (v504 : Value).ownBlock) (.slice Ao25 t499.length co25) t499) ∧ Aside0 (wc.heap[gb488]? = some (.cells #[.int .i64 a0_0, (.slice A0_1 l0_1.length c0_1)] 34 (0, 0))) ∧ Aside0 (wc.heap[gb502]? = some (.cells #[.int .i64 t498, (.slice Ao25 t499.length co25)] 40 (0, 0))) ∧ Aside0 (Below w.heap.size w wc))
  case first =>
   have H := HC12.out
   clear HC12
   replace H := Option.bind_eq_some_iff.mp H
   obtain ⟨t507, A270, H⟩ := H
   replace H : (if t507 = true then (laws_FnExactOrthogonalPolynomial.j0 k a1 t494 t497 t503 t506 (t506 != t497) a0_0 l0_1 t498 t499) else (laws_FnExactOrthogonalPolynomial.j0 k a1 t494 t497 t503 t506 true a0_0 l0_1 t498 t499)) = some r := H
   have A27 := zA A270
   clear A270
   by_cases c28 : t507 = true
   ·subst c28
    have H1 : (laws_FnExactOrthogonalPolynomial.j0 k a1 t494 t497 t503 t506 (t506 != t497) a0_0 l0_1 t498 t499) = some r := by rw [if_pos rfl] at H; exact H
    clear H
    have H := H1
    clear H1
    have H' := zA H
    clear H
    obtain ⟨Ao29, co29, eo29⟩ := Kd.R_slice HO505.out
    subst eo29
    obtain ⟨Ao30, co30, eo30⟩ := Kd.V_slice HO496.out
    subst eo30
    go_wp2_with (first | ((with_reducible refine gate_callee (f := 29) rfl ?_); refine gL (some 38) Try.func29 #[.slice Ao29 t503.length co29, .slice Ao30 t494.length co30] ?_; (with_reducible refine (laws_eqInt64S.calls k _ _ t503 _ _ t494 true _ ?side1 ?side2 ?side3 ?side4 A27.out).mono ?_); (case side1 => exact uC ((Kd.R_reads' HO505.out).2.2)); (case side2 => exact (Kd.R_reads' HO505.out).2.1); (case side3 => exact uC ((Kd.V_reads' HO496.out).2.2)); (case side4 => exact (Kd.V_reads' HO496.out).2.1); rintro e w' ⟨rfl, ⟨nd, rfl⟩⟩; refine ⟨_, rfl, ?_⟩))
    go_meet
    case rel => exact ⟨_, ((t506 != t497)), (by first | rfl | (simp; done) | (simp [*]; done)), H', ⟨by first | omega | exact Nat.le_refl _⟩, ⟨by (with_reducible repeat (first | apply Kd.V_alloc | apply Kd.V_drewN | apply Kd.V_drew)); exact Kd.V_mono HO496.out (fun _ hk => ⟨hk.2, ⟨hk.1.1.2, ⟨hk.1.1.1.2, hk.1.2⟩⟩⟩)⟩, ⟨uR (Kd.R_mono HO505.out (fun _ hk => hk.2))⟩, ⟨uR (Kd.R_mono HO501.out (fun _ hk => hk.2))⟩, ⟨uB BK488.out⟩, ⟨uB BK502.out⟩, ⟨uH HB.out⟩⟩
   ·replace c28 := Bool.eq_false_iff.mpr c28
    subst c28
    have H1 : (laws_FnExactOrthogonalPolynomial.j0 k a1 t494 t497 t503 t506 true a0_0 l0_1 t498 t499) = some r := by rw [if_neg (show ¬ (false = true) by decide)] at H; exact H
    clear H
    have H := H1
    clear H1
    have H' := zA H
    clear H
    obtain ⟨Ao31, co31, eo31⟩ := Kd.R_slice HO505.out
    subst eo31
    obtain ⟨Ao32, co32, eo32⟩ := Kd.V_slice HO496.out
    subst eo32
    go_wp2_with (first | ((with_reducible refine gate_callee (f := 29) rfl ?_); refine gL (some 38) Try.func29 #[.slice Ao31 t503.length co31, .slice Ao32 t494.length co32] ?_; (with_reducible refine (laws_eqInt64S.calls k _ _ t503 _ _ t494 false _ ?side1 ?side2 ?side3 ?side4 A27.out).mono ?_); (case side1 => exact uC ((Kd.R_reads' HO505.out).2.2)); (case side2 => exact (Kd.R_reads' HO505.out).2.1); (case side3 => exact uC ((Kd.V_reads' HO496.out).2.2)); (case side4 => exact (Kd.V_reads' HO496.out).2.1); rintro e w' ⟨rfl, ⟨nd, rfl⟩⟩; refine ⟨_, rfl, ?_⟩))
    go_meet
    case rel => exact ⟨_, (true), (by first | rfl | (simp; done) | (simp [*]; done)), H', ⟨by first | omega | exact Nat.le_refl _⟩, ⟨by (with_reducible repeat (first | apply Kd.V_alloc | apply Kd.V_drewN | apply Kd.V_drew)); exact Kd.V_mono HO496.out (fun _ hk => ⟨hk.2, ⟨hk.1.1.2, ⟨hk.1.1.1.2, hk.1.2⟩⟩⟩)⟩, ⟨uR (Kd.R_mono HO505.out (fun _ hk => hk.2))⟩, ⟨uR (Kd.R_mono HO501.out (fun _ hk => hk.2))⟩, ⟨uB BK488.out⟩, ⟨uB BK502.out⟩, ⟨uH HB.out⟩⟩
  case rest =>
   clear HC12
   (try clear c2);(try clear p2);(try clear c3);(try clear c4);(try clear c4b0);(try clear c7);(try clear c22);(try clear c23);(try clear c24);(try clear c28);(try clear c29);(try clear hcz14_0);(try clear hcz14_1);(try clear hcz16_0);(try clear hcz16_1);(try clear hcz20_0);(try clear hcz20_1);(try clear hcz24_0);(try clear hcz24_1);(try clear hcz6_0);(try clear hcz6_1);(try clear hfz14_0);(try clear hfz14_1)
   (try clear hfz16_0);(try clear hfz16_1);(try clear hfz20_0);(try clear hfz20_1);(try clear hfz24_0);(try clear hfz24_1);(try clear hfz6_0);(try clear hfz6_1)
   obtain ⟨kq, x44_11, rfl, HA, HJ11, HO_6, HO_9, HO_503001, BK488, BK502, HB⟩ := hcut
   cases kq with
   | zero => exact absurd HA.out (by simp [laws_FnExactOrthogonalPolynomial.j0])
   | succ kj11 =>
    have H := HA.out
    clear HA
    simp only [laws_FnExactOrthogonalPolynomial.j0] at H
    by_cases c33 : x44_11 = true
    ·subst c33
     have H1 : (some false) = some r := by rw [if_pos rfl] at H; exact H
     clear H
     have H := H1
     clear H1
     rw [HRT.out] at H
     exact absurd H (by simp)
    ·replace c33 := Bool.eq_false_iff.mpr c33
     subst c33
     have H1 : ((laws_toMoments.f kj11 a0_0 l0_1).bind fun bt508 => ((laws_eqMoments.f kj11 t498 t499 bt508.1 bt508.2).bind fun t512 => (if t512 = true then ((laws_markMoments.f kj11 t498 t499 1).bind fun bt513 => (if bt513.1 < 0 then (laws_FnExactOrthogonalPolynomial.j1 kj11 a1 t494 t497 t503 true a0_0 l0_1) else ((laws_eqInt64S.f kj11 t503 t494).bind fun t515 => (if t515 = true then (laws_FnExactOrthogonalPolynomial.j1 kj11 a1 t494 t497 t503 (t506 != t497) a0_0 l0_1) else (laws_FnExactOrthogonalPolynomial.j1 kj11 a1 t494 t497 t503 true a0_0 l0_1))))) else (some false)))) = some r := by rw [if_neg (show ¬ (false = true) by decide)] at H; exact H
     clear H
     have H := H1
     clear H1
     replace H := Option.bind_eq_some_iff.mp H
     obtain ⟨⟨t508, t509⟩, A340, H⟩ := H
     replace H : ((laws_eqMoments.f kj11 t498 t499 t508 t509).bind fun t512 => (if t512 = true then ((laws_markMoments.f kj11 t498 t499 1).bind fun bt513 => (if bt513.1 < 0 then (laws_FnExactOrthogonalPolynomial.j1 kj11 a1 t494 t497 t503 true a0_0 l0_1) else ((laws_eqInt64S.f kj11 t503 t494).bind fun t515 => (if t515 = true then (laws_FnExactOrthogonalPolynomial.j1 kj11 a1 t494 t497 t503 (t506 != t497) a0_0 l0_1) else (laws_FnExactOrthogonalPolynomial.j1 kj11 a1 t494 t497 t503 true a0_0 l0_1))))) else (some false))) = some r := H
     have A34 := zA A340
     clear A340
     replace H := Option.bind_eq_some_iff.mp H
     obtain ⟨t512, A350, H⟩ := H
     replace H : (if t512 = true then ((laws_markMoments.f kj11 t498 t499 1).bind fun bt513 => (if bt513.1 < 0 then (laws_FnExactOrthogonalPolynomial.j1 kj11 a1 t494 t497 t503 true a0_0 l0_1) else ((laws_eqInt64S.f kj11 t503 t494).bind fun t515 => (if t515 = true then (laws_FnExactOrthogonalPolynomial.j1 kj11 a1 t494 t497 t503 (t506 != t497) a0_0 l0_1) else (laws_FnExactOrthogonalPolynomial.j1 kj11 a1 t494 t497 t503 true a0_0 l0_1))))) else (some false)) = some r := H
     have A35 := zA A350
     clear A350
     by_cases c36 : t512 = true
     ·subst c36
      have H1 : ((laws_markMoments.f kj11 t498 t499 1).bind fun bt513 => (if bt513.1 < 0 then (laws_FnExactOrthogonalPolynomial.j1 kj11 a1 t494 t497 t503 true a0_0 l0_1) else ((laws_eqInt64S.f kj11 t503 t494).bind fun t515 => (if t515 = true then (laws_FnExactOrthogonalPolynomial.j1 kj11 a1 t494 t497 t503 (t506 != t497) a0_0 l0_1) else (laws_FnExactOrthogonalPolynomial.j1 kj11 a1 t494 t497 t503 true a0_0 l0_1))))) = some r := by rw [if_pos rfl] at H; exact H
      clear H
      have H := H1
      clear H1
      replace H := Option.bind_eq_some_iff.mp H
      obtain ⟨⟨t513, t514⟩, A370, H⟩ := H
      replace H : (if t513 < 0 then (laws_FnExactOrthogonalPolynomial.j1 kj11 a1 t494 t497 t503 true a0_0 l0_1) else ((laws_eqInt64S.f kj11 t503 t494).bind fun t515 => (if t515 = true then (laws_FnExactOrthogonalPolynomial.j1 kj11 a1 t494 t497 t503 (t506 != t497) a0_0 l0_1) else (laws_FnExactOrthogonalPolynomial.j1 kj11 a1 t494 t497 t503 true a0_0 l0_1)))) = some r := H
      have A37 := zA A370
      clear A370
      have HC38 := zA H
      clear H
      try go_wp2
      replace HO_6 := zA (Kd.V_drew HO_6.out)
      replace HO_9 := zA (Kd.R_drew HO_9.out)
      replace HO_503001 := zA (Kd.R_drew HO_503001.out)
      replace BK488 := zA (blk_drew BK488.out)
      replace BK502 := zA (blk_drew BK502.out)
      replace HB := zA (below_drew1 HB.out)
      refine start_ (n := 5) (S := fun w' => w'.cell? ⟨gb502, 0, none⟩ = some (.int .i64 t498) ∧ w'.cell? ⟨gb502, 1, none⟩ = some (.slice Ao25 t499.length co25) ∧ w'.cell? ⟨gb488, 0, none⟩ = some (.int .i64 a0_0) ∧ w'.cell? ⟨gb488, 1, none⟩ = some (.slice A0_1 l0_1.length c0_1)) (ds := []) #[false, false, false, false, false] (by kernel_rfl) rfl rfl ⟨bcu BK502 0, bcu BK502 1, bcu BK488 0, bcu BK488 1⟩ (fun hHeld => ?_)
      generalize wc.drew = w39 at HO_6 HO_9 HO_503001 BK488 BK502 HB hHeld ⊢
      refine take_ (i := 0) (N := some 45) (v := ?_) (a' := ?_) (bl 5 1) rfl rfl (by kernel_rfl) (fun _ _ _ h => h) (Or.inl ⟨by rfl, ?_⟩) hHeld ?_ ?_
      rotate_left
      ·rintro w' ⟨s0, s1, s2, s3⟩
       go_simp
       with_reducible rfl
      rotate_left
      ·simp only [Act.put, ls, lz, ln, i64_w, i32_w]
       rfl
      refine take_ (i := 1) (N := some 46) (v := ?_) (a' := ?_) (bl 5 3) rfl rfl (by kernel_rfl) (fun _ _ _ h => h) (Or.inl ⟨by rfl, ?_⟩) hHeld ?_ ?_
      rotate_left
      ·rintro w' ⟨s0, s1, s2, s3⟩
       go_simp
       with_reducible rfl
      rotate_left
      ·simp only [Act.put, ls, lz, ln, i64_w, i32_w]
       rfl
      refine one_ (i := 2) (N := some 47) (bl 5 7) rfl rfl (by kernel_rfl) (by decide) (fun K hK => ?_)
      refine gS Try.func24 #[.agg #[.int .i64 a0_0, .slice A0_1 l0_1.length c0_1]] ?_
      with_reducible refine (laws_toMoments.calls kj11 a0_0 _ _ l0_1 t508 t509 _ ?side1 ?side2 A34.out).mono ?_
      (case side1 => exact uC ((Kd.C_below HR0_1.out HB.out)))
      (case side2 => exact HC0_1.out)
      rintro e w40 ⟨v510, rfl, ho0, hb⟩
      refine ⟨_, rfl, ?_⟩
      replace HO_6 := zA (Kd.V_elder' (by (with_reducible repeat (first | apply Kd.V_alloc | apply Kd.V_drewN | apply Kd.V_drew)); exact HO_6.out) (Kd.R_base ho0) hb)
      have HO511 := zA (Kd.R_lower (Kd.R_new' (Kd.R_new' ho0 (Kd.R_lt (uR HO_9.out))) (Kd.R_lt (uR HO_503001.out))) (below_size (uH HB.out)))
      replace HO_9 := zA (Kd.R_elder' (uR HO_9.out) (Kd.R_base ho0) hb)
      replace HO_503001 := zA (Kd.R_elder' (uR HO_503001.out) (Kd.R_base ho0) hb)
      replace BK488 := xB BK488 hb
      replace BK502 := xB BK502 hb
      replace HB := xH HB hb
      (try clear hb); (try clear hb2); (try clear hk); (try clear hi); (try clear ho0)
      obtain ⟨Ao41, co41, eo41⟩ := Kd.R_slice HO511.out
      (first | subst eo41 | (injection eo41 with f1_ f2_ f3_; have f4_ := f1_.symm; have f5_ := f3_.symm; clear f1_ f2_ f3_; subst f4_; subst f5_))
      refine hK.out _ _ ⟨bcu BK502 0, bcu BK502 1, bcu BK488 0, bcu BK488 1⟩ (fun hHeld => ?_)
      clear hK K
      refine no_ 47 ?_
      refine one_ (i := 3) (N := some 48) (bl 5 15) rfl rfl (by kernel_rfl) (by decide) (fun K hK => ?_)
      refine gS Try.func28 #[.agg #[.int .i64 t498, .slice Ao25 t499.length co25], .agg #[.int .i64 t508, .slice Ao41 t509.length co41]] ?_
      with_reducible refine (laws_eqMoments.calls kj11 t498 _ _ t499 t508 _ _ t509 true _ ?side1 ?side2 ?side3 ?side4 A35.out).mono ?_
      (case side1 => exact uC ((Kd.R_reads' HO_503001.out).2.2))
      (case side2 => exact (Kd.R_reads' HO_503001.out).2.1)
      (case side3 => exact uC ((Kd.R_reads' HO511.out).2.2))
      (case side4 => exact (Kd.R_reads' HO511.out).2.1)
      rintro e w42 ⟨rfl, hb⟩
      refine ⟨_, rfl, ?_⟩
      replace HO_6 := zA (Kd.V_below (by (with_reducible repeat (first | apply Kd.V_alloc | apply Kd.V_drewN | apply Kd.V_drew)); exact HO_6.out) hb)
      replace HO_9 := xR HO_9 hb
      replace HO_503001 := xR HO_503001 hb
      replace HO511 := xR HO511 hb
      replace BK488 := xB BK488 hb
      replace BK502 := xB BK502 hb
      replace HB := xH HB hb
      (try clear hb); (try clear hb2); (try clear hk); (try clear hi)
      refine hK.out _ _ ⟨bcu BK502 0, bcu BK502 1, bcu BK488 0, bcu BK488 1⟩ (fun hHeld => ?_)
      clear hK K
      refine no_ 48 ?_
      refine pure_ (i := 4) (N := some 49) (v := ?_) (a' := ?_) (bl 5 31) rfl rfl (by kernel_rfl) (fun _ _ _ h => h) (Or.inl ⟨by rfl, ?_⟩) ?_ ?_
      rotate_left
      ·intro w'
       go_simp
       with_reducible rfl
      rotate_left
      ·simp only [Act.put, ls, lz, ln, i64_w, i32_w]
       rfl
      refine done_ (by kernel_rfl) ?_
      have hnb43 := NB502_488.out; have hnc43 := NB488_502.out
      have hcz44_0 := bc BK502 0
      have hcz44_1 := bc BK502 1
      have hfz44_0 := bf BK502 0
      have hfz44_1 := bf BK502 1
      go_upto_region 14 with (first | ((with_reducible refine gate_callee (f := 30) rfl ?_); refine gL (some 52) Try.func30 #[.agg #[.int .i64 t498, .slice Ao25 t499.length co25], .int .i64 1] ?_; (with_reducible refine (laws_markMoments.calls kj11 t498 (fun k_ => some k_ = (.slice Ao25 t499.length co25 : Value).ownBlock) (.slice Ao25 t499.length co25) t499 1 t513 t514 w _ ?side1 ?side2 A37.out).mono ?_); (case side1 => repeat (first | (with_reducible first | exact HB.out | apply below_alloc | apply pw_below_drewN | apply below_drew1 | refine below_set ?_ GE488.out | refine below_set ?_ GE502.out) | exact HB.out)); (case side2 => exact Kd.R_tight rfl HO_503001.out); rintro e w45 ⟨rfl, hy0, hb, hkp⟩; refine ⟨_, rfl, ?_⟩; replace HO_6 := zA (Kd.V_mono (ok' := fun k_ => some k_ ≠ (v504 : Value).ownBlock ∧ ax k_ (.slice Ao25 t499.length co25) ∧ ax k_ (.slice Ao41 t509.length co41) ∧ k_ ≠ gb488 ∧ k_ ≠ gb502) (Kd.V_keptB (HO_6.out) hkp (fun k_ hk_ hs_ => (hk_.1.2.1) hs_)) (fun k_ hk_ => ⟨hk_.1.1.1, hk_.1.1.2.1, hk_.1.2, hk_.1.1.2.2.1, hk_.1.1.2.2.2⟩)); replace HO_9 := zA (Kd.R_mono (ok' := fun k_ => ax k_ (.slice Ao25 t499.length co25) ∧ ax k_ (.slice Ao41 t509.length co41)) (Kd.R_keptB (HO_9.out) hkp (fun k_ hk_ hs_ => (hk_.1) hs_)) (fun k_ hk_ => ⟨hk_.1.1, hk_.1.2⟩)); replace BK488 := zA (blk_kept (uB BK488.out) hkp (fun hs_ => (fun e_ => (Kd.R_ne HO_503001.out BK488.out (by decide)) e_) hs_)); replace BK502 := zA (blk_kept (uB BK502.out) hkp (fun hs_ => (fun e_ => (Kd.R_ne HO_503001.out BK502.out (by decide)) e_) hs_)); replace HO_503001 := zA (Kd.R_reok rfl hy0 (fun k_ e_ => HO_503001.out.1 k_ e_)); replace HO511 := zA (Kd.R_mono (ok' := fun k_ => some k_ ≠ (v504 : Value).ownBlock ∧ ax k_ (.slice Ao25 t499.length co25)) (Kd.R_keptB (HO511.out) hkp (fun k_ hk_ hs_ => (hk_.2) hs_)) (fun k_ hk_ => ⟨hk_.1.1.2, hk_.1.2⟩)); replace HB := zA (hb); (try clear hb); (try clear hkp); (try clear hy0)))
      (try simp only [Act.put, ls, lz, ln])
      go_cut [65] (fun v65 wc => ∃ (kq : Nat) (x65_37 : Bool), v65 = .bool x65_37 ∧ Aside0 (laws_FnExactOrthogonalPolynomial.j1 kq a1 t494 t497 t503 x65_37 a0_0 l0_1 = some r) ∧ Aside0 (kq ≤ kj11) ∧ Aside0 (Kd.V (Kd.int .i64) 2 wc w.heap.size (fun k_ => some k_ ≠ (v504 : Value).ownBlock ∧ ax k_ (.slice Ao25 t499.length co25) ∧ k_ ≠ gb488 ∧ k_ ≠ gb502) v495 t494) ∧ Aside0 (Kd.R (Kd.int .i64) 2 wc w.heap.size (fun k_ => ax k_ (.slice Ao25 t499.length co25)) v504 t503) ∧ Aside0 (Kd.R (Kd.int .i64) 2 wc w.heap.size (fun k_ => some k_ ≠ (v504 : Value).ownBlock) (.slice Ao25 t499.length co25) t514) ∧ Aside0 (wc.heap[gb488]? = some (.cells #[.int .i64 a0_0, (.slice A0_1 l0_1.length c0_1)] 34 (0, 0))) ∧ Aside0 (wc.heap[gb502]? = some (.cells #[.int .i64 t498, (.slice Ao25 t499.length co25)] 40 (0, 0))) ∧ Aside0 (Below w.heap.size w wc))
      case first =>
       have H := HC38.out
       clear HC38
       by_cases c46 : t513 < 0
       rotate_left
       ·rw [if_neg c46] at H
        have c46b0 : decide (t513 < 0) = false := decide_eq_false c46
        clear c46
        (first | rw [c46b0] | (simp only [i64_w, i32_w]; rw [c46b0]) | skip)
        replace H := Option.bind_eq_some_iff.mp H
        obtain ⟨t515, A470, H⟩ := H
        replace H : (if t515 = true then (laws_FnExactOrthogonalPolynomial.j1 kj11 a1 t494 t497 t503 (t506 != t497) a0_0 l0_1) else (laws_FnExactOrthogonalPolynomial.j1 kj11 a1 t494 t497 t503 true a0_0 l0_1)) = some r := H
        have A47 := zA A470
        clear A470
        by_cases c48 : t515 = true
        ·subst c48
         have H1 : (laws_FnExactOrthogonalPolynomial.j1 kj11 a1 t494 t497 t503 (t506 != t497) a0_0 l0_1) = some r := by rw [if_pos rfl] at H; exact H
         clear H
         have H := H1
         clear H1
         have H' := zA H
         clear H
         obtain ⟨Ao49, co49, eo49⟩ := Kd.R_slice HO_9.out
         subst eo49
         obtain ⟨Ao50, co50, eo50⟩ := Kd.V_slice HO_6.out
         subst eo50
         go_wp2_with (first | (go_at_call 29; (with_reducible refine (laws_eqInt64S.calls kj11 _ _ t503 _ _ t494 true _ ?side1 ?side2 ?side3 ?side4 A47.out).mono ?_); (case side1 => exact uC ((Kd.R_reads' HO_9.out).2.2)); (case side2 => exact (Kd.R_reads' HO_9.out).2.1); (case side3 => exact uC ((Kd.V_reads' HO_6.out).2.2)); (case side4 => exact (Kd.V_reads' HO_6.out).2.1); rintro e w' ⟨rfl, ⟨nd, rfl⟩⟩))
         go_meet
         case rel => exact ⟨_, ((t506 != t497)), (by first | rfl | (simp; done) | (simp [*]; done)), H', ⟨by have := HJ11.out; first | omega | exact Nat.le_refl _⟩, ⟨by (with_reducible repeat (first | apply Kd.V_alloc | apply Kd.V_drewN | apply Kd.V_drew)); exact Kd.V_mono HO_6.out (fun _ hk => ⟨hk.1, ⟨hk.2.1, ⟨hk.2.2.2.1, hk.2.2.2.2⟩⟩⟩)⟩, ⟨uR (Kd.R_mono HO_9.out (fun _ hk => hk.1))⟩, ⟨uR (Kd.R_mono HO_503001.out (fun _ hk => hk.1))⟩, ⟨uB BK488.out⟩, ⟨uB BK502.out⟩, ⟨uH HB.out⟩⟩
        ·replace c48 := Bool.eq_false_iff.mpr c48
         subst c48
         have H1 : (laws_FnExactOrthogonalPolynomial.j1 kj11 a1 t494 t497 t503 true a0_0 l0_1) = some r := by rw [if_neg (show ¬ (false = true) by decide)] at H; exact H
         clear H
         have H := H1
         clear H1
         have H' := zA H
         clear H
         obtain ⟨Ao51, co51, eo51⟩ := Kd.R_slice HO_9.out
         subst eo51
         obtain ⟨Ao52, co52, eo52⟩ := Kd.V_slice HO_6.out
         subst eo52
         go_wp2_with (first | (go_at_call 29; (with_reducible refine (laws_eqInt64S.calls kj11 _ _ t503 _ _ t494 false _ ?side1 ?side2 ?side3 ?side4 A47.out).mono ?_); (case side1 => exact uC ((Kd.R_reads' HO_9.out).2.2)); (case side2 => exact (Kd.R_reads' HO_9.out).2.1); (case side3 => exact uC ((Kd.V_reads' HO_6.out).2.2)); (case side4 => exact (Kd.V_reads' HO_6.out).2.1); rintro e w' ⟨rfl, ⟨nd, rfl⟩⟩))
         go_meet
         case rel => exact ⟨_, (true), (by first | rfl | (simp; done) | (simp [*]; done)), H', ⟨by have := HJ11.out; first | omega | exact Nat.le_refl _⟩, ⟨by (with_reducible repeat (first | apply Kd.V_alloc | apply Kd.V_drewN | apply Kd.V_drew)); exact Kd.V_mono HO_6.out (fun _ hk => ⟨hk.1, ⟨hk.2.1, ⟨hk.2.2.2.1, hk.2.2.2.2⟩⟩⟩)⟩, ⟨uR (Kd.R_mono HO_9.out (fun _ hk => hk.1))⟩, ⟨uR (Kd.R_mono HO_503001.out (fun _ hk => hk.1))⟩, ⟨uB BK488.out⟩, ⟨uB BK502.out⟩, ⟨uH HB.out⟩⟩
       rw [if_pos c46] at H
       have c46b0 : decide (t513 < 0) = true := decide_eq_true c46
       clear c46
       (first | rw [c46b0] | (simp only [i64_w, i32_w]; rw [c46b0]) | skip)
       have H' := zA H
       clear H
       go_wp2
       go_meet
       case rel => exact ⟨_, (true), (by first | rfl | (simp; done) | (simp [*]; done)), H', ⟨by have := HJ11.out; first | omega | exact Nat.le_refl _⟩, ⟨by (with_reducible repeat (first | apply Kd.V_alloc | apply Kd.V_drewN | apply Kd.V_drew)); exact Kd.V_mono HO_6.out (fun _ hk => ⟨hk.1, ⟨hk.2.1, ⟨hk.2.2.2.1, hk.2.2.2.2⟩⟩⟩)⟩, ⟨uR (Kd.R_mono HO_9.out (fun _ hk => hk.1))⟩, ⟨uR (Kd.R_mono HO_503001.out (fun _ hk => hk.1))⟩, ⟨uB BK488.out⟩, ⟨uB BK502.out⟩, ⟨uH HB.out⟩⟩
      case rest =>
       clear HC38
       (try clear c2);(try clear p2);(try clear c3);(try clear c4);(try clear c4b0);(try clear c7);(try clear c22);(try clear c23);(try clear c24);(try clear c28);(try clear c29);(try clear c30);(try clear c33);(try clear c36);(try clear c38);(try clear c39);(try clear c43);(try clear c46);(try clear c46b0);(try clear c48);(try clear hcz14_0);(try clear hcz14_1);(try clear hcz16_0);(try clear hcz16_1)
       (try clear hcz20_0);(try clear hcz20_1);(try clear hcz24_0);(try clear hcz24_1);(try clear hcz44_0);(try clear hcz44_1);(try clear hcz6_0);(try clear hcz6_1);(try clear hfz14_0);(try clear hfz14_1);(try clear hfz16_0);(try clear hfz16_1);(try clear hfz20_0);(try clear hfz20_1);(try clear hfz24_0);(try clear hfz24_1);(try clear hfz44_0);(try clear hfz44_1);(try clear hfz6_0);(try clear hfz6_1)
       try clear p2
       obtain ⟨kq, x65_37, rfl, HA, HJ37, HO_6, HO_9, HO_503001, BK488, BK502, HB⟩ := hcut
       have hl503001_37 := (Kd.R_reads' HO_503001.out).1
       rw [hl503001_37] at HO_503001
       (try simp only [hl503001_37])
       (try simp only [hl503001_37] at BK488)
       (try simp only [hl503001_37] at BK502)
       (try simp only [hl503001_37] at HO_6)
       (try simp only [hl503001_37] at HO_9)
       cases kq with
       | zero => exact absurd HA.out (by simp [laws_FnExactOrthogonalPolynomial.j1])
       | succ kj37 =>
        have H := HA.out
        clear HA
        simp only [laws_FnExactOrthogonalPolynomial.j1] at H
        by_cases c53 : x65_37 = true
        ·subst c53
         have H1 : (some false) = some r := by rw [if_pos rfl] at H; exact H
         clear H
         have H := H1
         clear H1
         rw [HRT.out] at H
         exact absurd H (by simp)
        ·replace c53 := Bool.eq_false_iff.mpr c53
         subst c53
         have H1 : ((laws_markInt64S.f kj37 t503 1).bind fun bt516 => ((laws_heldInt64S.f kj37 bt516.2 1).bind fun t518 => (if t518 < 0 then (some false) else (if t518 = bt516.1 then ((laws_toMoments.f kj37 a0_0 l0_1).bind fun bt519 => ((impl_OrthogonalPolynomial.f kj37 bt519.1 bt519.2 a1).bind fun bt523 => ((laws_eqInt64S.f kj37 bt523.1 t494).bind fun t527 => (if t527 = true then (laws_FnExactOrthogonalPolynomial.j2 kj37 bt516.2 bt516.1 (bt523.2 != t497)) else (laws_FnExactOrthogonalPolynomial.j2 kj37 bt516.2 bt516.1 true))))) else (some false))))) = some r := by rw [if_neg (show ¬ (false = true) by decide)] at H; exact H
         clear H
         have H := H1
         clear H1
         replace H := Option.bind_eq_some_iff.mp H
         obtain ⟨⟨t516, t517⟩, A540, H⟩ := H
         replace H : ((laws_heldInt64S.f kj37 t517 1).bind fun t518 => (if t518 < 0 then (some false) else (if t518 = t516 then ((laws_toMoments.f kj37 a0_0 l0_1).bind fun bt519 => ((impl_OrthogonalPolynomial.f kj37 bt519.1 bt519.2 a1).bind fun bt523 => ((laws_eqInt64S.f kj37 bt523.1 t494).bind fun t527 => (if t527 = true then (laws_FnExactOrthogonalPolynomial.j2 kj37 t517 t516 (bt523.2 != t497)) else (laws_FnExactOrthogonalPolynomial.j2 kj37 t517 t516 true))))) else (some false)))) = some r := H
         have A54 := zA A540
         clear A540
         replace H := Option.bind_eq_some_iff.mp H
         obtain ⟨t518, A550, H⟩ := H
         replace H : (if t518 < 0 then (some false) else (if t518 = t516 then ((laws_toMoments.f kj37 a0_0 l0_1).bind fun bt519 => ((impl_OrthogonalPolynomial.f kj37 bt519.1 bt519.2 a1).bind fun bt523 => ((laws_eqInt64S.f kj37 bt523.1 t494).bind fun t527 => (if t527 = true then (laws_FnExactOrthogonalPolynomial.j2 kj37 t517 t516 (bt523.2 != t497)) else (laws_FnExactOrthogonalPolynomial.j2 kj37 t517 t516 true))))) else (some false))) = some r := H
         have A55 := zA A550
         clear A550
         by_cases c56 : t518 < 0
         rotate_left
         ·rw [if_neg c56] at H
          have c56b0 : decide (t518 < 0) = false := decide_eq_false c56
          clear c56
          by_cases c57 : t518 = t516
          rotate_left
          ·rw [if_neg c57] at H
           have c57b0 : (t518 == t516) = false := beq_eq_false_iff_ne.mpr c57
           have c57b1 : (t518 != t516) = true := bne_iff_ne.mpr c57
           rw [HRT.out] at H
           exact absurd H (by simp)
          rw [if_pos c57] at H
          have c57b0 : (t518 == t516) = true := beq_iff_eq.mpr c57
          have c57b1 : (t518 != t516) = false := bne_eq_false_iff_eq.mpr c57
          clear c57
          replace H := Option.bind_eq_some_iff.mp H
          obtain ⟨⟨t519, t520⟩, A580, H⟩ := H
          replace H : ((impl_OrthogonalPolynomial.f kj37 t519 t520 a1).bind fun bt523 => ((laws_eqInt64S.f kj37 bt523.1 t494).bind fun t527 => (if t527 = true then (laws_FnExactOrthogonalPolynomial.j2 kj37 t517 t516 (bt523.2 != t497)) else (laws_FnExactOrthogonalPolynomial.j2 kj37 t517 t516 true)))) = some r := H
          have A58 := zA A580
          clear A580
          replace H := Option.bind_eq_some_iff.mp H
          obtain ⟨⟨t523, t526⟩, A590, H⟩ := H
          replace H : ((laws_eqInt64S.f kj37 t523 t494).bind fun t527 => (if t527 = true then (laws_FnExactOrthogonalPolynomial.j2 kj37 t517 t516 (t526 != t497)) else (laws_FnExactOrthogonalPolynomial.j2 kj37 t517 t516 true))) = some r := H
          have A59 := zA A590
          clear A590
          have HC60 := zA H
          clear H
          obtain ⟨Ao61, co61, eo61⟩ := Kd.R_slice HO_9.out
          subst eo61
          go_upto_region 25 with (first | ((with_reducible refine gate_callee (f := 31) rfl ?_); refine gL (some 68) Try.func31 #[.slice Ao61 t503.length co61, .int .i64 1] ?_; (with_reducible refine (laws_markInt64S.calls kj37 (fun k_ => some k_ = (.slice Ao61 t503.length co61 : Value).ownBlock) (.slice Ao61 t503.length co61) t503 1 t516 t517 w _ ?side1 ?side2 A54.out).mono ?_); (case side1 => repeat (first | (with_reducible first | exact HB.out | apply below_alloc | apply pw_below_drewN | apply below_drew1 | refine below_set ?_ GE488.out | refine below_set ?_ GE502.out) | exact HB.out)); (case side2 => exact Kd.R_tight rfl HO_9.out); rintro e w62 ⟨rfl, hy0, hb, hkp⟩; refine ⟨_, rfl, ?_⟩; replace HO_6 := zA (Kd.V_mono (ok' := fun k_ => ax k_ (.slice Ao61 t503.length co61) ∧ ax k_ (.slice Ao25 t514.length co25) ∧ k_ ≠ gb488 ∧ k_ ≠ gb502) (Kd.V_keptB (HO_6.out) hkp (fun k_ hk_ hs_ => (hk_.1) hs_)) (fun k_ hk_ => ⟨hk_.1.1, hk_.1.2.1, hk_.1.2.2.1, hk_.1.2.2.2⟩)); replace HO_503001 := zA (Kd.R_mono (ok' := fun k_ => ax k_ (.slice Ao61 t503.length co61)) (Kd.R_keptB (HO_503001.out) hkp (fun k_ hk_ hs_ => (hk_) hs_)) (fun k_ hk_ => hk_.1)); replace BK488 := zA (blk_kept (uB BK488.out) hkp (fun hs_ => (fun e_ => (Kd.R_ne HO_9.out BK488.out (by decide)) e_) hs_)); replace BK502 := zA (blk_kept (uB BK502.out) hkp (fun hs_ => (fun e_ => (Kd.R_ne HO_9.out BK502.out (by decide)) e_) hs_)); replace HO_9 := zA (Kd.R_reok rfl hy0 (fun k_ e_ => HO_9.out.1 k_ e_)); replace HB := zA (hb); (try clear hb); (try clear hkp); (try clear hy0)) | ((with_reducible refine gate_callee (f := 40) rfl ?_); refine goesL_ (some 71) rfl rfl Try.func40 (by kernel_rfl) rfl #[.slice Ao61 t517.length co61, .int .i64 1] rfl (by (try simp only [la, lb, lc]); first | done | (rw [show t517.length = t503.length from (Kd.R_reads' HO_9.out).1.symm] <;> rfl) | rfl | (simp only [ld, le]; rfl)) ?_; (with_reducible refine (laws_heldInt64S.calls kj37 _ _ t517 1 t518 _ ?side1 ?side2 A55.out).mono ?_); (case side1 => exact uC ((Kd.R_reads' HO_9.out).2.2)); (case side2 => rw [show t517.length = t503.length from (Kd.R_reads' HO_9.out).1.symm]; exact (Kd.R_reads' HO_9.out).2.1); rintro e w' ⟨rfl, ⟨nd, rfl⟩⟩; refine ⟨_, rfl, ?_⟩; have hnb63 := NB488_502.out; have hnc63 := NB502_488.out; have hcz64_0 := bc BK488 0; have hcz64_1 := bc BK488 1; have hfz64_0 := bf BK488 0; have hfz64_1 := bf BK488 1) | ((with_reducible refine gate_callee (f := 24) rfl ?_); refine gL (some 79) Try.func24 #[.agg #[.int .i64 a0_0, .slice A0_1 l0_1.length c0_1]] ?_; (with_reducible refine (laws_toMoments.calls kj37 a0_0 _ _ l0_1 t519 t520 _ ?side1 ?side2 A58.out).mono ?_); (case side1 => repeat (first | exact (Kd.C_below HR0_1.out (uH HB.out)) | (with_reducible refine Kd.C_alloc ?_ _) | (with_reducible refine Kd.C_drewN ?_ _) | (with_reducible refine Kd.C_drew ?_))); (case side2 => exact HC0_1.out); rintro e w65 ⟨v521, rfl, ho0, hb⟩; refine ⟨_, rfl, ?_⟩; replace HO_6 := zA (Kd.V_elder' (by (with_reducible repeat (first | apply Kd.V_alloc | apply Kd.V_drewN | apply Kd.V_drew)); exact HO_6.out) (Kd.R_base ho0) hb); have HO522 := zA (Kd.R_lower (Kd.R_new' (Kd.R_new' ho0 (Kd.R_lt (uR HO_9.out))) (Kd.R_lt (uR HO_503001.out))) (below_size (uH HB.out))); replace HO_9 := zA (Kd.R_elder' (uR HO_9.out) (Kd.R_base ho0) hb); replace HO_503001 := zA (Kd.R_elder' (uR HO_503001.out) (Kd.R_base ho0) hb); replace BK488 := xB BK488 hb; replace BK502 := xB BK502 hb; replace HB := xH HB hb; (try clear hb); (try clear hb2); (try clear hk); (try clear hi); (try clear ho0); obtain ⟨Ao66, co66, eo66⟩ := Kd.R_slice HO522.out; subst eo66) | ((with_reducible refine gate_callee (f := 39) rfl ?_); refine gL (some 81) Try.func39 #[.agg #[.int .i64 t519, .slice Ao66 t520.length co66], .int .i64 a1] ?_; (with_reducible refine (impl_OrthogonalPolynomial.calls kj37 t519 _ _ t520 a1 t523 t526 _ ?side1 ?side2 A59.out).mono ?_); (case side1 => exact uC ((Kd.R_reads' HO522.out).2.2)); (case side2 => exact (Kd.R_reads' HO522.out).2.1); rintro e w67 ⟨v524, rfl, ho0, hb⟩; refine ⟨_, rfl, ?_⟩; replace HO_6 := zA (Kd.V_elder' (by (with_reducible repeat (first | apply Kd.V_alloc | apply Kd.V_drewN | apply Kd.V_drew)); exact HO_6.out) (Kd.R_base ho0) hb); have HO525 := zA (Kd.R_lower (Kd.R_new' (Kd.R_new' (Kd.R_new' ho0 (Kd.R_lt (uR HO_9.out))) (Kd.R_lt (uR HO_503001.out))) (Kd.R_lt (uR HO522.out))) (below_size (uH HB.out))); replace HO_9 := zA (Kd.R_elder' (uR HO_9.out) (Kd.R_base ho0) hb); replace HO_503001 := zA (Kd.R_elder' (uR HO_503001.out) (Kd.R_base ho0) hb); replace HO522 := zA (Kd.R_elder' (uR HO522.out) (Kd.R_base ho0) hb); replace BK488 := xB BK488 hb; replace BK502 := xB BK502 hb; replace HB := xH HB hb; (try clear hb); (try clear hb2); (try clear hk); (try clear hi); (try clear ho0)))
          (try simp only [Act.put, ls, lz, ln])
          go_cut [92] (fun v92 wc => ∃ (kq : Nat) (x92_59 : Bool), v92 = .bool x92_59 ∧ Aside0 (laws_FnExactOrthogonalPolynomial.j2 kq t517 t516 x92_59 = some r) ∧ Aside0 (kq ≤ kj37) ∧ Aside0 (Kd.R (Kd.int .i64) 2 wc w.heap.size (fun k_ => ax k_ (.slice Ao25 t514.length co25)) (.slice Ao61 t503.length co61) t517) ∧ Aside0 (Kd.R (Kd.int .i64) 2 wc w.heap.size (fun k_ => ax k_ (.slice Ao61 t503.length co61)) (.slice Ao25 t514.length co25) t514) ∧ Aside0 (wc.heap[gb488]? = some (.cells #[.int .i64 a0_0, (.slice A0_1 l0_1.length c0_1)] 34 (0, 0))) ∧ Aside0 (wc.heap[gb502]? = some (.cells #[.int .i64 t498, (.slice Ao25 t514.length co25)] 40 (0, 0))) ∧ Aside0 (Below w.heap.size w wc))
          case first =>
           have H := HC60.out
           clear HC60
           replace H := Option.bind_eq_some_iff.mp H
           obtain ⟨t527, A680, H⟩ := H
           replace H : (if t527 = true then (laws_FnExactOrthogonalPolynomial.j2 kj37 t517 t516 (t526 != t497)) else (laws_FnExactOrthogonalPolynomial.j2 kj37 t517 t516 true)) = some r := H
           have A68 := zA A680
           clear A680
           by_cases c69 : t527 = true
           ·subst c69
            have H1 : (laws_FnExactOrthogonalPolynomial.j2 kj37 t517 t516 (t526 != t497)) = some r := by rw [if_pos rfl] at H; exact H
            clear H
            have H := H1
            clear H1
            have H' := zA H
            clear H
            obtain ⟨Ao70, co70, eo70⟩ := Kd.R_slice HO525.out
            subst eo70
            obtain ⟨Ao71, co71, eo71⟩ := Kd.V_slice HO_6.out
            subst eo71
            go_wp2_with (first | ((with_reducible refine gate_callee (f := 29) rfl ?_); refine gL (some 86) Try.func29 #[.slice Ao70 t523.length co70, .slice Ao71 t494.length co71] ?_; (with_reducible refine (laws_eqInt64S.calls kj37 _ _ t523 _ _ t494 true _ ?side1 ?side2 ?side3 ?side4 A68.out).mono ?_); (case side1 => exact uC ((Kd.R_reads' HO525.out).2.2)); (case side2 => exact (Kd.R_reads' HO525.out).2.1); (case side3 => exact uC ((Kd.V_reads' HO_6.out).2.2)); (case side4 => exact (Kd.V_reads' HO_6.out).2.1); rintro e w' ⟨rfl, ⟨nd, rfl⟩⟩; refine ⟨_, rfl, ?_⟩))
            go_meet
            case rel => exact ⟨_, ((t526 != t497)), (by first | rfl | (simp; done) | (simp [*]; done)), H', ⟨by have := HJ11.out; have := HJ37.out; first | omega | exact Nat.le_refl _⟩, ⟨by (try simp only [hl503001_37]); (with_reducible repeat (first | apply Kd.R_alloc | apply Kd.R_drewN | apply Kd.R_drew)); exact Kd.R_mono HO_9.out (fun _ hk => hk.1.1)⟩, ⟨by (try simp only [hl503001_37]); (with_reducible repeat (first | apply Kd.R_alloc | apply Kd.R_drewN | apply Kd.R_drew)); exact Kd.R_mono HO_503001.out (fun _ hk => hk.1.1)⟩, ⟨by (try simp only [hl503001_37]); (repeat refine up1 ?_); exact BK488.out⟩, ⟨by (try simp only [hl503001_37]); (repeat refine up1 ?_); exact BK502.out⟩, ⟨uH HB.out⟩⟩
           ·replace c69 := Bool.eq_false_iff.mpr c69
            subst c69
            have H1 : (laws_FnExactOrthogonalPolynomial.j2 kj37 t517 t516 true) = some r := by rw [if_neg (show ¬ (false = true) by decide)] at H; exact H
            clear H
            have H := H1
            clear H1
            have H' := zA H
            clear H
            obtain ⟨Ao72, co72, eo72⟩ := Kd.R_slice HO525.out
            subst eo72
            obtain ⟨Ao73, co73, eo73⟩ := Kd.V_slice HO_6.out
            subst eo73
            go_wp2_with (first | ((with_reducible refine gate_callee (f := 29) rfl ?_); refine gL (some 86) Try.func29 #[.slice Ao72 t523.length co72, .slice Ao73 t494.length co73] ?_; (with_reducible refine (laws_eqInt64S.calls kj37 _ _ t523 _ _ t494 false _ ?side1 ?side2 ?side3 ?side4 A68.out).mono ?_); (case side1 => exact uC ((Kd.R_reads' HO525.out).2.2)); (case side2 => exact (Kd.R_reads' HO525.out).2.1); (case side3 => exact uC ((Kd.V_reads' HO_6.out).2.2)); (case side4 => exact (Kd.V_reads' HO_6.out).2.1); rintro e w' ⟨rfl, ⟨nd, rfl⟩⟩; refine ⟨_, rfl, ?_⟩))
            go_meet
            case rel => exact ⟨_, (true), (by first | rfl | (simp; done) | (simp [*]; done)), H', ⟨by have := HJ11.out; have := HJ37.out; first | omega | exact Nat.le_refl _⟩, ⟨by (try simp only [hl503001_37]); (with_reducible repeat (first | apply Kd.R_alloc | apply Kd.R_drewN | apply Kd.R_drew)); exact Kd.R_mono HO_9.out (fun _ hk => hk.1.1)⟩, ⟨by (try simp only [hl503001_37]); (with_reducible repeat (first | apply Kd.R_alloc | apply Kd.R_drewN | apply Kd.R_drew)); exact Kd.R_mono HO_503001.out (fun _ hk => hk.1.1)⟩, ⟨by (try simp only [hl503001_37]); (repeat refine up1 ?_); exact BK488.out⟩, ⟨by (try simp only [hl503001_37]); (repeat refine up1 ?_); exact BK502.out⟩, ⟨uH HB.out⟩⟩
          case rest =>
           clear HC60
           (try clear c2);(try clear p2);(try clear c3);(try clear c4);(try clear c4b0);(try clear c5);(try clear c6);(try clear c7);(try clear c22);(try clear c23);(try clear c24);(try clear c28);(try clear c29);(try clear c30);(try clear c31);(try clear c33);(try clear c36);(try clear c38);(try clear c39);(try clear c40);(try clear c43);(try clear c46);(try clear c46b0);(try clear c48);(try clear c53)
           (try clear c56);(try clear c56b0);(try clear c57);(try clear c57b0);(try clear c57b1);(try clear c63);(try clear c69);(try clear hcz14_0);(try clear hcz14_1);(try clear hcz16_0);(try clear hcz16_1);(try clear hcz20_0);(try clear hcz20_1);(try clear hcz24_0);(try clear hcz24_1);(try clear hcz44_0);(try clear hcz44_1);(try clear hcz64_0);(try clear hcz64_1);(try clear hcz6_0);(try clear hcz6_1)
           (try clear hfz14_0);(try clear hfz14_1);(try clear hfz16_0);(try clear hfz16_1);(try clear hfz20_0);(try clear hfz20_1);(try clear hfz24_0);(try clear hfz24_1);(try clear hfz44_0);(try clear hfz44_1);(try clear hfz64_0);(try clear hfz64_1);(try clear hfz6_0);(try clear hfz6_1);(try clear p2)
           obtain ⟨kq, x92_59, rfl, HA, HJ59, HO_9, HO_503001, BK488, BK502, HB⟩ := hcut
           have hl9_59 := (Kd.R_reads' HO_9.out).1
           rw [hl9_59] at HO_9
           (try simp only [hl9_59])
           (try simp only [hl9_59] at BK488)
           (try simp only [hl9_59] at BK502)
           (try simp only [hl9_59] at HO_503001)
           cases kq with
           | zero => exact absurd HA.out (by simp [laws_FnExactOrthogonalPolynomial.j2])
           | succ kj59 =>
            have H := HA.out
            clear HA
            simp only [laws_FnExactOrthogonalPolynomial.j2] at H
            by_cases c74 : x92_59 = true
            ·subst c74
             have H1 : (some false) = some r := by rw [if_pos rfl] at H; exact H
             clear H
             have H := H1
             clear H1
             rw [HRT.out] at H
             exact absurd H (by simp)
            ·replace c74 := Bool.eq_false_iff.mpr c74
             subst c74
             have H1 : ((laws_heldInt64S.f kj59 t517 1).bind fun t528 => (if t528 < 0 then (some false) else (if t528 = t516 then (some true) else (some false)))) = some r := by rw [if_neg (show ¬ (false = true) by decide)] at H; exact H
             clear H
             have H := H1
             clear H1
             replace H := Option.bind_eq_some_iff.mp H
             obtain ⟨t528, A750, H⟩ := H
             replace H : (if t528 < 0 then (some false) else (if t528 = t516 then (some true) else (some false))) = some r := H
             have A75 := zA A750
             clear A750
             by_cases c76 : t528 < 0
             rotate_left
             ·rw [if_neg c76] at H
              have c76b0 : decide (t528 < 0) = false := decide_eq_false c76
              clear c76
              by_cases c77 : t528 = t516
              rotate_left
              ·rw [if_neg c77] at H
               have c77b0 : (t528 == t516) = false := beq_eq_false_iff_ne.mpr c77
               have c77b1 : (t528 != t516) = true := bne_iff_ne.mpr c77
               rw [HRT.out] at H
               exact absurd H (by simp)
              rw [if_pos c77] at H
              have c77b0 : (t528 == t516) = true := beq_iff_eq.mpr c77
              have c77b1 : (t528 != t516) = false := bne_eq_false_iff_eq.mpr c77
              clear c77
              obtain rfl := Option.some.inj H
              go_wp2_with (first | ((with_reducible refine gate_callee (f := 40) rfl ?_); refine gL (some 95) Try.func40 #[.slice Ao61 t517.length co61, .int .i64 1] ?_; (with_reducible refine (laws_heldInt64S.calls kj59 _ _ t517 1 t528 _ ?side1 ?side2 A75.out).mono ?_); (case side1 => exact uC ((Kd.R_reads' HO_9.out).2.2)); (case side2 => exact (Kd.R_reads' HO_9.out).2.1); rintro e w' ⟨rfl, ⟨nd, rfl⟩⟩; refine ⟨_, rfl, ?_⟩))
              go_ret
              exact ⟨by first | rfl | (simp [errW_none, errW_some] <;> rfl) | (simp [*, errW_none, errW_some] <;> rfl), uH HB.out⟩
             rw [if_pos c76] at H
             have c76b0 : decide (t528 < 0) = true := decide_eq_true c76
             clear c76
             rw [HRT.out] at H
             exact absurd H (by simp)
         rw [if_pos c56] at H
         have c56b0 : decide (t518 < 0) = true := decide_eq_true c56
         clear c56
         rw [HRT.out] at H
         exact absurd H (by simp)
     ·replace c36 := Bool.eq_false_iff.mpr c36
      subst c36
      have H1 : (some false) = some r := by rw [if_neg (show ¬ (false = true) by decide)] at H; exact H
      clear H
      have H := H1
      clear H1
      rw [HRT.out] at H
      exact absurd H (by simp)

 rw [if_pos c4] at H
 have c4b0 : decide (t489 < 0) = true := decide_eq_true c4
 clear c4
 obtain rfl := Option.some.inj H
 go_enter Try.func7, Try.ntmps7
 go_wp2_with (first | ((with_reducible refine gate_dst (N := 2) rfl ?_); refine bx 2 #[.int .i64 a0_0, .slice A0_1 l0_1.length c0_1] 34 ?_; intro gb488 hg w5 hbox hb; have BK488 := zA (hbox); have GW488 := gq HB hg; have GE488 := gq HB hg; replace HB := xH HB hb; have := geI GE488; clear hb hbox hg; have hcz6_0 := bc BK488 0; have hcz6_1 := bc BK488 1; have hfz6_0 := bf BK488 0; have hfz6_1 := bf BK488 1) | ((with_reducible refine gate_callee (f := 22) rfl ?_); refine gL (some 18) Try.func22 #[.agg #[.int .i64 a0_0, .slice A0_1 l0_1.length c0_1], .int .i64 1048576] ?_; (with_reducible refine (laws_szMoments.calls a0_0 _ _ l0_1 1048576 t489 _ ?side1 ?side2 A3.out).mono ?_); (case side1 => exact uC ((Kd.C_below HR0_1.out HB.out))); (case side2 => exact HC0_1.out); rintro e w7 ⟨rfl, hb⟩; refine ⟨_, rfl, ?_⟩; replace BK488 := xB BK488 hb; replace HB := xH HB hb; (try clear hb); (try clear hb2); (try clear hk); (try clear hi)))
 go_ret
 exact ⟨by first | rfl | (simp [errW_none, errW_some] <;> rfl) | (simp [*, errW_none, errW_some] <;> rfl), uH HB.out⟩
/-- THE ONE PURE STATEMENT of laws_FnExactOrthogonalPolynomial: yours. -/
def laws_FnExactOrthogonalPolynomial.Pure : Prop := ∀ (a0_0 : Int) (l0_1 : List Int) (a1 : Int), (Lit.int .i64 a0_0).wf = true → l0_1.length ≤ maxLen → (∀ x ∈ l0_1, (Lit.int .i64 x).wf = true) → (Lit.int .i64 a1).wf = true → ∃ k, laws_FnExactOrthogonalPolynomial.f k a0_0 l0_1 a1 = some true
theorem laws_FnExactOrthogonalPolynomial.walk (P : laws_FnExactOrthogonalPolynomial.Pure) (a0_0 : Int) (a0_1 : Option Addr) (len0_1 cap0_1 : Nat) (z0_1 : List Int) (a1 : Int) (w : World) (w0_0 : (Lit.int .i64 a0_0).wf = true) (w0_1 : (a0_1 = none ∧ len0_1 = 0 ∧ cap0_1 = 0 ∧ z0_1 = []) ∨ ∃ x, a0_1 = some x ∧ len0_1 ≤ cap0_1 ∧ cap0_1 ≤ maxLen ∧ z0_1.length = cap0_1 ∧ (∀ i, i < z0_1.length → w.cell? (x.add i) = some (.int .i64 (z0_1.getD i 0))) ∧ ∀ n ∈ z0_1, (Lit.int .i64 n).wf = true) (w1 : (Lit.int .i64 a1).wf = true) :
  Calls Try.prog 7 #[.agg #[.int .i64 a0_0, .slice a0_1 len0_1 cap0_1], .int .i64 a1] w fun e w' => e = .returned (.bool true) ∧ Below w.heap.size w w' := by
 obtain ⟨l0_1, rfl, hr0_1, hm0_1, hw0_1, hc0_1⟩ := ReadsInt.ofRowC w0_1
 obtain ⟨k, h⟩ := P a0_0 l0_1 a1 w0_0 hm0_1 hw0_1 w1
 refine (laws_FnExactOrthogonalPolynomial.calls k a0_0 _ _ l0_1 a1 true rfl w (Kd.C_of_reads (d := (0 : Int)) (h1 := fun _ => rfl) hr0_1) hc0_1 h).mono ?_
 rintro e w' ⟨rfl, hd⟩
 exact ⟨rfl, hd⟩

end Go.Proofs.Ytfbnkebgdmfcfaa.Pr
