/- Printed by a program of this session out of the translation: what these functions of the program compute, under the conditions that each theorem names. -/
import Derived.Test.YtfbnkebgdmfcfaaKC01
import Derived.Test.YtfbnkebgdmfcfaaKC03
import Derived.Test.YtfbnkebgdmfcfaaKC02
import Derived.Test.YtfbnkebgdmfcfaaKSumOfExpansion1
import Derived.Test.YtfbnkebgdmfcfaaKFimplSumOfExpansion
namespace Go.Proofs.Ytfbnkebgdmfcfaa.Pr
open Go.RowKit Go.Proofs.YtfbnkebgdmfcfaaW.PrintWords Go.Proofs.YtfbnkebgdmfcfaaW.PrintLast Go.Proofs.YtfbnkebgdmfcfaaW.PrintMore
attribute [local go_sem] max2_int min2_int max_two min_two max_three min_three max_four min_four   -- for this text's walks alone
set_option linter.unusedVariables false
set_option linter.unusedSimpArgs false

/-! ### laws_FnExactSumOfExpansion: function 9 -/
mutual
def laws_FnExactSumOfExpansion.j0 : Nat → List Int → List Int → Int → List Int → List Int → Int → Bool → Int → List Int → Int → List Int → Option (Bool)
 | 0, _, _, _, _, _, _, _, _, _, _, _ => none
 | k + 1, x1, x6, x7, x9, x10, x11, x51, x626000, x626001, x643000, x643001 => if x51 = true then (some false) else ((laws_toMoments.f k x626000 x626001).bind fun bt651 => ((laws_eqMoments.f k x643000 x643001 bt651.1 bt651.2).bind fun t655 => (if t655 = true then ((laws_toInt64S.f k x1).bind fun t656 => ((laws_eqInt64S.f k x9 t656).bind fun t659 => (if t659 = true then ((laws_markMoments.f k x643000 x643001 1).bind fun bt660 => ((laws_markInt64S.f k x9 bt660.1).bind fun bt662 => (if bt662.1 < 0 then (laws_FnExactSumOfExpansion.j1 k x1 x6 x7 x10 true x626000 x626001) else ((laws_eqInt64S.f k x10 x6).bind fun t664 => (if t664 = true then (laws_FnExactSumOfExpansion.j1 k x1 x6 x7 x10 (x11 != x7) x626000 x626001) else (laws_FnExactSumOfExpansion.j1 k x1 x6 x7 x10 true x626000 x626001)))))) else (some false)))) else (some false))))
def laws_FnExactSumOfExpansion.j1 : Nat → List Int → List Int → Int → List Int → Bool → Int → List Int → Option (Bool)
 | 0, _, _, _, _, _, _, _ => none
 | k + 1, x1, x6, x7, x10, x80, x626000, x626001 => if x80 = true then (some false) else ((laws_markInt64S.f k x10 1).bind fun bt665 => ((laws_heldInt64S.f k bt665.2 1).bind fun t667 => (if t667 < 0 then (some false) else (if t667 = bt665.1 then ((laws_toMoments.f k x626000 x626001).bind fun bt668 => ((laws_toInt64S.f k x1).bind fun t672 => ((impl_SumOfExpansion.f k bt668.1 bt668.2 t672).bind fun bt675 => ((laws_eqInt64S.f k bt675.1 x6).bind fun t679 => (if t679 = true then (laws_FnExactSumOfExpansion.j2 k bt665.2 bt665.1 (bt675.2 != x7)) else (laws_FnExactSumOfExpansion.j2 k bt665.2 bt665.1 true)))))) else (some false)))))
def laws_FnExactSumOfExpansion.j2 : Nat → List Int → Int → Bool → Option (Bool)
 | 0, _, _, _ => none
 | k + 1, x10, x13, x108 => if x108 = true then (some false) else ((laws_heldInt64S.f k x10 1).bind fun t680 => (if t680 < 0 then (some false) else (if t680 = x13 then (some true) else (some false))))
end
def laws_FnExactSumOfExpansion.f (k : Nat) (a0_0 : Int) (l0_1 : List Int) (l1 : List Int) : Option (Bool) := if (l1.length : Int) > 1048576 then (some true) else ((laws_szMoments.f a0_0 l0_1 1048576).bind fun t626 => (if t626 < 0 then (some true) else ((laws_toMoments.f k a0_0 l0_1).bind fun bt627 => ((laws_toInt64S.f k l1).bind fun t631 => ((spec_SumOfExpansion.f k bt627.1 bt627.2 t631).bind fun bt634 => ((laws_toMoments.f k a0_0 l0_1).bind fun bt638 => ((laws_toInt64S.f k l1).bind fun t643 => ((impl_SumOfExpansion.f k bt638.1 bt638.2 t643).bind fun bt646 => ((laws_eqInt64S.f k bt646.1 bt634.1).bind fun t650 => (if t650 = true then (laws_FnExactSumOfExpansion.j0 k l1 bt634.1 bt634.2 t643 bt646.1 bt646.2 (bt646.2 != bt634.2) a0_0 l0_1 bt638.1 bt638.2) else (laws_FnExactSumOfExpansion.j0 k l1 bt634.1 bt634.2 t643 bt646.1 bt646.2 true a0_0 l0_1 bt638.1 bt638.2)))))))))))
set_option maxHeartbeats 8000000 in
set_option maxRecDepth 100000 in
theorem laws_FnExactSumOfExpansion.calls (k : Nat) (a0_0 : Int) (A0_1 : Option Addr) (c0_1 : Nat) (l0_1 : List Int) (A1 : Option Addr) (c1 : Nat) (l1 : List Int) (r : Bool) (hr_ : r = true) (w : World) (hr0_1 : Kd.C (Kd.int .i64) w A0_1 l0_1.length l0_1) (hc0_1 : l0_1.length ≤ c0_1) (hr1 : Kd.C (Kd.int .i64) w A1 l1.length l1) (hc1 : l1.length ≤ c1) (h : laws_FnExactSumOfExpansion.f k a0_0 l0_1 l1 = some r) :
  Calls Try.prog 9 #[.agg #[.int .i64 a0_0, .slice A0_1 l0_1.length c0_1], .slice A1 l1.length c1] w fun e w' => e = .returned (.bool r) ∧ Below w.heap.size w w' := by
 have hu34 := Try.underlying34
 have hu40 := Try.underlying40
 have HRT := zA hr_
 clear hr_
 have HR0_1 := zA hr0_1
 have HC0_1 := zA hc0_1
 clear hr0_1 hc0_1
 have HR1 := zA hr1
 have HC1 := zA hc1
 clear hr1 hc1
 have HB := zA (Below.refl w.heap.size w)
 have H : (if (l1.length : Int) > 1048576 then (some true) else ((laws_szMoments.f a0_0 l0_1 1048576).bind fun t626 => (if t626 < 0 then (some true) else ((laws_toMoments.f k a0_0 l0_1).bind fun bt627 => ((laws_toInt64S.f k l1).bind fun t631 => ((spec_SumOfExpansion.f k bt627.1 bt627.2 t631).bind fun bt634 => ((laws_toMoments.f k a0_0 l0_1).bind fun bt638 => ((laws_toInt64S.f k l1).bind fun t643 => ((impl_SumOfExpansion.f k bt638.1 bt638.2 t643).bind fun bt646 => ((laws_eqInt64S.f k bt646.1 bt634.1).bind fun t650 => (if t650 = true then (laws_FnExactSumOfExpansion.j0 k l1 bt634.1 bt634.2 t643 bt646.1 bt646.2 (bt646.2 != bt634.2) a0_0 l0_1 bt638.1 bt638.2) else (laws_FnExactSumOfExpansion.j0 k l1 bt634.1 bt634.2 t643 bt646.1 bt646.2 true a0_0 l0_1 bt638.1 bt638.2)))))))))))) = some r := h
 clear h
 by_cases c3 : (l1.length : Int) > 1048576
 rotate_left
 ·rw [if_neg c3] at H
  have c3b0 : decide (1048576 < (l1.length : Int)) = false := decide_eq_false c3
  have c3b1 : decide (1048576 < l1.length) = false := decide_eq_false (by omega)
  clear c3
  replace H := Option.bind_eq_some_iff.mp H
  obtain ⟨t626, A50, H⟩ := H
  replace H : (if t626 < 0 then (some true) else ((laws_toMoments.f k a0_0 l0_1).bind fun bt627 => ((laws_toInt64S.f k l1).bind fun t631 => ((spec_SumOfExpansion.f k bt627.1 bt627.2 t631).bind fun bt634 => ((laws_toMoments.f k a0_0 l0_1).bind fun bt638 => ((laws_toInt64S.f k l1).bind fun t643 => ((impl_SumOfExpansion.f k bt638.1 bt638.2 t643).bind fun bt646 => ((laws_eqInt64S.f k bt646.1 bt634.1).bind fun t650 => (if t650 = true then (laws_FnExactSumOfExpansion.j0 k l1 bt634.1 bt634.2 t643 bt646.1 bt646.2 (bt646.2 != bt634.2) a0_0 l0_1 bt638.1 bt638.2) else (laws_FnExactSumOfExpansion.j0 k l1 bt634.1 bt634.2 t643 bt646.1 bt646.2 true a0_0 l0_1 bt638.1 bt638.2)))))))))) = some r := H
  have A5 := zA A50
  clear A50
  by_cases c6 : t626 < 0
  rotate_left
  ·rw [if_neg c6] at H
   have c6b0 : decide (t626 < 0) = false := decide_eq_false c6
   clear c6
   replace H := Option.bind_eq_some_iff.mp H
   obtain ⟨⟨t627, t628⟩, A100, H⟩ := H
   replace H : ((laws_toInt64S.f k l1).bind fun t631 => ((spec_SumOfExpansion.f k t627 t628 t631).bind fun bt634 => ((laws_toMoments.f k a0_0 l0_1).bind fun bt638 => ((laws_toInt64S.f k l1).bind fun t643 => ((impl_SumOfExpansion.f k bt638.1 bt638.2 t643).bind fun bt646 => ((laws_eqInt64S.f k bt646.1 bt634.1).bind fun t650 => (if t650 = true then (laws_FnExactSumOfExpansion.j0 k l1 bt634.1 bt634.2 t643 bt646.1 bt646.2 (bt646.2 != bt634.2) a0_0 l0_1 bt638.1 bt638.2) else (laws_FnExactSumOfExpansion.j0 k l1 bt634.1 bt634.2 t643 bt646.1 bt646.2 true a0_0 l0_1 bt638.1 bt638.2)))))))) = some r := H
   have A10 := zA A100
   clear A100
   replace H := Option.bind_eq_some_iff.mp H
   obtain ⟨t631, A110, H⟩ := H
   replace H : ((spec_SumOfExpansion.f k t627 t628 t631).bind fun bt634 => ((laws_toMoments.f k a0_0 l0_1).bind fun bt638 => ((laws_toInt64S.f k l1).bind fun t643 => ((impl_SumOfExpansion.f k bt638.1 bt638.2 t643).bind fun bt646 => ((laws_eqInt64S.f k bt646.1 bt634.1).bind fun t650 => (if t650 = true then (laws_FnExactSumOfExpansion.j0 k l1 bt634.1 bt634.2 t643 bt646.1 bt646.2 (bt646.2 != bt634.2) a0_0 l0_1 bt638.1 bt638.2) else (laws_FnExactSumOfExpansion.j0 k l1 bt634.1 bt634.2 t643 bt646.1 bt646.2 true a0_0 l0_1 bt638.1 bt638.2))))))) = some r := H
   have A11 := zA A110
   clear A110
   replace H := Option.bind_eq_some_iff.mp H
   obtain ⟨⟨t634, t637⟩, A120, H⟩ := H
   replace H : ((laws_toMoments.f k a0_0 l0_1).bind fun bt638 => ((laws_toInt64S.f k l1).bind fun t643 => ((impl_SumOfExpansion.f k bt638.1 bt638.2 t643).bind fun bt646 => ((laws_eqInt64S.f k bt646.1 t634).bind fun t650 => (if t650 = true then (laws_FnExactSumOfExpansion.j0 k l1 t634 t637 t643 bt646.1 bt646.2 (bt646.2 != t637) a0_0 l0_1 bt638.1 bt638.2) else (laws_FnExactSumOfExpansion.j0 k l1 t634 t637 t643 bt646.1 bt646.2 true a0_0 l0_1 bt638.1 bt638.2)))))) = some r := H
   have A12 := zA A120
   clear A120
   replace H := Option.bind_eq_some_iff.mp H
   obtain ⟨⟨t638, t639⟩, A130, H⟩ := H
   replace H : ((laws_toInt64S.f k l1).bind fun t643 => ((impl_SumOfExpansion.f k t638 t639 t643).bind fun bt646 => ((laws_eqInt64S.f k bt646.1 t634).bind fun t650 => (if t650 = true then (laws_FnExactSumOfExpansion.j0 k l1 t634 t637 t643 bt646.1 bt646.2 (bt646.2 != t637) a0_0 l0_1 t638 t639) else (laws_FnExactSumOfExpansion.j0 k l1 t634 t637 t643 bt646.1 bt646.2 true a0_0 l0_1 t638 t639))))) = some r := H
   have A13 := zA A130
   clear A130
   replace H := Option.bind_eq_some_iff.mp H
   obtain ⟨t643, A140, H⟩ := H
   replace H : ((impl_SumOfExpansion.f k t638 t639 t643).bind fun bt646 => ((laws_eqInt64S.f k bt646.1 t634).bind fun t650 => (if t650 = true then (laws_FnExactSumOfExpansion.j0 k l1 t634 t637 t643 bt646.1 bt646.2 (bt646.2 != t637) a0_0 l0_1 t638 t639) else (laws_FnExactSumOfExpansion.j0 k l1 t634 t637 t643 bt646.1 bt646.2 true a0_0 l0_1 t638 t639)))) = some r := H
   have A14 := zA A140
   clear A140
   replace H := Option.bind_eq_some_iff.mp H
   obtain ⟨⟨t646, t649⟩, A150, H⟩ := H
   replace H : ((laws_eqInt64S.f k t646 t634).bind fun t650 => (if t650 = true then (laws_FnExactSumOfExpansion.j0 k l1 t634 t637 t643 t646 t649 (t649 != t637) a0_0 l0_1 t638 t639) else (laws_FnExactSumOfExpansion.j0 k l1 t634 t637 t643 t646 t649 true a0_0 l0_1 t638 t639))) = some r := H
   have A15 := zA A150
   clear A150
   have HC16 := zA H
   clear H
   go_enter Try.func9, Try.ntmps9
   go_upto_region 11 with (first | ((with_reducible refine gate_dst (N := 2) rfl ?_); refine bx 2 #[.int .i64 a0_0, .slice A0_1 l0_1.length c0_1] 34 ?_; intro gb625 hg w17 hbox hb; have BK625 := zA (hbox); have GW625 := gq HB hg; have GE625 := gq HB hg; replace HB := xH HB hb; have := geI GE625; clear hb hbox hg; have hcz18_0 := bc BK625 0; have hcz18_1 := bc BK625 1; have hfz18_0 := bf BK625 0; have hfz18_1 := bf BK625 1) | ((with_reducible refine gate_callee (f := 22) rfl ?_); refine gL (some 22) Try.func22 #[.agg #[.int .i64 a0_0, .slice A0_1 l0_1.length c0_1], .int .i64 1048576] ?_; (with_reducible refine (laws_szMoments.calls a0_0 _ _ l0_1 1048576 t626 _ ?side1 ?side2 A5.out).mono ?_); (case side1 => exact uC ((Kd.C_below HR0_1.out HB.out))); (case side2 => exact HC0_1.out); rintro e w19 ⟨rfl, hb⟩; refine ⟨_, rfl, ?_⟩; replace BK625 := xB BK625 hb; replace HB := xH HB hb; (try clear hb); (try clear hb2); (try clear hk); (try clear hi); have hcz20_0 := bc BK625 0; have hcz20_1 := bc BK625 1; have hfz20_0 := bf BK625 0; have hfz20_1 := bf BK625 1) | ((with_reducible refine gate_callee (f := 24) rfl ?_); refine gL (some 27) Try.func24 #[.agg #[.int .i64 a0_0, .slice A0_1 l0_1.length c0_1]] ?_; (with_reducible refine (laws_toMoments.calls k a0_0 _ _ l0_1 t627 t628 _ ?side1 ?side2 A10.out).mono ?_); (case side1 => exact uC ((Kd.C_below HR0_1.out HB.out))); (case side2 => exact HC0_1.out); rintro e w21 ⟨v629, rfl, ho0, hb⟩; refine ⟨_, rfl, ?_⟩; have HO630 := zA (Kd.R_lower ho0 (below_size (uH HB.out))); replace BK625 := xB BK625 hb; replace HB := xH HB hb; (try clear hb); (try clear hb2); (try clear hk); (try clear hi); (try clear ho0)) | ((with_reducible refine gate_callee (f := 25) rfl ?_); refine gL (some 29) Try.func25 #[.slice A1 l1.length c1] ?_; (with_reducible refine (laws_toInt64S.calls k _ _ l1 t631 _ ?side1 ?side2 A11.out).mono ?_); (case side1 => exact uC ((Kd.C_below HR1.out HB.out))); (case side2 => exact HC1.out); rintro e w22 ⟨v632, rfl, ho0, hb⟩; refine ⟨_, rfl, ?_⟩; have HO633 := zA (Kd.R_lower (Kd.R_new' ho0 (Kd.R_lt (uR HO630.out))) (below_size (uH HB.out))); replace HO630 := zA (Kd.R_elder' (uR HO630.out) (Kd.R_base ho0) hb); replace BK625 := xB BK625 hb; replace HB := xH HB hb; (try clear hb); (try clear hb2); (try clear hk); (try clear hi); (try clear ho0); obtain ⟨Ao23, co23, eo23⟩ := Kd.R_slice HO630.out; subst eo23; obtain ⟨Ao24, co24, eo24⟩ := Kd.R_slice HO633.out; subst eo24) | ((with_reducible refine gate_callee (f := 43) rfl ?_); refine gL (some 30) Try.func43 #[.agg #[.int .i64 t627, .slice Ao23 t628.length co23], .slice Ao24 t631.length co24] ?_; (with_reducible refine (spec_SumOfExpansion.calls k t627 _ _ t628 _ _ t631 t634 t637 _ ?side1 ?side2 ?side3 ?side4 A12.out).mono ?_); (case side1 => exact uC ((Kd.R_reads' HO630.out).2.2)); (case side2 => exact (Kd.R_reads' HO630.out).2.1); (case side3 => exact uC ((Kd.R_reads' HO633.out).2.2)); (case side4 => exact (Kd.R_reads' HO633.out).2.1); rintro e w25 ⟨v635, rfl, ho0, hb⟩; refine ⟨_, rfl, ?_⟩; have HO636 := zA (Kd.R_lower (Kd.R_new' (Kd.R_new' ho0 (Kd.R_lt (uR HO630.out))) (Kd.R_lt (uR HO633.out))) (below_size (uH HB.out))); replace HO630 := zA (Kd.R_elder' (uR HO630.out) (Kd.R_base ho0) hb); replace HO633 := zA (Kd.R_elder' (uR HO633.out) (Kd.R_base ho0) hb); replace BK625 := xB BK625 hb; replace HB := xH HB hb; (try clear hb); (try clear hb2); (try clear hk); (try clear hi); (try clear ho0); have hcz26_0 := bc BK625 0; have hcz26_1 := bc BK625 1; have hfz26_0 := bf BK625 0; have hfz26_1 := bf BK625 1) | ((with_reducible refine gate_callee (f := 24) rfl ?_); refine gL (some 34) Try.func24 #[.agg #[.int .i64 a0_0, .slice A0_1 l0_1.length c0_1]] ?_; (with_reducible refine (laws_toMoments.calls k a0_0 _ _ l0_1 t638 t639 _ ?side1 ?side2 A13.out).mono ?_); (case side1 => exact uC ((Kd.C_below HR0_1.out HB.out))); (case side2 => exact HC0_1.out); rintro e w27 ⟨v640, rfl, ho0, hb⟩; refine ⟨_, rfl, ?_⟩; have HO641 := zA (Kd.R_lower (Kd.R_new' (Kd.R_new' (Kd.R_new' ho0 (Kd.R_lt (uR HO630.out))) (Kd.R_lt (uR HO633.out))) (Kd.R_lt (uR HO636.out))) (below_size (uH HB.out))); replace HO630 := zA (Kd.R_elder' (uR HO630.out) (Kd.R_base ho0) hb); replace HO633 := zA (Kd.R_elder' (uR HO633.out) (Kd.R_base ho0) hb); replace HO636 := zA (Kd.R_elder' (uR HO636.out) (Kd.R_base ho0) hb); replace BK625 := xB BK625 hb; replace HB := xH HB hb; (try clear hb); (try clear hb2); (try clear hk); (try clear hi); (try clear ho0)) | ((with_reducible refine gate_dst (N := 8) rfl ?_); refine bx 8 #[.int .i64 0, .slice none 0 0] 40 ?_; intro gb642 hg w28 hbox hb; replace HO630 := xR HO630 hb; replace HO633 := xR HO633 hb; replace HO636 := xR HO636 hb; replace HO641 := xR HO641 hb; have BK642 := zA (hbox); have GW642 := gq HB hg; have GE642 := gq HB hg; replace HB := xH HB hb; have NB625_642 := zA ((by rw [hg]; exact neL BK625 : gb625 ≠ gb642)); have NB642_625 := zA ((by rw [hg]; exact neG BK625 : gb642 ≠ gb625)); replace BK625 := xB BK625 hb; have := geI GE642; clear hb hbox hg; have hnb29 := NB642_625.out; have hnc29 := NB625_642.out; have hcz30_0 := bc BK642 0; have hcz30_1 := bc BK642 1; have hfz30_0 := bf BK642 0; have hfz30_1 := bf BK642 1; obtain ⟨Ao31, co31, eo31⟩ := Kd.R_slice HO641.out; subst eo31) | ((with_reducible refine gate_callee (f := 25) rfl ?_); refine gL (some 36) Try.func25 #[.slice A1 l1.length c1] ?_; (with_reducible refine (laws_toInt64S.calls k _ _ l1 t643 _ ?side1 ?side2 A14.out).mono ?_); (case side1 => exact Kd.C_below HR1.out (uH HB.out)); (case side2 => exact HC1.out); rintro e w32 ⟨v644, rfl, ho0, hb⟩; refine ⟨_, rfl, ?_⟩; have HO645 := zA (Kd.R_lower (Kd.R_new' (Kd.R_new' (Kd.R_new' (Kd.R_new' ho0 (Kd.R_lt (uR ((rf2 HO630 BK642 (by decide) (.int .i64 t638) (.slice Ao31 t639.length co31)))))) (Kd.R_lt (uR ((rf2 HO633 BK642 (by decide) (.int .i64 t638) (.slice Ao31 t639.length co31)))))) (Kd.R_lt (uR ((rf2 HO636 BK642 (by decide) (.int .i64 t638) (.slice Ao31 t639.length co31)))))) (Kd.R_lt (uR ((rf2 HO641 BK642 (by decide) (.int .i64 t638) (.slice Ao31 t639.length co31)))))) (below_size (uH HB.out))); replace HO630 := zA (Kd.R_elder' (uR ((rf2 HO630 BK642 (by decide) (.int .i64 t638) (.slice Ao31 t639.length co31)))) (Kd.R_base ho0) hb); replace HO633 := zA (Kd.R_elder' (uR ((rf2 HO633 BK642 (by decide) (.int .i64 t638) (.slice Ao31 t639.length co31)))) (Kd.R_base ho0) hb); replace HO636 := zA (Kd.R_elder' (uR ((rf2 HO636 BK642 (by decide) (.int .i64 t638) (.slice Ao31 t639.length co31)))) (Kd.R_base ho0) hb); replace HO641 := zA (Kd.R_elder' (uR ((rf2 HO641 BK642 (by decide) (.int .i64 t638) (.slice Ao31 t639.length co31)))) (Kd.R_base ho0) hb); replace BK625 := zA (blk_below (g := gb625) (o := .cells #[.int .i64 a0_0, .slice A0_1 l0_1.length c0_1] 34 (0, 0)) (by (repeat refine up1 ?_); refine blk_far ?_ NB625_642.out _; (repeat refine up1 ?_); refine blk_far ?_ NB625_642.out _; (repeat refine up1 ?_); exact BK625.out) hb); replace BK642 := zA (blk_below (g := gb642) (o := .cells #[.int .i64 t638, .slice Ao31 t639.length co31] 40 (0, 0)) (by (repeat refine up1 ?_); refine blk_put (cs := #[.int .i64 t638, .slice none 0 0]) ?_ 1 _ rfl; (repeat refine up1 ?_); refine blk_put (cs := #[.int .i64 0, .slice none 0 0]) ?_ 0 _ rfl; (repeat refine up1 ?_); exact BK642.out) hb); replace HB := xH HB hb; (try clear hb); (try clear hb2); (try clear hk); (try clear hi); (try clear ho0); have hcz33_0 := bc BK642 0; have hcz33_1 := bc BK642 1; have hfz33_0 := bf BK642 0; have hfz33_1 := bf BK642 1; obtain ⟨Ao34, co34, eo34⟩ := Kd.R_slice HO645.out; subst eo34) | ((with_reducible refine gate_callee (f := 44) rfl ?_); refine gL (some 40) Try.func44 #[.agg #[.int .i64 t638, .slice Ao31 t639.length co31], .slice Ao34 t643.length co34] ?_; (with_reducible refine (impl_SumOfExpansion.calls k t638 _ _ t639 _ _ t643 t646 t649 _ ?side1 ?side2 ?side3 ?side4 A15.out).mono ?_); (case side1 => exact uC ((Kd.R_reads' HO641.out).2.2)); (case side2 => exact (Kd.R_reads' HO641.out).2.1); (case side3 => exact uC ((Kd.R_reads' HO645.out).2.2)); (case side4 => exact (Kd.R_reads' HO645.out).2.1); rintro e w35 ⟨v647, rfl, ho0, hb⟩; refine ⟨_, rfl, ?_⟩; have HO648 := zA (Kd.R_lower (Kd.R_new' (Kd.R_new' (Kd.R_new' (Kd.R_new' (Kd.R_new' ho0 (Kd.R_lt (uR HO630.out))) (Kd.R_lt (uR HO633.out))) (Kd.R_lt (uR HO636.out))) (Kd.R_lt (uR HO641.out))) (Kd.R_lt (uR HO645.out))) (below_size (uH HB.out))); replace HO630 := zA (Kd.R_elder' (uR HO630.out) (Kd.R_base ho0) hb); replace HO633 := zA (Kd.R_elder' (uR HO633.out) (Kd.R_base ho0) hb); replace HO636 := zA (Kd.R_elder' (uR HO636.out) (Kd.R_base ho0) hb); replace HO641 := zA (Kd.R_elder' (uR HO641.out) (Kd.R_base ho0) hb); replace HO645 := zA (Kd.R_elder' (uR HO645.out) (Kd.R_base ho0) hb); replace BK625 := xB BK625 hb; replace BK642 := xB BK642 hb; replace HB := xH HB hb; (try clear hb); (try clear hb2); (try clear hk); (try clear hi); (try clear ho0)))
   (try simp only [Act.put, ls, lz, ln])
   go_cut [51] (fun v51 wc => ∃ (kq : Nat) (x51_15 : Bool), v51 = .bool x51_15 ∧ Aside0 (laws_FnExactSumOfExpansion.j0 kq l1 t634 t637 t643 t646 t649 x51_15 a0_0 l0_1 t638 t639 = some r) ∧ Aside0 (kq ≤ k) ∧ Aside0 (Kd.R (Kd.int .i64) 2 wc w.heap.size (fun k_ => ax k_ (.slice Ao34 t643.length co34) ∧ some k_ ≠ (v647 : Value).ownBlock ∧ ax k_ (.slice Ao31 t639.length co31)) v635 t634) ∧ Aside0 (Kd.R (Kd.int .i64) 2 wc w.heap.size (fun k_ => some k_ ≠ (v635 : Value).ownBlock ∧ some k_ ≠ (v647 : Value).ownBlock ∧ ax k_ (.slice Ao31 t639.length co31)) (.slice Ao34 t643.length co34) t643) ∧ Aside0 (Kd.R (Kd.int .i64) 2 wc w.heap.size (fun k_ => some k_ ≠ (v635 : Value).ownBlock ∧ ax k_ (.slice Ao34 t643.length co34) ∧ ax k_ (.slice Ao31 t639.length co31)) v647 t646) ∧ Aside0 (Kd.R (Kd.int .i64) 2 wc w.heap.size (fun k_ => some k_ ≠ (v635 : Value).ownBlock ∧ ax k_ (.slice Ao34 t643.length co34) ∧ some k_ ≠ (v647 : Value).ownBlock) (.slice Ao31 t639.length co31) t639) ∧ Aside0 (wc.heap[gb625]? = some (.cells #[.int .i64 a0_0, (.slice A0_1 l0_1.length c0_1)] 34 (0, 0))) ∧ Aside0 (wc.heap[gb642]? = some (.cells #[.int .i64 t638, (.slice Ao31 t639.length co31)] 40 (0, 0))) ∧ Aside0 (Below w.heap.size w wc))
   case first =>
    have H := HC16.out
    clear HC16
    replace H := Option.bind_eq_some_iff.mp H
    obtain ⟨t650, A360, H⟩ := H
    replace H : (if t650 = true then (laws_FnExactSumOfExpansion.j0 k l1 t634 t637 t643 t646 t649 (t649 != t637) a0_0 l0_1 t638 t639) else (laws_FnExactSumOfExpansion.j0 k l1 t634 t637 t643 t646 t649 true a0_0 l0_1 t638 t639)) = some r := H
    have A36 := zA A360
    clear A360
    by_cases c37 : t650 = true
    ·subst c37
     have H1 : (laws_FnExactSumOfExpansion.j0 k l1 t634 t637 t643 t646 t649 (t649 != t637) a0_0 l0_1 t638 t639) = some r := by rw [if_pos rfl] at H; exact H
     clear H
     have H := H1
     clear H1
     have H' := zA H
     clear H
     obtain ⟨Ao38, co38, eo38⟩ := Kd.R_slice HO648.out
     subst eo38
     obtain ⟨Ao39, co39, eo39⟩ := Kd.R_slice HO636.out
     subst eo39
     go_wp2_with (first | ((with_reducible refine gate_callee (f := 29) rfl ?_); refine gL (some 45) Try.func29 #[.slice Ao38 t646.length co38, .slice Ao39 t634.length co39] ?_; (with_reducible refine (laws_eqInt64S.calls k _ _ t646 _ _ t634 true _ ?side1 ?side2 ?side3 ?side4 A36.out).mono ?_); (case side1 => exact uC ((Kd.R_reads' HO648.out).2.2)); (case side2 => exact (Kd.R_reads' HO648.out).2.1); (case side3 => exact uC ((Kd.R_reads' HO636.out).2.2)); (case side4 => exact (Kd.R_reads' HO636.out).2.1); rintro e w' ⟨rfl, ⟨nd, rfl⟩⟩; refine ⟨_, rfl, ?_⟩))
     go_meet
     case rel => exact ⟨_, ((t649 != t637)), (by first | rfl | (simp; done) | (simp [*]; done)), H', ⟨by first | omega | exact Nat.le_refl _⟩, ⟨uR (Kd.R_mono HO636.out (fun _ hk => ⟨hk.1.2, ⟨hk.2, hk.1.1.2⟩⟩))⟩, ⟨uR (Kd.R_mono HO645.out (fun _ hk => ⟨hk.1.1.2, ⟨hk.2, hk.1.2⟩⟩))⟩, ⟨uR (Kd.R_mono HO648.out (fun _ hk => ⟨hk.1.1.2, ⟨hk.2, hk.1.2⟩⟩))⟩, ⟨uR (Kd.R_mono HO641.out (fun _ hk => ⟨hk.1.1.2, ⟨hk.1.2, hk.2⟩⟩))⟩, ⟨uB BK625.out⟩, ⟨uB BK642.out⟩, ⟨uH HB.out⟩⟩
    ·replace c37 := Bool.eq_false_iff.mpr c37
     subst c37
     have H1 : (laws_FnExactSumOfExpansion.j0 k l1 t634 t637 t643 t646 t649 true a0_0 l0_1 t638 t639) = some r := by rw [if_neg (show ¬ (false = true) by decide)] at H; exact H
     clear H
     have H := H1
     clear H1
     have H' := zA H
     clear H
     obtain ⟨Ao40, co40, eo40⟩ := Kd.R_slice HO648.out
     subst eo40
     obtain ⟨Ao41, co41, eo41⟩ := Kd.R_slice HO636.out
     subst eo41
     go_wp2_with (first | ((with_reducible refine gate_callee (f := 29) rfl ?_); refine gL (some 45) Try.func29 #[.slice Ao40 t646.length co40, .slice Ao41 t634.length co41] ?_; (with_reducible refine (laws_eqInt64S.calls k _ _ t646 _ _ t634 false _ ?side1 ?side2 ?side3 ?side4 A36.out).mono ?_); (case side1 => exact uC ((Kd.R_reads' HO648.out).2.2)); (case side2 => exact (Kd.R_reads' HO648.out).2.1); (case side3 => exact uC ((Kd.R_reads' HO636.out).2.2)); (case side4 => exact (Kd.R_reads' HO636.out).2.1); rintro e w' ⟨rfl, ⟨nd, rfl⟩⟩; refine ⟨_, rfl, ?_⟩))
     go_meet
     case rel => exact ⟨_, (true), (by first | rfl | (simp; done) | (simp [*]; done)), H', ⟨by first | omega | exact Nat.le_refl _⟩, ⟨uR (Kd.R_mono HO636.out (fun _ hk => ⟨hk.1.2, ⟨hk.2, hk.1.1.2⟩⟩))⟩, ⟨uR (Kd.R_mono HO645.out (fun _ hk => ⟨hk.1.1.2, ⟨hk.2, hk.1.2⟩⟩))⟩, ⟨uR (Kd.R_mono HO648.out (fun _ hk => ⟨hk.1.1.2, ⟨hk.2, hk.1.2⟩⟩))⟩, ⟨uR (Kd.R_mono HO641.out (fun _ hk => ⟨hk.1.1.2, ⟨hk.1.2, hk.2⟩⟩))⟩, ⟨uB BK625.out⟩, ⟨uB BK642.out⟩, ⟨uH HB.out⟩⟩
   case rest =>
    clear HC16
    (try clear c1);(try clear c2);(try clear p2);(try clear c3);(try clear c3b0);(try clear c3b1);(try clear c4);(try clear c6);(try clear c6b0);(try clear c9);(try clear c22);(try clear c24);(try clear c25);(try clear c29);(try clear c37);(try clear hcz18_0);(try clear hcz18_1);(try clear hcz20_0);(try clear hcz20_1);(try clear hcz26_0);(try clear hcz26_1);(try clear hcz30_0);(try clear hcz30_1);(try clear hcz33_0)
    (try clear hcz33_1);(try clear hcz8_0);(try clear hcz8_1);(try clear hfz18_0);(try clear hfz18_1);(try clear hfz20_0);(try clear hfz20_1);(try clear hfz26_0);(try clear hfz26_1);(try clear hfz30_0);(try clear hfz30_1);(try clear hfz33_0);(try clear hfz33_1);(try clear hfz8_0);(try clear hfz8_1)
    obtain ⟨kq, x51_15, rfl, HA, HJ15, HO_6, HO_9, HO_10, HO_643001, BK625, BK642, HB⟩ := hcut
    cases kq with
    | zero => exact absurd HA.out (by simp [laws_FnExactSumOfExpansion.j0])
    | succ kj15 =>
     have H := HA.out
     clear HA
     simp only [laws_FnExactSumOfExpansion.j0] at H
     by_cases c42 : x51_15 = true
     ·subst c42
      have H1 : (some false) = some r := by rw [if_pos rfl] at H; exact H
      clear H
      have H := H1
      clear H1
      rw [HRT.out] at H
      exact absurd H (by simp)
     ·replace c42 := Bool.eq_false_iff.mpr c42
      subst c42
      have H1 : ((laws_toMoments.f kj15 a0_0 l0_1).bind fun bt651 => ((laws_eqMoments.f kj15 t638 t639 bt651.1 bt651.2).bind fun t655 => (if t655 = true then ((laws_toInt64S.f kj15 l1).bind fun t656 => ((laws_eqInt64S.f kj15 t643 t656).bind fun t659 => (if t659 = true then ((laws_markMoments.f kj15 t638 t639 1).bind fun bt660 => ((laws_markInt64S.f kj15 t643 bt660.1).bind fun bt662 => (if bt662.1 < 0 then (laws_FnExactSumOfExpansion.j1 kj15 l1 t634 t637 t646 true a0_0 l0_1) else ((laws_eqInt64S.f kj15 t646 t634).bind fun t664 => (if t664 = true then (laws_FnExactSumOfExpansion.j1 kj15 l1 t634 t637 t646 (t649 != t637) a0_0 l0_1) else (laws_FnExactSumOfExpansion.j1 kj15 l1 t634 t637 t646 true a0_0 l0_1)))))) else (some false)))) else (some false)))) = some r := by rw [if_neg (show ¬ (false = true) by decide)] at H; exact H
      clear H
      have H := H1
      clear H1
      replace H := Option.bind_eq_some_iff.mp H
      obtain ⟨⟨t651, t652⟩, A430, H⟩ := H
      replace H : ((laws_eqMoments.f kj15 t638 t639 t651 t652).bind fun t655 => (if t655 = true then ((laws_toInt64S.f kj15 l1).bind fun t656 => ((laws_eqInt64S.f kj15 t643 t656).bind fun t659 => (if t659 = true then ((laws_markMoments.f kj15 t638 t639 1).bind fun bt660 => ((laws_markInt64S.f kj15 t643 bt660.1).bind fun bt662 => (if bt662.1 < 0 then (laws_FnExactSumOfExpansion.j1 kj15 l1 t634 t637 t646 true a0_0 l0_1) else ((laws_eqInt64S.f kj15 t646 t634).bind fun t664 => (if t664 = true then (laws_FnExactSumOfExpansion.j1 kj15 l1 t634 t637 t646 (t649 != t637) a0_0 l0_1) else (laws_FnExactSumOfExpansion.j1 kj15 l1 t634 t637 t646 true a0_0 l0_1)))))) else (some false)))) else (some false))) = some r := H
      have A43 := zA A430
      clear A430
      replace H := Option.bind_eq_some_iff.mp H
      obtain ⟨t655, A440, H⟩ := H
      replace H : (if t655 = true then ((laws_toInt64S.f kj15 l1).bind fun t656 => ((laws_eqInt64S.f kj15 t643 t656).bind fun t659 => (if t659 = true then ((laws_markMoments.f kj15 t638 t639 1).bind fun bt660 => ((laws_markInt64S.f kj15 t643 bt660.1).bind fun bt662 => (if bt662.1 < 0 then (laws_FnExactSumOfExpansion.j1 kj15 l1 t634 t637 t646 true a0_0 l0_1) else ((laws_eqInt64S.f kj15 t646 t634).bind fun t664 => (if t664 = true then (laws_FnExactSumOfExpansion.j1 kj15 l1 t634 t637 t646 (t649 != t637) a0_0 l0_1) else (laws_FnExactSumOfExpansion.j1 kj15 l1 t634 t637 t646 true a0_0 l0_1)))))) else (some false)))) else (some false)) = some r := H
      have A44 := zA A440
      clear A440
      by_cases c45 : t655 = true
      ·subst c45
       have H1 : ((laws_toInt64S.f kj15 l1).bind fun t656 => ((laws_eqInt64S.f kj15 t643 t656).bind fun t659 => (if t659 = true then ((laws_markMoments.f kj15 t638 t639 1).bind fun bt660 => ((laws_markInt64S.f kj15 t643 bt660.1).bind fun bt662 => (if bt662.1 < 0 then (laws_FnExactSumOfExpansion.j1 kj15 l1 t634 t637 t646 true a0_0 l0_1) else ((laws_eqInt64S.f kj15 t646 t634).bind fun t664 => (if t664 = true then (laws_FnExactSumOfExpansion.j1 kj15 l1 t634 t637 t646 (t649 != t637) a0_0 l0_1) else (laws_FnExactSumOfExpansion.j1 kj15 l1 t634 t637 t646 true a0_0 l0_1)))))) else (some false)))) = some r := by rw [if_pos rfl] at H; exact H
       clear H
       have H := H1
       clear H1
       replace H := Option.bind_eq_some_iff.mp H
       obtain ⟨t656, A460, H⟩ := H
       replace H : ((laws_eqInt64S.f kj15 t643 t656).bind fun t659 => (if t659 = true then ((laws_markMoments.f kj15 t638 t639 1).bind fun bt660 => ((laws_markInt64S.f kj15 t643 bt660.1).bind fun bt662 => (if bt662.1 < 0 then (laws_FnExactSumOfExpansion.j1 kj15 l1 t634 t637 t646 true a0_0 l0_1) else ((laws_eqInt64S.f kj15 t646 t634).bind fun t664 => (if t664 = true then (laws_FnExactSumOfExpansion.j1 kj15 l1 t634 t637 t646 (t649 != t637) a0_0 l0_1) else (laws_FnExactSumOfExpansion.j1 kj15 l1 t634 t637 t646 true a0_0 l0_1)))))) else (some false))) = some r := H
       have A46 := zA A460
       clear A460
       replace H := Option.bind_eq_some_iff.mp H
       obtain ⟨t659, A470, H⟩ := H
       replace H : (if t659 = true then ((laws_markMoments.f kj15 t638 t639 1).bind fun bt660 => ((laws_markInt64S.f kj15 t643 bt660.1).bind fun bt662 => (if bt662.1 < 0 then (laws_FnExactSumOfExpansion.j1 kj15 l1 t634 t637 t646 true a0_0 l0_1) else ((laws_eqInt64S.f kj15 t646 t634).bind fun t664 => (if t664 = true then (laws_FnExactSumOfExpansion.j1 kj15 l1 t634 t637 t646 (t649 != t637) a0_0 l0_1) else (laws_FnExactSumOfExpansion.j1 kj15 l1 t634 t637 t646 true a0_0 l0_1)))))) else (some false)) = some r := H
       have A47 := zA A470
       clear A470
       by_cases c48 : t659 = true
       ·subst c48
        have H1 : ((laws_markMoments.f kj15 t638 t639 1).bind fun bt660 => ((laws_markInt64S.f kj15 t643 bt660.1).bind fun bt662 => (if bt662.1 < 0 then (laws_FnExactSumOfExpansion.j1 kj15 l1 t634 t637 t646 true a0_0 l0_1) else ((laws_eqInt64S.f kj15 t646 t634).bind fun t664 => (if t664 = true then (laws_FnExactSumOfExpansion.j1 kj15 l1 t634 t637 t646 (t649 != t637) a0_0 l0_1) else (laws_FnExactSumOfExpansion.j1 kj15 l1 t634 t637 t646 true a0_0 l0_1)))))) = some r := by rw [if_pos rfl] at H; exact H
        clear H
        have H := H1
        clear H1
        replace H := Option.bind_eq_some_iff.mp H
        obtain ⟨⟨t660, t661⟩, A490, H⟩ := H
        replace H : ((laws_markInt64S.f kj15 t643 t660).bind fun bt662 => (if bt662.1 < 0 then (laws_FnExactSumOfExpansion.j1 kj15 l1 t634 t637 t646 true a0_0 l0_1) else ((laws_eqInt64S.f kj15 t646 t634).bind fun t664 => (if t664 = true then (laws_FnExactSumOfExpansion.j1 kj15 l1 t634 t637 t646 (t649 != t637) a0_0 l0_1) else (laws_FnExactSumOfExpansion.j1 kj15 l1 t634 t637 t646 true a0_0 l0_1))))) = some r := H
        have A49 := zA A490
        clear A490
        replace H := Option.bind_eq_some_iff.mp H
        obtain ⟨⟨t662, t663⟩, A500, H⟩ := H
        replace H : (if t662 < 0 then (laws_FnExactSumOfExpansion.j1 kj15 l1 t634 t637 t646 true a0_0 l0_1) else ((laws_eqInt64S.f kj15 t646 t634).bind fun t664 => (if t664 = true then (laws_FnExactSumOfExpansion.j1 kj15 l1 t634 t637 t646 (t649 != t637) a0_0 l0_1) else (laws_FnExactSumOfExpansion.j1 kj15 l1 t634 t637 t646 true a0_0 l0_1)))) = some r := H
        have A50 := zA A500
        clear A500
        have HC51 := zA H
        clear H
        try go_wp2
        replace HO_6 := zA (Kd.R_drew HO_6.out)
        replace HO_9 := zA (Kd.R_drew HO_9.out)
        replace HO_10 := zA (Kd.R_drew HO_10.out)
        replace HO_643001 := zA (Kd.R_drew HO_643001.out)
        replace BK625 := zA (blk_drew BK625.out)
        replace BK642 := zA (blk_drew BK642.out)
        replace HB := zA (below_drew1 HB.out)
        refine start_ (n := 5) (S := fun w' => w'.cell? ⟨gb642, 0, none⟩ = some (.int .i64 t638) ∧ w'.cell? ⟨gb642, 1, none⟩ = some (.slice Ao31 t639.length co31) ∧ w'.cell? ⟨gb625, 0, none⟩ = some (.int .i64 a0_0) ∧ w'.cell? ⟨gb625, 1, none⟩ = some (.slice A0_1 l0_1.length c0_1)) (ds := []) #[false, false, false, false, false] (by kernel_rfl) rfl rfl ⟨bcu BK642 0, bcu BK642 1, bcu BK625 0, bcu BK625 1⟩ (fun hHeld => ?_)
        generalize wc.drew = w52 at HO_6 HO_9 HO_10 HO_643001 BK625 BK642 HB hHeld ⊢
        refine take_ (i := 0) (N := some 52) (v := ?_) (a' := ?_) (bl 5 1) rfl rfl (by kernel_rfl) (fun _ _ _ h => h) (Or.inl ⟨by rfl, ?_⟩) hHeld ?_ ?_
        rotate_left
        ·rintro w' ⟨s0, s1, s2, s3⟩
         go_simp
         with_reducible rfl
        rotate_left
        ·simp only [Act.put, ls, lz, ln, i64_w, i32_w]
         rfl
        refine take_ (i := 1) (N := some 53) (v := ?_) (a' := ?_) (bl 5 3) rfl rfl (by kernel_rfl) (fun _ _ _ h => h) (Or.inl ⟨by rfl, ?_⟩) hHeld ?_ ?_
        rotate_left
        ·rintro w' ⟨s0, s1, s2, s3⟩
         go_simp
         with_reducible rfl
        rotate_left
        ·simp only [Act.put, ls, lz, ln, i64_w, i32_w]
         rfl
        refine one_ (i := 2) (N := some 54) (bl 5 7) rfl rfl (by kernel_rfl) (by decide) (fun K hK => ?_)
        refine gS Try.func24 #[.agg #[.int .i64 a0_0, .slice A0_1 l0_1.length c0_1]] ?_
        with_reducible refine (laws_toMoments.calls kj15 a0_0 _ _ l0_1 t651 t652 _ ?side1 ?side2 A43.out).mono ?_
        (case side1 => exact uC ((Kd.C_below HR0_1.out HB.out)))
        (case side2 => exact HC0_1.out)
        rintro e w53 ⟨v653, rfl, ho0, hb⟩
        refine ⟨_, rfl, ?_⟩
        have HO654 := zA (Kd.R_lower (Kd.R_new' (Kd.R_new' (Kd.R_new' (Kd.R_new' ho0 (Kd.R_lt (uR HO_6.out))) (Kd.R_lt (uR HO_9.out))) (Kd.R_lt (uR HO_10.out))) (Kd.R_lt (uR HO_643001.out))) (below_size (uH HB.out)))
        replace HO_6 := zA (Kd.R_elder' (uR HO_6.out) (Kd.R_base ho0) hb)
        replace HO_9 := zA (Kd.R_elder' (uR HO_9.out) (Kd.R_base ho0) hb)
        replace HO_10 := zA (Kd.R_elder' (uR HO_10.out) (Kd.R_base ho0) hb)
        replace HO_643001 := zA (Kd.R_elder' (uR HO_643001.out) (Kd.R_base ho0) hb)
        replace BK625 := xB BK625 hb
        replace BK642 := xB BK642 hb
        replace HB := xH HB hb
        (try clear hb); (try clear hb2); (try clear hk); (try clear hi); (try clear ho0)
        obtain ⟨Ao54, co54, eo54⟩ := Kd.R_slice HO654.out
        (first | subst eo54 | (injection eo54 with f1_ f2_ f3_; have f4_ := f1_.symm; have f5_ := f3_.symm; clear f1_ f2_ f3_; subst f4_; subst f5_))
        refine hK.out _ _ ⟨bcu BK642 0, bcu BK642 1, bcu BK625 0, bcu BK625 1⟩ (fun hHeld => ?_)
        clear hK K
        refine no_ 54 ?_
        refine one_ (i := 3) (N := some 55) (bl 5 15) rfl rfl (by kernel_rfl) (by decide) (fun K hK => ?_)
        refine gS Try.func28 #[.agg #[.int .i64 t638, .slice Ao31 t639.length co31], .agg #[.int .i64 t651, .slice Ao54 t652.length co54]] ?_
        with_reducible refine (laws_eqMoments.calls kj15 t638 _ _ t639 t651 _ _ t652 true _ ?side1 ?side2 ?side3 ?side4 A44.out).mono ?_
        (case side1 => exact uC ((Kd.R_reads' HO_643001.out).2.2))
        (case side2 => exact (Kd.R_reads' HO_643001.out).2.1)
        (case side3 => exact uC ((Kd.R_reads' HO654.out).2.2))
        (case side4 => exact (Kd.R_reads' HO654.out).2.1)
        rintro e w55 ⟨rfl, hb⟩
        refine ⟨_, rfl, ?_⟩
        replace HO_6 := xR HO_6 hb
        replace HO_9 := xR HO_9 hb
        replace HO_10 := xR HO_10 hb
        replace HO_643001 := xR HO_643001 hb
        replace HO654 := xR HO654 hb
        replace BK625 := xB BK625 hb
        replace BK642 := xB BK642 hb
        replace HB := xH HB hb
        (try clear hb); (try clear hb2); (try clear hk); (try clear hi)
        refine hK.out _ _ ⟨bcu BK642 0, bcu BK642 1, bcu BK625 0, bcu BK625 1⟩ (fun hHeld => ?_)
        clear hK K
        refine no_ 55 ?_
        refine pure_ (i := 4) (N := some 56) (v := ?_) (a' := ?_) (bl 5 31) rfl rfl (by kernel_rfl) (fun _ _ _ h => h) (Or.inl ⟨by rfl, ?_⟩) ?_ ?_
        rotate_left
        ·intro w'
         go_simp
         with_reducible rfl
        rotate_left
        ·simp only [Act.put, ls, lz, ln, i64_w, i32_w]
         rfl
        refine done_ (by kernel_rfl) ?_
        go_upto_region 20 with (first | ((with_reducible refine gate_callee (f := 25) rfl ?_); refine gL (some 59) Try.func25 #[.slice A1 l1.length c1] ?_; (with_reducible refine (laws_toInt64S.calls kj15 _ _ l1 t656 _ ?side1 ?side2 A46.out).mono ?_); (case side1 => exact uC ((Kd.C_below HR1.out HB.out))); (case side2 => exact HC1.out); rintro e w56 ⟨v657, rfl, ho0, hb⟩; refine ⟨_, rfl, ?_⟩; have HO658 := zA (Kd.R_lower (Kd.R_new' (Kd.R_new' (Kd.R_new' (Kd.R_new' (Kd.R_new' ho0 (Kd.R_lt (uR HO_6.out))) (Kd.R_lt (uR HO_9.out))) (Kd.R_lt (uR HO_10.out))) (Kd.R_lt (uR HO_643001.out))) (Kd.R_lt (uR HO654.out))) (below_size (uH HB.out))); replace HO_6 := zA (Kd.R_elder' (uR HO_6.out) (Kd.R_base ho0) hb); replace HO_9 := zA (Kd.R_elder' (uR HO_9.out) (Kd.R_base ho0) hb); replace HO_10 := zA (Kd.R_elder' (uR HO_10.out) (Kd.R_base ho0) hb); replace HO_643001 := zA (Kd.R_elder' (uR HO_643001.out) (Kd.R_base ho0) hb); replace HO654 := zA (Kd.R_elder' (uR HO654.out) (Kd.R_base ho0) hb); replace BK625 := xB BK625 hb; replace BK642 := xB BK642 hb; replace HB := xH HB hb; (try clear hb); (try clear hb2); (try clear hk); (try clear hi); (try clear ho0); obtain ⟨Ao57, co57, eo57⟩ := Kd.R_slice HO658.out; subst eo57) | ((with_reducible refine gate_callee (f := 29) rfl ?_); refine gL (some 60) Try.func29 #[.slice Ao34 t643.length co34, .slice Ao57 t656.length co57] ?_; (with_reducible refine (laws_eqInt64S.calls kj15 _ _ t643 _ _ t656 true _ ?side1 ?side2 ?side3 ?side4 A47.out).mono ?_); (case side1 => exact uC ((Kd.R_reads' HO_9.out).2.2)); (case side2 => exact (Kd.R_reads' HO_9.out).2.1); (case side3 => exact uC ((Kd.R_reads' HO658.out).2.2)); (case side4 => exact (Kd.R_reads' HO658.out).2.1); rintro e w' ⟨rfl, ⟨nd, rfl⟩⟩; refine ⟨_, rfl, ?_⟩; have hnb58 := NB642_625.out; have hnc58 := NB625_642.out; have hcz59_0 := bc BK642 0; have hcz59_1 := bc BK642 1; have hfz59_0 := bf BK642 0; have hfz59_1 := bf BK642 1) | ((with_reducible refine gate_callee (f := 30) rfl ?_); refine gL (some 64) Try.func30 #[.agg #[.int .i64 t638, .slice Ao31 t639.length co31], .int .i64 1] ?_; (with_reducible refine (laws_markMoments.calls kj15 t638 (fun k_ => some k_ = (.slice Ao31 t639.length co31 : Value).ownBlock) (.slice Ao31 t639.length co31) t639 1 t660 t661 w _ ?side1 ?side2 A49.out).mono ?_); (case side1 => repeat (first | (with_reducible first | exact HB.out | apply below_alloc | apply pw_below_drewN | apply below_drew1 | refine below_set ?_ GE625.out | refine below_set ?_ GE642.out) | exact HB.out)); (case side2 => exact Kd.R_tight rfl HO_643001.out); rintro e w60 ⟨rfl, hy0, hb, hkp⟩; refine ⟨_, rfl, ?_⟩; replace HO_6 := zA (Kd.R_mono (ok' := fun k_ => ax k_ (.slice Ao34 t643.length co34) ∧ some k_ ≠ (v647 : Value).ownBlock ∧ ax k_ (.slice Ao31 t639.length co31) ∧ ax k_ (.slice Ao54 t652.length co54) ∧ ax k_ (.slice Ao57 t656.length co57)) (Kd.R_keptB (HO_6.out) hkp (fun k_ hk_ hs_ => (hk_.1.1.2.2) hs_)) (fun k_ hk_ => ⟨hk_.1.1.1.1, hk_.1.1.1.2.1, hk_.1.1.1.2.2, hk_.1.1.2, hk_.1.2⟩)); replace HO_9 := zA (Kd.R_mono (ok' := fun k_ => some k_ ≠ (v635 : Value).ownBlock ∧ some k_ ≠ (v647 : Value).ownBlock ∧ ax k_ (.slice Ao31 t639.length co31) ∧ ax k_ (.slice Ao54 t652.length co54) ∧ ax k_ (.slice Ao57 t656.length co57)) (Kd.R_keptB (HO_9.out) hkp (fun k_ hk_ hs_ => (hk_.1.1.2.2) hs_)) (fun k_ hk_ => ⟨hk_.1.1.1.1, hk_.1.1.1.2.1, hk_.1.1.1.2.2, hk_.1.1.2, hk_.1.2⟩)); replace HO_10 := zA (Kd.R_mono (ok' := fun k_ => some k_ ≠ (v635 : Value).ownBlock ∧ ax k_ (.slice Ao34 t643.length co34) ∧ ax k_ (.slice Ao31 t639.length co31) ∧ ax k_ (.slice Ao54 t652.length co54) ∧ ax k_ (.slice Ao57 t656.length co57)) (Kd.R_keptB (HO_10.out) hkp (fun k_ hk_ hs_ => (hk_.1.1.2.2) hs_)) (fun k_ hk_ => ⟨hk_.1.1.1.1, hk_.1.1.1.2.1, hk_.1.1.1.2.2, hk_.1.1.2, hk_.1.2⟩)); replace BK625 := zA (blk_kept (uB BK625.out) hkp (fun hs_ => (fun e_ => (Kd.R_ne HO_643001.out BK625.out (by decide)) e_) hs_)); replace BK642 := zA (blk_kept (uB BK642.out) hkp (fun hs_ => (fun e_ => (Kd.R_ne HO_643001.out BK642.out (by decide)) e_) hs_)); replace HO_643001 := zA (Kd.R_reok rfl hy0 (fun k_ e_ => HO_643001.out.1 k_ e_)); replace HO654 := zA (Kd.R_mono (ok' := fun k_ => some k_ ≠ (v635 : Value).ownBlock ∧ ax k_ (.slice Ao34 t643.length co34) ∧ some k_ ≠ (v647 : Value).ownBlock ∧ ax k_ (.slice Ao31 t639.length co31) ∧ ax k_ (.slice Ao57 t656.length co57)) (Kd.R_keptB (HO654.out) hkp (fun k_ hk_ hs_ => (hk_.1.2) hs_)) (fun k_ hk_ => ⟨hk_.1.1.1.1.1.2, hk_.1.1.1.1.2, hk_.1.1.1.2, hk_.1.1.2, hk_.1.2⟩)); replace HO658 := zA (Kd.R_mono (ok' := fun k_ => some k_ ≠ (v635 : Value).ownBlock ∧ ax k_ (.slice Ao34 t643.length co34) ∧ some k_ ≠ (v647 : Value).ownBlock ∧ ax k_ (.slice Ao31 t639.length co31) ∧ ax k_ (.slice Ao54 t652.length co54)) (Kd.R_keptB (HO658.out) hkp (fun k_ hk_ hs_ => (hk_.1.2) hs_)) (fun k_ hk_ => ⟨hk_.1.1.1.1.1.2, hk_.1.1.1.1.2, hk_.1.1.1.2, hk_.1.1.2, hk_.1.2⟩)); replace HB := zA (hb); (try clear hb); (try clear hkp); (try clear hy0)) | ((with_reducible refine gate_callee (f := 31) rfl ?_); refine gL (some 67) Try.func31 #[.slice Ao34 t643.length co34, .int .i64 t660] ?_; (with_reducible refine (laws_markInt64S.calls kj15 (fun k_ => some k_ = (.slice Ao34 t643.length co34 : Value).ownBlock) (.slice Ao34 t643.length co34) t643 t660 t662 t663 w _ ?side1 ?side2 A50.out).mono ?_); (case side1 => repeat (first | (with_reducible first | exact HB.out | apply below_alloc | apply pw_below_drewN | apply below_drew1 | refine below_set ?_ GE625.out | refine below_set ?_ GE642.out) | exact HB.out)); (case side2 => exact Kd.R_tight rfl HO_9.out); rintro e w61 ⟨rfl, hy0, hb, hkp⟩; refine ⟨_, rfl, ?_⟩; replace HO_6 := zA (Kd.R_mono (ok' := fun k_ => ax k_ (.slice Ao34 t643.length co34) ∧ some k_ ≠ (v647 : Value).ownBlock ∧ ax k_ (.slice Ao31 t639.length co31) ∧ ax k_ (.slice Ao54 t652.length co54) ∧ ax k_ (.slice Ao57 t656.length co57)) (Kd.R_keptB (HO_6.out) hkp (fun k_ hk_ hs_ => (hk_.1) hs_)) (fun k_ hk_ => ⟨hk_.1.1, hk_.1.2.1, hk_.1.2.2.1, hk_.1.2.2.2.1, hk_.1.2.2.2.2⟩)); replace HO_10 := zA (Kd.R_mono (ok' := fun k_ => some k_ ≠ (v635 : Value).ownBlock ∧ ax k_ (.slice Ao34 t643.length co34) ∧ ax k_ (.slice Ao31 t639.length co31) ∧ ax k_ (.slice Ao54 t652.length co54) ∧ ax k_ (.slice Ao57 t656.length co57)) (Kd.R_keptB (HO_10.out) hkp (fun k_ hk_ hs_ => (hk_.2.1) hs_)) (fun k_ hk_ => ⟨hk_.1.1, hk_.1.2.1, hk_.1.2.2.1, hk_.1.2.2.2.1, hk_.1.2.2.2.2⟩)); replace HO_643001 := zA (Kd.R_mono (ok' := fun k_ => some k_ ≠ (v635 : Value).ownBlock ∧ ax k_ (.slice Ao34 t643.length co34) ∧ some k_ ≠ (v647 : Value).ownBlock ∧ ax k_ (.slice Ao54 t652.length co54) ∧ ax k_ (.slice Ao57 t656.length co57)) (Kd.R_keptB (HO_643001.out) hkp (fun k_ hk_ hs_ => (hk_.1.1.2.1) hs_)) (fun k_ hk_ => ⟨hk_.1.1.1.1, hk_.1.1.1.2.1, hk_.1.1.1.2.2, hk_.1.1.2, hk_.1.2⟩)); replace BK625 := zA (blk_kept (uB BK625.out) hkp (fun hs_ => (fun e_ => (Kd.R_ne HO_9.out BK625.out (by decide)) e_) hs_)); replace BK642 := zA (blk_kept (uB BK642.out) hkp (fun hs_ => (fun e_ => (Kd.R_ne HO_9.out BK642.out (by decide)) e_) hs_)); replace HO_9 := zA (Kd.R_reok rfl hy0 (fun k_ e_ => HO_9.out.1 k_ e_)); replace HO654 := zA (Kd.R_mono (ok' := fun k_ => some k_ ≠ (v635 : Value).ownBlock ∧ ax k_ (.slice Ao34 t643.length co34) ∧ some k_ ≠ (v647 : Value).ownBlock ∧ ax k_ (.slice Ao31 t639.length co31) ∧ ax k_ (.slice Ao57 t656.length co57)) (Kd.R_keptB (HO654.out) hkp (fun k_ hk_ hs_ => (hk_.2.1) hs_)) (fun k_ hk_ => ⟨hk_.1.1, hk_.1.2.1, hk_.1.2.2.1, hk_.1.2.2.2.1, hk_.1.2.2.2.2⟩)); replace HO658 := zA (Kd.R_mono (ok' := fun k_ => some k_ ≠ (v635 : Value).ownBlock ∧ ax k_ (.slice Ao34 t643.length co34) ∧ some k_ ≠ (v647 : Value).ownBlock ∧ ax k_ (.slice Ao31 t639.length co31) ∧ ax k_ (.slice Ao54 t652.length co54)) (Kd.R_keptB (HO658.out) hkp (fun k_ hk_ hs_ => (hk_.2.1) hs_)) (fun k_ hk_ => ⟨hk_.1.1, hk_.1.2.1, hk_.1.2.2.1, hk_.1.2.2.2.1, hk_.1.2.2.2.2⟩)); replace HB := zA (hb); (try clear hb); (try clear hkp); (try clear hy0)))
        (try simp only [Act.put, ls, lz, ln])
        go_cut [80] (fun v80 wc => ∃ (kq : Nat) (x80_50 : Bool), v80 = .bool x80_50 ∧ Aside0 (laws_FnExactSumOfExpansion.j1 kq l1 t634 t637 t646 x80_50 a0_0 l0_1 = some r) ∧ Aside0 (kq ≤ kj15) ∧ Aside0 (Kd.R (Kd.int .i64) 2 wc w.heap.size (fun k_ => some k_ ≠ (v647 : Value).ownBlock ∧ ax k_ (.slice Ao31 t639.length co31)) v635 t634) ∧ Aside0 (Kd.R (Kd.int .i64) 2 wc w.heap.size (fun k_ => some k_ ≠ (v635 : Value).ownBlock ∧ ax k_ (.slice Ao31 t639.length co31)) v647 t646) ∧ Aside0 (Kd.R (Kd.int .i64) 2 wc w.heap.size (fun k_ => some k_ ≠ (v635 : Value).ownBlock ∧ some k_ ≠ (v647 : Value).ownBlock) (.slice Ao31 t639.length co31) t661) ∧ Aside0 (wc.heap[gb625]? = some (.cells #[.int .i64 a0_0, (.slice A0_1 l0_1.length c0_1)] 34 (0, 0))) ∧ Aside0 (wc.heap[gb642]? = some (.cells #[.int .i64 t638, (.slice Ao31 t639.length co31)] 40 (0, 0))) ∧ Aside0 (Below w.heap.size w wc))
        case first =>
         have H := HC51.out
         clear HC51
         by_cases c62 : t662 < 0
         rotate_left
         ·rw [if_neg c62] at H
          have c62b0 : decide (t662 < 0) = false := decide_eq_false c62
          clear c62
          (first | rw [c62b0] | (simp only [i64_w, i32_w]; rw [c62b0]) | skip)
          replace H := Option.bind_eq_some_iff.mp H
          obtain ⟨t664, A630, H⟩ := H
          replace H : (if t664 = true then (laws_FnExactSumOfExpansion.j1 kj15 l1 t634 t637 t646 (t649 != t637) a0_0 l0_1) else (laws_FnExactSumOfExpansion.j1 kj15 l1 t634 t637 t646 true a0_0 l0_1)) = some r := H
          have A63 := zA A630
          clear A630
          by_cases c64 : t664 = true
          ·subst c64
           have H1 : (laws_FnExactSumOfExpansion.j1 kj15 l1 t634 t637 t646 (t649 != t637) a0_0 l0_1) = some r := by rw [if_pos rfl] at H; exact H
           clear H
           have H := H1
           clear H1
           have H' := zA H
           clear H
           obtain ⟨Ao65, co65, eo65⟩ := Kd.R_slice HO_10.out
           subst eo65
           obtain ⟨Ao66, co66, eo66⟩ := Kd.R_slice HO_6.out
           subst eo66
           go_wp2_with (first | (go_at_call 29; (with_reducible refine (laws_eqInt64S.calls kj15 _ _ t646 _ _ t634 true _ ?side1 ?side2 ?side3 ?side4 A63.out).mono ?_); (case side1 => exact uC ((Kd.R_reads' HO_10.out).2.2)); (case side2 => exact (Kd.R_reads' HO_10.out).2.1); (case side3 => exact uC ((Kd.R_reads' HO_6.out).2.2)); (case side4 => exact (Kd.R_reads' HO_6.out).2.1); rintro e w' ⟨rfl, ⟨nd, rfl⟩⟩))
           go_meet
           case rel => exact ⟨_, ((t649 != t637)), (by first | rfl | (simp; done) | (simp [*]; done)), H', ⟨by have := HJ15.out; first | omega | exact Nat.le_refl _⟩, ⟨uR (Kd.R_mono HO_6.out (fun _ hk => ⟨hk.2.1, hk.2.2.1⟩))⟩, ⟨uR (Kd.R_mono HO_10.out (fun _ hk => ⟨hk.1, hk.2.2.1⟩))⟩, ⟨uR (Kd.R_mono HO_643001.out (fun _ hk => ⟨hk.1, hk.2.2.1⟩))⟩, ⟨uB BK625.out⟩, ⟨uB BK642.out⟩, ⟨uH HB.out⟩⟩
          ·replace c64 := Bool.eq_false_iff.mpr c64
           subst c64
           have H1 : (laws_FnExactSumOfExpansion.j1 kj15 l1 t634 t637 t646 true a0_0 l0_1) = some r := by rw [if_neg (show ¬ (false = true) by decide)] at H; exact H
           clear H
           have H := H1
           clear H1
           have H' := zA H
           clear H
           obtain ⟨Ao67, co67, eo67⟩ := Kd.R_slice HO_10.out
           subst eo67
           obtain ⟨Ao68, co68, eo68⟩ := Kd.R_slice HO_6.out
           subst eo68
           go_wp2_with (first | (go_at_call 29; (with_reducible refine (laws_eqInt64S.calls kj15 _ _ t646 _ _ t634 false _ ?side1 ?side2 ?side3 ?side4 A63.out).mono ?_); (case side1 => exact uC ((Kd.R_reads' HO_10.out).2.2)); (case side2 => exact (Kd.R_reads' HO_10.out).2.1); (case side3 => exact uC ((Kd.R_reads' HO_6.out).2.2)); (case side4 => exact (Kd.R_reads' HO_6.out).2.1); rintro e w' ⟨rfl, ⟨nd, rfl⟩⟩))
           go_meet
           case rel => exact ⟨_, (true), (by first | rfl | (simp; done) | (simp [*]; done)), H', ⟨by have := HJ15.out; first | omega | exact Nat.le_refl _⟩, ⟨uR (Kd.R_mono HO_6.out (fun _ hk => ⟨hk.2.1, hk.2.2.1⟩))⟩, ⟨uR (Kd.R_mono HO_10.out (fun _ hk => ⟨hk.1, hk.2.2.1⟩))⟩, ⟨uR (Kd.R_mono HO_643001.out (fun _ hk => ⟨hk.1, hk.2.2.1⟩))⟩, ⟨uB BK625.out⟩, ⟨uB BK642.out⟩, ⟨uH HB.out⟩⟩
         rw [if_pos c62] at H
         have c62b0 : decide (t662 < 0) = true := decide_eq_true c62
         clear c62
         (first | rw [c62b0] | (simp only [i64_w, i32_w]; rw [c62b0]) | skip)
         have H' := zA H
         clear H
         go_wp2
         go_meet
         case rel => exact ⟨_, (true), (by first | rfl | (simp; done) | (simp [*]; done)), H', ⟨by have := HJ15.out; first | omega | exact Nat.le_refl _⟩, ⟨uR (Kd.R_mono HO_6.out (fun _ hk => ⟨hk.2.1, hk.2.2.1⟩))⟩, ⟨uR (Kd.R_mono HO_10.out (fun _ hk => ⟨hk.1, hk.2.2.1⟩))⟩, ⟨uR (Kd.R_mono HO_643001.out (fun _ hk => ⟨hk.1, hk.2.2.1⟩))⟩, ⟨uB BK625.out⟩, ⟨uB BK642.out⟩, ⟨uH HB.out⟩⟩
        case rest =>
         clear HC51
         (try clear c1);(try clear c2);(try clear p2);(try clear c3);(try clear c3b0);(try clear c3b1);(try clear c4);(try clear c5);(try clear c6);(try clear c6b0);(try clear c9);(try clear c22);(try clear c24);(try clear c25);(try clear c28);(try clear c29);(try clear c30);(try clear c31);(try clear c37);(try clear c42);(try clear c43);(try clear c44);(try clear c45);(try clear c48);(try clear c58)
         (try clear c62);(try clear c62b0);(try clear c64);(try clear hcz18_0);(try clear hcz18_1);(try clear hcz20_0);(try clear hcz20_1);(try clear hcz26_0);(try clear hcz26_1);(try clear hcz30_0);(try clear hcz30_1);(try clear hcz33_0);(try clear hcz33_1);(try clear hcz59_0);(try clear hcz59_1);(try clear hcz8_0);(try clear hcz8_1);(try clear hfz18_0);(try clear hfz18_1);(try clear hfz20_0);(try clear hfz20_1)
         (try clear hfz26_0);(try clear hfz26_1);(try clear hfz30_0);(try clear hfz30_1);(try clear hfz33_0);(try clear hfz33_1);(try clear hfz59_0);(try clear hfz59_1);(try clear hfz8_0);(try clear hfz8_1);(try clear p2)
         obtain ⟨kq, x80_50, rfl, HA, HJ50, HO_6, HO_10, HO_643001, BK625, BK642, HB⟩ := hcut
         have hl643001_50 := (Kd.R_reads' HO_643001.out).1
         rw [hl643001_50] at HO_643001
         (try simp only [hl643001_50])
         (try simp only [hl643001_50] at BK625)
         (try simp only [hl643001_50] at BK642)
         (try simp only [hl643001_50] at HO_6)
         (try simp only [hl643001_50] at HO_10)
         cases kq with
         | zero => exact absurd HA.out (by simp [laws_FnExactSumOfExpansion.j1])
         | succ kj50 =>
          have H := HA.out
          clear HA
          simp only [laws_FnExactSumOfExpansion.j1] at H
          by_cases c69 : x80_50 = true
          ·subst c69
           have H1 : (some false) = some r := by rw [if_pos rfl] at H; exact H
           clear H
           have H := H1
           clear H1
           rw [HRT.out] at H
           exact absurd H (by simp)
          ·replace c69 := Bool.eq_false_iff.mpr c69
           subst c69
           have H1 : ((laws_markInt64S.f kj50 t646 1).bind fun bt665 => ((laws_heldInt64S.f kj50 bt665.2 1).bind fun t667 => (if t667 < 0 then (some false) else (if t667 = bt665.1 then ((laws_toMoments.f kj50 a0_0 l0_1).bind fun bt668 => ((laws_toInt64S.f kj50 l1).bind fun t672 => ((impl_SumOfExpansion.f kj50 bt668.1 bt668.2 t672).bind fun bt675 => ((laws_eqInt64S.f kj50 bt675.1 t634).bind fun t679 => (if t679 = true then (laws_FnExactSumOfExpansion.j2 kj50 bt665.2 bt665.1 (bt675.2 != t637)) else (laws_FnExactSumOfExpansion.j2 kj50 bt665.2 bt665.1 true)))))) else (some false))))) = some r := by rw [if_neg (show ¬ (false = true) by decide)] at H; exact H
           clear H
           have H := H1
           clear H1
           replace H := Option.bind_eq_some_iff.mp H
           obtain ⟨⟨t665, t666⟩, A700, H⟩ := H
           replace H : ((laws_heldInt64S.f kj50 t666 1).bind fun t667 => (if t667 < 0 then (some false) else (if t667 = t665 then ((laws_toMoments.f kj50 a0_0 l0_1).bind fun bt668 => ((laws_toInt64S.f kj50 l1).bind fun t672 => ((impl_SumOfExpansion.f kj50 bt668.1 bt668.2 t672).bind fun bt675 => ((laws_eqInt64S.f kj50 bt675.1 t634).bind fun t679 => (if t679 = true then (laws_FnExactSumOfExpansion.j2 kj50 t666 t665 (bt675.2 != t637)) else (laws_FnExactSumOfExpansion.j2 kj50 t666 t665 true)))))) else (some false)))) = some r := H
           have A70 := zA A700
           clear A700
           replace H := Option.bind_eq_some_iff.mp H
           obtain ⟨t667, A710, H⟩ := H
           replace H : (if t667 < 0 then (some false) else (if t667 = t665 then ((laws_toMoments.f kj50 a0_0 l0_1).bind fun bt668 => ((laws_toInt64S.f kj50 l1).bind fun t672 => ((impl_SumOfExpansion.f kj50 bt668.1 bt668.2 t672).bind fun bt675 => ((laws_eqInt64S.f kj50 bt675.1 t634).bind fun t679 => (if t679 = true then (laws_FnExactSumOfExpansion.j2 kj50 t666 t665 (bt675.2 != t637)) else (laws_FnExactSumOfExpansion.j2 kj50 t666 t665 true)))))) else (some false))) = some r := H
           have A71 := zA A710
           clear A710
           by_cases c72 : t667 < 0
           rotate_left
           ·rw [if_neg c72] at H
            have c72b0 : decide (t667 < 0) = false := decide_eq_false c72
            clear c72
            by_cases c73 : t667 = t665
            rotate_left
            ·rw [if_neg c73] at H
             have c73b0 : (t667 == t665) = false := beq_eq_false_iff_ne.mpr c73
             have c73b1 : (t667 != t665) = true := bne_iff_ne.mpr c73
             rw [HRT.out] at H
             exact absurd H (by simp)
            rw [if_pos c73] at H
            have c73b0 : (t667 == t665) = true := beq_iff_eq.mpr c73
            have c73b1 : (t667 != t665) = false := bne_eq_false_iff_eq.mpr c73
            clear c73
            replace H := Option.bind_eq_some_iff.mp H
            obtain ⟨⟨t668, t669⟩, A740, H⟩ := H
            replace H : ((laws_toInt64S.f kj50 l1).bind fun t672 => ((impl_SumOfExpansion.f kj50 t668 t669 t672).bind fun bt675 => ((laws_eqInt64S.f kj50 bt675.1 t634).bind fun t679 => (if t679 = true then (laws_FnExactSumOfExpansion.j2 kj50 t666 t665 (bt675.2 != t637)) else (laws_FnExactSumOfExpansion.j2 kj50 t666 t665 true))))) = some r := H
            have A74 := zA A740
            clear A740
            replace H := Option.bind_eq_some_iff.mp H
            obtain ⟨t672, A750, H⟩ := H
            replace H : ((impl_SumOfExpansion.f kj50 t668 t669 t672).bind fun bt675 => ((laws_eqInt64S.f kj50 bt675.1 t634).bind fun t679 => (if t679 = true then (laws_FnExactSumOfExpansion.j2 kj50 t666 t665 (bt675.2 != t637)) else (laws_FnExactSumOfExpansion.j2 kj50 t666 t665 true)))) = some r := H
            have A75 := zA A750
            clear A750
            replace H := Option.bind_eq_some_iff.mp H
            obtain ⟨⟨t675, t678⟩, A760, H⟩ := H
            replace H : ((laws_eqInt64S.f kj50 t675 t634).bind fun t679 => (if t679 = true then (laws_FnExactSumOfExpansion.j2 kj50 t666 t665 (t678 != t637)) else (laws_FnExactSumOfExpansion.j2 kj50 t666 t665 true))) = some r := H
            have A76 := zA A760
            clear A760
            have HC77 := zA H
            clear H
            obtain ⟨Ao78, co78, eo78⟩ := Kd.R_slice HO_10.out
            subst eo78
            go_upto_region 31 with (first | ((with_reducible refine gate_callee (f := 31) rfl ?_); refine gL (some 83) Try.func31 #[.slice Ao78 t646.length co78, .int .i64 1] ?_; (with_reducible refine (laws_markInt64S.calls kj50 (fun k_ => some k_ = (.slice Ao78 t646.length co78 : Value).ownBlock) (.slice Ao78 t646.length co78) t646 1 t665 t666 w _ ?side1 ?side2 A70.out).mono ?_); (case side1 => repeat (first | (with_reducible first | exact HB.out | apply below_alloc | apply pw_below_drewN | apply below_drew1 | refine below_set ?_ GE625.out | refine below_set ?_ GE642.out) | exact HB.out)); (case side2 => exact Kd.R_tight rfl HO_10.out); rintro e w79 ⟨rfl, hy0, hb, hkp⟩; refine ⟨_, rfl, ?_⟩; replace HO_6 := zA (Kd.R_mono (ok' := fun k_ => ax k_ (.slice Ao78 t646.length co78) ∧ ax k_ (.slice Ao31 t661.length co31)) (Kd.R_keptB (HO_6.out) hkp (fun k_ hk_ hs_ => (hk_.1) hs_)) (fun k_ hk_ => ⟨hk_.1.1, hk_.1.2⟩)); replace HO_643001 := zA (Kd.R_mono (ok' := fun k_ => some k_ ≠ (v635 : Value).ownBlock ∧ ax k_ (.slice Ao78 t646.length co78)) (Kd.R_keptB (HO_643001.out) hkp (fun k_ hk_ hs_ => (hk_.2) hs_)) (fun k_ hk_ => ⟨hk_.1.1, hk_.1.2⟩)); replace BK625 := zA (blk_kept (uB BK625.out) hkp (fun hs_ => (fun e_ => (Kd.R_ne HO_10.out BK625.out (by decide)) e_) hs_)); replace BK642 := zA (blk_kept (uB BK642.out) hkp (fun hs_ => (fun e_ => (Kd.R_ne HO_10.out BK642.out (by decide)) e_) hs_)); replace HO_10 := zA (Kd.R_reok rfl hy0 (fun k_ e_ => HO_10.out.1 k_ e_)); replace HB := zA (hb); (try clear hb); (try clear hkp); (try clear hy0)) | ((with_reducible refine gate_callee (f := 40) rfl ?_); refine goesL_ (some 86) rfl rfl Try.func40 (by kernel_rfl) rfl #[.slice Ao78 t666.length co78, .int .i64 1] rfl (by (try simp only [la, lb, lc]); first | done | (rw [show t666.length = t646.length from (Kd.R_reads' HO_10.out).1.symm] <;> rfl) | rfl | (simp only [ld, le]; rfl)) ?_; (with_reducible refine (laws_heldInt64S.calls kj50 _ _ t666 1 t667 _ ?side1 ?side2 A71.out).mono ?_); (case side1 => exact uC ((Kd.R_reads' HO_10.out).2.2)); (case side2 => rw [show t666.length = t646.length from (Kd.R_reads' HO_10.out).1.symm]; exact (Kd.R_reads' HO_10.out).2.1); rintro e w' ⟨rfl, ⟨nd, rfl⟩⟩; refine ⟨_, rfl, ?_⟩; have hnb80 := NB625_642.out; have hnc80 := NB642_625.out; have hcz81_0 := bc BK625 0; have hcz81_1 := bc BK625 1; have hfz81_0 := bf BK625 0; have hfz81_1 := bf BK625 1) | ((with_reducible refine gate_callee (f := 24) rfl ?_); refine gL (some 94) Try.func24 #[.agg #[.int .i64 a0_0, .slice A0_1 l0_1.length c0_1]] ?_; (with_reducible refine (laws_toMoments.calls kj50 a0_0 _ _ l0_1 t668 t669 _ ?side1 ?side2 A74.out).mono ?_); (case side1 => repeat (first | exact (Kd.C_below HR0_1.out (uH HB.out)) | (with_reducible refine Kd.C_alloc ?_ _) | (with_reducible refine Kd.C_drewN ?_ _) | (with_reducible refine Kd.C_drew ?_))); (case side2 => exact HC0_1.out); rintro e w82 ⟨v670, rfl, ho0, hb⟩; refine ⟨_, rfl, ?_⟩; have HO671 := zA (Kd.R_lower (Kd.R_new' (Kd.R_new' (Kd.R_new' ho0 (Kd.R_lt (uR HO_6.out))) (Kd.R_lt (uR HO_10.out))) (Kd.R_lt (uR HO_643001.out))) (below_size (uH HB.out))); replace HO_6 := zA (Kd.R_elder' (uR HO_6.out) (Kd.R_base ho0) hb); replace HO_10 := zA (Kd.R_elder' (uR HO_10.out) (Kd.R_base ho0) hb); replace HO_643001 := zA (Kd.R_elder' (uR HO_643001.out) (Kd.R_base ho0) hb); replace BK625 := xB BK625 hb; replace BK642 := xB BK642 hb; replace HB := xH HB hb; (try clear hb); (try clear hb2); (try clear hk); (try clear hi); (try clear ho0)) | ((with_reducible refine gate_callee (f := 25) rfl ?_); refine gL (some 96) Try.func25 #[.slice A1 l1.length c1] ?_; (with_reducible refine (laws_toInt64S.calls kj50 _ _ l1 t672 _ ?side1 ?side2 A75.out).mono ?_); (case side1 => exact uC ((Kd.C_below HR1.out HB.out))); (case side2 => exact HC1.out); rintro e w83 ⟨v673, rfl, ho0, hb⟩; refine ⟨_, rfl, ?_⟩; have HO674 := zA (Kd.R_lower (Kd.R_new' (Kd.R_new' (Kd.R_new' (Kd.R_new' ho0 (Kd.R_lt (uR HO_6.out))) (Kd.R_lt (uR HO_10.out))) (Kd.R_lt (uR HO_643001.out))) (Kd.R_lt (uR HO671.out))) (below_size (uH HB.out))); replace HO_6 := zA (Kd.R_elder' (uR HO_6.out) (Kd.R_base ho0) hb); replace HO_10 := zA (Kd.R_elder' (uR HO_10.out) (Kd.R_base ho0) hb); replace HO_643001 := zA (Kd.R_elder' (uR HO_643001.out) (Kd.R_base ho0) hb); replace HO671 := zA (Kd.R_elder' (uR HO671.out) (Kd.R_base ho0) hb); replace BK625 := xB BK625 hb; replace BK642 := xB BK642 hb; replace HB := xH HB hb; (try clear hb); (try clear hb2); (try clear hk); (try clear hi); (try clear ho0); obtain ⟨Ao84, co84, eo84⟩ := Kd.R_slice HO671.out; subst eo84; obtain ⟨Ao85, co85, eo85⟩ := Kd.R_slice HO674.out; subst eo85) | ((with_reducible refine gate_callee (f := 44) rfl ?_); refine gL (some 97) Try.func44 #[.agg #[.int .i64 t668, .slice Ao84 t669.length co84], .slice Ao85 t672.length co85] ?_; (with_reducible refine (impl_SumOfExpansion.calls kj50 t668 _ _ t669 _ _ t672 t675 t678 _ ?side1 ?side2 ?side3 ?side4 A76.out).mono ?_); (case side1 => exact uC ((Kd.R_reads' HO671.out).2.2)); (case side2 => exact (Kd.R_reads' HO671.out).2.1); (case side3 => exact uC ((Kd.R_reads' HO674.out).2.2)); (case side4 => exact (Kd.R_reads' HO674.out).2.1); rintro e w86 ⟨v676, rfl, ho0, hb⟩; refine ⟨_, rfl, ?_⟩; have HO677 := zA (Kd.R_lower (Kd.R_new' (Kd.R_new' (Kd.R_new' (Kd.R_new' (Kd.R_new' ho0 (Kd.R_lt (uR HO_6.out))) (Kd.R_lt (uR HO_10.out))) (Kd.R_lt (uR HO_643001.out))) (Kd.R_lt (uR HO671.out))) (Kd.R_lt (uR HO674.out))) (below_size (uH HB.out))); replace HO_6 := zA (Kd.R_elder' (uR HO_6.out) (Kd.R_base ho0) hb); replace HO_10 := zA (Kd.R_elder' (uR HO_10.out) (Kd.R_base ho0) hb); replace HO_643001 := zA (Kd.R_elder' (uR HO_643001.out) (Kd.R_base ho0) hb); replace HO671 := zA (Kd.R_elder' (uR HO671.out) (Kd.R_base ho0) hb); replace HO674 := zA (Kd.R_elder' (uR HO674.out) (Kd.R_base ho0) hb); replace BK625 := xB BK625 hb; replace BK642 := xB BK642 hb; replace HB := xH HB hb; (try clear hb); (try clear hb2); (try clear hk); (try clear hi); (try clear ho0)))
            (try simp only [Act.put, ls, lz, ln])
            go_cut [108] (fun v108 wc => ∃ (kq : Nat) (x108_76 : Bool), v108 = .bool x108_76 ∧ Aside0 (laws_FnExactSumOfExpansion.j2 kq t666 t665 x108_76 = some r) ∧ Aside0 (kq ≤ kj50) ∧ Aside0 (Kd.R (Kd.int .i64) 2 wc w.heap.size (fun k_ => ax k_ (.slice Ao31 t661.length co31)) (.slice Ao78 t646.length co78) t666) ∧ Aside0 (Kd.R (Kd.int .i64) 2 wc w.heap.size (fun k_ => ax k_ (.slice Ao78 t646.length co78)) (.slice Ao31 t661.length co31) t661) ∧ Aside0 (wc.heap[gb625]? = some (.cells #[.int .i64 a0_0, (.slice A0_1 l0_1.length c0_1)] 34 (0, 0))) ∧ Aside0 (wc.heap[gb642]? = some (.cells #[.int .i64 t638, (.slice Ao31 t661.length co31)] 40 (0, 0))) ∧ Aside0 (Below w.heap.size w wc))
            case first =>
             have H := HC77.out
             clear HC77
             replace H := Option.bind_eq_some_iff.mp H
             obtain ⟨t679, A870, H⟩ := H
             replace H : (if t679 = true then (laws_FnExactSumOfExpansion.j2 kj50 t666 t665 (t678 != t637)) else (laws_FnExactSumOfExpansion.j2 kj50 t666 t665 true)) = some r := H
             have A87 := zA A870
             clear A870
             by_cases c88 : t679 = true
             ·subst c88
              have H1 : (laws_FnExactSumOfExpansion.j2 kj50 t666 t665 (t678 != t637)) = some r := by rw [if_pos rfl] at H; exact H
              clear H
              have H := H1
              clear H1
              have H' := zA H
              clear H
              obtain ⟨Ao89, co89, eo89⟩ := Kd.R_slice HO677.out
              subst eo89
              obtain ⟨Ao90, co90, eo90⟩ := Kd.R_slice HO_6.out
              subst eo90
              go_wp2_with (first | ((with_reducible refine gate_callee (f := 29) rfl ?_); refine gL (some 102) Try.func29 #[.slice Ao89 t675.length co89, .slice Ao90 t634.length co90] ?_; (with_reducible refine (laws_eqInt64S.calls kj50 _ _ t675 _ _ t634 true _ ?side1 ?side2 ?side3 ?side4 A87.out).mono ?_); (case side1 => exact uC ((Kd.R_reads' HO677.out).2.2)); (case side2 => exact (Kd.R_reads' HO677.out).2.1); (case side3 => exact uC ((Kd.R_reads' HO_6.out).2.2)); (case side4 => exact (Kd.R_reads' HO_6.out).2.1); rintro e w' ⟨rfl, ⟨nd, rfl⟩⟩; refine ⟨_, rfl, ?_⟩))
              go_meet
              case rel => exact ⟨_, ((t678 != t637)), (by first | rfl | (simp; done) | (simp [*]; done)), H', ⟨by have := HJ15.out; have := HJ50.out; first | omega | exact Nat.le_refl _⟩, ⟨by (try simp only [hl643001_50]); (with_reducible repeat (first | apply Kd.R_alloc | apply Kd.R_drewN | apply Kd.R_drew)); exact Kd.R_mono HO_10.out (fun _ hk => hk.1.1.1.2)⟩, ⟨by (try simp only [hl643001_50]); (with_reducible repeat (first | apply Kd.R_alloc | apply Kd.R_drewN | apply Kd.R_drew)); exact Kd.R_mono HO_643001.out (fun _ hk => hk.1.1.1.2)⟩, ⟨by (try simp only [hl643001_50]); (repeat refine up1 ?_); exact BK625.out⟩, ⟨by (try simp only [hl643001_50]); (repeat refine up1 ?_); exact BK642.out⟩, ⟨uH HB.out⟩⟩
             ·replace c88 := Bool.eq_false_iff.mpr c88
              subst c88
              have H1 : (laws_FnExactSumOfExpansion.j2 kj50 t666 t665 true) = some r := by rw [if_neg (show ¬ (false = true) by decide)] at H; exact H
              clear H
              have H := H1
              clear H1
              have H' := zA H
              clear H
              obtain ⟨Ao91, co91, eo91⟩ := Kd.R_slice HO677.out
              subst eo91
              obtain ⟨Ao92, co92, eo92⟩ := Kd.R_slice HO_6.out
              subst eo92
              go_wp2_with (first | ((with_reducible refine gate_callee (f := 29) rfl ?_); refine gL (some 102) Try.func29 #[.slice Ao91 t675.length co91, .slice Ao92 t634.length co92] ?_; (with_reducible refine (laws_eqInt64S.calls kj50 _ _ t675 _ _ t634 false _ ?side1 ?side2 ?side3 ?side4 A87.out).mono ?_); (case side1 => exact uC ((Kd.R_reads' HO677.out).2.2)); (case side2 => exact (Kd.R_reads' HO677.out).2.1); (case side3 => exact uC ((Kd.R_reads' HO_6.out).2.2)); (case side4 => exact (Kd.R_reads' HO_6.out).2.1); rintro e w' ⟨rfl, ⟨nd, rfl⟩⟩; refine ⟨_, rfl, ?_⟩))
              go_meet
              case rel => exact ⟨_, (true), (by first | rfl | (simp; done) | (simp [*]; done)), H', ⟨by have := HJ15.out; have := HJ50.out; first | omega | exact Nat.le_refl _⟩, ⟨by (try simp only [hl643001_50]); (with_reducible repeat (first | apply Kd.R_alloc | apply Kd.R_drewN | apply Kd.R_drew)); exact Kd.R_mono HO_10.out (fun _ hk => hk.1.1.1.2)⟩, ⟨by (try simp only [hl643001_50]); (with_reducible repeat (first | apply Kd.R_alloc | apply Kd.R_drewN | apply Kd.R_drew)); exact Kd.R_mono HO_643001.out (fun _ hk => hk.1.1.1.2)⟩, ⟨by (try simp only [hl643001_50]); (repeat refine up1 ?_); exact BK625.out⟩, ⟨by (try simp only [hl643001_50]); (repeat refine up1 ?_); exact BK642.out⟩, ⟨uH HB.out⟩⟩
            case rest =>
             clear HC77
             (try clear c1);(try clear c2);(try clear p2);(try clear c3);(try clear c3b0);(try clear c3b1);(try clear c4);(try clear c5);(try clear c6);(try clear c6b0);(try clear c7);(try clear c8);(try clear c9);(try clear c22);(try clear c24);(try clear c25);(try clear c28);(try clear c29);(try clear c30);(try clear c31);(try clear c37);(try clear c40);(try clear c42);(try clear c43);(try clear c44)
             (try clear c45);(try clear c48);(try clear c58);(try clear c62);(try clear c62b0);(try clear c64);(try clear c69);(try clear c72);(try clear c72b0);(try clear c73);(try clear c73b0);(try clear c73b1);(try clear c80);(try clear c88);(try clear hcz18_0);(try clear hcz18_1);(try clear hcz20_0);(try clear hcz20_1);(try clear hcz26_0);(try clear hcz26_1);(try clear hcz30_0);(try clear hcz30_1)
             (try clear hcz33_0);(try clear hcz33_1);(try clear hcz59_0);(try clear hcz59_1);(try clear hcz81_0);(try clear hcz81_1);(try clear hcz8_0);(try clear hcz8_1);(try clear hfz18_0);(try clear hfz18_1);(try clear hfz20_0);(try clear hfz20_1);(try clear hfz26_0);(try clear hfz26_1);(try clear hfz30_0);(try clear hfz30_1);(try clear hfz33_0);(try clear hfz33_1);(try clear hfz59_0);(try clear hfz59_1)
             (try clear hfz81_0);(try clear hfz81_1);(try clear hfz8_0);(try clear hfz8_1);(try clear p2)
             obtain ⟨kq, x108_76, rfl, HA, HJ76, HO_10, HO_643001, BK625, BK642, HB⟩ := hcut
             have hl10_76 := (Kd.R_reads' HO_10.out).1
             rw [hl10_76] at HO_10
             (try simp only [hl10_76])
             (try simp only [hl10_76] at BK625)
             (try simp only [hl10_76] at BK642)
             (try simp only [hl10_76] at HO_643001)
             cases kq with
             | zero => exact absurd HA.out (by simp [laws_FnExactSumOfExpansion.j2])
             | succ kj76 =>
              have H := HA.out
              clear HA
              simp only [laws_FnExactSumOfExpansion.j2] at H
              by_cases c93 : x108_76 = true
              ·subst c93
               have H1 : (some false) = some r := by rw [if_pos rfl] at H; exact H
               clear H
               have H := H1
               clear H1
               rw [HRT.out] at H
               exact absurd H (by simp)
              ·replace c93 := Bool.eq_false_iff.mpr c93
               subst c93
               have H1 : ((laws_heldInt64S.f kj76 t666 1).bind fun t680 => (if t680 < 0 then (some false) else (if t680 = t665 then (some true) else (some false)))) = some r := by rw [if_neg (show ¬ (false = true) by decide)] at H; exact H
               clear H
               have H := H1
               clear H1
               replace H := Option.bind_eq_some_iff.mp H
               obtain ⟨t680, A940, H⟩ := H
               replace H : (if t680 < 0 then (some false) else (if t680 = t665 then (some true) else (some false))) = some r := H
               have A94 := zA A940
               clear A940
               by_cases c95 : t680 < 0
               rotate_left
               ·rw [if_neg c95] at H
                have c95b0 : decide (t680 < 0) = false := decide_eq_false c95
                clear c95
                by_cases c96 : t680 = t665
                rotate_left
                ·rw [if_neg c96] at H
                 have c96b0 : (t680 == t665) = false := beq_eq_false_iff_ne.mpr c96
                 have c96b1 : (t680 != t665) = true := bne_iff_ne.mpr c96
                 rw [HRT.out] at H
                 exact absurd H (by simp)
                rw [if_pos c96] at H
                have c96b0 : (t680 == t665) = true := beq_iff_eq.mpr c96
                have c96b1 : (t680 != t665) = false := bne_eq_false_iff_eq.mpr c96
                clear c96
                obtain rfl := Option.some.inj H
                go_wp2_with (first | ((with_reducible refine gate_callee (f := 40) rfl ?_); refine gL (some 111) Try.func40 #[.slice Ao78 t666.length co78, .int .i64 1] ?_; (with_reducible refine (laws_heldInt64S.calls kj76 _ _ t666 1 t680 _ ?side1 ?side2 A94.out).mono ?_); (case side1 => exact uC ((Kd.R_reads' HO_10.out).2.2)); (case side2 => exact (Kd.R_reads' HO_10.out).2.1); rintro e w' ⟨rfl, ⟨nd, rfl⟩⟩; refine ⟨_, rfl, ?_⟩))
                go_ret
                exact ⟨by first | rfl | (simp [errW_none, errW_some] <;> rfl) | (simp [*, errW_none, errW_some] <;> rfl), uH HB.out⟩
               rw [if_pos c95] at H
               have c95b0 : decide (t680 < 0) = true := decide_eq_true c95
               clear c95
               rw [HRT.out] at H
               exact absurd H (by simp)
           rw [if_pos c72] at H
           have c72b0 : decide (t667 < 0) = true := decide_eq_true c72
           clear c72
           rw [HRT.out] at H
           exact absurd H (by simp)
       ·replace c48 := Bool.eq_false_iff.mpr c48
        subst c48
        have H1 : (some false) = some r := by rw [if_neg (show ¬ (false = true) by decide)] at H; exact H
        clear H
        have H := H1
        clear H1
        rw [HRT.out] at H
        exact absurd H (by simp)
      ·replace c45 := Bool.eq_false_iff.mpr c45
       subst c45
       have H1 : (some false) = some r := by rw [if_neg (show ¬ (false = true) by decide)] at H; exact H
       clear H
       have H := H1
       clear H1
       rw [HRT.out] at H
       exact absurd H (by simp)

  rw [if_pos c6] at H
  have c6b0 : decide (t626 < 0) = true := decide_eq_true c6
  clear c6
  obtain rfl := Option.some.inj H
  go_enter Try.func9, Try.ntmps9
  go_wp2_with (first | ((with_reducible refine gate_dst (N := 2) rfl ?_); refine bx 2 #[.int .i64 a0_0, .slice A0_1 l0_1.length c0_1] 34 ?_; intro gb625 hg w7 hbox hb; have BK625 := zA (hbox); have GW625 := gq HB hg; have GE625 := gq HB hg; replace HB := xH HB hb; have := geI GE625; clear hb hbox hg; have hcz8_0 := bc BK625 0; have hcz8_1 := bc BK625 1; have hfz8_0 := bf BK625 0; have hfz8_1 := bf BK625 1) | ((with_reducible refine gate_callee (f := 22) rfl ?_); refine gL (some 22) Try.func22 #[.agg #[.int .i64 a0_0, .slice A0_1 l0_1.length c0_1], .int .i64 1048576] ?_; (with_reducible refine (laws_szMoments.calls a0_0 _ _ l0_1 1048576 t626 _ ?side1 ?side2 A5.out).mono ?_); (case side1 => exact uC ((Kd.C_below HR0_1.out HB.out))); (case side2 => exact HC0_1.out); rintro e w9 ⟨rfl, hb⟩; refine ⟨_, rfl, ?_⟩; replace BK625 := xB BK625 hb; replace HB := xH HB hb; (try clear hb); (try clear hb2); (try clear hk); (try clear hi)))
  go_ret
  exact ⟨by first | rfl | (simp [errW_none, errW_some] <;> rfl) | (simp [*, errW_none, errW_some] <;> rfl), uH HB.out⟩
 rw [if_pos c3] at H
 have c3b0 : decide (1048576 < (l1.length : Int)) = true := decide_eq_true c3
 have c3b1 : decide (1048576 < l1.length) = true := decide_eq_true (by omega)
 clear c3
 obtain rfl := Option.some.inj H
 go_enter Try.func9, Try.ntmps9
 go_wp2_with (first | ((with_reducible refine gate_dst (N := 2) rfl ?_); refine bx 2 #[.int .i64 a0_0, .slice A0_1 l0_1.length c0_1] 34 ?_; intro gb625 hg w4 hbox hb; have BK625 := zA (hbox); have GW625 := gq HB hg; have GE625 := gq HB hg; replace HB := xH HB hb; have := geI GE625; clear hb hbox hg))
 go_ret
 exact ⟨by first | rfl | (simp [errW_none, errW_some] <;> rfl) | (simp [*, errW_none, errW_some] <;> rfl), uH HB.out⟩
/-- THE ONE PURE STATEMENT of laws_FnExactSumOfExpansion: yours. -/
def laws_FnExactSumOfExpansion.Pure : Prop := ∀ (a0_0 : Int) (l0_1 : List Int) (l1 : List Int), (Lit.int .i64 a0_0).wf = true → l0_1.length ≤ maxLen → (∀ x ∈ l0_1, (Lit.int .i64 x).wf = true) → l1.length ≤ maxLen → l1.length * 8 ≤ 140737488351232 → (∀ x ∈ l1, (Lit.int .i64 x).wf = true) → ∃ k, laws_FnExactSumOfExpansion.f k a0_0 l0_1 l1 = some true
theorem laws_FnExactSumOfExpansion.walk (P : laws_FnExactSumOfExpansion.Pure) (a0_0 : Int) (a0_1 : Option Addr) (len0_1 cap0_1 : Nat) (z0_1 : List Int) (a1 : Option Addr) (len1 cap1 : Nat) (z1 : List Int) (w : World) (w0_0 : (Lit.int .i64 a0_0).wf = true) (w0_1 : (a0_1 = none ∧ len0_1 = 0 ∧ cap0_1 = 0 ∧ z0_1 = []) ∨ ∃ x, a0_1 = some x ∧ len0_1 ≤ cap0_1 ∧ cap0_1 ≤ maxLen ∧ z0_1.length = cap0_1 ∧ (∀ i, i < z0_1.length → w.cell? (x.add i) = some (.int .i64 (z0_1.getD i 0))) ∧ ∀ n ∈ z0_1, (Lit.int .i64 n).wf = true) (w1 : (a1 = none ∧ len1 = 0 ∧ cap1 = 0 ∧ z1 = []) ∨ ∃ x, a1 = some x ∧ len1 ≤ cap1 ∧ cap1 ≤ maxLen ∧ z1.length = cap1 ∧ (∀ i, i < z1.length → w.cell? (x.add i) = some (.int .i64 (z1.getD i 0))) ∧ ∀ n ∈ z1, (Lit.int .i64 n).wf = true) (y1 : len1 * 8 ≤ 140737488351232) :
  Calls Try.prog 9 #[.agg #[.int .i64 a0_0, .slice a0_1 len0_1 cap0_1], .slice a1 len1 cap1] w fun e w' => e = .returned (.bool true) ∧ Below w.heap.size w w' := by
 obtain ⟨l0_1, rfl, hr0_1, hm0_1, hw0_1, hc0_1⟩ := ReadsInt.ofRowC w0_1
 obtain ⟨l1, rfl, hr1, hm1, hw1, hc1⟩ := ReadsInt.ofRowC w1
 obtain ⟨k, h⟩ := P a0_0 l0_1 l1 w0_0 hm0_1 hw0_1 hm1 y1 hw1
 refine (laws_FnExactSumOfExpansion.calls k a0_0 _ _ l0_1 _ _ l1 true rfl w (Kd.C_of_reads (d := (0 : Int)) (h1 := fun _ => rfl) hr0_1) hc0_1 (Kd.C_of_reads (d := (0 : Int)) (h1 := fun _ => rfl) hr1) hc1 h).mono ?_
 rintro e w' ⟨rfl, hd⟩
 exact ⟨rfl, hd⟩

end Go.Proofs.Ytfbnkebgdmfcfaa.Pr
