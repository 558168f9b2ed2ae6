/- Printed by a program of this session out of the translation: what these functions of the program compute, under the conditions that each theorem names. -/
import Derived.Test.YtfbnkebgdmfcfaaKC01
import Derived.Test.YtfbnkebgdmfcfaaKC03
import Derived.Test.YtfbnkebgdmfcfaaKC02
import Derived.Test.YtfbnkebgdmfcfaaKFspecExpandPolynomial
import Derived.Test.YtfbnkebgdmfcfaaKFimplExpandPolynomial
namespace Go.Proofs.Ytfbnkebgdmfcfaa.Pr
open Go.RowKit Go.Proofs.YtfbnkebgdmfcfaaW.PrintWords Go.Proofs.YtfbnkebgdmfcfaaW.PrintLast Go.Proofs.YtfbnkebgdmfcfaaW.PrintMore
attribute [local go_sem] max2_int min2_int max_two min_two max_three min_three max_four min_four   -- for this text's walks alone
set_option linter.unusedVariables false
set_option linter.unusedSimpArgs false

/-! ### laws_FnExactExpandPolynomial: function 10 -/
mutual
def laws_FnExactExpandPolynomial.j0 : Nat → List Int → List Int → Int → List Int → List Int → Int → Bool → Int → List Int → Int → List Int → Option (Bool)
 | 0, _, _, _, _, _, _, _, _, _, _, _ => none
 | k + 1, x1, x6, x7, x9, x10, x11, x51, x744000, x744001, x761000, x761001 => if x51 = true then (some false) else ((laws_toMoments.f k x744000 x744001).bind fun bt769 => ((laws_eqMoments.f k x761000 x761001 bt769.1 bt769.2).bind fun t773 => (if t773 = true then ((laws_toInt64S.f k x1).bind fun t774 => ((laws_eqInt64S.f k x9 t774).bind fun t777 => (if t777 = true then ((laws_markMoments.f k x761000 x761001 1).bind fun bt778 => ((laws_markInt64S.f k x9 bt778.1).bind fun bt780 => (if bt780.1 < 0 then (laws_FnExactExpandPolynomial.j1 k x1 x6 x7 x10 true x744000 x744001) else ((laws_eqInt64S.f k x10 x6).bind fun t782 => (if t782 = true then (laws_FnExactExpandPolynomial.j1 k x1 x6 x7 x10 (x11 != x7) x744000 x744001) else (laws_FnExactExpandPolynomial.j1 k x1 x6 x7 x10 true x744000 x744001)))))) else (some false)))) else (some false))))
def laws_FnExactExpandPolynomial.j1 : Nat → List Int → List Int → Int → List Int → Bool → Int → List Int → Option (Bool)
 | 0, _, _, _, _, _, _, _ => none
 | k + 1, x1, x6, x7, x10, x80, x744000, x744001 => if x80 = true then (some false) else ((laws_markInt64S.f k x10 1).bind fun bt783 => ((laws_heldInt64S.f k bt783.2 1).bind fun t785 => (if t785 < 0 then (some false) else (if t785 = bt783.1 then ((laws_toMoments.f k x744000 x744001).bind fun bt786 => ((laws_toInt64S.f k x1).bind fun t790 => ((impl_ExpandPolynomial.f k bt786.1 bt786.2 t790).bind fun bt793 => ((laws_eqInt64S.f k bt793.1 x6).bind fun t797 => (if t797 = true then (laws_FnExactExpandPolynomial.j2 k bt783.2 bt783.1 (bt793.2 != x7)) else (laws_FnExactExpandPolynomial.j2 k bt783.2 bt783.1 true)))))) else (some false)))))
def laws_FnExactExpandPolynomial.j2 : Nat → List Int → Int → Bool → Option (Bool)
 | 0, _, _, _ => none
 | k + 1, x10, x13, x108 => if x108 = true then (some false) else ((laws_heldInt64S.f k x10 1).bind fun t798 => (if t798 < 0 then (some false) else (if t798 = x13 then (some true) else (some false))))
end
def laws_FnExactExpandPolynomial.f (k : Nat) (a0_0 : Int) (l0_1 : List Int) (l1 : List Int) : Option (Bool) := if (l1.length : Int) > 1048576 then (some true) else ((laws_szMoments.f a0_0 l0_1 1048576).bind fun t744 => (if t744 < 0 then (some true) else ((laws_toMoments.f k a0_0 l0_1).bind fun bt745 => ((laws_toInt64S.f k l1).bind fun t749 => ((spec_ExpandPolynomial.f k bt745.1 bt745.2 t749).bind fun bt752 => ((laws_toMoments.f k a0_0 l0_1).bind fun bt756 => ((laws_toInt64S.f k l1).bind fun t761 => ((impl_ExpandPolynomial.f k bt756.1 bt756.2 t761).bind fun bt764 => ((laws_eqInt64S.f k bt764.1 bt752.1).bind fun t768 => (if t768 = true then (laws_FnExactExpandPolynomial.j0 k l1 bt752.1 bt752.2 t761 bt764.1 bt764.2 (bt764.2 != bt752.2) a0_0 l0_1 bt756.1 bt756.2) else (laws_FnExactExpandPolynomial.j0 k l1 bt752.1 bt752.2 t761 bt764.1 bt764.2 true a0_0 l0_1 bt756.1 bt756.2)))))))))))
set_option maxHeartbeats 8000000 in
set_option maxRecDepth 100000 in
theorem laws_FnExactExpandPolynomial.calls (k : Nat) (a0_0 : Int) (A0_1 : Option Addr) (c0_1 : Nat) (l0_1 : List Int) (A1 : Option Addr) (c1 : Nat) (l1 : List Int) (r : Bool) (hr_ : r = true) (w : World) (hr0_1 : Kd.C (Kd.int .i64) w A0_1 l0_1.length l0_1) (hc0_1 : l0_1.length ≤ c0_1) (hr1 : Kd.C (Kd.int .i64) w A1 l1.length l1) (hc1 : l1.length ≤ c1) (h : laws_FnExactExpandPolynomial.f k a0_0 l0_1 l1 = some r) :
  Calls Try.prog 10 #[.agg #[.int .i64 a0_0, .slice A0_1 l0_1.length c0_1], .slice A1 l1.length c1] w fun e w' => e = .returned (.bool r) ∧ Below w.heap.size w w' := by
 have hu34 := Try.underlying34
 have hu40 := Try.underlying40
 have HRT := zA hr_
 clear hr_
 have HR0_1 := zA hr0_1
 have HC0_1 := zA hc0_1
 clear hr0_1 hc0_1
 have HR1 := zA hr1
 have HC1 := zA hc1
 clear hr1 hc1
 have HB := zA (Below.refl w.heap.size w)
 have H : (if (l1.length : Int) > 1048576 then (some true) else ((laws_szMoments.f a0_0 l0_1 1048576).bind fun t744 => (if t744 < 0 then (some true) else ((laws_toMoments.f k a0_0 l0_1).bind fun bt745 => ((laws_toInt64S.f k l1).bind fun t749 => ((spec_ExpandPolynomial.f k bt745.1 bt745.2 t749).bind fun bt752 => ((laws_toMoments.f k a0_0 l0_1).bind fun bt756 => ((laws_toInt64S.f k l1).bind fun t761 => ((impl_ExpandPolynomial.f k bt756.1 bt756.2 t761).bind fun bt764 => ((laws_eqInt64S.f k bt764.1 bt752.1).bind fun t768 => (if t768 = true then (laws_FnExactExpandPolynomial.j0 k l1 bt752.1 bt752.2 t761 bt764.1 bt764.2 (bt764.2 != bt752.2) a0_0 l0_1 bt756.1 bt756.2) else (laws_FnExactExpandPolynomial.j0 k l1 bt752.1 bt752.2 t761 bt764.1 bt764.2 true a0_0 l0_1 bt756.1 bt756.2)))))))))))) = some r := h
 clear h
 by_cases c3 : (l1.length : Int) > 1048576
 rotate_left
 ·rw [if_neg c3] at H
  have c3b0 : decide (1048576 < (l1.length : Int)) = false := decide_eq_false c3
  have c3b1 : decide (1048576 < l1.length) = false := decide_eq_false (by omega)
  clear c3
  replace H := Option.bind_eq_some_iff.mp H
  obtain ⟨t744, A50, H⟩ := H
  replace H : (if t744 < 0 then (some true) else ((laws_toMoments.f k a0_0 l0_1).bind fun bt745 => ((laws_toInt64S.f k l1).bind fun t749 => ((spec_ExpandPolynomial.f k bt745.1 bt745.2 t749).bind fun bt752 => ((laws_toMoments.f k a0_0 l0_1).bind fun bt756 => ((laws_toInt64S.f k l1).bind fun t761 => ((impl_ExpandPolynomial.f k bt756.1 bt756.2 t761).bind fun bt764 => ((laws_eqInt64S.f k bt764.1 bt752.1).bind fun t768 => (if t768 = true then (laws_FnExactExpandPolynomial.j0 k l1 bt752.1 bt752.2 t761 bt764.1 bt764.2 (bt764.2 != bt752.2) a0_0 l0_1 bt756.1 bt756.2) else (laws_FnExactExpandPolynomial.j0 k l1 bt752.1 bt752.2 t761 bt764.1 bt764.2 true a0_0 l0_1 bt756.1 bt756.2)))))))))) = some r := H
  have A5 := zA A50
  clear A50
  by_cases c6 : t744 < 0
  rotate_left
  ·rw [if_neg c6] at H
   have c6b0 : decide (t744 < 0) = false := decide_eq_false c6
   clear c6
   replace H := Option.bind_eq_some_iff.mp H
   obtain ⟨⟨t745, t746⟩, A100, H⟩ := H
   replace H : ((laws_toInt64S.f k l1).bind fun t749 => ((spec_ExpandPolynomial.f k t745 t746 t749).bind fun bt752 => ((laws_toMoments.f k a0_0 l0_1).bind fun bt756 => ((laws_toInt64S.f k l1).bind fun t761 => ((impl_ExpandPolynomial.f k bt756.1 bt756.2 t761).bind fun bt764 => ((laws_eqInt64S.f k bt764.1 bt752.1).bind fun t768 => (if t768 = true then (laws_FnExactExpandPolynomial.j0 k l1 bt752.1 bt752.2 t761 bt764.1 bt764.2 (bt764.2 != bt752.2) a0_0 l0_1 bt756.1 bt756.2) else (laws_FnExactExpandPolynomial.j0 k l1 bt752.1 bt752.2 t761 bt764.1 bt764.2 true a0_0 l0_1 bt756.1 bt756.2)))))))) = some r := H
   have A10 := zA A100
   clear A100
   replace H := Option.bind_eq_some_iff.mp H
   obtain ⟨t749, A110, H⟩ := H
   replace H : ((spec_ExpandPolynomial.f k t745 t746 t749).bind fun bt752 => ((laws_toMoments.f k a0_0 l0_1).bind fun bt756 => ((laws_toInt64S.f k l1).bind fun t761 => ((impl_ExpandPolynomial.f k bt756.1 bt756.2 t761).bind fun bt764 => ((laws_eqInt64S.f k bt764.1 bt752.1).bind fun t768 => (if t768 = true then (laws_FnExactExpandPolynomial.j0 k l1 bt752.1 bt752.2 t761 bt764.1 bt764.2 (bt764.2 != bt752.2) a0_0 l0_1 bt756.1 bt756.2) else (laws_FnExactExpandPolynomial.j0 k l1 bt752.1 bt752.2 t761 bt764.1 bt764.2 true a0_0 l0_1 bt756.1 bt756.2))))))) = some r := H
   have A11 := zA A110
   clear A110
   replace H := Option.bind_eq_some_iff.mp H
   obtain ⟨⟨t752, t755⟩, A120, H⟩ := H
   replace H : ((laws_toMoments.f k a0_0 l0_1).bind fun bt756 => ((laws_toInt64S.f k l1).bind fun t761 => ((impl_ExpandPolynomial.f k bt756.1 bt756.2 t761).bind fun bt764 => ((laws_eqInt64S.f k bt764.1 t752).bind fun t768 => (if t768 = true then (laws_FnExactExpandPolynomial.j0 k l1 t752 t755 t761 bt764.1 bt764.2 (bt764.2 != t755) a0_0 l0_1 bt756.1 bt756.2) else (laws_FnExactExpandPolynomial.j0 k l1 t752 t755 t761 bt764.1 bt764.2 true a0_0 l0_1 bt756.1 bt756.2)))))) = some r := H
   have A12 := zA A120
   clear A120
   replace H := Option.bind_eq_some_iff.mp H
   obtain ⟨⟨t756, t757⟩, A130, H⟩ := H
   replace H : ((laws_toInt64S.f k l1).bind fun t761 => ((impl_ExpandPolynomial.f k t756 t757 t761).bind fun bt764 => ((laws_eqInt64S.f k bt764.1 t752).bind fun t768 => (if t768 = true then (laws_FnExactExpandPolynomial.j0 k l1 t752 t755 t761 bt764.1 bt764.2 (bt764.2 != t755) a0_0 l0_1 t756 t757) else (laws_FnExactExpandPolynomial.j0 k l1 t752 t755 t761 bt764.1 bt764.2 true a0_0 l0_1 t756 t757))))) = some r := H
   have A13 := zA A130
   clear A130
   replace H := Option.bind_eq_some_iff.mp H
   obtain ⟨t761, A140, H⟩ := H
   replace H : ((impl_ExpandPolynomial.f k t756 t757 t761).bind fun bt764 => ((laws_eqInt64S.f k bt764.1 t752).bind fun t768 => (if t768 = true then (laws_FnExactExpandPolynomial.j0 k l1 t752 t755 t761 bt764.1 bt764.2 (bt764.2 != t755) a0_0 l0_1 t756 t757) else (laws_FnExactExpandPolynomial.j0 k l1 t752 t755 t761 bt764.1 bt764.2 true a0_0 l0_1 t756 t757)))) = some r := H
   have A14 := zA A140
   clear A140
   replace H := Option.bind_eq_some_iff.mp H
   obtain ⟨⟨t764, t767⟩, A150, H⟩ := H
   replace H : ((laws_eqInt64S.f k t764 t752).bind fun t768 => (if t768 = true then (laws_FnExactExpandPolynomial.j0 k l1 t752 t755 t761 t764 t767 (t767 != t755) a0_0 l0_1 t756 t757) else (laws_FnExactExpandPolynomial.j0 k l1 t752 t755 t761 t764 t767 true a0_0 l0_1 t756 t757))) = some r := H
   have A15 := zA A150
   clear A150
   have HC16 := zA H
   clear H
   go_enter Try.func10, Try.ntmps10
   go_upto_region 11 with (first | ((with_reducible refine gate_dst (N := 2) rfl ?_); refine bx 2 #[.int .i64 a0_0, .slice A0_1 l0_1.length c0_1] 34 ?_; intro gb743 hg w17 hbox hb; have BK743 := zA (hbox); have GW743 := gq HB hg; have GE743 := gq HB hg; replace HB := xH HB hb; have := geI GE743; clear hb hbox hg; have hcz18_0 := bc BK743 0; have hcz18_1 := bc BK743 1; have hfz18_0 := bf BK743 0; have hfz18_1 := bf BK743 1) | ((with_reducible refine gate_callee (f := 22) rfl ?_); refine gL (some 22) Try.func22 #[.agg #[.int .i64 a0_0, .slice A0_1 l0_1.length c0_1], .int .i64 1048576] ?_; (with_reducible refine (laws_szMoments.calls a0_0 _ _ l0_1 1048576 t744 _ ?side1 ?side2 A5.out).mono ?_); (case side1 => exact uC ((Kd.C_below HR0_1.out HB.out))); (case side2 => exact HC0_1.out); rintro e w19 ⟨rfl, hb⟩; refine ⟨_, rfl, ?_⟩; replace BK743 := xB BK743 hb; replace HB := xH HB hb; (try clear hb); (try clear hb2); (try clear hk); (try clear hi); have hcz20_0 := bc BK743 0; have hcz20_1 := bc BK743 1; have hfz20_0 := bf BK743 0; have hfz20_1 := bf BK743 1) | ((with_reducible refine gate_callee (f := 24) rfl ?_); refine gL (some 27) Try.func24 #[.agg #[.int .i64 a0_0, .slice A0_1 l0_1.length c0_1]] ?_; (with_reducible refine (laws_toMoments.calls k a0_0 _ _ l0_1 t745 t746 _ ?side1 ?side2 A10.out).mono ?_); (case side1 => exact uC ((Kd.C_below HR0_1.out HB.out))); (case side2 => exact HC0_1.out); rintro e w21 ⟨v747, rfl, ho0, hb⟩; refine ⟨_, rfl, ?_⟩; have HO748 := zA (Kd.R_lower ho0 (below_size (uH HB.out))); replace BK743 := xB BK743 hb; replace HB := xH HB hb; (try clear hb); (try clear hb2); (try clear hk); (try clear hi); (try clear ho0)) | ((with_reducible refine gate_callee (f := 25) rfl ?_); refine gL (some 29) Try.func25 #[.slice A1 l1.length c1] ?_; (with_reducible refine (laws_toInt64S.calls k _ _ l1 t749 _ ?side1 ?side2 A11.out).mono ?_); (case side1 => exact uC ((Kd.C_below HR1.out HB.out))); (case side2 => exact HC1.out); rintro e w22 ⟨v750, rfl, ho0, hb⟩; refine ⟨_, rfl, ?_⟩; have HO751 := zA (Kd.R_lower (Kd.R_new' ho0 (Kd.R_lt (uR HO748.out))) (below_size (uH HB.out))); replace HO748 := zA (Kd.R_elder' (uR HO748.out) (Kd.R_base ho0) hb); replace BK743 := xB BK743 hb; replace HB := xH HB hb; (try clear hb); (try clear hb2); (try clear hk); (try clear hi); (try clear ho0); obtain ⟨Ao23, co23, eo23⟩ := Kd.R_slice HO748.out; subst eo23; obtain ⟨Ao24, co24, eo24⟩ := Kd.R_slice HO751.out; subst eo24) | ((with_reducible refine gate_callee (f := 45) rfl ?_); refine gL (some 30) Try.func45 #[.agg #[.int .i64 t745, .slice Ao23 t746.length co23], .slice Ao24 t749.length co24] ?_; (with_reducible refine (spec_ExpandPolynomial.calls k t745 _ _ t746 (fun k_ => some k_ = (.slice Ao24 t749.length co24 : Value).ownBlock) _ _ t749 t752 t755 _ ?side1 ?side2 ?side3 A12.out).mono ?_); (case side1 => exact uC ((Kd.R_reads' HO748.out).2.2)); (case side2 => exact (Kd.R_reads' HO748.out).2.1); (case side3 => exact Kd.R_V (Kd.R_tight rfl (Kd.R_types (HO751.out) BK743.out (by decide)))); rintro e w25 ⟨v753, rfl, ho0, hb⟩; refine ⟨_, rfl, ?_⟩; have HO754 := zA (Kd.R_lower (Kd.R_new' (Kd.R_new' (Kd.R_mono (ok' := fun k_ => True) ho0 (fun _ hk_ => trivial)) (Kd.R_lt (uR HO748.out))) (Kd.R_lt (uR HO751.out))) (below_size (uH HB.out))); replace HO748 := zA (Kd.R_elder' (uR HO748.out) (Kd.R_base ho0) hb); replace HO751 := zA (Kd.R_elder' (uR HO751.out) (Kd.R_base ho0) hb); replace BK743 := xB BK743 hb; replace HB := xH HB hb; (try clear hb); (try clear hb2); (try clear hk); (try clear hi); (try clear ho0); have hcz26_0 := bc BK743 0; have hcz26_1 := bc BK743 1; have hfz26_0 := bf BK743 0; have hfz26_1 := bf BK743 1) | ((with_reducible refine gate_callee (f := 24) rfl ?_); refine gL (some 34) Try.func24 #[.agg #[.int .i64 a0_0, .slice A0_1 l0_1.length c0_1]] ?_; (with_reducible refine (laws_toMoments.calls k a0_0 _ _ l0_1 t756 t757 _ ?side1 ?side2 A13.out).mono ?_); (case side1 => exact uC ((Kd.C_below HR0_1.out HB.out))); (case side2 => exact HC0_1.out); rintro e w27 ⟨v758, rfl, ho0, hb⟩; refine ⟨_, rfl, ?_⟩; have HO759 := zA (Kd.R_lower (Kd.R_new' (Kd.R_new' (Kd.R_new' ho0 (Kd.R_lt (uR HO748.out))) (Kd.R_lt (uR HO751.out))) (Kd.R_lt (uR HO754.out))) (below_size (uH HB.out))); replace HO748 := zA (Kd.R_elder' (uR HO748.out) (Kd.R_base ho0) hb); replace HO751 := zA (Kd.R_elder' (uR HO751.out) (Kd.R_base ho0) hb); replace HO754 := zA (Kd.R_elder' (uR HO754.out) (Kd.R_base ho0) hb); replace BK743 := xB BK743 hb; replace HB := xH HB hb; (try clear hb); (try clear hb2); (try clear hk); (try clear hi); (try clear ho0)) | ((with_reducible refine gate_dst (N := 8) rfl ?_); refine bx 8 #[.int .i64 0, .slice none 0 0] 40 ?_; intro gb760 hg w28 hbox hb; replace HO748 := xR HO748 hb; replace HO751 := xR HO751 hb; replace HO754 := xR HO754 hb; replace HO759 := xR HO759 hb; have BK760 := zA (hbox); have GW760 := gq HB hg; have GE760 := gq HB hg; replace HB := xH HB hb; have NB743_760 := zA ((by rw [hg]; exact neL BK743 : gb743 ≠ gb760)); have NB760_743 := zA ((by rw [hg]; exact neG BK743 : gb760 ≠ gb743)); replace BK743 := xB BK743 hb; have := geI GE760; clear hb hbox hg; have hnb29 := NB760_743.out; have hnc29 := NB743_760.out; have hcz30_0 := bc BK760 0; have hcz30_1 := bc BK760 1; have hfz30_0 := bf BK760 0; have hfz30_1 := bf BK760 1; obtain ⟨Ao31, co31, eo31⟩ := Kd.R_slice HO759.out; subst eo31) | ((with_reducible refine gate_callee (f := 25) rfl ?_); refine gL (some 36) Try.func25 #[.slice A1 l1.length c1] ?_; (with_reducible refine (laws_toInt64S.calls k _ _ l1 t761 _ ?side1 ?side2 A14.out).mono ?_); (case side1 => exact Kd.C_below HR1.out (uH HB.out)); (case side2 => exact HC1.out); rintro e w32 ⟨v762, rfl, ho0, hb⟩; refine ⟨_, rfl, ?_⟩; have HO763 := zA (Kd.R_lower (Kd.R_new' (Kd.R_new' (Kd.R_new' (Kd.R_new' ho0 (Kd.R_lt (uR ((rf2 HO748 BK760 (by decide) (.int .i64 t756) (.slice Ao31 t757.length co31)))))) (Kd.R_lt (uR ((rf2 HO751 BK760 (by decide) (.int .i64 t756) (.slice Ao31 t757.length co31)))))) (Kd.R_lt (uR ((rf2 HO754 BK760 (by decide) (.int .i64 t756) (.slice Ao31 t757.length co31)))))) (Kd.R_lt (uR ((rf2 HO759 BK760 (by decide) (.int .i64 t756) (.slice Ao31 t757.length co31)))))) (below_size (uH HB.out))); replace HO748 := zA (Kd.R_elder' (uR ((rf2 HO748 BK760 (by decide) (.int .i64 t756) (.slice Ao31 t757.length co31)))) (Kd.R_base ho0) hb); replace HO751 := zA (Kd.R_elder' (uR ((rf2 HO751 BK760 (by decide) (.int .i64 t756) (.slice Ao31 t757.length co31)))) (Kd.R_base ho0) hb); replace HO754 := zA (Kd.R_elder' (uR ((rf2 HO754 BK760 (by decide) (.int .i64 t756) (.slice Ao31 t757.length co31)))) (Kd.R_base ho0) hb); replace HO759 := zA (Kd.R_elder' (uR ((rf2 HO759 BK760 (by decide) (.int .i64 t756) (.slice Ao31 t757.length co31)))) (Kd.R_base ho0) hb); replace BK743 := zA (blk_below (g := gb743) (o := .cells #[.int .i64 a0_0, .slice A0_1 l0_1.length c0_1] 34 (0, 0)) (by (repeat refine up1 ?_); refine blk_far ?_ NB743_760.out _; (repeat refine up1 ?_); refine blk_far ?_ NB743_760.out _; (repeat refine up1 ?_); exact BK743.out) hb); replace BK760 := zA (blk_below (g := gb760) (o := .cells #[.int .i64 t756, .slice Ao31 t757.length co31] 40 (0, 0)) (by (repeat refine up1 ?_); refine blk_put (cs := #[.int .i64 t756, .slice none 0 0]) ?_ 1 _ rfl; (repeat refine up1 ?_); refine blk_put (cs := #[.int .i64 0, .slice none 0 0]) ?_ 0 _ rfl; (repeat refine up1 ?_); exact BK760.out) hb); replace HB := xH HB hb; (try clear hb); (try clear hb2); (try clear hk); (try clear hi); (try clear ho0); have hcz33_0 := bc BK760 0; have hcz33_1 := bc BK760 1; have hfz33_0 := bf BK760 0; have hfz33_1 := bf BK760 1; obtain ⟨Ao34, co34, eo34⟩ := Kd.R_slice HO763.out; subst eo34) | ((with_reducible refine gate_callee (f := 46) rfl ?_); refine gL (some 40) Try.func46 #[.agg #[.int .i64 t756, .slice Ao31 t757.length co31], .slice Ao34 t761.length co34] ?_; (with_reducible refine (impl_ExpandPolynomial.calls k t756 _ _ t757 (fun k_ => some k_ = (.slice Ao34 t761.length co34 : Value).ownBlock) _ _ t761 t764 t767 _ ?side1 ?side2 ?side3 A15.out).mono ?_); (case side1 => exact uC ((Kd.R_reads' HO759.out).2.2)); (case side2 => exact (Kd.R_reads' HO759.out).2.1); (case side3 => exact Kd.R_V (Kd.R_tight rfl (Kd.R_types (Kd.R_types (HO763.out) BK743.out (by decide)) BK760.out (by decide)))); rintro e w35 ⟨v765, rfl, ho0, hb⟩; refine ⟨_, rfl, ?_⟩; have HO766 := zA (Kd.R_lower (Kd.R_new' (Kd.R_new' (Kd.R_new' (Kd.R_new' (Kd.R_new' (Kd.R_mono (ok' := fun k_ => True) ho0 (fun _ hk_ => trivial)) (Kd.R_lt (uR HO748.out))) (Kd.R_lt (uR HO751.out))) (Kd.R_lt (uR HO754.out))) (Kd.R_lt (uR HO759.out))) (Kd.R_lt (uR HO763.out))) (below_size (uH HB.out))); replace HO748 := zA (Kd.R_elder' (uR HO748.out) (Kd.R_base ho0) hb); replace HO751 := zA (Kd.R_elder' (uR HO751.out) (Kd.R_base ho0) hb); replace HO754 := zA (Kd.R_elder' (uR HO754.out) (Kd.R_base ho0) hb); replace HO759 := zA (Kd.R_elder' (uR HO759.out) (Kd.R_base ho0) hb); replace HO763 := zA (Kd.R_elder' (uR HO763.out) (Kd.R_base ho0) hb); replace BK743 := xB BK743 hb; replace BK760 := xB BK760 hb; replace HB := xH HB hb; (try clear hb); (try clear hb2); (try clear hk); (try clear hi); (try clear ho0)))
   (try simp only [Act.put, ls, lz, ln])
   go_cut [51] (fun v51 wc => ∃ (kq : Nat) (x51_15 : Bool), v51 = .bool x51_15 ∧ Aside0 (laws_FnExactExpandPolynomial.j0 kq l1 t752 t755 t761 t764 t767 x51_15 a0_0 l0_1 t756 t757 = some r) ∧ Aside0 (kq ≤ k) ∧ Aside0 (Kd.R (Kd.int .i64) 2 wc w.heap.size (fun k_ => ax k_ (.slice Ao34 t761.length co34) ∧ some k_ ≠ (v765 : Value).ownBlock ∧ ax k_ (.slice Ao31 t757.length co31)) v753 t752) ∧ Aside0 (Kd.R (Kd.int .i64) 2 wc w.heap.size (fun k_ => some k_ ≠ (v753 : Value).ownBlock ∧ some k_ ≠ (v765 : Value).ownBlock ∧ ax k_ (.slice Ao31 t757.length co31)) (.slice Ao34 t761.length co34) t761) ∧ Aside0 (Kd.R (Kd.int .i64) 2 wc w.heap.size (fun k_ => some k_ ≠ (v753 : Value).ownBlock ∧ ax k_ (.slice Ao34 t761.length co34) ∧ ax k_ (.slice Ao31 t757.length co31)) v765 t764) ∧ Aside0 (Kd.R (Kd.int .i64) 2 wc w.heap.size (fun k_ => some k_ ≠ (v753 : Value).ownBlock ∧ ax k_ (.slice Ao34 t761.length co34) ∧ some k_ ≠ (v765 : Value).ownBlock) (.slice Ao31 t757.length co31) t757) ∧ Aside0 (wc.heap[gb743]? = some (.cells #[.int .i64 a0_0, (.slice A0_1 l0_1.length c0_1)] 34 (0, 0))) ∧ Aside0 (wc.heap[gb760]? = some (.cells #[.int .i64 t756, (.slice Ao31 t757.length co31)] 40 (0, 0))) ∧ Aside0 (Below w.heap.size w wc))
   case first =>
    have H := HC16.out
    clear HC16
    replace H := Option.bind_eq_some_iff.mp H
    obtain ⟨t768, A360, H⟩ := H
    replace H : (if t768 = true then (laws_FnExactExpandPolynomial.j0 k l1 t752 t755 t761 t764 t767 (t767 != t755) a0_0 l0_1 t756 t757) else (laws_FnExactExpandPolynomial.j0 k l1 t752 t755 t761 t764 t767 true a0_0 l0_1 t756 t757)) = some r := H
    have A36 := zA A360
    clear A360
    by_cases c37 : t768 = true
    ·subst c37
     have H1 : (laws_FnExactExpandPolynomial.j0 k l1 t752 t755 t761 t764 t767 (t767 != t755) a0_0 l0_1 t756 t757) = some r := by rw [if_pos rfl] at H; exact H
     clear H
     have H := H1
     clear H1
     have H' := zA H
     clear H
     obtain ⟨Ao38, co38, eo38⟩ := Kd.R_slice HO766.out
     subst eo38
     obtain ⟨Ao39, co39, eo39⟩ := Kd.R_slice HO754.out
     subst eo39
     go_wp2_with (first | ((with_reducible refine gate_callee (f := 29) rfl ?_); refine gL (some 45) Try.func29 #[.slice Ao38 t764.length co38, .slice Ao39 t752.length co39] ?_; (with_reducible refine (laws_eqInt64S.calls k _ _ t764 _ _ t752 true _ ?side1 ?side2 ?side3 ?side4 A36.out).mono ?_); (case side1 => exact uC ((Kd.R_reads' HO766.out).2.2)); (case side2 => exact (Kd.R_reads' HO766.out).2.1); (case side3 => exact uC ((Kd.R_reads' HO754.out).2.2)); (case side4 => exact (Kd.R_reads' HO754.out).2.1); rintro e w' ⟨rfl, ⟨nd, rfl⟩⟩; refine ⟨_, rfl, ?_⟩))
     go_meet
     case rel => exact ⟨_, ((t767 != t755)), (by first | rfl | (simp; done) | (simp [*]; done)), H', ⟨by first | omega | exact Nat.le_refl _⟩, ⟨uR (Kd.R_mono HO754.out (fun _ hk => ⟨hk.1.2, ⟨hk.2, hk.1.1.2⟩⟩))⟩, ⟨uR (Kd.R_mono HO763.out (fun _ hk => ⟨hk.1.1.2, ⟨hk.2, hk.1.2⟩⟩))⟩, ⟨uR (Kd.R_mono HO766.out (fun _ hk => ⟨hk.1.1.2, ⟨hk.2, hk.1.2⟩⟩))⟩, ⟨uR (Kd.R_mono HO759.out (fun _ hk => ⟨hk.1.1.2, ⟨hk.1.2, hk.2⟩⟩))⟩, ⟨uB BK743.out⟩, ⟨uB BK760.out⟩, ⟨uH HB.out⟩⟩
    ·replace c37 := Bool.eq_false_iff.mpr c37
     subst c37
     have H1 : (laws_FnExactExpandPolynomial.j0 k l1 t752 t755 t761 t764 t767 true a0_0 l0_1 t756 t757) = some r := by rw [if_neg (show ¬ (false = true) by decide)] at H; exact H
     clear H
     have H := H1
     clear H1
     have H' := zA H
     clear H
     obtain ⟨Ao40, co40, eo40⟩ := Kd.R_slice HO766.out
     subst eo40
     obtain ⟨Ao41, co41, eo41⟩ := Kd.R_slice HO754.out
     subst eo41
     go_wp2_with (first | ((with_reducible refine gate_callee (f := 29) rfl ?_); refine gL (some 45) Try.func29 #[.slice Ao40 t764.length co40, .slice Ao41 t752.length co41] ?_; (with_reducible refine (laws_eqInt64S.calls k _ _ t764 _ _ t752 false _ ?side1 ?side2 ?side3 ?side4 A36.out).mono ?_); (case side1 => exact uC ((Kd.R_reads' HO766.out).2.2)); (case side2 => exact (Kd.R_reads' HO766.out).2.1); (case side3 => exact uC ((Kd.R_reads' HO754.out).2.2)); (case side4 => exact (Kd.R_reads' HO754.out).2.1); rintro e w' ⟨rfl, ⟨nd, rfl⟩⟩; refine ⟨_, rfl, ?_⟩))
     go_meet
     case rel => exact ⟨_, (true), (by first | rfl | (simp; done) | (simp [*]; done)), H', ⟨by first | omega | exact Nat.le_refl _⟩, ⟨uR (Kd.R_mono HO754.out (fun _ hk => ⟨hk.1.2, ⟨hk.2, hk.1.1.2⟩⟩))⟩, ⟨uR (Kd.R_mono HO763.out (fun _ hk => ⟨hk.1.1.2, ⟨hk.2, hk.1.2⟩⟩))⟩, ⟨uR (Kd.R_mono HO766.out (fun _ hk => ⟨hk.1.1.2, ⟨hk.2, hk.1.2⟩⟩))⟩, ⟨uR (Kd.R_mono HO759.out (fun _ hk => ⟨hk.1.1.2, ⟨hk.1.2, hk.2⟩⟩))⟩, ⟨uB BK743.out⟩, ⟨uB BK760.out⟩, ⟨uH HB.out⟩⟩
   case rest =>
    clear HC16
    (try clear c1);(try clear c2);(try clear p2);(try clear c3);(try clear c3b0);(try clear c3b1);(try clear c4);(try clear c6);(try clear c6b0);(try clear c10);(try clear c22);(try clear c24);(try clear c25);(try clear c29);(try clear c37);(try clear hcz18_0);(try clear hcz18_1);(try clear hcz20_0);(try clear hcz20_1);(try clear hcz26_0);(try clear hcz26_1);(try clear hcz30_0);(try clear hcz30_1)
    (try clear hcz33_0);(try clear hcz33_1);(try clear hcz8_0);(try clear hcz8_1);(try clear hfz18_0);(try clear hfz18_1);(try clear hfz20_0);(try clear hfz20_1);(try clear hfz26_0);(try clear hfz26_1);(try clear hfz30_0);(try clear hfz30_1);(try clear hfz33_0);(try clear hfz33_1);(try clear hfz8_0);(try clear hfz8_1)
    obtain ⟨kq, x51_15, rfl, HA, HJ15, HO_6, HO_9, HO_10, HO_761001, BK743, BK760, HB⟩ := hcut
    cases kq with
    | zero => exact absurd HA.out (by simp [laws_FnExactExpandPolynomial.j0])
    | succ kj15 =>
     have H := HA.out
     clear HA
     simp only [laws_FnExactExpandPolynomial.j0] at H
     by_cases c42 : x51_15 = true
     ·subst c42
      have H1 : (some false) = some r := by rw [if_pos rfl] at H; exact H
      clear H
      have H := H1
      clear H1
      rw [HRT.out] at H
      exact absurd H (by simp)
     ·replace c42 := Bool.eq_false_iff.mpr c42
      subst c42
      have H1 : ((laws_toMoments.f kj15 a0_0 l0_1).bind fun bt769 => ((laws_eqMoments.f kj15 t756 t757 bt769.1 bt769.2).bind fun t773 => (if t773 = true then ((laws_toInt64S.f kj15 l1).bind fun t774 => ((laws_eqInt64S.f kj15 t761 t774).bind fun t777 => (if t777 = true then ((laws_markMoments.f kj15 t756 t757 1).bind fun bt778 => ((laws_markInt64S.f kj15 t761 bt778.1).bind fun bt780 => (if bt780.1 < 0 then (laws_FnExactExpandPolynomial.j1 kj15 l1 t752 t755 t764 true a0_0 l0_1) else ((laws_eqInt64S.f kj15 t764 t752).bind fun t782 => (if t782 = true then (laws_FnExactExpandPolynomial.j1 kj15 l1 t752 t755 t764 (t767 != t755) a0_0 l0_1) else (laws_FnExactExpandPolynomial.j1 kj15 l1 t752 t755 t764 true a0_0 l0_1)))))) else (some false)))) else (some false)))) = some r := by rw [if_neg (show ¬ (false = true) by decide)] at H; exact H
      clear H
      have H := H1
      clear H1
      replace H := Option.bind_eq_some_iff.mp H
      obtain ⟨⟨t769, t770⟩, A430, H⟩ := H
      replace H : ((laws_eqMoments.f kj15 t756 t757 t769 t770).bind fun t773 => (if t773 = true then ((laws_toInt64S.f kj15 l1).bind fun t774 => ((laws_eqInt64S.f kj15 t761 t774).bind fun t777 => (if t777 = true then ((laws_markMoments.f kj15 t756 t757 1).bind fun bt778 => ((laws_markInt64S.f kj15 t761 bt778.1).bind fun bt780 => (if bt780.1 < 0 then (laws_FnExactExpandPolynomial.j1 kj15 l1 t752 t755 t764 true a0_0 l0_1) else ((laws_eqInt64S.f kj15 t764 t752).bind fun t782 => (if t782 = true then (laws_FnExactExpandPolynomial.j1 kj15 l1 t752 t755 t764 (t767 != t755) a0_0 l0_1) else (laws_FnExactExpandPolynomial.j1 kj15 l1 t752 t755 t764 true a0_0 l0_1)))))) else (some false)))) else (some false))) = some r := H
      have A43 := zA A430
      clear A430
      replace H := Option.bind_eq_some_iff.mp H
      obtain ⟨t773, A440, H⟩ := H
      replace H : (if t773 = true then ((laws_toInt64S.f kj15 l1).bind fun t774 => ((laws_eqInt64S.f kj15 t761 t774).bind fun t777 => (if t777 = true then ((laws_markMoments.f kj15 t756 t757 1).bind fun bt778 => ((laws_markInt64S.f kj15 t761 bt778.1).bind fun bt780 => (if bt780.1 < 0 then (laws_FnExactExpandPolynomial.j1 kj15 l1 t752 t755 t764 true a0_0 l0_1) else ((laws_eqInt64S.f kj15 t764 t752).bind fun t782 => (if t782 = true then (laws_FnExactExpandPolynomial.j1 kj15 l1 t752 t755 t764 (t767 != t755) a0_0 l0_1) else (laws_FnExactExpandPolynomial.j1 kj15 l1 t752 t755 t764 true a0_0 l0_1)))))) else (some false)))) else (some false)) = some r := H
      have A44 := zA A440
      clear A440
      by_cases c45 : t773 = true
      ·subst c45
       have H1 : ((laws_toInt64S.f kj15 l1).bind fun t774 => ((laws_eqInt64S.f kj15 t761 t774).bind fun t777 => (if t777 = true then ((laws_markMoments.f kj15 t756 t757 1).bind fun bt778 => ((laws_markInt64S.f kj15 t761 bt778.1).bind fun bt780 => (if bt780.1 < 0 then (laws_FnExactExpandPolynomial.j1 kj15 l1 t752 t755 t764 true a0_0 l0_1) else ((laws_eqInt64S.f kj15 t764 t752).bind fun t782 => (if t782 = true then (laws_FnExactExpandPolynomial.j1 kj15 l1 t752 t755 t764 (t767 != t755) a0_0 l0_1) else (laws_FnExactExpandPolynomial.j1 kj15 l1 t752 t755 t764 true a0_0 l0_1)))))) else (some false)))) = some r := by rw [if_pos rfl] at H; exact H
       clear H
       have H := H1
       clear H1
       replace H := Option.bind_eq_some_iff.mp H
       obtain ⟨t774, A460, H⟩ := H
       replace H : ((laws_eqInt64S.f kj15 t761 t774).bind fun t777 => (if t777 = true then ((laws_markMoments.f kj15 t756 t757 1).bind fun bt778 => ((laws_markInt64S.f kj15 t761 bt778.1).bind fun bt780 => (if bt780.1 < 0 then (laws_FnExactExpandPolynomial.j1 kj15 l1 t752 t755 t764 true a0_0 l0_1) else ((laws_eqInt64S.f kj15 t764 t752).bind fun t782 => (if t782 = true then (laws_FnExactExpandPolynomial.j1 kj15 l1 t752 t755 t764 (t767 != t755) a0_0 l0_1) else (laws_FnExactExpandPolynomial.j1 kj15 l1 t752 t755 t764 true a0_0 l0_1)))))) else (some false))) = some r := H
       have A46 := zA A460
       clear A460
       replace H := Option.bind_eq_some_iff.mp H
       obtain ⟨t777, A470, H⟩ := H
       replace H : (if t777 = true then ((laws_markMoments.f kj15 t756 t757 1).bind fun bt778 => ((laws_markInt64S.f kj15 t761 bt778.1).bind fun bt780 => (if bt780.1 < 0 then (laws_FnExactExpandPolynomial.j1 kj15 l1 t752 t755 t764 true a0_0 l0_1) else ((laws_eqInt64S.f kj15 t764 t752).bind fun t782 => (if t782 = true then (laws_FnExactExpandPolynomial.j1 kj15 l1 t752 t755 t764 (t767 != t755) a0_0 l0_1) else (laws_FnExactExpandPolynomial.j1 kj15 l1 t752 t755 t764 true a0_0 l0_1)))))) else (some false)) = some r := H
       have A47 := zA A470
       clear A470
       by_cases c48 : t777 = true
       ·subst c48
        have H1 : ((laws_markMoments.f kj15 t756 t757 1).bind fun bt778 => ((laws_markInt64S.f kj15 t761 bt778.1).bind fun bt780 => (if bt780.1 < 0 then (laws_FnExactExpandPolynomial.j1 kj15 l1 t752 t755 t764 true a0_0 l0_1) else ((laws_eqInt64S.f kj15 t764 t752).bind fun t782 => (if t782 = true then (laws_FnExactExpandPolynomial.j1 kj15 l1 t752 t755 t764 (t767 != t755) a0_0 l0_1) else (laws_FnExactExpandPolynomial.j1 kj15 l1 t752 t755 t764 true a0_0 l0_1)))))) = some r := by rw [if_pos rfl] at H; exact H
        clear H
        have H := H1
        clear H1
        replace H := Option.bind_eq_some_iff.mp H
        obtain ⟨⟨t778, t779⟩, A490, H⟩ := H
        replace H : ((laws_markInt64S.f kj15 t761 t778).bind fun bt780 => (if bt780.1 < 0 then (laws_FnExactExpandPolynomial.j1 kj15 l1 t752 t755 t764 true a0_0 l0_1) else ((laws_eqInt64S.f kj15 t764 t752).bind fun t782 => (if t782 = true then (laws_FnExactExpandPolynomial.j1 kj15 l1 t752 t755 t764 (t767 != t755) a0_0 l0_1) else (laws_FnExactExpandPolynomial.j1 kj15 l1 t752 t755 t764 true a0_0 l0_1))))) = some r := H
        have A49 := zA A490
        clear A490
        replace H := Option.bind_eq_some_iff.mp H
        obtain ⟨⟨t780, t781⟩, A500, H⟩ := H
        replace H : (if t780 < 0 then (laws_FnExactExpandPolynomial.j1 kj15 l1 t752 t755 t764 true a0_0 l0_1) else ((laws_eqInt64S.f kj15 t764 t752).bind fun t782 => (if t782 = true then (laws_FnExactExpandPolynomial.j1 kj15 l1 t752 t755 t764 (t767 != t755) a0_0 l0_1) else (laws_FnExactExpandPolynomial.j1 kj15 l1 t752 t755 t764 true a0_0 l0_1)))) = some r := H
        have A50 := zA A500
        clear A500
        have HC51 := zA H
        clear H
        try go_wp2
        replace HO_6 := zA (Kd.R_drew HO_6.out)
        replace HO_9 := zA (Kd.R_drew HO_9.out)
        replace HO_10 := zA (Kd.R_drew HO_10.out)
        replace HO_761001 := zA (Kd.R_drew HO_761001.out)
        replace BK743 := zA (blk_drew BK743.out)
        replace BK760 := zA (blk_drew BK760.out)
        replace HB := zA (below_drew1 HB.out)
        refine start_ (n := 5) (S := fun w' => w'.cell? ⟨gb760, 0, none⟩ = some (.int .i64 t756) ∧ w'.cell? ⟨gb760, 1, none⟩ = some (.slice Ao31 t757.length co31) ∧ w'.cell? ⟨gb743, 0, none⟩ = some (.int .i64 a0_0) ∧ w'.cell? ⟨gb743, 1, none⟩ = some (.slice A0_1 l0_1.length c0_1)) (ds := []) #[false, false, false, false, false] (by kernel_rfl) rfl rfl ⟨bcu BK760 0, bcu BK760 1, bcu BK743 0, bcu BK743 1⟩ (fun hHeld => ?_)
        generalize wc.drew = w52 at HO_6 HO_9 HO_10 HO_761001 BK743 BK760 HB hHeld ⊢
        refine take_ (i := 0) (N := some 52) (v := ?_) (a' := ?_) (bl 5 1) rfl rfl (by kernel_rfl) (fun _ _ _ h => h) (Or.inl ⟨by rfl, ?_⟩) hHeld ?_ ?_
        rotate_left
        ·rintro w' ⟨s0, s1, s2, s3⟩
         go_simp
         with_reducible rfl
        rotate_left
        ·simp only [Act.put, ls, lz, ln, i64_w, i32_w]
         rfl
        refine take_ (i := 1) (N := some 53) (v := ?_) (a' := ?_) (bl 5 3) rfl rfl (by kernel_rfl) (fun _ _ _ h => h) (Or.inl ⟨by rfl, ?_⟩) hHeld ?_ ?_
        rotate_left
        ·rintro w' ⟨s0, s1, s2, s3⟩
         go_simp
         with_reducible rfl
        rotate_left
        ·simp only [Act.put, ls, lz, ln, i64_w, i32_w]
         rfl
        refine one_ (i := 2) (N := some 54) (bl 5 7) rfl rfl (by kernel_rfl) (by decide) (fun K hK => ?_)
        refine gS Try.func24 #[.agg #[.int .i64 a0_0, .slice A0_1 l0_1.length c0_1]] ?_
        with_reducible refine (laws_toMoments.calls kj15 a0_0 _ _ l0_1 t769 t770 _ ?side1 ?side2 A43.out).mono ?_
        (case side1 => exact uC ((Kd.C_below HR0_1.out HB.out)))
        (case side2 => exact HC0_1.out)
        rintro e w53 ⟨v771, rfl, ho0, hb⟩
        refine ⟨_, rfl, ?_⟩
        have HO772 := zA (Kd.R_lower (Kd.R_new' (Kd.R_new' (Kd.R_new' (Kd.R_new' ho0 (Kd.R_lt (uR HO_6.out))) (Kd.R_lt (uR HO_9.out))) (Kd.R_lt (uR HO_10.out))) (Kd.R_lt (uR HO_761001.out))) (below_size (uH HB.out)))
        replace HO_6 := zA (Kd.R_elder' (uR HO_6.out) (Kd.R_base ho0) hb)
        replace HO_9 := zA (Kd.R_elder' (uR HO_9.out) (Kd.R_base ho0) hb)
        replace HO_10 := zA (Kd.R_elder' (uR HO_10.out) (Kd.R_base ho0) hb)
        replace HO_761001 := zA (Kd.R_elder' (uR HO_761001.out) (Kd.R_base ho0) hb)
        replace BK743 := xB BK743 hb
        replace BK760 := xB BK760 hb
        replace HB := xH HB hb
        (try clear hb); (try clear hb2); (try clear hk); (try clear hi); (try clear ho0)
        obtain ⟨Ao54, co54, eo54⟩ := Kd.R_slice HO772.out
        (first | subst eo54 | (injection eo54 with f1_ f2_ f3_; have f4_ := f1_.symm; have f5_ := f3_.symm; clear f1_ f2_ f3_; subst f4_; subst f5_))
        refine hK.out _ _ ⟨bcu BK760 0, bcu BK760 1, bcu BK743 0, bcu BK743 1⟩ (fun hHeld => ?_)
        clear hK K
        refine no_ 54 ?_
        refine one_ (i := 3) (N := some 55) (bl 5 15) rfl rfl (by kernel_rfl) (by decide) (fun K hK => ?_)
        refine gS Try.func28 #[.agg #[.int .i64 t756, .slice Ao31 t757.length co31], .agg #[.int .i64 t769, .slice Ao54 t770.length co54]] ?_
        with_reducible refine (laws_eqMoments.calls kj15 t756 _ _ t757 t769 _ _ t770 true _ ?side1 ?side2 ?side3 ?side4 A44.out).mono ?_
        (case side1 => exact uC ((Kd.R_reads' HO_761001.out).2.2))
        (case side2 => exact (Kd.R_reads' HO_761001.out).2.1)
        (case side3 => exact uC ((Kd.R_reads' HO772.out).2.2))
        (case side4 => exact (Kd.R_reads' HO772.out).2.1)
        rintro e w55 ⟨rfl, hb⟩
        refine ⟨_, rfl, ?_⟩
        replace HO_6 := xR HO_6 hb
        replace HO_9 := xR HO_9 hb
        replace HO_10 := xR HO_10 hb
        replace HO_761001 := xR HO_761001 hb
        replace HO772 := xR HO772 hb
        replace BK743 := xB BK743 hb
        replace BK760 := xB BK760 hb
        replace HB := xH HB hb
        (try clear hb); (try clear hb2); (try clear hk); (try clear hi)
        refine hK.out _ _ ⟨bcu BK760 0, bcu BK760 1, bcu BK743 0, bcu BK743 1⟩ (fun hHeld => ?_)
        clear hK K
        refine no_ 55 ?_
        refine pure_ (i := 4) (N := some 56) (v := ?_) (a' := ?_) (bl 5 31) rfl rfl (by kernel_rfl) (fun _ _ _ h => h) (Or.inl ⟨by rfl, ?_⟩) ?_ ?_
        rotate_left
        ·intro w'
         go_simp
         with_reducible rfl
        rotate_left
        ·simp only [Act.put, ls, lz, ln, i64_w, i32_w]
         rfl
        refine done_ (by kernel_rfl) ?_
        go_upto_region 20 with (first | ((with_reducible refine gate_callee (f := 25) rfl ?_); refine gL (some 59) Try.func25 #[.slice A1 l1.length c1] ?_; (with_reducible refine (laws_toInt64S.calls kj15 _ _ l1 t774 _ ?side1 ?side2 A46.out).mono ?_); (case side1 => exact uC ((Kd.C_below HR1.out HB.out))); (case side2 => exact HC1.out); rintro e w56 ⟨v775, rfl, ho0, hb⟩; refine ⟨_, rfl, ?_⟩; have HO776 := zA (Kd.R_lower (Kd.R_new' (Kd.R_new' (Kd.R_new' (Kd.R_new' (Kd.R_new' ho0 (Kd.R_lt (uR HO_6.out))) (Kd.R_lt (uR HO_9.out))) (Kd.R_lt (uR HO_10.out))) (Kd.R_lt (uR HO_761001.out))) (Kd.R_lt (uR HO772.out))) (below_size (uH HB.out))); replace HO_6 := zA (Kd.R_elder' (uR HO_6.out) (Kd.R_base ho0) hb); replace HO_9 := zA (Kd.R_elder' (uR HO_9.out) (Kd.R_base ho0) hb); replace HO_10 := zA (Kd.R_elder' (uR HO_10.out) (Kd.R_base ho0) hb); replace HO_761001 := zA (Kd.R_elder' (uR HO_761001.out) (Kd.R_base ho0) hb); replace HO772 := zA (Kd.R_elder' (uR HO772.out) (Kd.R_base ho0) hb); replace BK743 := xB BK743 hb; replace BK760 := xB BK760 hb; replace HB := xH HB hb; (try clear hb); (try clear hb2); (try clear hk); (try clear hi); (try clear ho0); obtain ⟨Ao57, co57, eo57⟩ := Kd.R_slice HO776.out; subst eo57) | ((with_reducible refine gate_callee (f := 29) rfl ?_); refine gL (some 60) Try.func29 #[.slice Ao34 t761.length co34, .slice Ao57 t774.length co57] ?_; (with_reducible refine (laws_eqInt64S.calls kj15 _ _ t761 _ _ t774 true _ ?side1 ?side2 ?side3 ?side4 A47.out).mono ?_); (case side1 => exact uC ((Kd.R_reads' HO_9.out).2.2)); (case side2 => exact (Kd.R_reads' HO_9.out).2.1); (case side3 => exact uC ((Kd.R_reads' HO776.out).2.2)); (case side4 => exact (Kd.R_reads' HO776.out).2.1); rintro e w' ⟨rfl, ⟨nd, rfl⟩⟩; refine ⟨_, rfl, ?_⟩; have hnb58 := NB760_743.out; have hnc58 := NB743_760.out; have hcz59_0 := bc BK760 0; have hcz59_1 := bc BK760 1; have hfz59_0 := bf BK760 0; have hfz59_1 := bf BK760 1) | ((with_reducible refine gate_callee (f := 30) rfl ?_); refine gL (some 64) Try.func30 #[.agg #[.int .i64 t756, .slice Ao31 t757.length co31], .int .i64 1] ?_; (with_reducible refine (laws_markMoments.calls kj15 t756 (fun k_ => some k_ = (.slice Ao31 t757.length co31 : Value).ownBlock) (.slice Ao31 t757.length co31) t757 1 t778 t779 w _ ?side1 ?side2 A49.out).mono ?_); (case side1 => repeat (first | (with_reducible first | exact HB.out | apply below_alloc | apply pw_below_drewN | apply below_drew1 | refine below_set ?_ GE743.out | refine below_set ?_ GE760.out) | exact HB.out)); (case side2 => exact Kd.R_tight rfl HO_761001.out); rintro e w60 ⟨rfl, hy0, hb, hkp⟩; refine ⟨_, rfl, ?_⟩; replace HO_6 := zA (Kd.R_mono (ok' := fun k_ => ax k_ (.slice Ao34 t761.length co34) ∧ some k_ ≠ (v765 : Value).ownBlock ∧ ax k_ (.slice Ao31 t757.length co31) ∧ ax k_ (.slice Ao54 t770.length co54) ∧ ax k_ (.slice Ao57 t774.length co57)) (Kd.R_keptB (HO_6.out) hkp (fun k_ hk_ hs_ => (hk_.1.1.2.2) hs_)) (fun k_ hk_ => ⟨hk_.1.1.1.1, hk_.1.1.1.2.1, hk_.1.1.1.2.2, hk_.1.1.2, hk_.1.2⟩)); replace HO_9 := zA (Kd.R_mono (ok' := fun k_ => some k_ ≠ (v753 : Value).ownBlock ∧ some k_ ≠ (v765 : Value).ownBlock ∧ ax k_ (.slice Ao31 t757.length co31) ∧ ax k_ (.slice Ao54 t770.length co54) ∧ ax k_ (.slice Ao57 t774.length co57)) (Kd.R_keptB (HO_9.out) hkp (fun k_ hk_ hs_ => (hk_.1.1.2.2) hs_)) (fun k_ hk_ => ⟨hk_.1.1.1.1, hk_.1.1.1.2.1, hk_.1.1.1.2.2, hk_.1.1.2, hk_.1.2⟩)); replace HO_10 := zA (Kd.R_mono (ok' := fun k_ => some k_ ≠ (v753 : Value).ownBlock ∧ ax k_ (.slice Ao34 t761.length co34) ∧ ax k_ (.slice Ao31 t757.length co31) ∧ ax k_ (.slice Ao54 t770.length co54) ∧ ax k_ (.slice Ao57 t774.length co57)) (Kd.R_keptB (HO_10.out) hkp (fun k_ hk_ hs_ => (hk_.1.1.2.2) hs_)) (fun k_ hk_ => ⟨hk_.1.1.1.1, hk_.1.1.1.2.1, hk_.1.1.1.2.2, hk_.1.1.2, hk_.1.2⟩)); replace BK743 := zA (blk_kept (uB BK743.out) hkp (fun hs_ => (fun e_ => (Kd.R_ne HO_761001.out BK743.out (by decide)) e_) hs_)); replace BK760 := zA (blk_kept (uB BK760.out) hkp (fun hs_ => (fun e_ => (Kd.R_ne HO_761001.out BK760.out (by decide)) e_) hs_)); replace HO_761001 := zA (Kd.R_reok rfl hy0 (fun k_ e_ => HO_761001.out.1 k_ e_)); replace HO772 := zA (Kd.R_mono (ok' := fun k_ => some k_ ≠ (v753 : Value).ownBlock ∧ ax k_ (.slice Ao34 t761.length co34) ∧ some k_ ≠ (v765 : Value).ownBlock ∧ ax k_ (.slice Ao31 t757.length co31) ∧ ax k_ (.slice Ao57 t774.length co57)) (Kd.R_keptB (HO772.out) hkp (fun k_ hk_ hs_ => (hk_.1.2) hs_)) (fun k_ hk_ => ⟨hk_.1.1.1.1.1.2, hk_.1.1.1.1.2, hk_.1.1.1.2, hk_.1.1.2, hk_.1.2⟩)); replace HO776 := zA (Kd.R_mono (ok' := fun k_ => some k_ ≠ (v753 : Value).ownBlock ∧ ax k_ (.slice Ao34 t761.length co34) ∧ some k_ ≠ (v765 : Value).ownBlock ∧ ax k_ (.slice Ao31 t757.length co31) ∧ ax k_ (.slice Ao54 t770.length co54)) (Kd.R_keptB (HO776.out) hkp (fun k_ hk_ hs_ => (hk_.1.2) hs_)) (fun k_ hk_ => ⟨hk_.1.1.1.1.1.2, hk_.1.1.1.1.2, hk_.1.1.1.2, hk_.1.1.2, hk_.1.2⟩)); replace HB := zA (hb); (try clear hb); (try clear hkp); (try clear hy0)) | ((with_reducible refine gate_callee (f := 31) rfl ?_); refine gL (some 67) Try.func31 #[.slice Ao34 t761.length co34, .int .i64 t778] ?_; (with_reducible refine (laws_markInt64S.calls kj15 (fun k_ => some k_ = (.slice Ao34 t761.length co34 : Value).ownBlock) (.slice Ao34 t761.length co34) t761 t778 t780 t781 w _ ?side1 ?side2 A50.out).mono ?_); (case side1 => repeat (first | (with_reducible first | exact HB.out | apply below_alloc | apply pw_below_drewN | apply below_drew1 | refine below_set ?_ GE743.out | refine below_set ?_ GE760.out) | exact HB.out)); (case side2 => exact Kd.R_tight rfl HO_9.out); rintro e w61 ⟨rfl, hy0, hb, hkp⟩; refine ⟨_, rfl, ?_⟩; replace HO_6 := zA (Kd.R_mono (ok' := fun k_ => ax k_ (.slice Ao34 t761.length co34) ∧ some k_ ≠ (v765 : Value).ownBlock ∧ ax k_ (.slice Ao31 t757.length co31) ∧ ax k_ (.slice Ao54 t770.length co54) ∧ ax k_ (.slice Ao57 t774.length co57)) (Kd.R_keptB (HO_6.out) hkp (fun k_ hk_ hs_ => (hk_.1) hs_)) (fun k_ hk_ => ⟨hk_.1.1, hk_.1.2.1, hk_.1.2.2.1, hk_.1.2.2.2.1, hk_.1.2.2.2.2⟩)); replace HO_10 := zA (Kd.R_mono (ok' := fun k_ => some k_ ≠ (v753 : Value).ownBlock ∧ ax k_ (.slice Ao34 t761.length co34) ∧ ax k_ (.slice Ao31 t757.length co31) ∧ ax k_ (.slice Ao54 t770.length co54) ∧ ax k_ (.slice Ao57 t774.length co57)) (Kd.R_keptB (HO_10.out) hkp (fun k_ hk_ hs_ => (hk_.2.1) hs_)) (fun k_ hk_ => ⟨hk_.1.1, hk_.1.2.1, hk_.1.2.2.1, hk_.1.2.2.2.1, hk_.1.2.2.2.2⟩)); replace HO_761001 := zA (Kd.R_mono (ok' := fun k_ => some k_ ≠ (v753 : Value).ownBlock ∧ ax k_ (.slice Ao34 t761.length co34) ∧ some k_ ≠ (v765 : Value).ownBlock ∧ ax k_ (.slice Ao54 t770.length co54) ∧ ax k_ (.slice Ao57 t774.length co57)) (Kd.R_keptB (HO_761001.out) hkp (fun k_ hk_ hs_ => (hk_.1.1.2.1) hs_)) (fun k_ hk_ => ⟨hk_.1.1.1.1, hk_.1.1.1.2.1, hk_.1.1.1.2.2, hk_.1.1.2, hk_.1.2⟩)); replace BK743 := zA (blk_kept (uB BK743.out) hkp (fun hs_ => (fun e_ => (Kd.R_ne HO_9.out BK743.out (by decide)) e_) hs_)); replace BK760 := zA (blk_kept (uB BK760.out) hkp (fun hs_ => (fun e_ => (Kd.R_ne HO_9.out BK760.out (by decide)) e_) hs_)); replace HO_9 := zA (Kd.R_reok rfl hy0 (fun k_ e_ => HO_9.out.1 k_ e_)); replace HO772 := zA (Kd.R_mono (ok' := fun k_ => some k_ ≠ (v753 : Value).ownBlock ∧ ax k_ (.slice Ao34 t761.length co34) ∧ some k_ ≠ (v765 : Value).ownBlock ∧ ax k_ (.slice Ao31 t757.length co31) ∧ ax k_ (.slice Ao57 t774.length co57)) (Kd.R_keptB (HO772.out) hkp (fun k_ hk_ hs_ => (hk_.2.1) hs_)) (fun k_ hk_ => ⟨hk_.1.1, hk_.1.2.1, hk_.1.2.2.1, hk_.1.2.2.2.1, hk_.1.2.2.2.2⟩)); replace HO776 := zA (Kd.R_mono (ok' := fun k_ => some k_ ≠ (v753 : Value).ownBlock ∧ ax k_ (.slice Ao34 t761.length co34) ∧ some k_ ≠ (v765 : Value).ownBlock ∧ ax k_ (.slice Ao31 t757.length co31) ∧ ax k_ (.slice Ao54 t770.length co54)) (Kd.R_keptB (HO776.out) hkp (fun k_ hk_ hs_ => (hk_.2.1) hs_)) (fun k_ hk_ => ⟨hk_.1.1, hk_.1.2.1, hk_.1.2.2.1, hk_.1.2.2.2.1, hk_.1.2.2.2.2⟩)); replace HB := zA (hb); (try clear hb); (try clear hkp); (try clear hy0)))
        (try simp only [Act.put, ls, lz, ln])
        go_cut [80] (fun v80 wc => ∃ (kq : Nat) (x80_50 : Bool), v80 = .bool x80_50 ∧ Aside0 (laws_FnExactExpandPolynomial.j1 kq l1 t752 t755 t764 x80_50 a0_0 l0_1 = some r) ∧ Aside0 (kq ≤ kj15) ∧ Aside0 (Kd.R (Kd.int .i64) 2 wc w.heap.size (fun k_ => some k_ ≠ (v765 : Value).ownBlock ∧ ax k_ (.slice Ao31 t757.length co31)) v753 t752) ∧ Aside0 (Kd.R (Kd.int .i64) 2 wc w.heap.size (fun k_ => some k_ ≠ (v753 : Value).ownBlock ∧ ax k_ (.slice Ao31 t757.length co31)) v765 t764) ∧ Aside0 (Kd.R (Kd.int .i64) 2 wc w.heap.size (fun k_ => some k_ ≠ (v753 : Value).ownBlock ∧ some k_ ≠ (v765 : Value).ownBlock) (.slice Ao31 t757.length co31) t779) ∧ Aside0 (wc.heap[gb743]? = some (.cells #[.int .i64 a0_0, (.slice A0_1 l0_1.length c0_1)] 34 (0, 0))) ∧ Aside0 (wc.heap[gb760]? = some (.cells #[.int .i64 t756, (.slice Ao31 t757.length co31)] 40 (0, 0))) ∧ Aside0 (Below w.heap.size w wc))
        case first =>
         have H := HC51.out
         clear HC51
         by_cases c62 : t780 < 0
         rotate_left
         ·rw [if_neg c62] at H
          have c62b0 : decide (t780 < 0) = false := decide_eq_false c62
          clear c62
          (first | rw [c62b0] | (simp only [i64_w, i32_w]; rw [c62b0]) | skip)
          replace H := Option.bind_eq_some_iff.mp H
          obtain ⟨t782, A630, H⟩ := H
          replace H : (if t782 = true then (laws_FnExactExpandPolynomial.j1 kj15 l1 t752 t755 t764 (t767 != t755) a0_0 l0_1) else (laws_FnExactExpandPolynomial.j1 kj15 l1 t752 t755 t764 true a0_0 l0_1)) = some r := H
          have A63 := zA A630
          clear A630
          by_cases c64 : t782 = true
          ·subst c64
           have H1 : (laws_FnExactExpandPolynomial.j1 kj15 l1 t752 t755 t764 (t767 != t755) a0_0 l0_1) = some r := by rw [if_pos rfl] at H; exact H
           clear H
           have H := H1
           clear H1
           have H' := zA H
           clear H
           obtain ⟨Ao65, co65, eo65⟩ := Kd.R_slice HO_10.out
           subst eo65
           obtain ⟨Ao66, co66, eo66⟩ := Kd.R_slice HO_6.out
           subst eo66
           go_wp2_with (first | (go_at_call 29; (with_reducible refine (laws_eqInt64S.calls kj15 _ _ t764 _ _ t752 true _ ?side1 ?side2 ?side3 ?side4 A63.out).mono ?_); (case side1 => exact uC ((Kd.R_reads' HO_10.out).2.2)); (case side2 => exact (Kd.R_reads' HO_10.out).2.1); (case side3 => exact uC ((Kd.R_reads' HO_6.out).2.2)); (case side4 => exact (Kd.R_reads' HO_6.out).2.1); rintro e w' ⟨rfl, ⟨nd, rfl⟩⟩))
           go_meet
           case rel => exact ⟨_, ((t767 != t755)), (by first | rfl | (simp; done) | (simp [*]; done)), H', ⟨by have := HJ15.out; first | omega | exact Nat.le_refl _⟩, ⟨uR (Kd.R_mono HO_6.out (fun _ hk => ⟨hk.2.1, hk.2.2.1⟩))⟩, ⟨uR (Kd.R_mono HO_10.out (fun _ hk => ⟨hk.1, hk.2.2.1⟩))⟩, ⟨uR (Kd.R_mono HO_761001.out (fun _ hk => ⟨hk.1, hk.2.2.1⟩))⟩, ⟨uB BK743.out⟩, ⟨uB BK760.out⟩, ⟨uH HB.out⟩⟩
          ·replace c64 := Bool.eq_false_iff.mpr c64
           subst c64
           have H1 : (laws_FnExactExpandPolynomial.j1 kj15 l1 t752 t755 t764 true a0_0 l0_1) = some r := by rw [if_neg (show ¬ (false = true) by decide)] at H; exact H
           clear H
           have H := H1
           clear H1
           have H' := zA H
           clear H
           obtain ⟨Ao67, co67, eo67⟩ := Kd.R_slice HO_10.out
           subst eo67
           obtain ⟨Ao68, co68, eo68⟩ := Kd.R_slice HO_6.out
           subst eo68
           go_wp2_with (first | (go_at_call 29; (with_reducible refine (laws_eqInt64S.calls kj15 _ _ t764 _ _ t752 false _ ?side1 ?side2 ?side3 ?side4 A63.out).mono ?_); (case side1 => exact uC ((Kd.R_reads' HO_10.out).2.2)); (case side2 => exact (Kd.R_reads' HO_10.out).2.1); (case side3 => exact uC ((Kd.R_reads' HO_6.out).2.2)); (case side4 => exact (Kd.R_reads' HO_6.out).2.1); rintro e w' ⟨rfl, ⟨nd, rfl⟩⟩))
           go_meet
           case rel => exact ⟨_, (true), (by first | rfl | (simp; done) | (simp [*]; done)), H', ⟨by have := HJ15.out; first | omega | exact Nat.le_refl _⟩, ⟨uR (Kd.R_mono HO_6.out (fun _ hk => ⟨hk.2.1, hk.2.2.1⟩))⟩, ⟨uR (Kd.R_mono HO_10.out (fun _ hk => ⟨hk.1, hk.2.2.1⟩))⟩, ⟨uR (Kd.R_mono HO_761001.out (fun _ hk => ⟨hk.1, hk.2.2.1⟩))⟩, ⟨uB BK743.out⟩, ⟨uB BK760.out⟩, ⟨uH HB.out⟩⟩
         rw [if_pos c62] at H
         have c62b0 : decide (t780 < 0) = true := decide_eq_true c62
         clear c62
         (first | rw [c62b0] | (simp only [i64_w, i32_w]; rw [c62b0]) | skip)
         have H' := zA H
         clear H
         go_wp2
         go_meet
         case rel => exact ⟨_, (true), (by first | rfl | (simp; done) | (simp [*]; done)), H', ⟨by have := HJ15.out; first | omega | exact Nat.le_refl _⟩, ⟨uR (Kd.R_mono HO_6.out (fun _ hk => ⟨hk.2.1, hk.2.2.1⟩))⟩, ⟨uR (Kd.R_mono HO_10.out (fun _ hk => ⟨hk.1, hk.2.2.1⟩))⟩, ⟨uR (Kd.R_mono HO_761001.out (fun _ hk => ⟨hk.1, hk.2.2.1⟩))⟩, ⟨uB BK743.out⟩, ⟨uB BK760.out⟩, ⟨uH HB.out⟩⟩
        case rest =>
         clear HC51
         (try clear c1);(try clear c2);(try clear p2);(try clear c3);(try clear c3b0);(try clear c3b1);(try clear c4);(try clear c5);(try clear c6);(try clear c6b0);(try clear c10);(try clear c22);(try clear c24);(try clear c25);(try clear c28);(try clear c29);(try clear c30);(try clear c31);(try clear c37);(try clear c42);(try clear c45);(try clear c46);(try clear c48);(try clear c58);(try clear c62)
         (try clear c62b0);(try clear c64);(try clear hcz18_0);(try clear hcz18_1);(try clear hcz20_0);(try clear hcz20_1);(try clear hcz26_0);(try clear hcz26_1);(try clear hcz30_0);(try clear hcz30_1);(try clear hcz33_0);(try clear hcz33_1);(try clear hcz59_0);(try clear hcz59_1);(try clear hcz8_0);(try clear hcz8_1);(try clear hfz18_0);(try clear hfz18_1);(try clear hfz20_0);(try clear hfz20_1)
         (try clear hfz26_0);(try clear hfz26_1);(try clear hfz30_0);(try clear hfz30_1);(try clear hfz33_0);(try clear hfz33_1);(try clear hfz59_0);(try clear hfz59_1);(try clear hfz8_0);(try clear hfz8_1);(try clear p2)
         obtain ⟨kq, x80_50, rfl, HA, HJ50, HO_6, HO_10, HO_761001, BK743, BK760, HB⟩ := hcut
         have hl761001_50 := (Kd.R_reads' HO_761001.out).1
         rw [hl761001_50] at HO_761001
         (try simp only [hl761001_50])
         (try simp only [hl761001_50] at BK743)
         (try simp only [hl761001_50] at BK760)
         (try simp only [hl761001_50] at HO_6)
         (try simp only [hl761001_50] at HO_10)
         cases kq with
         | zero => exact absurd HA.out (by simp [laws_FnExactExpandPolynomial.j1])
         | succ kj50 =>
          have H := HA.out
          clear HA
          simp only [laws_FnExactExpandPolynomial.j1] at H
          by_cases c69 : x80_50 = true
          ·subst c69
           have H1 : (some false) = some r := by rw [if_pos rfl] at H; exact H
           clear H
           have H := H1
           clear H1
           rw [HRT.out] at H
           exact absurd H (by simp)
          ·replace c69 := Bool.eq_false_iff.mpr c69
           subst c69
           have H1 : ((laws_markInt64S.f kj50 t764 1).bind fun bt783 => ((laws_heldInt64S.f kj50 bt783.2 1).bind fun t785 => (if t785 < 0 then (some false) else (if t785 = bt783.1 then ((laws_toMoments.f kj50 a0_0 l0_1).bind fun bt786 => ((laws_toInt64S.f kj50 l1).bind fun t790 => ((impl_ExpandPolynomial.f kj50 bt786.1 bt786.2 t790).bind fun bt793 => ((laws_eqInt64S.f kj50 bt793.1 t752).bind fun t797 => (if t797 = true then (laws_FnExactExpandPolynomial.j2 kj50 bt783.2 bt783.1 (bt793.2 != t755)) else (laws_FnExactExpandPolynomial.j2 kj50 bt783.2 bt783.1 true)))))) else (some false))))) = some r := by rw [if_neg (show ¬ (false = true) by decide)] at H; exact H
           clear H
           have H := H1
           clear H1
           replace H := Option.bind_eq_some_iff.mp H
           obtain ⟨⟨t783, t784⟩, A700, H⟩ := H
           replace H : ((laws_heldInt64S.f kj50 t784 1).bind fun t785 => (if t785 < 0 then (some false) else (if t785 = t783 then ((laws_toMoments.f kj50 a0_0 l0_1).bind fun bt786 => ((laws_toInt64S.f kj50 l1).bind fun t790 => ((impl_ExpandPolynomial.f kj50 bt786.1 bt786.2 t790).bind fun bt793 => ((laws_eqInt64S.f kj50 bt793.1 t752).bind fun t797 => (if t797 = true then (laws_FnExactExpandPolynomial.j2 kj50 t784 t783 (bt793.2 != t755)) else (laws_FnExactExpandPolynomial.j2 kj50 t784 t783 true)))))) else (some false)))) = some r := H
           have A70 := zA A700
           clear A700
           replace H := Option.bind_eq_some_iff.mp H
           obtain ⟨t785, A710, H⟩ := H
           replace H : (if t785 < 0 then (some false) else (if t785 = t783 then ((laws_toMoments.f kj50 a0_0 l0_1).bind fun bt786 => ((laws_toInt64S.f kj50 l1).bind fun t790 => ((impl_ExpandPolynomial.f kj50 bt786.1 bt786.2 t790).bind fun bt793 => ((laws_eqInt64S.f kj50 bt793.1 t752).bind fun t797 => (if t797 = true then (laws_FnExactExpandPolynomial.j2 kj50 t784 t783 (bt793.2 != t755)) else (laws_FnExactExpandPolynomial.j2 kj50 t784 t783 true)))))) else (some false))) = some r := H
           have A71 := zA A710
           clear A710
           by_cases c72 : t785 < 0
           rotate_left
           ·rw [if_neg c72] at H
            have c72b0 : decide (t785 < 0) = false := decide_eq_false c72
            clear c72
            by_cases c73 : t785 = t783
            rotate_left
            ·rw [if_neg c73] at H
             have c73b0 : (t785 == t783) = false := beq_eq_false_iff_ne.mpr c73
             have c73b1 : (t785 != t783) = true := bne_iff_ne.mpr c73
             rw [HRT.out] at H
             exact absurd H (by simp)
            rw [if_pos c73] at H
            have c73b0 : (t785 == t783) = true := beq_iff_eq.mpr c73
            have c73b1 : (t785 != t783) = false := bne_eq_false_iff_eq.mpr c73
            clear c73
            replace H := Option.bind_eq_some_iff.mp H
            obtain ⟨⟨t786, t787⟩, A740, H⟩ := H
            replace H : ((laws_toInt64S.f kj50 l1).bind fun t790 => ((impl_ExpandPolynomial.f kj50 t786 t787 t790).bind fun bt793 => ((laws_eqInt64S.f kj50 bt793.1 t752).bind fun t797 => (if t797 = true then (laws_FnExactExpandPolynomial.j2 kj50 t784 t783 (bt793.2 != t755)) else (laws_FnExactExpandPolynomial.j2 kj50 t784 t783 true))))) = some r := H
            have A74 := zA A740
            clear A740
            replace H := Option.bind_eq_some_iff.mp H
            obtain ⟨t790, A750, H⟩ := H
            replace H : ((impl_ExpandPolynomial.f kj50 t786 t787 t790).bind fun bt793 => ((laws_eqInt64S.f kj50 bt793.1 t752).bind fun t797 => (if t797 = true then (laws_FnExactExpandPolynomial.j2 kj50 t784 t783 (bt793.2 != t755)) else (laws_FnExactExpandPolynomial.j2 kj50 t784 t783 true)))) = some r := H
            have A75 := zA A750
            clear A750
            replace H := Option.bind_eq_some_iff.mp H
            obtain ⟨⟨t793, t796⟩, A760, H⟩ := H
            replace H : ((laws_eqInt64S.f kj50 t793 t752).bind fun t797 => (if t797 = true then (laws_FnExactExpandPolynomial.j2 kj50 t784 t783 (t796 != t755)) else (laws_FnExactExpandPolynomial.j2 kj50 t784 t783 true))) = some r := H
            have A76 := zA A760
            clear A760
            have HC77 := zA H
            clear H
            obtain ⟨Ao78, co78, eo78⟩ := Kd.R_slice HO_10.out
            subst eo78
            go_upto_region 31 with (first | ((with_reducible refine gate_callee (f := 31) rfl ?_); refine gL (some 83) Try.func31 #[.slice Ao78 t764.length co78, .int .i64 1] ?_; (with_reducible refine (laws_markInt64S.calls kj50 (fun k_ => some k_ = (.slice Ao78 t764.length co78 : Value).ownBlock) (.slice Ao78 t764.length co78) t764 1 t783 t784 w _ ?side1 ?side2 A70.out).mono ?_); (case side1 => repeat (first | (with_reducible first | exact HB.out | apply below_alloc | apply pw_below_drewN | apply below_drew1 | refine below_set ?_ GE743.out | refine below_set ?_ GE760.out) | exact HB.out)); (case side2 => exact Kd.R_tight rfl HO_10.out); rintro e w79 ⟨rfl, hy0, hb, hkp⟩; refine ⟨_, rfl, ?_⟩; replace HO_6 := zA (Kd.R_mono (ok' := fun k_ => ax k_ (.slice Ao78 t764.length co78) ∧ ax k_ (.slice Ao31 t779.length co31)) (Kd.R_keptB (HO_6.out) hkp (fun k_ hk_ hs_ => (hk_.1) hs_)) (fun k_ hk_ => ⟨hk_.1.1, hk_.1.2⟩)); replace HO_761001 := zA (Kd.R_mono (ok' := fun k_ => some k_ ≠ (v753 : Value).ownBlock ∧ ax k_ (.slice Ao78 t764.length co78)) (Kd.R_keptB (HO_761001.out) hkp (fun k_ hk_ hs_ => (hk_.2) hs_)) (fun k_ hk_ => ⟨hk_.1.1, hk_.1.2⟩)); replace BK743 := zA (blk_kept (uB BK743.out) hkp (fun hs_ => (fun e_ => (Kd.R_ne HO_10.out BK743.out (by decide)) e_) hs_)); replace BK760 := zA (blk_kept (uB BK760.out) hkp (fun hs_ => (fun e_ => (Kd.R_ne HO_10.out BK760.out (by decide)) e_) hs_)); replace HO_10 := zA (Kd.R_reok rfl hy0 (fun k_ e_ => HO_10.out.1 k_ e_)); replace HB := zA (hb); (try clear hb); (try clear hkp); (try clear hy0)) | ((with_reducible refine gate_callee (f := 40) rfl ?_); refine goesL_ (some 86) rfl rfl Try.func40 (by kernel_rfl) rfl #[.slice Ao78 t784.length co78, .int .i64 1] rfl (by (try simp only [la, lb, lc]); first | done | (rw [show t784.length = t764.length from (Kd.R_reads' HO_10.out).1.symm] <;> rfl) | rfl | (simp only [ld, le]; rfl)) ?_; (with_reducible refine (laws_heldInt64S.calls kj50 _ _ t784 1 t785 _ ?side1 ?side2 A71.out).mono ?_); (case side1 => exact uC ((Kd.R_reads' HO_10.out).2.2)); (case side2 => rw [show t784.length = t764.length from (Kd.R_reads' HO_10.out).1.symm]; exact (Kd.R_reads' HO_10.out).2.1); rintro e w' ⟨rfl, ⟨nd, rfl⟩⟩; refine ⟨_, rfl, ?_⟩; have hnb80 := NB743_760.out; have hnc80 := NB760_743.out; have hcz81_0 := bc BK743 0; have hcz81_1 := bc BK743 1; have hfz81_0 := bf BK743 0; have hfz81_1 := bf BK743 1) | ((with_reducible refine gate_callee (f := 24) rfl ?_); refine gL (some 94) Try.func24 #[.agg #[.int .i64 a0_0, .slice A0_1 l0_1.length c0_1]] ?_; (with_reducible refine (laws_toMoments.calls kj50 a0_0 _ _ l0_1 t786 t787 _ ?side1 ?side2 A74.out).mono ?_); (case side1 => repeat (first | exact (Kd.C_below HR0_1.out (uH HB.out)) | (with_reducible refine Kd.C_alloc ?_ _) | (with_reducible refine Kd.C_drewN ?_ _) | (with_reducible refine Kd.C_drew ?_))); (case side2 => exact HC0_1.out); rintro e w82 ⟨v788, rfl, ho0, hb⟩; refine ⟨_, rfl, ?_⟩; have HO789 := zA (Kd.R_lower (Kd.R_new' (Kd.R_new' (Kd.R_new' ho0 (Kd.R_lt (uR HO_6.out))) (Kd.R_lt (uR HO_10.out))) (Kd.R_lt (uR HO_761001.out))) (below_size (uH HB.out))); replace HO_6 := zA (Kd.R_elder' (uR HO_6.out) (Kd.R_base ho0) hb); replace HO_10 := zA (Kd.R_elder' (uR HO_10.out) (Kd.R_base ho0) hb); replace HO_761001 := zA (Kd.R_elder' (uR HO_761001.out) (Kd.R_base ho0) hb); replace BK743 := xB BK743 hb; replace BK760 := xB BK760 hb; replace HB := xH HB hb; (try clear hb); (try clear hb2); (try clear hk); (try clear hi); (try clear ho0)) | ((with_reducible refine gate_callee (f := 25) rfl ?_); refine gL (some 96) Try.func25 #[.slice A1 l1.length c1] ?_; (with_reducible refine (laws_toInt64S.calls kj50 _ _ l1 t790 _ ?side1 ?side2 A75.out).mono ?_); (case side1 => exact uC ((Kd.C_below HR1.out HB.out))); (case side2 => exact HC1.out); rintro e w83 ⟨v791, rfl, ho0, hb⟩; refine ⟨_, rfl, ?_⟩; have HO792 := zA (Kd.R_lower (Kd.R_new' (Kd.R_new' (Kd.R_new' (Kd.R_new' ho0 (Kd.R_lt (uR HO_6.out))) (Kd.R_lt (uR HO_10.out))) (Kd.R_lt (uR HO_761001.out))) (Kd.R_lt (uR HO789.out))) (below_size (uH HB.out))); replace HO_6 := zA (Kd.R_elder' (uR HO_6.out) (Kd.R_base ho0) hb); replace HO_10 := zA (Kd.R_elder' (uR HO_10.out) (Kd.R_base ho0) hb); replace HO_761001 := zA (Kd.R_elder' (uR HO_761001.out) (Kd.R_base ho0) hb); replace HO789 := zA (Kd.R_elder' (uR HO789.out) (Kd.R_base ho0) hb); replace BK743 := xB BK743 hb; replace BK760 := xB BK760 hb; replace HB := xH HB hb; (try clear hb); (try clear hb2); (try clear hk); (try clear hi); (try clear ho0); obtain ⟨Ao84, co84, eo84⟩ := Kd.R_slice HO789.out; subst eo84; obtain ⟨Ao85, co85, eo85⟩ := Kd.R_slice HO792.out; subst eo85) | ((with_reducible refine gate_callee (f := 46) rfl ?_); refine gL (some 97) Try.func46 #[.agg #[.int .i64 t786, .slice Ao84 t787.length co84], .slice Ao85 t790.length co85] ?_; (with_reducible refine (impl_ExpandPolynomial.calls kj50 t786 _ _ t787 (fun k_ => some k_ = (.slice Ao85 t790.length co85 : Value).ownBlock) _ _ t790 t793 t796 _ ?side1 ?side2 ?side3 A76.out).mono ?_); (case side1 => exact uC ((Kd.R_reads' HO789.out).2.2)); (case side2 => exact (Kd.R_reads' HO789.out).2.1); (case side3 => exact Kd.R_V (Kd.R_tight rfl (Kd.R_types (Kd.R_types (HO792.out) BK743.out (by decide)) BK760.out (by decide)))); rintro e w86 ⟨v794, rfl, ho0, hb⟩; refine ⟨_, rfl, ?_⟩; have HO795 := zA (Kd.R_lower (Kd.R_new' (Kd.R_new' (Kd.R_new' (Kd.R_new' (Kd.R_new' (Kd.R_mono (ok' := fun k_ => True) ho0 (fun _ hk_ => trivial)) (Kd.R_lt (uR HO_6.out))) (Kd.R_lt (uR HO_10.out))) (Kd.R_lt (uR HO_761001.out))) (Kd.R_lt (uR HO789.out))) (Kd.R_lt (uR HO792.out))) (below_size (uH HB.out))); replace HO_6 := zA (Kd.R_elder' (uR HO_6.out) (Kd.R_base ho0) hb); replace HO_10 := zA (Kd.R_elder' (uR HO_10.out) (Kd.R_base ho0) hb); replace HO_761001 := zA (Kd.R_elder' (uR HO_761001.out) (Kd.R_base ho0) hb); replace HO789 := zA (Kd.R_elder' (uR HO789.out) (Kd.R_base ho0) hb); replace HO792 := zA (Kd.R_elder' (uR HO792.out) (Kd.R_base ho0) hb); replace BK743 := xB BK743 hb; replace BK760 := xB BK760 hb; replace HB := xH HB hb; (try clear hb); (try clear hb2); (try clear hk); (try clear hi); (try clear ho0)))
            (try simp only [Act.put, ls, lz, ln])
            go_cut [108] (fun v108 wc => ∃ (kq : Nat) (x108_76 : Bool), v108 = .bool x108_76 ∧ Aside0 (laws_FnExactExpandPolynomial.j2 kq t784 t783 x108_76 = some r) ∧ Aside0 (kq ≤ kj50) ∧ Aside0 (Kd.R (Kd.int .i64) 2 wc w.heap.size (fun k_ => ax k_ (.slice Ao31 t779.length co31)) (.slice Ao78 t764.length co78) t784) ∧ Aside0 (Kd.R (Kd.int .i64) 2 wc w.heap.size (fun k_ => ax k_ (.slice Ao78 t764.length co78)) (.slice Ao31 t779.length co31) t779) ∧ Aside0 (wc.heap[gb743]? = some (.cells #[.int .i64 a0_0, (.slice A0_1 l0_1.length c0_1)] 34 (0, 0))) ∧ Aside0 (wc.heap[gb760]? = some (.cells #[.int .i64 t756, (.slice Ao31 t779.length co31)] 40 (0, 0))) ∧ Aside0 (Below w.heap.size w wc))
            case first =>
             have H := HC77.out
             clear HC77
             replace H := Option.bind_eq_some_iff.mp H
             obtain ⟨t797, A870, H⟩ := H
             replace H : (if t797 = true then (laws_FnExactExpandPolynomial.j2 kj50 t784 t783 (t796 != t755)) else (laws_FnExactExpandPolynomial.j2 kj50 t784 t783 true)) = some r := H
             have A87 := zA A870
             clear A870
             by_cases c88 : t797 = true
             ·subst c88
              have H1 : (laws_FnExactExpandPolynomial.j2 kj50 t784 t783 (t796 != t755)) = some r := by rw [if_pos rfl] at H; exact H
              clear H
              have H := H1
              clear H1
              have H' := zA H
              clear H
              obtain ⟨Ao89, co89, eo89⟩ := Kd.R_slice HO795.out
              subst eo89
              obtain ⟨Ao90, co90, eo90⟩ := Kd.R_slice HO_6.out
              subst eo90
              go_wp2_with (first | ((with_reducible refine gate_callee (f := 29) rfl ?_); refine gL (some 102) Try.func29 #[.slice Ao89 t793.length co89, .slice Ao90 t752.length co90] ?_; (with_reducible refine (laws_eqInt64S.calls kj50 _ _ t793 _ _ t752 true _ ?side1 ?side2 ?side3 ?side4 A87.out).mono ?_); (case side1 => exact uC ((Kd.R_reads' HO795.out).2.2)); (case side2 => exact (Kd.R_reads' HO795.out).2.1); (case side3 => exact uC ((Kd.R_reads' HO_6.out).2.2)); (case side4 => exact (Kd.R_reads' HO_6.out).2.1); rintro e w' ⟨rfl, ⟨nd, rfl⟩⟩; refine ⟨_, rfl, ?_⟩))
              go_meet
              case rel => exact ⟨_, ((t796 != t755)), (by first | rfl | (simp; done) | (simp [*]; done)), H', ⟨by have := HJ15.out; have := HJ50.out; first | omega | exact Nat.le_refl _⟩, ⟨by (try simp only [hl761001_50]); (with_reducible repeat (first | apply Kd.R_alloc | apply Kd.R_drewN | apply Kd.R_drew)); exact Kd.R_mono HO_10.out (fun _ hk => hk.1.1.1.2)⟩, ⟨by (try simp only [hl761001_50]); (with_reducible repeat (first | apply Kd.R_alloc | apply Kd.R_drewN | apply Kd.R_drew)); exact Kd.R_mono HO_761001.out (fun _ hk => hk.1.1.1.2)⟩, ⟨by (try simp only [hl761001_50]); (repeat refine up1 ?_); exact BK743.out⟩, ⟨by (try simp only [hl761001_50]); (repeat refine up1 ?_); exact BK760.out⟩, ⟨uH HB.out⟩⟩
             ·replace c88 := Bool.eq_false_iff.mpr c88
              subst c88
              have H1 : (laws_FnExactExpandPolynomial.j2 kj50 t784 t783 true) = some r := by rw [if_neg (show ¬ (false = true) by decide)] at H; exact H
              clear H
              have H := H1
              clear H1
              have H' := zA H
              clear H
              obtain ⟨Ao91, co91, eo91⟩ := Kd.R_slice HO795.out
              subst eo91
              obtain ⟨Ao92, co92, eo92⟩ := Kd.R_slice HO_6.out
              subst eo92
              go_wp2_with (first | ((with_reducible refine gate_callee (f := 29) rfl ?_); refine gL (some 102) Try.func29 #[.slice Ao91 t793.length co91, .slice Ao92 t752.length co92] ?_; (with_reducible refine (laws_eqInt64S.calls kj50 _ _ t793 _ _ t752 false _ ?side1 ?side2 ?side3 ?side4 A87.out).mono ?_); (case side1 => exact uC ((Kd.R_reads' HO795.out).2.2)); (case side2 => exact (Kd.R_reads' HO795.out).2.1); (case side3 => exact uC ((Kd.R_reads' HO_6.out).2.2)); (case side4 => exact (Kd.R_reads' HO_6.out).2.1); rintro e w' ⟨rfl, ⟨nd, rfl⟩⟩; refine ⟨_, rfl, ?_⟩))
              go_meet
              case rel => exact ⟨_, (true), (by first | rfl | (simp; done) | (simp [*]; done)), H', ⟨by have := HJ15.out; have := HJ50.out; first | omega | exact Nat.le_refl _⟩, ⟨by (try simp only [hl761001_50]); (with_reducible repeat (first | apply Kd.R_alloc | apply Kd.R_drewN | apply Kd.R_drew)); exact Kd.R_mono HO_10.out (fun _ hk => hk.1.1.1.2)⟩, ⟨by (try simp only [hl761001_50]); (with_reducible repeat (first | apply Kd.R_alloc | apply Kd.R_drewN | apply Kd.R_drew)); exact Kd.R_mono HO_761001.out (fun _ hk => hk.1.1.1.2)⟩, ⟨by (try simp only [hl761001_50]); (repeat refine up1 ?_); exact BK743.out⟩, ⟨by (try simp only [hl761001_50]); (repeat refine up1 ?_); exact BK760.out⟩, ⟨uH HB.out⟩⟩
            case rest =>
             clear HC77
             (try clear c1);(try clear c2);(try clear p2);(try clear c3);(try clear c3b0);(try clear c3b1);(try clear c4);(try clear c5);(try clear c6);(try clear c6b0);(try clear c7);(try clear c8);(try clear c10);(try clear c22);(try clear c24);(try clear c25);(try clear c28);(try clear c29);(try clear c30);(try clear c31);(try clear c37);(try clear c40);(try clear c42);(try clear c45);(try clear c46)
             (try clear c48);(try clear c58);(try clear c62);(try clear c62b0);(try clear c64);(try clear c69);(try clear c72);(try clear c72b0);(try clear c73);(try clear c73b0);(try clear c73b1);(try clear c80);(try clear c88);(try clear hcz18_0);(try clear hcz18_1);(try clear hcz20_0);(try clear hcz20_1);(try clear hcz26_0);(try clear hcz26_1);(try clear hcz30_0);(try clear hcz30_1);(try clear hcz33_0)
             (try clear hcz33_1);(try clear hcz59_0);(try clear hcz59_1);(try clear hcz81_0);(try clear hcz81_1);(try clear hcz8_0);(try clear hcz8_1);(try clear hfz18_0);(try clear hfz18_1);(try clear hfz20_0);(try clear hfz20_1);(try clear hfz26_0);(try clear hfz26_1);(try clear hfz30_0);(try clear hfz30_1);(try clear hfz33_0);(try clear hfz33_1);(try clear hfz59_0);(try clear hfz59_1);(try clear hfz81_0)
             (try clear hfz81_1);(try clear hfz8_0);(try clear hfz8_1);(try clear p2)
             obtain ⟨kq, x108_76, rfl, HA, HJ76, HO_10, HO_761001, BK743, BK760, HB⟩ := hcut
             have hl10_76 := (Kd.R_reads' HO_10.out).1
             rw [hl10_76] at HO_10
             (try simp only [hl10_76])
             (try simp only [hl10_76] at BK743)
             (try simp only [hl10_76] at BK760)
             (try simp only [hl10_76] at HO_761001)
             cases kq with
             | zero => exact absurd HA.out (by simp [laws_FnExactExpandPolynomial.j2])
             | succ kj76 =>
              have H := HA.out
              clear HA
              simp only [laws_FnExactExpandPolynomial.j2] at H
              by_cases c93 : x108_76 = true
              ·subst c93
               have H1 : (some false) = some r := by rw [if_pos rfl] at H; exact H
               clear H
               have H := H1
               clear H1
               rw [HRT.out] at H
               exact absurd H (by simp)
              ·replace c93 := Bool.eq_false_iff.mpr c93
               subst c93
               have H1 : ((laws_heldInt64S.f kj76 t784 1).bind fun t798 => (if t798 < 0 then (some false) else (if t798 = t783 then (some true) else (some false)))) = some r := by rw [if_neg (show ¬ (false = true) by decide)] at H; exact H
               clear H
               have H := H1
               clear H1
               replace H := Option.bind_eq_some_iff.mp H
               obtain ⟨t798, A940, H⟩ := H
               replace H : (if t798 < 0 then (some false) else (if t798 = t783 then (some true) else (some false))) = some r := H
               have A94 := zA A940
               clear A940
               by_cases c95 : t798 < 0
               rotate_left
               ·rw [if_neg c95] at H
                have c95b0 : decide (t798 < 0) = false := decide_eq_false c95
                clear c95
                by_cases c96 : t798 = t783
                rotate_left
                ·rw [if_neg c96] at H
                 have c96b0 : (t798 == t783) = false := beq_eq_false_iff_ne.mpr c96
                 have c96b1 : (t798 != t783) = true := bne_iff_ne.mpr c96
                 rw [HRT.out] at H
                 exact absurd H (by simp)
                rw [if_pos c96] at H
                have c96b0 : (t798 == t783) = true := beq_iff_eq.mpr c96
                have c96b1 : (t798 != t783) = false := bne_eq_false_iff_eq.mpr c96
                clear c96
                obtain rfl := Option.some.inj H
                go_wp2_with (first | ((with_reducible refine gate_callee (f := 40) rfl ?_); refine gL (some 111) Try.func40 #[.slice Ao78 t784.length co78, .int .i64 1] ?_; (with_reducible refine (laws_heldInt64S.calls kj76 _ _ t784 1 t798 _ ?side1 ?side2 A94.out).mono ?_); (case side1 => exact uC ((Kd.R_reads' HO_10.out).2.2)); (case side2 => exact (Kd.R_reads' HO_10.out).2.1); rintro e w' ⟨rfl, ⟨nd, rfl⟩⟩; refine ⟨_, rfl, ?_⟩))
                go_ret
                exact ⟨by first | rfl | (simp [errW_none, errW_some] <;> rfl) | (simp [*, errW_none, errW_some] <;> rfl), uH HB.out⟩
               rw [if_pos c95] at H
               have c95b0 : decide (t798 < 0) = true := decide_eq_true c95
               clear c95
               rw [HRT.out] at H
               exact absurd H (by simp)
           rw [if_pos c72] at H
           have c72b0 : decide (t785 < 0) = true := decide_eq_true c72
           clear c72
           rw [HRT.out] at H
           exact absurd H (by simp)
       ·replace c48 := Bool.eq_false_iff.mpr c48
        subst c48
        have H1 : (some false) = some r := by rw [if_neg (show ¬ (false = true) by decide)] at H; exact H
        clear H
        have H := H1
        clear H1
        rw [HRT.out] at H
        exact absurd H (by simp)
      ·replace c45 := Bool.eq_false_iff.mpr c45
       subst c45
       have H1 : (some false) = some r := by rw [if_neg (show ¬ (false = true) by decide)] at H; exact H
       clear H
       have H := H1
       clear H1
       rw [HRT.out] at H
       exact absurd H (by simp)

  rw [if_pos c6] at H
  have c6b0 : decide (t744 < 0) = true := decide_eq_true c6
  clear c6
  obtain rfl := Option.some.inj H
  go_enter Try.func10, Try.ntmps10
  go_wp2_with (first | ((with_reducible refine gate_dst (N := 2) rfl ?_); refine bx 2 #[.int .i64 a0_0, .slice A0_1 l0_1.length c0_1] 34 ?_; intro gb743 hg w7 hbox hb; have BK743 := zA (hbox); have GW743 := gq HB hg; have GE743 := gq HB hg; replace HB := xH HB hb; have := geI GE743; clear hb hbox hg; have hcz8_0 := bc BK743 0; have hcz8_1 := bc BK743 1; have hfz8_0 := bf BK743 0; have hfz8_1 := bf BK743 1) | ((with_reducible refine gate_callee (f := 22) rfl ?_); refine gL (some 22) Try.func22 #[.agg #[.int .i64 a0_0, .slice A0_1 l0_1.length c0_1], .int .i64 1048576] ?_; (with_reducible refine (laws_szMoments.calls a0_0 _ _ l0_1 1048576 t744 _ ?side1 ?side2 A5.out).mono ?_); (case side1 => exact uC ((Kd.C_below HR0_1.out HB.out))); (case side2 => exact HC0_1.out); rintro e w9 ⟨rfl, hb⟩; refine ⟨_, rfl, ?_⟩; replace BK743 := xB BK743 hb; replace HB := xH HB hb; (try clear hb); (try clear hb2); (try clear hk); (try clear hi)))
  go_ret
  exact ⟨by first | rfl | (simp [errW_none, errW_some] <;> rfl) | (simp [*, errW_none, errW_some] <;> rfl), uH HB.out⟩
 rw [if_pos c3] at H
 have c3b0 : decide (1048576 < (l1.length : Int)) = true := decide_eq_true c3
 have c3b1 : decide (1048576 < l1.length) = true := decide_eq_true (by omega)
 clear c3
 obtain rfl := Option.some.inj H
 go_enter Try.func10, Try.ntmps10
 go_wp2_with (first | ((with_reducible refine gate_dst (N := 2) rfl ?_); refine bx 2 #[.int .i64 a0_0, .slice A0_1 l0_1.length c0_1] 34 ?_; intro gb743 hg w4 hbox hb; have BK743 := zA (hbox); have GW743 := gq HB hg; have GE743 := gq HB hg; replace HB := xH HB hb; have := geI GE743; clear hb hbox hg))
 go_ret
 exact ⟨by first | rfl | (simp [errW_none, errW_some] <;> rfl) | (simp [*, errW_none, errW_some] <;> rfl), uH HB.out⟩
/-- THE ONE PURE STATEMENT of laws_FnExactExpandPolynomial: yours. -/
def laws_FnExactExpandPolynomial.Pure : Prop := ∀ (a0_0 : Int) (l0_1 : List Int) (l1 : List Int), (Lit.int .i64 a0_0).wf = true → l0_1.length ≤ maxLen → (∀ x ∈ l0_1, (Lit.int .i64 x).wf = true) → l1.length ≤ maxLen → l1.length * 8 ≤ 140737488351232 → (∀ x ∈ l1, (Lit.int .i64 x).wf = true) → ∃ k, laws_FnExactExpandPolynomial.f k a0_0 l0_1 l1 = some true
theorem laws_FnExactExpandPolynomial.walk (P : laws_FnExactExpandPolynomial.Pure) (a0_0 : Int) (a0_1 : Option Addr) (len0_1 cap0_1 : Nat) (z0_1 : List Int) (a1 : Option Addr) (len1 cap1 : Nat) (z1 : List Int) (w : World) (w0_0 : (Lit.int .i64 a0_0).wf = true) (w0_1 : (a0_1 = none ∧ len0_1 = 0 ∧ cap0_1 = 0 ∧ z0_1 = []) ∨ ∃ x, a0_1 = some x ∧ len0_1 ≤ cap0_1 ∧ cap0_1 ≤ maxLen ∧ z0_1.length = cap0_1 ∧ (∀ i, i < z0_1.length → w.cell? (x.add i) = some (.int .i64 (z0_1.getD i 0))) ∧ ∀ n ∈ z0_1, (Lit.int .i64 n).wf = true) (w1 : (a1 = none ∧ len1 = 0 ∧ cap1 = 0 ∧ z1 = []) ∨ ∃ x, a1 = some x ∧ len1 ≤ cap1 ∧ cap1 ≤ maxLen ∧ z1.length = cap1 ∧ (∀ i, i < z1.length → w.cell? (x.add i) = some (.int .i64 (z1.getD i 0))) ∧ ∀ n ∈ z1, (Lit.int .i64 n).wf = true) (y1 : len1 * 8 ≤ 140737488351232) :
  Calls Try.prog 10 #[.agg #[.int .i64 a0_0, .slice a0_1 len0_1 cap0_1], .slice a1 len1 cap1] w fun e w' => e = .returned (.bool true) ∧ Below w.heap.size w w' := by
 obtain ⟨l0_1, rfl, hr0_1, hm0_1, hw0_1, hc0_1⟩ := ReadsInt.ofRowC w0_1
 obtain ⟨l1, rfl, hr1, hm1, hw1, hc1⟩ := ReadsInt.ofRowC w1
 obtain ⟨k, h⟩ := P a0_0 l0_1 l1 w0_0 hm0_1 hw0_1 hm1 y1 hw1
 refine (laws_FnExactExpandPolynomial.calls k a0_0 _ _ l0_1 _ _ l1 true rfl w (Kd.C_of_reads (d := (0 : Int)) (h1 := fun _ => rfl) hr0_1) hc0_1 (Kd.C_of_reads (d := (0 : Int)) (h1 := fun _ => rfl) hr1) hc1 h).mono ?_
 rintro e w' ⟨rfl, hd⟩
 exact ⟨rfl, hd⟩

end Go.Proofs.Ytfbnkebgdmfcfaa.Pr
