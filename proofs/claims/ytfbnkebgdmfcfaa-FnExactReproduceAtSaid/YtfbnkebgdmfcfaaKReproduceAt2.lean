/- Texts of this session in one: what functions of the program compute, and plain facts of it, under the conditions that each theorem names. -/
import Derived.Below
import Derived.ChangeOld
import Derived.Lib.SmallJoins
import Derived.OpenShut
import Derived.ProofKit
import Derived.ShutString
import Derived.SizedLaws
import Derived.Test.YtfbnkebgdmfcfaaRows
import Derived.WalkKit
import Derived.Test.YtfbnkebgdmfcfaaKC01
import Derived.Test.YtfbnkebgdmfcfaaKC02
import Derived.Test.YtfbnkebgdmfcfaaKC03
import Derived.Test.YtfbnkebgdmfcfaaKC06
import Derived.Test.YtfbnkebgdmfcfaaKC32
import Derived.Test.YtfbnkebgdmfcfaaKReproduceAt1
import Derived.Test.YtfbnkebgdmfcfaaWSized
namespace Go.Proofs.Ytfbnkebgdmfcfaa.Pr
open Go.RowKit Go.Proofs.YtfbnkebgdmfcfaaW.PrintWords Go.Proofs.YtfbnkebgdmfcfaaW.PrintLast Go.Proofs.YtfbnkebgdmfcfaaW.PrintMore
attribute [local go_sem] max2_int min2_int max_two min_two max_three min_three max_four min_four   -- for this text's walks alone
set_option linter.unusedVariables false
set_option linter.unusedSimpArgs false
/-! ### laws_FnExactReproduceAt: function 14 -/
def laws_FnExactReproduceAt.j0 : Nat → List Int → List Int → Bool → Int → List Int → Int → List Int → Option (Bool)
 | 0, _, _, _, _, _, _, _ => none
 | k + 1, x2, x13, x53, x1098000, x1098001, x1113000, x1113001 => if x53 = true then (some false) else ((laws_toMoments.f k x1098000 x1098001).bind fun bt1118 => ((laws_eqMoments.f k x1113000 x1113001 bt1118.1 bt1118.2).bind fun t1122 => (if t1122 = true then ((laws_toInt64S.f k x2).bind fun t1123 => ((laws_eqInt64S.f k x13 t1123).bind fun t1126 => (if t1126 = true then (some true) else (some false)))) else (some false))))
def laws_FnExactReproduceAt.f (k : Nat) (a0_0 : Int) (l0_1 : List Int) (a1 : Int) (l2 : List Int) (a3 : Int) : Option (Bool) := if (l2.length : Int) > 1048576 then (some true) else ((laws_szMoments.f a0_0 l0_1 1048576).bind fun t1098 => (if t1098 < 0 then (some true) else ((laws_toMoments.f k a0_0 l0_1).bind fun bt1099 => ((laws_toInt64S.f k l2).bind fun t1103 => ((spec_ReproduceAt.f k bt1099.1 bt1099.2 a1 t1103 a3).bind fun bt1106 => ((laws_toMoments.f k a0_0 l0_1).bind fun bt1108 => ((laws_toInt64S.f k l2).bind fun t1113 => ((impl_ReproduceAt.f k bt1108.1 bt1108.2 a1 t1113 a3).bind fun bt1116 => (if bt1116.1 = bt1106.1 then (laws_FnExactReproduceAt.j0 k l2 t1113 (bt1116.2 != bt1106.2) a0_0 l0_1 bt1108.1 bt1108.2) else (laws_FnExactReproduceAt.j0 k l2 t1113 true a0_0 l0_1 bt1108.1 bt1108.2))))))))))
set_option maxHeartbeats 8000000 in
set_option maxRecDepth 100000 in
theorem laws_FnExactReproduceAt.calls (k : Nat) (a0_0 : Int) (A0_1 : Option Addr) (c0_1 : Nat) (l0_1 : List Int) (a1 : Int) (A2 : Option Addr) (c2 : Nat) (l2 : List Int) (a3 : Int) (r : Bool) (hr_ : r = true) (w : World) (hr0_1 : Kd.C (Kd.int .i64) w A0_1 l0_1.length l0_1) (hc0_1 : l0_1.length ≤ c0_1) (hr2 : Kd.C (Kd.int .i64) w A2 l2.length l2) (hc2 : l2.length ≤ c2) (h : laws_FnExactReproduceAt.f k a0_0 l0_1 a1 l2 a3 = some r) :
  Calls Try.prog 14 #[.agg #[.int .i64 a0_0, .slice A0_1 l0_1.length c0_1], .int .i64 a1, .slice A2 l2.length c2, .int .i64 a3] w fun e w' => e = .returned (.bool r) ∧ Below w.heap.size w w' := by
 have hu34 := Try.underlying34
 have hu40 := Try.underlying40
 have HRT := zA hr_
 clear hr_
 have HR0_1 := zA hr0_1
 have HC0_1 := zA hc0_1
 clear hr0_1 hc0_1
 have HR2 := zA hr2
 have HC2 := zA hc2
 clear hr2 hc2
 have HB := zA (Below.refl w.heap.size w)
 have H : (if (l2.length : Int) > 1048576 then (some true) else ((laws_szMoments.f a0_0 l0_1 1048576).bind fun t1098 => (if t1098 < 0 then (some true) else ((laws_toMoments.f k a0_0 l0_1).bind fun bt1099 => ((laws_toInt64S.f k l2).bind fun t1103 => ((spec_ReproduceAt.f k bt1099.1 bt1099.2 a1 t1103 a3).bind fun bt1106 => ((laws_toMoments.f k a0_0 l0_1).bind fun bt1108 => ((laws_toInt64S.f k l2).bind fun t1113 => ((impl_ReproduceAt.f k bt1108.1 bt1108.2 a1 t1113 a3).bind fun bt1116 => (if bt1116.1 = bt1106.1 then (laws_FnExactReproduceAt.j0 k l2 t1113 (bt1116.2 != bt1106.2) a0_0 l0_1 bt1108.1 bt1108.2) else (laws_FnExactReproduceAt.j0 k l2 t1113 true a0_0 l0_1 bt1108.1 bt1108.2))))))))))) = some r := h
 clear h
 by_cases c5 : (l2.length : Int) > 1048576
 rotate_left
 ·rw [if_neg c5] at H
  have c5b0 : decide (1048576 < (l2.length : Int)) = false := decide_eq_false c5
  have c5b1 : decide (1048576 < l2.length) = false := decide_eq_false (by omega)
  clear c5
  replace H := Option.bind_eq_some_iff.mp H
  obtain ⟨t1098, A70, H⟩ := H
  replace H : (if t1098 < 0 then (some true) else ((laws_toMoments.f k a0_0 l0_1).bind fun bt1099 => ((laws_toInt64S.f k l2).bind fun t1103 => ((spec_ReproduceAt.f k bt1099.1 bt1099.2 a1 t1103 a3).bind fun bt1106 => ((laws_toMoments.f k a0_0 l0_1).bind fun bt1108 => ((laws_toInt64S.f k l2).bind fun t1113 => ((impl_ReproduceAt.f k bt1108.1 bt1108.2 a1 t1113 a3).bind fun bt1116 => (if bt1116.1 = bt1106.1 then (laws_FnExactReproduceAt.j0 k l2 t1113 (bt1116.2 != bt1106.2) a0_0 l0_1 bt1108.1 bt1108.2) else (laws_FnExactReproduceAt.j0 k l2 t1113 true a0_0 l0_1 bt1108.1 bt1108.2))))))))) = some r := H
  have A7 := zA A70
  clear A70
  by_cases c8 : t1098 < 0
  rotate_left
  ·rw [if_neg c8] at H
   have c8b0 : decide (t1098 < 0) = false := decide_eq_false c8
   clear c8
   replace H := Option.bind_eq_some_iff.mp H
   obtain ⟨⟨t1099, t1100⟩, A120, H⟩ := H
   replace H : ((laws_toInt64S.f k l2).bind fun t1103 => ((spec_ReproduceAt.f k t1099 t1100 a1 t1103 a3).bind fun bt1106 => ((laws_toMoments.f k a0_0 l0_1).bind fun bt1108 => ((laws_toInt64S.f k l2).bind fun t1113 => ((impl_ReproduceAt.f k bt1108.1 bt1108.2 a1 t1113 a3).bind fun bt1116 => (if bt1116.1 = bt1106.1 then (laws_FnExactReproduceAt.j0 k l2 t1113 (bt1116.2 != bt1106.2) a0_0 l0_1 bt1108.1 bt1108.2) else (laws_FnExactReproduceAt.j0 k l2 t1113 true a0_0 l0_1 bt1108.1 bt1108.2))))))) = some r := H
   have A12 := zA A120
   clear A120
   replace H := Option.bind_eq_some_iff.mp H
   obtain ⟨t1103, A130, H⟩ := H
   replace H : ((spec_ReproduceAt.f k t1099 t1100 a1 t1103 a3).bind fun bt1106 => ((laws_toMoments.f k a0_0 l0_1).bind fun bt1108 => ((laws_toInt64S.f k l2).bind fun t1113 => ((impl_ReproduceAt.f k bt1108.1 bt1108.2 a1 t1113 a3).bind fun bt1116 => (if bt1116.1 = bt1106.1 then (laws_FnExactReproduceAt.j0 k l2 t1113 (bt1116.2 != bt1106.2) a0_0 l0_1 bt1108.1 bt1108.2) else (laws_FnExactReproduceAt.j0 k l2 t1113 true a0_0 l0_1 bt1108.1 bt1108.2)))))) = some r := H
   have A13 := zA A130
   clear A130
   replace H := Option.bind_eq_some_iff.mp H
   obtain ⟨⟨t1106, t1107⟩, A140, H⟩ := H
   replace H : ((laws_toMoments.f k a0_0 l0_1).bind fun bt1108 => ((laws_toInt64S.f k l2).bind fun t1113 => ((impl_ReproduceAt.f k bt1108.1 bt1108.2 a1 t1113 a3).bind fun bt1116 => (if bt1116.1 = t1106 then (laws_FnExactReproduceAt.j0 k l2 t1113 (bt1116.2 != t1107) a0_0 l0_1 bt1108.1 bt1108.2) else (laws_FnExactReproduceAt.j0 k l2 t1113 true a0_0 l0_1 bt1108.1 bt1108.2))))) = some r := H
   have A14 := zA A140
   clear A140
   replace H := Option.bind_eq_some_iff.mp H
   obtain ⟨⟨t1108, t1109⟩, A150, H⟩ := H
   replace H : ((laws_toInt64S.f k l2).bind fun t1113 => ((impl_ReproduceAt.f k t1108 t1109 a1 t1113 a3).bind fun bt1116 => (if bt1116.1 = t1106 then (laws_FnExactReproduceAt.j0 k l2 t1113 (bt1116.2 != t1107) a0_0 l0_1 t1108 t1109) else (laws_FnExactReproduceAt.j0 k l2 t1113 true a0_0 l0_1 t1108 t1109)))) = some r := H
   have A15 := zA A150
   clear A150
   replace H := Option.bind_eq_some_iff.mp H
   obtain ⟨t1113, A160, H⟩ := H
   replace H : ((impl_ReproduceAt.f k t1108 t1109 a1 t1113 a3).bind fun bt1116 => (if bt1116.1 = t1106 then (laws_FnExactReproduceAt.j0 k l2 t1113 (bt1116.2 != t1107) a0_0 l0_1 t1108 t1109) else (laws_FnExactReproduceAt.j0 k l2 t1113 true a0_0 l0_1 t1108 t1109))) = some r := H
   have A16 := zA A160
   clear A160
   replace H := Option.bind_eq_some_iff.mp H
   obtain ⟨⟨t1116, t1117⟩, A170, H⟩ := H
   replace H : (if t1116 = t1106 then (laws_FnExactReproduceAt.j0 k l2 t1113 (t1117 != t1107) a0_0 l0_1 t1108 t1109) else (laws_FnExactReproduceAt.j0 k l2 t1113 true a0_0 l0_1 t1108 t1109)) = some r := H
   have A17 := zA A170
   clear A170
   have HC18 := zA H
   clear H
   go_enter Try.func14, Try.ntmps14
   go_upto_region 11 with (first | ((with_reducible refine gate_dst (N := 4) rfl ?_); refine bx 4 #[.int .i64 a0_0, .slice A0_1 l0_1.length c0_1] 34 ?_; intro gb1097 hg w19 hbox hb; have BK1097 := zA (hbox); have GW1097 := gq HB hg; have GE1097 := gq HB hg; replace HB := xH HB hb; have := geI GE1097; clear hb hbox hg; have hcz20_0 := bc BK1097 0; have hcz20_1 := bc BK1097 1; have hfz20_0 := bf BK1097 0; have hfz20_1 := bf BK1097 1) | ((with_reducible refine gate_callee (f := 22) rfl ?_); refine gL (some 21) Try.func22 #[.agg #[.int .i64 a0_0, .slice A0_1 l0_1.length c0_1], .int .i64 1048576] ?_; (with_reducible refine (laws_szMoments.calls a0_0 _ _ l0_1 1048576 t1098 _ ?side1 ?side2 A7.out).mono ?_); (case side1 => exact uC ((Kd.C_below HR0_1.out HB.out))); (case side2 => exact HC0_1.out); rintro e w21 ⟨rfl, hb⟩; refine ⟨_, rfl, ?_⟩; replace BK1097 := xB BK1097 hb; replace HB := xH HB hb; (try clear hb); (try clear hb2); (try clear hk); (try clear hi); have hcz22_0 := bc BK1097 0; have hcz22_1 := bc BK1097 1; have hfz22_0 := bf BK1097 0; have hfz22_1 := bf BK1097 1) | ((with_reducible refine gate_callee (f := 24) rfl ?_); refine gL (some 26) Try.func24 #[.agg #[.int .i64 a0_0, .slice A0_1 l0_1.length c0_1]] ?_; (with_reducible refine (laws_toMoments.calls k a0_0 _ _ l0_1 t1099 t1100 _ ?side1 ?side2 A12.out).mono ?_); (case side1 => exact uC ((Kd.C_below HR0_1.out HB.out))); (case side2 => exact HC0_1.out); rintro e w23 ⟨v1101, rfl, ho0, hb⟩; refine ⟨_, rfl, ?_⟩; have HO1102 := zA (Kd.R_lower ho0 (below_size (uH HB.out))); replace BK1097 := xB BK1097 hb; replace HB := xH HB hb; (try clear hb); (try clear hb2); (try clear hk); (try clear hi); (try clear ho0)) | ((with_reducible refine gate_callee (f := 25) rfl ?_); refine gL (some 29) Try.func25 #[.slice A2 l2.length c2] ?_; (with_reducible refine (laws_toInt64S.calls k _ _ l2 t1103 _ ?side1 ?side2 A13.out).mono ?_); (case side1 => exact uC ((Kd.C_below HR2.out HB.out))); (case side2 => exact HC2.out); rintro e w24 ⟨v1104, rfl, ho0, hb⟩; refine ⟨_, rfl, ?_⟩; have HO1105 := zA (Kd.R_lower (Kd.R_new' ho0 (Kd.R_lt (uR HO1102.out))) (below_size (uH HB.out))); replace HO1102 := zA (Kd.R_elder' (uR HO1102.out) (Kd.R_base ho0) hb); replace BK1097 := xB BK1097 hb; replace HB := xH HB hb; (try clear hb); (try clear hb2); (try clear hk); (try clear hi); (try clear ho0); obtain ⟨Ao25, co25, eo25⟩ := Kd.R_slice HO1102.out; subst eo25; obtain ⟨Ao26, co26, eo26⟩ := Kd.R_slice HO1105.out; subst eo26) | ((with_reducible refine gate_callee (f := 53) rfl ?_); refine gL (some 31) Try.func53 #[.agg #[.int .i64 t1099, .slice Ao25 t1100.length co25], .int .i64 a1, .slice Ao26 t1103.length co26, .int .i64 a3] ?_; (with_reducible refine (spec_ReproduceAt.calls k t1099 _ _ t1100 a1 _ _ t1103 a3 t1106 t1107 _ ?side1 ?side2 ?side3 ?side4 A14.out).mono ?_); (case side1 => exact uC ((Kd.R_reads' HO1102.out).2.2)); (case side2 => exact (Kd.R_reads' HO1102.out).2.1); (case side3 => exact uC ((Kd.R_reads' HO1105.out).2.2)); (case side4 => exact (Kd.R_reads' HO1105.out).2.1); rintro e w27 ⟨rfl, hb⟩; refine ⟨_, rfl, ?_⟩; replace HO1102 := xR HO1102 hb; replace HO1105 := xR HO1105 hb; replace BK1097 := xB BK1097 hb; replace HB := xH HB hb; (try clear hb); (try clear hb2); (try clear hk); (try clear hi); have hcz28_0 := bc BK1097 0; have hcz28_1 := bc BK1097 1; have hfz28_0 := bf BK1097 0; have hfz28_1 := bf BK1097 1) | ((with_reducible refine gate_callee (f := 24) rfl ?_); refine gL (some 35) Try.func24 #[.agg #[.int .i64 a0_0, .slice A0_1 l0_1.length c0_1]] ?_; (with_reducible refine (laws_toMoments.calls k a0_0 _ _ l0_1 t1108 t1109 _ ?side1 ?side2 A15.out).mono ?_); (case side1 => exact uC ((Kd.C_below HR0_1.out HB.out))); (case side2 => exact HC0_1.out); rintro e w29 ⟨v1110, rfl, ho0, hb⟩; refine ⟨_, rfl, ?_⟩; have HO1111 := zA (Kd.R_lower (Kd.R_new' (Kd.R_new' ho0 (Kd.R_lt (uR HO1102.out))) (Kd.R_lt (uR HO1105.out))) (below_size (uH HB.out))); replace HO1102 := zA (Kd.R_elder' (uR HO1102.out) (Kd.R_base ho0) hb); replace HO1105 := zA (Kd.R_elder' (uR HO1105.out) (Kd.R_base ho0) hb); replace BK1097 := xB BK1097 hb; replace HB := xH HB hb; (try clear hb); (try clear hb2); (try clear hk); (try clear hi); (try clear ho0)) | ((with_reducible refine gate_dst (N := 12) rfl ?_); refine bx 12 #[.int .i64 0, .slice none 0 0] 40 ?_; intro gb1112 hg w30 hbox hb; replace HO1102 := xR HO1102 hb; replace HO1105 := xR HO1105 hb; replace HO1111 := xR HO1111 hb; have BK1112 := zA (hbox); have GW1112 := gq HB hg; have GE1112 := gq HB hg; replace HB := xH HB hb; have NB1097_1112 := zA ((by rw [hg]; exact neL BK1097 : gb1097 ≠ gb1112)); have NB1112_1097 := zA ((by rw [hg]; exact neG BK1097 : gb1112 ≠ gb1097)); replace BK1097 := xB BK1097 hb; have := geI GE1112; clear hb hbox hg; have hnb31 := NB1112_1097.out; have hnc31 := NB1097_1112.out; have hcz32_0 := bc BK1112 0; have hcz32_1 := bc BK1112 1; have hfz32_0 := bf BK1112 0; have hfz32_1 := bf BK1112 1; obtain ⟨Ao33, co33, eo33⟩ := Kd.R_slice HO1111.out; subst eo33) | ((with_reducible refine gate_callee (f := 25) rfl ?_); refine gL (some 37) Try.func25 #[.slice A2 l2.length c2] ?_; (with_reducible refine (laws_toInt64S.calls k _ _ l2 t1113 _ ?side1 ?side2 A16.out).mono ?_); (case side1 => exact Kd.C_below HR2.out (uH HB.out)); (case side2 => exact HC2.out); rintro e w34 ⟨v1114, rfl, ho0, hb⟩; refine ⟨_, rfl, ?_⟩; have HO1115 := zA (Kd.R_lower (Kd.R_new' (Kd.R_new' (Kd.R_new' ho0 (Kd.R_lt (uR ((rf2 HO1102 BK1112 (by decide) (.int .i64 t1108) (.slice Ao33 t1109.length co33)))))) (Kd.R_lt (uR ((rf2 HO1105 BK1112 (by decide) (.int .i64 t1108) (.slice Ao33 t1109.length co33)))))) (Kd.R_lt (uR ((rf2 HO1111 BK1112 (by decide) (.int .i64 t1108) (.slice Ao33 t1109.length co33)))))) (below_size (uH HB.out))); replace HO1102 := zA (Kd.R_elder' (uR ((rf2 HO1102 BK1112 (by decide) (.int .i64 t1108) (.slice Ao33 t1109.length co33)))) (Kd.R_base ho0) hb); replace HO1105 := zA (Kd.R_elder' (uR ((rf2 HO1105 BK1112 (by decide) (.int .i64 t1108) (.slice Ao33 t1109.length co33)))) (Kd.R_base ho0) hb); replace HO1111 := zA (Kd.R_elder' (uR ((rf2 HO1111 BK1112 (by decide) (.int .i64 t1108) (.slice Ao33 t1109.length co33)))) (Kd.R_base ho0) hb); replace BK1097 := zA (blk_below (g := gb1097) (o := .cells #[.int .i64 a0_0, .slice A0_1 l0_1.length c0_1] 34 (0, 0)) (by (repeat refine up1 ?_); refine blk_far ?_ NB1097_1112.out _; (repeat refine up1 ?_); refine blk_far ?_ NB1097_1112.out _; (repeat refine up1 ?_); exact BK1097.out) hb); replace BK1112 := zA (blk_below (g := gb1112) (o := .cells #[.int .i64 t1108, .slice Ao33 t1109.length co33] 40 (0, 0)) (by (repeat refine up1 ?_); refine blk_put (cs := #[.int .i64 t1108, .slice none 0 0]) ?_ 1 _ rfl; (repeat refine up1 ?_); refine blk_put (cs := #[.int .i64 0, .slice none 0 0]) ?_ 0 _ rfl; (repeat refine up1 ?_); exact BK1112.out) hb); replace HB := xH HB hb; (try clear hb); (try clear hb2); (try clear hk); (try clear hi); (try clear ho0); have hcz35_0 := bc BK1112 0; have hcz35_1 := bc BK1112 1; have hfz35_0 := bf BK1112 0; have hfz35_1 := bf BK1112 1; obtain ⟨Ao36, co36, eo36⟩ := Kd.R_slice HO1115.out; subst eo36) | ((with_reducible refine gate_callee (f := 54) rfl ?_); refine gL (some 43) Try.func54 #[.agg #[.int .i64 t1108, .slice Ao33 t1109.length co33], .int .i64 a1, .slice Ao36 t1113.length co36, .int .i64 a3] ?_; (with_reducible refine (impl_ReproduceAt.calls k t1108 _ _ t1109 a1 (fun k_ => some k_ = (.slice Ao36 t1113.length co36 : Value).ownBlock) _ _ t1113 a3 t1116 t1117 _ ?side1 ?side2 ?side3 A17.out).mono ?_); (case side1 => exact uC ((Kd.R_reads' HO1111.out).2.2)); (case side2 => exact (Kd.R_reads' HO1111.out).2.1); (case side3 => exact Kd.R_V (Kd.R_tight rfl (Kd.R_types (Kd.R_types (HO1115.out) BK1097.out (by decide)) BK1112.out (by decide)))); rintro e w37 ⟨rfl, hb⟩; refine ⟨_, rfl, ?_⟩; replace HO1102 := xR HO1102 hb; replace HO1105 := xR HO1105 hb; replace HO1111 := xR HO1111 hb; replace HO1115 := xR HO1115 hb; replace BK1097 := xB BK1097 hb; replace BK1112 := xB BK1112 hb; replace HB := xH HB hb; (try clear hb); (try clear hb2); (try clear hk); (try clear hi)))
   (try simp only [Act.put, ls, lz, ln])
   go_cut [53] (fun v53 wc => ∃ (kq : Nat) (x53_17 : Bool), v53 = .bool x53_17 ∧ Aside0 (laws_FnExactReproduceAt.j0 kq l2 t1113 x53_17 a0_0 l0_1 t1108 t1109 = some r) ∧ Aside0 (kq ≤ k) ∧ Aside0 (Kd.R (Kd.int .i64) 2 wc w.heap.size (fun k_ => ax k_ (.slice Ao33 t1109.length co33)) (.slice Ao36 t1113.length co36) t1113) ∧ Aside0 (Kd.R (Kd.int .i64) 2 wc w.heap.size (fun k_ => ax k_ (.slice Ao36 t1113.length co36)) (.slice Ao33 t1109.length co33) t1109) ∧ Aside0 (wc.heap[gb1097]? = some (.cells #[.int .i64 a0_0, (.slice A0_1 l0_1.length c0_1)] 34 (0, 0))) ∧ Aside0 (wc.heap[gb1112]? = some (.cells #[.int .i64 t1108, (.slice Ao33 t1109.length co33)] 40 (0, 0))) ∧ Aside0 (Below w.heap.size w wc))
   case first =>
    have H := HC18.out
    clear HC18
    by_cases c38 : t1116 = t1106
    rotate_left
    ·rw [if_neg c38] at H
     have c38b0 : (t1116 == t1106) = false := beq_eq_false_iff_ne.mpr c38
     have c38b1 : (t1116 != t1106) = true := bne_iff_ne.mpr c38
     (first | rw [c38b0] | (simp only [i64_w, i32_w]; rw [c38b0]) | skip)
     have H' := zA H
     clear H
     go_wp2
     go_meet
     case rel => exact ⟨_, (true), (by first | rfl | (simp; done) | (simp [*]; done)), H', ⟨by first | omega | exact Nat.le_refl _⟩, ⟨uR (Kd.R_mono HO1115.out (fun _ hk => hk.2))⟩, ⟨uR (Kd.R_mono HO1111.out (fun _ hk => hk.2))⟩, ⟨uB BK1097.out⟩, ⟨uB BK1112.out⟩, ⟨uH HB.out⟩⟩
    rw [if_pos c38] at H
    have c38b0 : (t1116 == t1106) = true := beq_iff_eq.mpr c38
    have c38b1 : (t1116 != t1106) = false := bne_eq_false_iff_eq.mpr c38
    clear c38
    (first | rw [c38b0] | (simp only [i64_w, i32_w]; rw [c38b0]) | skip)
    have H' := zA H
    clear H
    go_wp2
    go_meet
    case rel => exact ⟨_, ((t1117 != t1107)), (by first | rfl | (simp; done) | (simp [*]; done)), H', ⟨by first | omega | exact Nat.le_refl _⟩, ⟨uR (Kd.R_mono HO1115.out (fun _ hk => hk.2))⟩, ⟨uR (Kd.R_mono HO1111.out (fun _ hk => hk.2))⟩, ⟨uB BK1097.out⟩, ⟨uB BK1112.out⟩, ⟨uH HB.out⟩⟩
   case rest =>
    clear HC18
    (try clear c1);(try clear c2);(try clear p2);(try clear c3);(try clear c5);(try clear c5b0);(try clear c5b1);(try clear c8);(try clear c8b0);(try clear c14);(try clear c22);(try clear c24);(try clear c25);(try clear c31);(try clear c38);(try clear c38b0);(try clear c38b1);(try clear hcz10_0);(try clear hcz10_1);(try clear hcz20_0);(try clear hcz20_1);(try clear hcz22_0);(try clear hcz22_1);(try clear hcz28_0)
    (try clear hcz28_1);(try clear hcz32_0);(try clear hcz32_1);(try clear hcz35_0);(try clear hcz35_1);(try clear hfz10_0);(try clear hfz10_1);(try clear hfz20_0);(try clear hfz20_1);(try clear hfz22_0);(try clear hfz22_1);(try clear hfz28_0);(try clear hfz28_1);(try clear hfz32_0);(try clear hfz32_1);(try clear hfz35_0);(try clear hfz35_1)
    obtain ⟨kq, x53_17, rfl, HA, HJ17, HO_13, HO_1113001, BK1097, BK1112, HB⟩ := hcut
    cases kq with
    | zero => exact absurd HA.out (by simp [laws_FnExactReproduceAt.j0])
    | succ kj17 =>
     have H := HA.out
     clear HA
     simp only [laws_FnExactReproduceAt.j0] at H
     by_cases c39 : x53_17 = true
     ·subst c39
      have H1 : (some false) = some r := by rw [if_pos rfl] at H; exact H
      clear H
      have H := H1
      clear H1
      rw [HRT.out] at H
      exact absurd H (by simp)
     ·replace c39 := Bool.eq_false_iff.mpr c39
      subst c39
      have H1 : ((laws_toMoments.f kj17 a0_0 l0_1).bind fun bt1118 => ((laws_eqMoments.f kj17 t1108 t1109 bt1118.1 bt1118.2).bind fun t1122 => (if t1122 = true then ((laws_toInt64S.f kj17 l2).bind fun t1123 => ((laws_eqInt64S.f kj17 t1113 t1123).bind fun t1126 => (if t1126 = true then (some true) else (some false)))) else (some false)))) = some r := by rw [if_neg (show ¬ (false = true) by decide)] at H; exact H
      clear H
      have H := H1
      clear H1
      replace H := Option.bind_eq_some_iff.mp H
      obtain ⟨⟨t1118, t1119⟩, A400, H⟩ := H
      replace H : ((laws_eqMoments.f kj17 t1108 t1109 t1118 t1119).bind fun t1122 => (if t1122 = true then ((laws_toInt64S.f kj17 l2).bind fun t1123 => ((laws_eqInt64S.f kj17 t1113 t1123).bind fun t1126 => (if t1126 = true then (some true) else (some false)))) else (some false))) = some r := H
      have A40 := zA A400
      clear A400
      replace H := Option.bind_eq_some_iff.mp H
      obtain ⟨t1122, A410, H⟩ := H
      replace H : (if t1122 = true then ((laws_toInt64S.f kj17 l2).bind fun t1123 => ((laws_eqInt64S.f kj17 t1113 t1123).bind fun t1126 => (if t1126 = true then (some true) else (some false)))) else (some false)) = some r := H
      have A41 := zA A410
      clear A410
      by_cases c42 : t1122 = true
      ·subst c42
       have H1 : ((laws_toInt64S.f kj17 l2).bind fun t1123 => ((laws_eqInt64S.f kj17 t1113 t1123).bind fun t1126 => (if t1126 = true then (some true) else (some false)))) = some r := by rw [if_pos rfl] at H; exact H
       clear H
       have H := H1
       clear H1
       replace H := Option.bind_eq_some_iff.mp H
       obtain ⟨t1123, A430, H⟩ := H
       replace H : ((laws_eqInt64S.f kj17 t1113 t1123).bind fun t1126 => (if t1126 = true then (some true) else (some false))) = some r := H
       have A43 := zA A430
       clear A430
       replace H := Option.bind_eq_some_iff.mp H
       obtain ⟨t1126, A440, H⟩ := H
       replace H : (if t1126 = true then (some true) else (some false)) = some r := H
       have A44 := zA A440
       clear A440
       by_cases c45 : t1126 = true
       ·subst c45
        have H1 : (some true) = some r := by rw [if_pos rfl] at H; exact H
        clear H
        have H := H1
        clear H1
        obtain rfl := Option.some.inj H
        try go_wp2
        replace HO_13 := zA (Kd.R_drew HO_13.out)
        replace HO_1113001 := zA (Kd.R_drew HO_1113001.out)
        replace BK1097 := zA (blk_drew BK1097.out)
        replace BK1112 := zA (blk_drew BK1112.out)
        replace HB := zA (below_drew1 HB.out)
        refine start_ (n := 5) (S := fun w' => w'.cell? ⟨gb1112, 0, none⟩ = some (.int .i64 t1108) ∧ w'.cell? ⟨gb1112, 1, none⟩ = some (.slice Ao33 t1109.length co33) ∧ w'.cell? ⟨gb1097, 0, none⟩ = some (.int .i64 a0_0) ∧ w'.cell? ⟨gb1097, 1, none⟩ = some (.slice A0_1 l0_1.length c0_1)) (ds := []) #[false, false, false, false, false] (by kernel_rfl) rfl rfl ⟨bcu BK1112 0, bcu BK1112 1, bcu BK1097 0, bcu BK1097 1⟩ (fun hHeld => ?_)
        generalize wc.drew = w46 at HO_13 HO_1113001 BK1097 BK1112 HB hHeld ⊢
        refine take_ (i := 0) (N := some 54) (v := ?_) (a' := ?_) #[true, false, false, false, false] rfl rfl (by kernel_rfl) (fun _ _ _ h => h) (Or.inl ⟨by rfl, ?_⟩) hHeld ?_ ?_
        rotate_left
        ·rintro w' ⟨s0, s1, s2, s3⟩
         go_simp
         with_reducible rfl
        rotate_left
        ·simp only [Act.put, ls, lz, ln, i64_w, i32_w]
         rfl
        refine take_ (i := 1) (N := some 55) (v := ?_) (a' := ?_) #[true, true, false, false, false] rfl rfl (by kernel_rfl) (fun _ _ _ h => h) (Or.inl ⟨by rfl, ?_⟩) hHeld ?_ ?_
        rotate_left
        ·rintro w' ⟨s0, s1, s2, s3⟩
         go_simp
         with_reducible rfl
        rotate_left
        ·simp only [Act.put, ls, lz, ln, i64_w, i32_w]
         rfl
        refine one_ (i := 2) (N := some 56) #[true, true, true, false, false] rfl rfl (by kernel_rfl) (by decide) (fun K hK => ?_)
        refine gS Try.func24 #[.agg #[.int .i64 a0_0, .slice A0_1 l0_1.length c0_1]] ?_
        with_reducible refine (laws_toMoments.calls kj17 a0_0 _ _ l0_1 t1118 t1119 _ ?side1 ?side2 A40.out).mono ?_
        (case side1 => exact uC ((Kd.C_below HR0_1.out HB.out)))
        (case side2 => exact HC0_1.out)
        rintro e w47 ⟨v1120, rfl, ho0, hb⟩
        refine ⟨_, rfl, ?_⟩
        have HO1121 := zA (Kd.R_lower (Kd.R_new' (Kd.R_new' ho0 (Kd.R_lt (uR HO_13.out))) (Kd.R_lt (uR HO_1113001.out))) (below_size (uH HB.out)))
        replace HO_13 := zA (Kd.R_elder' (uR HO_13.out) (Kd.R_base ho0) hb)
        replace HO_1113001 := zA (Kd.R_elder' (uR HO_1113001.out) (Kd.R_base ho0) hb)
        replace BK1097 := xB BK1097 hb
        replace BK1112 := xB BK1112 hb
        replace HB := xH HB hb
        (try clear hb); (try clear hb2); (try clear hk); (try clear hi); (try clear ho0)
        obtain ⟨Ao48, co48, eo48⟩ := Kd.R_slice HO1121.out
        (first | subst eo48 | (injection eo48 with f1_ f2_ f3_; have f4_ := f1_.symm; have f5_ := f3_.symm; clear f1_ f2_ f3_; subst f4_; subst f5_))
        refine hK.out _ _ ⟨bcu BK1112 0, bcu BK1112 1, bcu BK1097 0, bcu BK1097 1⟩ (fun hHeld => ?_)
        clear hK K
        refine norm_ (a' := ?_) ?_ ?_
        rotate_left
        ·show Act.put _ (some 56) _ = _
         simp only [Act.put, ls, lz, ln, i64_w, i32_w]
         rfl
        refine one_ (i := 3) (N := some 57) #[true, true, true, true, false] rfl rfl (by kernel_rfl) (by decide) (fun K hK => ?_)
        refine gS Try.func28 #[.agg #[.int .i64 t1108, .slice Ao33 t1109.length co33], .agg #[.int .i64 t1118, .slice Ao48 t1119.length co48]] ?_
        with_reducible refine (laws_eqMoments.calls kj17 t1108 _ _ t1109 t1118 _ _ t1119 true _ ?side1 ?side2 ?side3 ?side4 A41.out).mono ?_
        (case side1 => exact uC ((Kd.R_reads' HO_1113001.out).2.2))
        (case side2 => exact (Kd.R_reads' HO_1113001.out).2.1)
        (case side3 => exact uC ((Kd.R_reads' HO1121.out).2.2))
        (case side4 => exact (Kd.R_reads' HO1121.out).2.1)
        rintro e w49 ⟨rfl, hb⟩
        refine ⟨_, rfl, ?_⟩
        replace HO_13 := xR HO_13 hb
        replace HO_1113001 := xR HO_1113001 hb
        replace HO1121 := xR HO1121 hb
        replace BK1097 := xB BK1097 hb
        replace BK1112 := xB BK1112 hb
        replace HB := xH HB hb
        (try clear hb); (try clear hb2); (try clear hk); (try clear hi)
        refine hK.out _ _ ⟨bcu BK1112 0, bcu BK1112 1, bcu BK1097 0, bcu BK1097 1⟩ (fun hHeld => ?_)
        clear hK K
        refine norm_ (a' := ?_) ?_ ?_
        rotate_left
        ·show Act.put _ (some 57) _ = _
         simp only [Act.put, ls, lz, ln, i64_w, i32_w]
         rfl
        refine pure_ (i := 4) (N := some 58) (v := ?_) (a' := ?_) #[true, true, true, true, true] rfl rfl (by kernel_rfl) (fun _ _ _ h => h) (Or.inl ⟨by rfl, ?_⟩) ?_ ?_
        rotate_left
        ·intro w'
         go_simp
         with_reducible rfl
        rotate_left
        ·simp only [Act.put, ls, lz, ln, i64_w, i32_w]
         rfl
        refine done_ (by kernel_rfl) ?_
        try go_wp2_with (first | ((with_reducible refine gate_callee (f := 25) rfl ?_); refine gL (some 61) Try.func25 #[.slice A2 l2.length c2] ?_; (with_reducible refine (laws_toInt64S.calls kj17 _ _ l2 t1123 _ ?side1 ?side2 A43.out).mono ?_); (case side1 => exact uC ((Kd.C_below HR2.out HB.out))); (case side2 => exact HC2.out); rintro e w50 ⟨v1124, rfl, ho0, hb⟩; refine ⟨_, rfl, ?_⟩; have HO1125 := zA (Kd.R_lower (Kd.R_new' (Kd.R_new' (Kd.R_new' ho0 (Kd.R_lt (uR HO_13.out))) (Kd.R_lt (uR HO_1113001.out))) (Kd.R_lt (uR HO1121.out))) (below_size (uH HB.out))); replace HO_13 := zA (Kd.R_elder' (uR HO_13.out) (Kd.R_base ho0) hb); replace HO_1113001 := zA (Kd.R_elder' (uR HO_1113001.out) (Kd.R_base ho0) hb); replace HO1121 := zA (Kd.R_elder' (uR HO1121.out) (Kd.R_base ho0) hb); replace BK1097 := xB BK1097 hb; replace BK1112 := xB BK1112 hb; replace HB := xH HB hb; (try clear hb); (try clear hb2); (try clear hk); (try clear hi); (try clear ho0); obtain ⟨Ao51, co51, eo51⟩ := Kd.R_slice HO1125.out; subst eo51) | ((with_reducible refine gate_callee (f := 29) rfl ?_); refine gL (some 62) Try.func29 #[.slice Ao36 t1113.length co36, .slice Ao51 t1123.length co51] ?_; (with_reducible refine (laws_eqInt64S.calls kj17 _ _ t1113 _ _ t1123 true _ ?side1 ?side2 ?side3 ?side4 A44.out).mono ?_); (case side1 => exact uC ((Kd.R_reads' HO_13.out).2.2)); (case side2 => exact (Kd.R_reads' HO_13.out).2.1); (case side3 => exact uC ((Kd.R_reads' HO1125.out).2.2)); (case side4 => exact (Kd.R_reads' HO1125.out).2.1); rintro e w' ⟨rfl, ⟨nd, rfl⟩⟩; refine ⟨_, rfl, ?_⟩))
        go_ret
        exact ⟨by first | rfl | (simp [errW_none, errW_some] <;> rfl) | (simp [*, errW_none, errW_some] <;> rfl), uH HB.out⟩
       ·replace c45 := Bool.eq_false_iff.mpr c45
        subst c45
        have H1 : (some false) = some r := by rw [if_neg (show ¬ (false = true) by decide)] at H; exact H
        clear H
        have H := H1
        clear H1
        rw [HRT.out] at H
        exact absurd H (by simp)
      ·replace c42 := Bool.eq_false_iff.mpr c42
       subst c42
       have H1 : (some false) = some r := by rw [if_neg (show ¬ (false = true) by decide)] at H; exact H
       clear H
       have H := H1
       clear H1
       rw [HRT.out] at H
       exact absurd H (by simp)

  rw [if_pos c8] at H
  have c8b0 : decide (t1098 < 0) = true := decide_eq_true c8
  clear c8
  obtain rfl := Option.some.inj H
  go_enter Try.func14, Try.ntmps14
  go_wp2_with (first | ((with_reducible refine gate_dst (N := 4) rfl ?_); refine bx 4 #[.int .i64 a0_0, .slice A0_1 l0_1.length c0_1] 34 ?_; intro gb1097 hg w9 hbox hb; have BK1097 := zA (hbox); have GW1097 := gq HB hg; have GE1097 := gq HB hg; replace HB := xH HB hb; have := geI GE1097; clear hb hbox hg; have hcz10_0 := bc BK1097 0; have hcz10_1 := bc BK1097 1; have hfz10_0 := bf BK1097 0; have hfz10_1 := bf BK1097 1) | ((with_reducible refine gate_callee (f := 22) rfl ?_); refine gL (some 21) Try.func22 #[.agg #[.int .i64 a0_0, .slice A0_1 l0_1.length c0_1], .int .i64 1048576] ?_; (with_reducible refine (laws_szMoments.calls a0_0 _ _ l0_1 1048576 t1098 _ ?side1 ?side2 A7.out).mono ?_); (case side1 => exact uC ((Kd.C_below HR0_1.out HB.out))); (case side2 => exact HC0_1.out); rintro e w11 ⟨rfl, hb⟩; refine ⟨_, rfl, ?_⟩; replace BK1097 := xB BK1097 hb; replace HB := xH HB hb; (try clear hb); (try clear hb2); (try clear hk); (try clear hi)))
  go_ret
  exact ⟨by first | rfl | (simp [errW_none, errW_some] <;> rfl) | (simp [*, errW_none, errW_some] <;> rfl), uH HB.out⟩
 rw [if_pos c5] at H
 have c5b0 : decide (1048576 < (l2.length : Int)) = true := decide_eq_true c5
 have c5b1 : decide (1048576 < l2.length) = true := decide_eq_true (by omega)
 clear c5
 obtain rfl := Option.some.inj H
 go_enter Try.func14, Try.ntmps14
 go_wp2_with (first | ((with_reducible refine gate_dst (N := 4) rfl ?_); refine bx 4 #[.int .i64 a0_0, .slice A0_1 l0_1.length c0_1] 34 ?_; intro gb1097 hg w6 hbox hb; have BK1097 := zA (hbox); have GW1097 := gq HB hg; have GE1097 := gq HB hg; replace HB := xH HB hb; have := geI GE1097; clear hb hbox hg))
 go_ret
 exact ⟨by first | rfl | (simp [errW_none, errW_some] <;> rfl) | (simp [*, errW_none, errW_some] <;> rfl), uH HB.out⟩
/-- THE ONE PURE STATEMENT of laws_FnExactReproduceAt: yours. -/
def laws_FnExactReproduceAt.Pure : Prop := ∀ (a0_0 : Int) (l0_1 : List Int) (a1 : Int) (l2 : List Int) (a3 : Int), (Lit.int .i64 a0_0).wf = true → l0_1.length ≤ maxLen → (∀ x ∈ l0_1, (Lit.int .i64 x).wf = true) → (Lit.int .i64 a1).wf = true → l2.length ≤ maxLen → l2.length * 8 ≤ 140737488351232 → (∀ x ∈ l2, (Lit.int .i64 x).wf = true) → (Lit.int .i64 a3).wf = true → ∃ k, laws_FnExactReproduceAt.f k a0_0 l0_1 a1 l2 a3 = some true
theorem laws_FnExactReproduceAt.walk (P : laws_FnExactReproduceAt.Pure) (a0_0 : Int) (a0_1 : Option Addr) (len0_1 cap0_1 : Nat) (z0_1 : List Int) (a1 : Int) (a2 : Option Addr) (len2 cap2 : Nat) (z2 : List Int) (a3 : Int) (w : World) (w0_0 : (Lit.int .i64 a0_0).wf = true) (w0_1 : (a0_1 = none ∧ len0_1 = 0 ∧ cap0_1 = 0 ∧ z0_1 = []) ∨ ∃ x, a0_1 = some x ∧ len0_1 ≤ cap0_1 ∧ cap0_1 ≤ maxLen ∧ z0_1.length = cap0_1 ∧ (∀ i, i < z0_1.length → w.cell? (x.add i) = some (.int .i64 (z0_1.getD i 0))) ∧ ∀ n ∈ z0_1, (Lit.int .i64 n).wf = true) (w1 : (Lit.int .i64 a1).wf = true) (w2 : (a2 = none ∧ len2 = 0 ∧ cap2 = 0 ∧ z2 = []) ∨ ∃ x, a2 = some x ∧ len2 ≤ cap2 ∧ cap2 ≤ maxLen ∧ z2.length = cap2 ∧ (∀ i, i < z2.length → w.cell? (x.add i) = some (.int .i64 (z2.getD i 0))) ∧ ∀ n ∈ z2, (Lit.int .i64 n).wf = true) (y2 : len2 * 8 ≤ 140737488351232) (w3 : (Lit.int .i64 a3).wf = true) :
  Calls Try.prog 14 #[.agg #[.int .i64 a0_0, .slice a0_1 len0_1 cap0_1], .int .i64 a1, .slice a2 len2 cap2, .int .i64 a3] w fun e w' => e = .returned (.bool true) ∧ Below w.heap.size w w' := by
 obtain ⟨l0_1, rfl, hr0_1, hm0_1, hw0_1, hc0_1⟩ := ReadsInt.ofRowC w0_1
 obtain ⟨l2, rfl, hr2, hm2, hw2, hc2⟩ := ReadsInt.ofRowC w2
 obtain ⟨k, h⟩ := P a0_0 l0_1 a1 l2 a3 w0_0 hm0_1 hw0_1 w1 hm2 y2 hw2 w3
 refine (laws_FnExactReproduceAt.calls k a0_0 _ _ l0_1 a1 _ _ l2 a3 true rfl w (Kd.C_of_reads (d := (0 : Int)) (h1 := fun _ => rfl) hr0_1) hc0_1 (Kd.C_of_reads (d := (0 : Int)) (h1 := fun _ => rfl) hr2) hc2 h).mono ?_
 rintro e w' ⟨rfl, hd⟩
 exact ⟨rfl, hd⟩
/- ReproduceAt: for all arguments the program and the reference come to one value; no condition. -/
theorem ReproduceAt_both (p : Int) (l : List Int) (n : Int) (f : List Int) (a : Int) (hl : Sm l.length) (hf : Sm f.length) : ∃ v : Int × Int, Ev (fun k => spec_ReproduceAt.f k p l n f a) v ∧ Ev (fun k => impl_ReproduceAt.f k p l n f a) v := by
  have hc := implKernelOf_ev p l hl n a (decide ((f.length : Int) - 1 ≤ n)) [f] (by simp [Sm]) (fun l h => by simp at h; rw [h]; exact hf)
  have hs := specKernel_ev p l hl n a
  rw [List.all_cons, List.all_nil, Bool.and_true] at hc
  have hf' := hf
  unfold Sm at hf'
  have h1 : impl_ReproduceAt_1.f f n = some (decide ((f.length : Int) - 1 ≤ n)) := by
    unfold impl_ReproduceAt_1.f impl_degree.f
    show some (decide (wrap64 ((f.length : Int) - 1) ≤ n)) = _
    rw [wrap_id (by omega) (by omega)]
  by_cases h : (momB p l && polyB p f) = true
  · rw [if_pos h] at hc
    rw [Bool.and_eq_true] at h
    rw [if_pos h.1] at hs
    have hp := momB.pm h.1
    have nl := momB.nm h.1
    have hlen := momB.len h.1
    have nf : Nm p f := by
      have := h.2
      unfold polyB at this
      rw [Bool.and_eq_true, decide_eq_true_eq] at this
      exact this.1
    have hj0 : ∀ v, Ev (fun k => spec_ReproduceAt.j0 k n f a false p l) v → Ev (fun k => spec_ReproduceAt.f k p l n f a) v := fun v hv => by
      unfold spec_ReproduceAt.f
      refine Ev.bind (specAre_ev p l hl) (Ev.pos h.1 (Ev.bind (specPoly_ev p f hf) ?_))
      rw [h.2]
      exact hv
    by_cases hr : kerR p n a
    · rw [if_pos hr] at hs
      have hcode := kerV_code p l n.toNat a
      have hn1 : wrap64 (n + 1) = n + 1 := by have := hr.1; exact wrap_id (by omega) (by omega)
      obtain ⟨k, rfl⟩ := Int.eq_ofNat_of_zero_le hr.1.1
      rw [toNat_nat] at hs hcode hc
      by_cases hd : (f.length : Int) - 1 ≤ (k : Int)
      · rw [decide_eq_true hd] at hc h1
        rw [if_pos ⟨hr, rfl⟩] at hc
        have h11 := hr.1.2
        have hkl := kerP_len hp l k a
        have hkn := kerP_nm hp l k a
        rcases hcode with ⟨h0, c, hk⟩ | h5
        · obtain ⟨m, hm, hm2⟩ := ordV_nat p l
          have hml := pmul_len p (kerP p l k a) f
          have hap : (pmul p (kerP p l k a) f).length ≤ l.length := by omega
          refine ⟨(applyM p l (pmul p (kerP p l k a) f) 0, 0), hj0 _ ?_, ?_⟩
          · refine Ev.step (fun k => by rw [spec_ReproduceAt.j0]) ?_
            refine Ev.neg (by decide) (Ev.bind hs ?_)
            rw [h0, hk, hn1, decide_eq_false (by omega)]
            refine Ev.neg (by decide) (Ev.step (fun k => by rw [spec_ReproduceAt.j1]) ?_)
            refine Ev.neg (by decide) (Ev.step (fun k => by rw [spec_ReproduceAt.j2]) ?_)
            exact Ev.pos rfl (Ev.bind (specMul_ev hp _ _ hkn nf (by unfold Sm; omega) hf (by unfold Sm; omega)) (Ev.bind (specApply_ev hp l _ nl (pmul_nm hp.pos _ _) 0 (.inl (by omega)) (by unfold Sm; omega) (by simp [Sm])) (Ev.now _)))
          · unfold impl_ReproduceAt.f
            refine Ev.bindE h1 (Ev.bind hc ?_)
            rw [h0, hk]
            exact Ev.pos rfl (Ev.bindE (a := p) rfl (Ev.bind (implMul_ev hp _ _ hkn nf (by unfold Sm; omega) hf (by unfold Sm; omega)) (Ev.bind (implApply_ev hp l _ nl (pmul_nm hp.pos _ _) hap (by unfold Sm; omega)) (Ev.now _))))
        · refine ⟨(0, 5), hj0 _ ?_, ?_⟩
          · refine Ev.step (fun k => by rw [spec_ReproduceAt.j0]) ?_
            refine Ev.neg (by decide) (Ev.bind hs ?_)
            rw [h5, hn1, decide_eq_false (by omega)]
            refine Ev.neg (by decide) (Ev.step (fun k => by rw [spec_ReproduceAt.j1]) ?_)
            refine Ev.neg (by decide) (Ev.step (fun k => by rw [spec_ReproduceAt.j2]) ?_)
            exact Ev.neg (by decide) (Ev.now _)
          · unfold impl_ReproduceAt.f
            refine Ev.bindE h1 (Ev.bind hc ?_)
            rw [h5]
            exact Ev.neg (by decide) (Ev.now _)
      · rw [decide_eq_false hd] at hc h1
        rw [if_neg (fun g => by cases g.2)] at hc
        refine ⟨(0, 2), hj0 _ ?_, ?_⟩
        · refine Ev.step (fun k => by rw [spec_ReproduceAt.j0]) ?_
          refine Ev.neg (by decide) (Ev.bind hs (Ev.neg (by rcases hcode with ⟨h0, _⟩ | h5 <;> omega) ?_))
          rw [hn1, decide_eq_true (by omega)]
          refine Ev.step (fun k => by rw [spec_ReproduceAt.j1]) ?_
          refine Ev.pos rfl (Ev.step (fun k => by rw [spec_ReproduceAt.j2]) ?_)
          exact Ev.neg (by decide) (Ev.now _)
        · unfold impl_ReproduceAt.f
          exact Ev.bindE h1 (Ev.bind hc (Ev.neg (by simp) (Ev.now _)))
    · rw [if_neg hr] at hs
      rw [if_neg (fun g => hr g.1)] at hc
      refine ⟨(0, 2), hj0 _ ?_, ?_⟩
      · refine Ev.step (fun k => by rw [spec_ReproduceAt.j0]) ?_
        refine Ev.neg (by decide) (Ev.bind hs (Ev.neg (by simp) ?_))
        by_cases hd : (f.length : Int) > wrap64 (n + 1)
        · rw [decide_eq_true hd]
          refine Ev.step (fun k => by rw [spec_ReproduceAt.j1]) ?_
          refine Ev.pos rfl (Ev.step (fun k => by rw [spec_ReproduceAt.j2]) ?_)
          exact Ev.neg (by decide) (Ev.now _)
        · rw [decide_eq_false hd]
          refine Ev.step (fun k => by rw [spec_ReproduceAt.j1]) ?_
          refine Ev.neg (by decide) (Ev.step (fun k => by rw [spec_ReproduceAt.j2]) ?_)
          exact Ev.neg (by simp) (Ev.now _)
      · unfold impl_ReproduceAt.f
        exact Ev.bindE h1 (Ev.bind hc (Ev.neg (by simp) (Ev.now _)))
  · rw [if_neg h] at hc
    refine ⟨(0, 1), ?_, ?_⟩
    · unfold spec_ReproduceAt.f
      refine Ev.bind (specAre_ev p l hl) ?_
      by_cases hm : momB p l = true
      · have hpb : polyB p f = false := by
          rw [hm, Bool.true_and] at h
          exact Bool.eq_false_iff.2 h
        refine Ev.pos hm (Ev.bind (specPoly_ev p f hf) ?_)
        rw [hpb]
        refine Ev.step (fun k => by rw [spec_ReproduceAt.j0]) ?_
        exact Ev.pos rfl (Ev.now _)
      · refine Ev.neg hm (Ev.step (fun k => by rw [spec_ReproduceAt.j0]) ?_)
        exact Ev.pos rfl (Ev.now _)
    · unfold impl_ReproduceAt.f
      exact Ev.bindE h1 (Ev.bind hc (Ev.neg (by simp) (Ev.now _)))
end Go.Proofs.Ytfbnkebgdmfcfaa.Pr
namespace Go.Proofs.Ytfbnkebgdmfcfaa.Pure
/- FnExactReproduceAt: for every input the law answers true: the program's ReproduceAt and the reference's come to one value, and the law's own copies, marks and comparisons answer as they have to. No condition. -/
open Go.RowKit Go.Proofs.Ytfbnkebgdmfcfaa.Pr Go.Proofs.YtfbnkebgdmfcfaaW.PrintWords Go.Proofs.YtfbnkebgdmfcfaaW.PrintLast
theorem FnExactReproduceAt : laws_FnExactReproduceAt.Pure := by
  intro a0_0 l0_1 a1 l2 a3 w0_0 ml0_1 wl0_1 w1 ml2 yl2 wl2 w3
  have main : Ev (fun k => laws_FnExactReproduceAt.f k a0_0 l0_1 a1 l2 a3) true := by
    unfold laws_FnExactReproduceAt.f
    by_cases sl2 : l2.length ≤ 1048576
    case neg => exact Ev.pos (by omega) (Ev.now _)
    refine Ev.neg (by omega) ?_
    replace sl2 : Sm l2.length := sl2
    by_cases z0 : l0_1.length ≤ 1048576
    case neg => exact Ev.bindE (szMoments_no _ l0_1 (by unfold maxLen at ml0_1; omega) (1048576) (by omega) (by omega)) (Ev.pos (by omega) (Ev.now _))
    refine Ev.bindE (szMoments_yes _ l0_1 (1048576) (by omega) z0) (Ev.neg (by omega) ?_)
    have sl0_1 : Sm l0_1.length := by unfold Sm; omega
    have bw0_0 := wf64 w0_0
    have bw1 := wf64 w1
    have bw3 := wf64 w3
    obtain ⟨v, hspec, himpl⟩ := ReproduceAt_both a0_0 l0_1 a1 l2 a3 sl0_1 sl2
    repeat' first
      | exact Ev.now _
      | refine Ev.bind hspec ?_
      | refine Ev.bind himpl ?_
      | refine Ev.bind (toMoments_ev _ _ (by first | assumption | (rw [marks_length]; assumption))) ?_
      | refine Ev.bind (eqMoments_ev _ _ (by first | assumption | (rw [marks_length]; assumption))) ?_
      | refine Ev.bind (toInt64S_ev _ (by first | assumption | (rw [marks_length]; assumption))) ?_
      | refine Ev.bind (eqInt64S_ev _ (by first | assumption | (rw [marks_length]; assumption))) ?_
      | refine Ev.pos (by first | rfl | omega | (dsimp only; omega)) ?_
      | refine Ev.neg (by first | exact ne_self _ | omega | (dsimp only; omega) | decide) ?_
      | refine Ev.step (fun k => by rw [laws_FnExactReproduceAt.j0]) ?_
      | refine Ev.step (fun k => by rw [laws_FnExactReproduceAt.j1]) ?_
      | refine Ev.step (fun k => by rw [laws_FnExactReproduceAt.j2]) ?_
      | refine Ev.step (fun k => by rw [laws_FnExactReproduceAt.j3]) ?_
      | refine Ev.step (fun k => by rw [laws_FnExactReproduceAt.j4]) ?_
      | refine Ev.step (fun k => by rw [laws_FnExactReproduceAt.j5]) ?_
  exact main.rounds
end Go.Proofs.Ytfbnkebgdmfcfaa.Pure
namespace Go.Proofs.Ytfbnkebgdmfcfaa.fnExactReproduceAt
open Go.ChangeShapes Go.WideShapes Go.ChangeAt Go.RowKit
open Go.ChangeMaps (open_string shut_string)
set_option linter.unusedVariables false
theorem own : ownKnob Try.prog.godebug = none := by kernel_rfl
theorem laidOut : laidOutB Try.prog = true := by kernel_rfl
def IsRow (k : IntKind) (w : World) (a : Option Addr) (len cap : Nat) (zs : List Int) : Prop :=
  (a = none ∧ len = 0 ∧ cap = 0 ∧ zs = []) ∨
  ∃ x, a = some x ∧ len ≤ cap ∧ cap ≤ maxLen ∧ zs.length = cap ∧ (∀ i, i < zs.length → w.cell? (x.add i) = some (.int k (zs.getD i 0))) ∧ ∀ n ∈ zs, (Lit.int k n).wf = true
set_option maxRecDepth 100000 in
theorem lifted (os : Os) (started : os.Started) (H : Type) (enc : TypeId × Value → H) :
    ReturnsInHanded {} Try.checked os 14 .any (Rows.fnExactReproduceAtSpec.pre6 enc Try.prog Try.f14 Rows.fnExactReproduceAtRow.domain false) (Rows.fnExactReproduceAtSpec.post enc Try.prog Try.f14 false true false false) := by
  refine returnsInHanded_of_change_sized (C := Try.checked) own started (by kernel_rfl) Try.func14
    (ChangeSpec.witness6 (enc := enc) (C := Try.checked) false ⟨#[], #[.agg #[.int .i64 0, .slice none 0 0], .int .i64 0, .slice none 0 0, .int .i64 0], []⟩ 8 (by kernel_rfl) (by kernel_rfl) (by kernel_rfl) (by kernel_rfl)) ?_
  intro W base args ds gs before hval0 hW hcnd hsz0 _
  have hsz : (DataW.weightsEach Try.prog (Try.f14.params.toList ++ Rows.fnExactReproduceAtSpec.plain.varTypes Try.prog) (ds ++ gs)).all (· ≤ reachBytes) = true := hsz0
  have hval : ∀ (j : Nat) t v, Try.f14.params[j]? = some t → args[j]? = some v → Value.okWide Try.prog W .any base t v := hval0
  have hW' := hW
  obtain ⟨p, q, hA0, hV, rfl, hfz, hnd⟩ := hW
  have hA : DataW.TrodAll enc Try.prog W 0 (fun _ => true) true Try.f14.params.toList args.toList ds p := hA0
  rw [Try.params14] at hA hval hsz
  obtain ⟨v0, vs0, d0, ds0, p0, q0, hargs, rfl, rfl, h0, r0⟩ := trodAll_cons hA
  obtain ⟨v1, vs1, d1, ds1, p1, q1, rfl, rfl, rfl, h1, r1⟩ := trodAll_cons r0
  obtain ⟨v2, vs2, d2, ds2, p2, q2, rfl, rfl, rfl, h2, r2⟩ := trodAll_cons r1
  obtain ⟨v3, vs3, d3, ds3, p3, q3, rfl, rfl, rfl, h3, r3⟩ := trodAll_cons r2
  obtain ⟨rfl, rfl, rfl⟩ := trodAll_nil r3
  obtain rfl : args = #[v0, v1, v2, v3] := by cases args; simp_all
  obtain ⟨rfl, rfl⟩ := trodVars_none hV
  have k0 := h0
  have lt0 : ∀ x ∈ p0, x.block < W.heap.size := by obtain ⟨m, hm⟩ := k0; exact DataW.trod_lt m _ _ _ hm
  obtain ⟨c0_0, c0_1, y0_0, y0_1, n0, rfl, rfl, rfl, e0_0, e0_1⟩ := Go.Joins.open_agg2 Try.underlying34 (by kernel_rfl) (by kernel_rfl) (hval 0 34 v0 rfl rfl) h0
  obtain ⟨a0_0, f0_0, _, w0_0⟩ := DataW.trod_int Try.underlying2 e0_0
  simp only [List.cons.injEq, and_true] at f0_0
  subst f0_0
  obtain ⟨a0_1, len0_1, cap0_1, z0_1, f0_1, w0_1⟩ : ∃ a len cap zs, c0_1 = .slice a len cap ∧ IsRow .i64 W a len cap zs := by
    rcases open_ints Try.underlying22 Try.underlying2 (by kernel_rfl) e0_1 with ⟨hcs, _⟩ | ⟨x, l, c, zs, hcs, _, hl, hm, hz, _, hcell, hwz⟩
    · simp only [List.cons.injEq, and_true] at hcs
      exact ⟨none, 0, 0, [], hcs, .inl ⟨rfl, rfl, rfl, rfl⟩⟩
    · simp only [List.cons.injEq, and_true] at hcs
      exact ⟨some x, l, c, zs, hcs, .inr ⟨_, rfl, hl, hm, by simpa using hz, hcell, hwz⟩⟩
  subst f0_1
  obtain ⟨a1, rfl, rfl, rfl, w1⟩ := open_int Try.underlying2 (hval 1 2 v1 rfl rfl) h1
  obtain ⟨a2, len2, cap2, rfl⟩ := okWide_slice Try.underlying22 (hval 2 22 v2 rfl rfl)
  have k2 := h2
  have lt2 : ∀ x ∈ p2, x.block < W.heap.size := by obtain ⟨m, hm⟩ := k2; exact DataW.trod_lt m _ _ _ hm
  obtain ⟨z2, w2⟩ : ∃ zs, IsRow .i64 W a2 len2 cap2 zs := by
    obtain ⟨fuel, hf⟩ := h2
    rcases open_ints Try.underlying22 Try.underlying2 (by kernel_rfl) hf with ⟨hcs, _⟩ | ⟨x, l, c, zs, hcs, _, hl, hm, hz, _, hcell, hwz⟩
    · simp [Value.cells] at hcs
      obtain ⟨rfl, rfl, rfl⟩ := hcs
      exact ⟨[], .inl ⟨rfl, rfl, rfl, rfl⟩⟩
    · simp [Value.cells] at hcs
      obtain ⟨rfl, rfl, rfl⟩ := hcs
      exact ⟨zs, .inr ⟨_, rfl, hl, hm, by simpa using hz, hcell, hwz⟩⟩
  have y2 : len2 * 8 ≤ 140737488351232 := Go.Proofs.YtfbnkebgdmfcfaaW.PrintWords.sized_ints hsz (j := 2) (t := 22) rfl rfl Try.underlying22 Try.underlying2 (by kernel_rfl) (by kernel_rfl) h2
  obtain ⟨a3, rfl, rfl, rfl, w3⟩ := open_int Try.underlying2 (hval 3 2 v3 rfl rfl) h3
  clear hA0 hval0 hsz0 hsz
  refine (Pr.laws_FnExactReproduceAt.walk Pure.FnExactReproduceAt a0_0 a0_1 len0_1 cap0_1 z0_1 a1 a2 len2 cap2 z2 a3 W w0_0 w0_1 w1 w2 y2 w3).mono fun e W' ⟨he, bel⟩ => ?_
  subst he
  exact ⟨_, rfl, _, _, _, [], _, [], hW', trodAll_mk1 (shut_bool Try.underlying4 _), (trodAll_cons_mk (Below.trod laidOut (by kernel_rfl) (of_decide_eq_true (by kernel_rfl)) k0 bel lt0) (trodAll_cons_mk (shut_int Try.underlying2 w1) (trodAll_cons_mk (Below.trod laidOut (by kernel_rfl) (of_decide_eq_true (by kernel_rfl)) k2 bel lt2) (trodAll_cons_mk (shut_int Try.underlying2 w3) trodAll_mk0)))), rfl, bel.frame _, fun h => by cases h⟩
theorem over : Rows.fnExactReproduceAtRow.holds Try.pinned (OpenSpec.ofChange Rows.fnExactReproduceAtSpec) :=
  OpenClaim.holds_of_wide 14 Try.f14 rfl rfl rfl rfl rfl rfl rfl ⟨rfl, rfl, rfl, rfl, rfl⟩ rfl rfl rfl rfl rfl (by kernel_rfl) Try.func14 (by kernel_rfl)
    (of_decide_eq_true (by kernel_rfl)) (by unfold Func.isWrapper; first | (rw [if_pos (by decide +kernel)]; kernel_rfl) | (rw [if_neg (by decide +kernel)]; exact ⟨rfl, rfl⟩))
    (fun os started H enc _ => lifted os started H enc)
theorem proved : Rows.FnExactReproduceAtSaid := over
#print axioms proved
end Go.Proofs.Ytfbnkebgdmfcfaa.fnExactReproduceAt
namespace Go.Proofs.Ytfbnkebgdmfcfaa
/-- The row, under a short name, for the claim. -/
theorem fnExactReproduceAt_holds : Rows.FnExactReproduceAtSaid := fnExactReproduceAt.proved
end Go.Proofs.Ytfbnkebgdmfcfaa
