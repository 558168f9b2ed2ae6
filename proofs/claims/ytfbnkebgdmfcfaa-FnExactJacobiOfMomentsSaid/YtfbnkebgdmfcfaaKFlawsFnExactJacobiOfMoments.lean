/- Printed by a program of this session out of the translation: what these functions of the program compute, under the conditions that each theorem names. -/
import Derived.Test.YtfbnkebgdmfcfaaKC01
import Derived.Test.YtfbnkebgdmfcfaaKC03
import Derived.Test.YtfbnkebgdmfcfaaKC02
import Derived.Test.YtfbnkebgdmfcfaaKJacobiOfMoments1
import Derived.Test.YtfbnkebgdmfcfaaKFspecJacobiOfMoments
namespace Go.Proofs.Ytfbnkebgdmfcfaa.Pr
open Go.RowKit Go.Proofs.YtfbnkebgdmfcfaaW.PrintWords Go.Proofs.YtfbnkebgdmfcfaaW.PrintLast Go.Proofs.YtfbnkebgdmfcfaaW.PrintMore
attribute [local go_sem] max2_int min2_int max_two min_two max_three min_three max_four min_four   -- for this text's walks alone
set_option linter.unusedVariables false
set_option linter.unusedSimpArgs false

/-! ### laws_FnExactJacobiOfMoments: function 12 -/
mutual
def laws_FnExactJacobiOfMoments.j0 : Nat → Int → Int → Int → Bool → Int → List Int → Int → List Int → List Int → Int → List Int → Int → List Int → List Int → Option (Bool)
 | 0, _, _, _, _, _, _, _, _, _, _, _, _, _, _ => none
 | k + 1, x1, x7, x10, x44, x943000, x943001, x957000, x957001, x957002, x962000, x962001, x971000, x971001, x971002 => if x44 = true then (some false) else ((laws_toMoments.f k x943000 x943001).bind fun bt972 => ((laws_eqMoments.f k x962000 x962001 bt972.1 bt972.2).bind fun t976 => (if t976 = true then ((laws_markMoments.f k x962000 x962001 1).bind fun bt977 => (if bt977.1 < 0 then (laws_FnExactJacobiOfMoments.j1 k x1 x7 true x943000 x943001 x957000 x957001 x957002 x971000 x971001 x971002) else ((laws_eqJacobi.f k x971000 x971001 x971002 x957000 x957001 x957002).bind fun t979 => (if t979 = true then (laws_FnExactJacobiOfMoments.j1 k x1 x7 (x10 != x7) x943000 x943001 x957000 x957001 x957002 x971000 x971001 x971002) else (laws_FnExactJacobiOfMoments.j1 k x1 x7 true x943000 x943001 x957000 x957001 x957002 x971000 x971001 x971002))))) else (some false))))
def laws_FnExactJacobiOfMoments.j1 : Nat → Int → Int → Bool → Int → List Int → Int → List Int → List Int → Int → List Int → List Int → Option (Bool)
 | 0, _, _, _, _, _, _, _, _, _, _, _ => none
 | k + 1, x1, x7, x65, x943000, x943001, x957000, x957001, x957002, x971000, x971001, x971002 => if x65 = true then (some false) else ((laws_markJacobi.f k x971000 x971001 x971002 1).bind fun bt980 => ((laws_heldJacobi.f k x971000 bt980.2.1 bt980.2.2 1).bind fun t983 => (if t983 < 0 then (some false) else (if t983 = bt980.1 then ((laws_toMoments.f k x943000 x943001).bind fun bt984 => ((impl_JacobiOfMoments.f k bt984.1 bt984.2 x1).bind fun bt988 => ((laws_eqJacobi.f k bt988.1 bt988.2.1 bt988.2.2.1 x957000 x957001 x957002).bind fun t997 => (if t997 = true then (laws_FnExactJacobiOfMoments.j2 k bt980.1 (bt988.2.2.2 != x7) x971000 bt980.2.1 bt980.2.2) else (laws_FnExactJacobiOfMoments.j2 k bt980.1 true x971000 bt980.2.1 bt980.2.2))))) else (some false)))))
def laws_FnExactJacobiOfMoments.j2 : Nat → Int → Bool → Int → List Int → List Int → Option (Bool)
 | 0, _, _, _, _, _ => none
 | k + 1, x12, x92, x971000, x971001, x971002 => if x92 = true then (some false) else ((laws_heldJacobi.f k x971000 x971001 x971002 1).bind fun t998 => (if t998 < 0 then (some false) else (if t998 = x12 then (some true) else (some false))))
end
def laws_FnExactJacobiOfMoments.f (k : Nat) (a0_0 : Int) (l0_1 : List Int) (a1 : Int) : Option (Bool) := (laws_szMoments.f a0_0 l0_1 1048576).bind fun t943 => (if t943 < 0 then (some true) else ((laws_toMoments.f k a0_0 l0_1).bind fun bt944 => ((spec_JacobiOfMoments.f k bt944.1 bt944.2 a1).bind fun bt948 => ((laws_toMoments.f k a0_0 l0_1).bind fun bt957 => ((impl_JacobiOfMoments.f k bt957.1 bt957.2 a1).bind fun bt962 => ((laws_eqJacobi.f k bt962.1 bt962.2.1 bt962.2.2.1 bt948.1 bt948.2.1 bt948.2.2.1).bind fun t971 => (if t971 = true then (laws_FnExactJacobiOfMoments.j0 k a1 bt948.2.2.2 bt962.2.2.2 (bt962.2.2.2 != bt948.2.2.2) a0_0 l0_1 bt948.1 bt948.2.1 bt948.2.2.1 bt957.1 bt957.2 bt962.1 bt962.2.1 bt962.2.2.1) else (laws_FnExactJacobiOfMoments.j0 k a1 bt948.2.2.2 bt962.2.2.2 true a0_0 l0_1 bt948.1 bt948.2.1 bt948.2.2.1 bt957.1 bt957.2 bt962.1 bt962.2.1 bt962.2.2.1))))))))
set_option maxHeartbeats 8000000 in
set_option maxRecDepth 100000 in
theorem laws_FnExactJacobiOfMoments.calls (k : Nat) (a0_0 : Int) (A0_1 : Option Addr) (c0_1 : Nat) (l0_1 : List Int) (a1 : Int) (r : Bool) (hr_ : r = true) (w : World) (hr0_1 : Kd.C (Kd.int .i64) w A0_1 l0_1.length l0_1) (hc0_1 : l0_1.length ≤ c0_1) (h : laws_FnExactJacobiOfMoments.f k a0_0 l0_1 a1 = some r) :
  Calls Try.prog 12 #[.agg #[.int .i64 a0_0, .slice A0_1 l0_1.length c0_1], .int .i64 a1] w fun e w' => e = .returned (.bool r) ∧ Below w.heap.size w w' := by
 have hu34 := Try.underlying34
 have hu26 := Try.underlying26
 have hu40 := Try.underlying40
 have HRT := zA hr_
 clear hr_
 have HR0_1 := zA hr0_1
 have HC0_1 := zA hc0_1
 clear hr0_1 hc0_1
 have HB := zA (Below.refl w.heap.size w)
 have H : ((laws_szMoments.f a0_0 l0_1 1048576).bind fun t943 => (if t943 < 0 then (some true) else ((laws_toMoments.f k a0_0 l0_1).bind fun bt944 => ((spec_JacobiOfMoments.f k bt944.1 bt944.2 a1).bind fun bt948 => ((laws_toMoments.f k a0_0 l0_1).bind fun bt957 => ((impl_JacobiOfMoments.f k bt957.1 bt957.2 a1).bind fun bt962 => ((laws_eqJacobi.f k bt962.1 bt962.2.1 bt962.2.2.1 bt948.1 bt948.2.1 bt948.2.2.1).bind fun t971 => (if t971 = true then (laws_FnExactJacobiOfMoments.j0 k a1 bt948.2.2.2 bt962.2.2.2 (bt962.2.2.2 != bt948.2.2.2) a0_0 l0_1 bt948.1 bt948.2.1 bt948.2.2.1 bt957.1 bt957.2 bt962.1 bt962.2.1 bt962.2.2.1) else (laws_FnExactJacobiOfMoments.j0 k a1 bt948.2.2.2 bt962.2.2.2 true a0_0 l0_1 bt948.1 bt948.2.1 bt948.2.2.1 bt957.1 bt957.2 bt962.1 bt962.2.1 bt962.2.2.1))))))))) = some r := h
 clear h
 replace H := Option.bind_eq_some_iff.mp H
 obtain ⟨t943, A30, H⟩ := H
 replace H : (if t943 < 0 then (some true) else ((laws_toMoments.f k a0_0 l0_1).bind fun bt944 => ((spec_JacobiOfMoments.f k bt944.1 bt944.2 a1).bind fun bt948 => ((laws_toMoments.f k a0_0 l0_1).bind fun bt957 => ((impl_JacobiOfMoments.f k bt957.1 bt957.2 a1).bind fun bt962 => ((laws_eqJacobi.f k bt962.1 bt962.2.1 bt962.2.2.1 bt948.1 bt948.2.1 bt948.2.2.1).bind fun t971 => (if t971 = true then (laws_FnExactJacobiOfMoments.j0 k a1 bt948.2.2.2 bt962.2.2.2 (bt962.2.2.2 != bt948.2.2.2) a0_0 l0_1 bt948.1 bt948.2.1 bt948.2.2.1 bt957.1 bt957.2 bt962.1 bt962.2.1 bt962.2.2.1) else (laws_FnExactJacobiOfMoments.j0 k a1 bt948.2.2.2 bt962.2.2.2 true a0_0 l0_1 bt948.1 bt948.2.1 bt948.2.2.1 bt957.1 bt957.2 bt962.1 bt962.2.1 bt962.2.2.1)))))))) = some r := H
 have A3 := zA A30
 clear A30
 by_cases c4 : t943 < 0
 rotate_left
 ·rw [if_neg c4] at H
  have c4b0 : decide (t943 < 0) = false := decide_eq_false c4
  clear c4
  replace H := Option.bind_eq_some_iff.mp H
  obtain ⟨⟨t944, t945⟩, A80, H⟩ := H
  replace H : ((spec_JacobiOfMoments.f k t944 t945 a1).bind fun bt948 => ((laws_toMoments.f k a0_0 l0_1).bind fun bt957 => ((impl_JacobiOfMoments.f k bt957.1 bt957.2 a1).bind fun bt962 => ((laws_eqJacobi.f k bt962.1 bt962.2.1 bt962.2.2.1 bt948.1 bt948.2.1 bt948.2.2.1).bind fun t971 => (if t971 = true then (laws_FnExactJacobiOfMoments.j0 k a1 bt948.2.2.2 bt962.2.2.2 (bt962.2.2.2 != bt948.2.2.2) a0_0 l0_1 bt948.1 bt948.2.1 bt948.2.2.1 bt957.1 bt957.2 bt962.1 bt962.2.1 bt962.2.2.1) else (laws_FnExactJacobiOfMoments.j0 k a1 bt948.2.2.2 bt962.2.2.2 true a0_0 l0_1 bt948.1 bt948.2.1 bt948.2.2.1 bt957.1 bt957.2 bt962.1 bt962.2.1 bt962.2.2.1)))))) = some r := H
  have A8 := zA A80
  clear A80
  replace H := Option.bind_eq_some_iff.mp H
  obtain ⟨⟨t948, t949, t952, t955⟩, A90, H⟩ := H
  replace H : ((laws_toMoments.f k a0_0 l0_1).bind fun bt957 => ((impl_JacobiOfMoments.f k bt957.1 bt957.2 a1).bind fun bt962 => ((laws_eqJacobi.f k bt962.1 bt962.2.1 bt962.2.2.1 t948 t949 t952).bind fun t971 => (if t971 = true then (laws_FnExactJacobiOfMoments.j0 k a1 t955 bt962.2.2.2 (bt962.2.2.2 != t955) a0_0 l0_1 t948 t949 t952 bt957.1 bt957.2 bt962.1 bt962.2.1 bt962.2.2.1) else (laws_FnExactJacobiOfMoments.j0 k a1 t955 bt962.2.2.2 true a0_0 l0_1 t948 t949 t952 bt957.1 bt957.2 bt962.1 bt962.2.1 bt962.2.2.1))))) = some r := H
  have A9 := zA A90
  clear A90
  replace H := Option.bind_eq_some_iff.mp H
  obtain ⟨⟨t957, t958⟩, A100, H⟩ := H
  replace H : ((impl_JacobiOfMoments.f k t957 t958 a1).bind fun bt962 => ((laws_eqJacobi.f k bt962.1 bt962.2.1 bt962.2.2.1 t948 t949 t952).bind fun t971 => (if t971 = true then (laws_FnExactJacobiOfMoments.j0 k a1 t955 bt962.2.2.2 (bt962.2.2.2 != t955) a0_0 l0_1 t948 t949 t952 t957 t958 bt962.1 bt962.2.1 bt962.2.2.1) else (laws_FnExactJacobiOfMoments.j0 k a1 t955 bt962.2.2.2 true a0_0 l0_1 t948 t949 t952 t957 t958 bt962.1 bt962.2.1 bt962.2.2.1)))) = some r := H
  have A10 := zA A100
  clear A100
  replace H := Option.bind_eq_some_iff.mp H
  obtain ⟨⟨t962, t963, t966, t969⟩, A110, H⟩ := H
  replace H : ((laws_eqJacobi.f k t962 t963 t966 t948 t949 t952).bind fun t971 => (if t971 = true then (laws_FnExactJacobiOfMoments.j0 k a1 t955 t969 (t969 != t955) a0_0 l0_1 t948 t949 t952 t957 t958 t962 t963 t966) else (laws_FnExactJacobiOfMoments.j0 k a1 t955 t969 true a0_0 l0_1 t948 t949 t952 t957 t958 t962 t963 t966))) = some r := H
  have A11 := zA A110
  clear A110
  have HC12 := zA H
  clear H
  go_enter Try.func12, Try.ntmps12
  go_upto_region 8 with (first | ((with_reducible refine gate_dst (N := 2) rfl ?_); refine bx 2 #[.int .i64 a0_0, .slice A0_1 l0_1.length c0_1] 34 ?_; intro gb942 hg w13 hbox hb; have BK942 := zA (hbox); have GW942 := gq HB hg; have GE942 := gq HB hg; replace HB := xH HB hb; have := geI GE942; clear hb hbox hg; have hcz14_0 := bc BK942 0; have hcz14_1 := bc BK942 1; have hfz14_0 := bf BK942 0; have hfz14_1 := bf BK942 1) | ((with_reducible refine gate_callee (f := 22) rfl ?_); refine gL (some 18) Try.func22 #[.agg #[.int .i64 a0_0, .slice A0_1 l0_1.length c0_1], .int .i64 1048576] ?_; (with_reducible refine (laws_szMoments.calls a0_0 _ _ l0_1 1048576 t943 _ ?side1 ?side2 A3.out).mono ?_); (case side1 => exact uC ((Kd.C_below HR0_1.out HB.out))); (case side2 => exact HC0_1.out); rintro e w15 ⟨rfl, hb⟩; refine ⟨_, rfl, ?_⟩; replace BK942 := xB BK942 hb; replace HB := xH HB hb; (try clear hb); (try clear hb2); (try clear hk); (try clear hi); have hcz16_0 := bc BK942 0; have hcz16_1 := bc BK942 1; have hfz16_0 := bf BK942 0; have hfz16_1 := bf BK942 1) | ((with_reducible refine gate_callee (f := 24) rfl ?_); refine gL (some 23) Try.func24 #[.agg #[.int .i64 a0_0, .slice A0_1 l0_1.length c0_1]] ?_; (with_reducible refine (laws_toMoments.calls k a0_0 _ _ l0_1 t944 t945 _ ?side1 ?side2 A8.out).mono ?_); (case side1 => exact uC ((Kd.C_below HR0_1.out HB.out))); (case side2 => exact HC0_1.out); rintro e w17 ⟨v946, rfl, ho0, hb⟩; refine ⟨_, rfl, ?_⟩; have HO947 := zA (Kd.R_lower ho0 (below_size (uH HB.out))); replace BK942 := xB BK942 hb; replace HB := xH HB hb; (try clear hb); (try clear hb2); (try clear hk); (try clear hi); (try clear ho0); obtain ⟨Ao18, co18, eo18⟩ := Kd.R_slice HO947.out; subst eo18) | ((with_reducible refine gate_callee (f := 49) rfl ?_); refine gL (some 25) Try.func49 #[.agg #[.int .i64 t944, .slice Ao18 t945.length co18], .int .i64 a1] ?_; (with_reducible refine (spec_JacobiOfMoments.calls k t944 _ _ t945 a1 t948 t949 t952 t955 _ ?side1 ?side2 A9.out).mono ?_); (case side1 => exact uC ((Kd.R_reads' HO947.out).2.2)); (case side2 => exact (Kd.R_reads' HO947.out).2.1); rintro e w19 ⟨v950, v953, rfl, ho0, ho1, hb⟩; refine ⟨_, rfl, ?_⟩; have HO951 := zA (Kd.R_lower (Kd.R_new' ho0 (Kd.R_lt (uR HO947.out))) (below_size (uH HB.out))); have HO954 := zA (Kd.R_lower (Kd.R_new' ho1 (Kd.R_lt (uR HO947.out))) (below_size (uH HB.out))); replace HO947 := zA (Kd.R_mono (Kd.R_told (Kd.R_told (Kd.R_old (uR HO947.out) hb) (Kd.R_base ho0)) (Kd.R_base ho1)) (fun _ h_ => h_.1)); replace BK942 := xB BK942 hb; replace HB := xH HB hb; (try clear hb); (try clear hb2); (try clear hk); (try clear hi); (try clear ho0); (try clear ho1)) | ((with_reducible refine gate_dst (N := 6) rfl ?_); refine bx 6 #[.int .i64 0, .slice none 0 0, .slice none 0 0] 26 ?_; intro gb956 hg w20 hbox hb; replace HO947 := xR HO947 hb; replace HO951 := xR HO951 hb; replace HO954 := xR HO954 hb; have BK956 := zA (hbox); have GW956 := gq HB hg; have GE956 := gq HB hg; replace HB := xH HB hb; have NB942_956 := zA ((by rw [hg]; exact neL BK942 : gb942 ≠ gb956)); have NB956_942 := zA ((by rw [hg]; exact neG BK942 : gb956 ≠ gb942)); replace BK942 := xB BK942 hb; have := geI GE956; clear hb hbox hg; have hnb21 := NB956_942.out; have hnc21 := NB942_956.out; have hcz22_0 := bc BK956 0; have hcz22_1 := bc BK956 1; have hcz22_2 := bc BK956 2; have hfz22_0 := bf BK956 0; have hfz22_1 := bf BK956 1; have hfz22_2 := bf BK956 2; obtain ⟨Ao23, co23, eo23⟩ := Kd.R_slice HO951.out; subst eo23; obtain ⟨Ao24, co24, eo24⟩ := Kd.R_slice HO954.out; subst eo24; have hcz25_0 := bc BK942 0; have hcz25_1 := bc BK942 1; have hfz25_0 := bf BK942 0; have hfz25_1 := bf BK942 1) | ((with_reducible refine gate_callee (f := 24) rfl ?_); refine gL (some 29) Try.func24 #[.agg #[.int .i64 a0_0, .slice A0_1 l0_1.length c0_1]] ?_; (with_reducible refine (laws_toMoments.calls k a0_0 _ _ l0_1 t957 t958 _ ?side1 ?side2 A10.out).mono ?_); (case side1 => exact Kd.C_below HR0_1.out (uH HB.out)); (case side2 => exact HC0_1.out); rintro e w26 ⟨v959, rfl, ho0, hb⟩; refine ⟨_, rfl, ?_⟩; have HO960 := zA (Kd.R_lower (Kd.R_new' (Kd.R_new' (Kd.R_new' ho0 (Kd.R_lt (uR ((rf3 HO947 BK956 (by decide) (.int .i64 t948) (.slice Ao23 t949.length co23) (.slice Ao24 t952.length co24)))))) (Kd.R_lt (uR ((rf3 HO951 BK956 (by decide) (.int .i64 t948) (.slice Ao23 t949.length co23) (.slice Ao24 t952.length co24)))))) (Kd.R_lt (uR ((rf3 HO954 BK956 (by decide) (.int .i64 t948) (.slice Ao23 t949.length co23) (.slice Ao24 t952.length co24)))))) (below_size (uH HB.out))); replace HO947 := zA (Kd.R_elder' (uR ((rf3 HO947 BK956 (by decide) (.int .i64 t948) (.slice Ao23 t949.length co23) (.slice Ao24 t952.length co24)))) (Kd.R_base ho0) hb); replace HO951 := zA (Kd.R_elder' (uR ((rf3 HO951 BK956 (by decide) (.int .i64 t948) (.slice Ao23 t949.length co23) (.slice Ao24 t952.length co24)))) (Kd.R_base ho0) hb); replace HO954 := zA (Kd.R_elder' (uR ((rf3 HO954 BK956 (by decide) (.int .i64 t948) (.slice Ao23 t949.length co23) (.slice Ao24 t952.length co24)))) (Kd.R_base ho0) hb); replace BK942 := zA (blk_below (g := gb942) (o := .cells #[.int .i64 a0_0, .slice A0_1 l0_1.length c0_1] 34 (0, 0)) (by (repeat refine up1 ?_); refine blk_far ?_ NB942_956.out _; (repeat refine up1 ?_); refine blk_far ?_ NB942_956.out _; (repeat refine up1 ?_); refine blk_far ?_ NB942_956.out _; (repeat refine up1 ?_); exact BK942.out) hb); replace BK956 := zA (blk_below (g := gb956) (o := .cells #[.int .i64 t948, .slice Ao23 t949.length co23, .slice Ao24 t952.length co24] 26 (0, 0)) (by (repeat refine up1 ?_); refine blk_put (cs := #[.int .i64 t948, .slice Ao23 t949.length co23, .slice none 0 0]) ?_ 2 _ rfl; (repeat refine up1 ?_); refine blk_put (cs := #[.int .i64 t948, .slice none 0 0, .slice none 0 0]) ?_ 1 _ rfl; (repeat refine up1 ?_); refine blk_put (cs := #[.int .i64 0, .slice none 0 0, .slice none 0 0]) ?_ 0 _ rfl; (repeat refine up1 ?_); exact BK956.out) hb); replace HB := xH HB hb; (try clear hb); (try clear hb2); (try clear hk); (try clear hi); (try clear ho0)) | ((with_reducible refine gate_dst (N := 8) rfl ?_); refine bx 8 #[.int .i64 0, .slice none 0 0] 40 ?_; intro gb961 hg w27 hbox hb; replace HO947 := xR HO947 hb; replace HO951 := xR HO951 hb; replace HO954 := xR HO954 hb; replace HO960 := xR HO960 hb; have BK961 := zA (hbox); have GW961 := gq HB hg; have GE961 := gq HB hg; replace HB := xH HB hb; have NB942_961 := zA ((by rw [hg]; exact neL BK942 : gb942 ≠ gb961)); have NB961_942 := zA ((by rw [hg]; exact neG BK942 : gb961 ≠ gb942)); replace BK942 := xB BK942 hb; have NB956_961 := zA ((by rw [hg]; exact neL BK956 : gb956 ≠ gb961)); have NB961_956 := zA ((by rw [hg]; exact neG BK956 : gb961 ≠ gb956)); replace BK956 := xB BK956 hb; have := geI GE961; clear hb hbox hg; have hnb28 := NB961_942.out; have hnc28 := NB942_961.out; have hnb29 := NB961_956.out; have hnc29 := NB956_961.out; have hcz30_0 := bc BK961 0; have hcz30_1 := bc BK961 1; have hfz30_0 := bf BK961 0; have hfz30_1 := bf BK961 1; obtain ⟨Ao31, co31, eo31⟩ := Kd.R_slice HO960.out; subst eo31) | ((with_reducible refine gate_callee (f := 50) rfl ?_); refine gL (some 33) Try.func50 #[.agg #[.int .i64 t957, .slice Ao31 t958.length co31], .int .i64 a1] ?_; (with_reducible refine (impl_JacobiOfMoments.calls k t957 _ _ t958 a1 t962 t963 t966 t969 _ ?side1 ?side2 A11.out).mono ?_); (case side1 => refine (Kd.R_reads' (e := 2) (base := w.heap.size) (ok := fun k_ => (((True ∧ ax k_ (.slice Ao18 t945.length co18)) ∧ ax k_ (.slice Ao23 t949.length co23)) ∧ ax k_ (.slice Ao24 t952.length co24))) (n := t958.length) (c := co31) ?_).2.2; exact (uR ((rf2 HO960 BK961 (by decide) (.int .i64 t957) (.slice Ao31 t958.length co31))))); (case side2 => exact (Kd.R_reads' HO960.out).2.1); rintro e w32 ⟨v964, v967, rfl, ho0, ho1, hb⟩; refine ⟨_, rfl, ?_⟩; have HO965 := zA (Kd.R_lower (Kd.R_new' (Kd.R_new' (Kd.R_new' (Kd.R_new' ho0 (Kd.R_lt (uR ((rf2 HO947 BK961 (by decide) (.int .i64 t957) (.slice Ao31 t958.length co31)))))) (Kd.R_lt (uR ((rf2 HO951 BK961 (by decide) (.int .i64 t957) (.slice Ao31 t958.length co31)))))) (Kd.R_lt (uR ((rf2 HO954 BK961 (by decide) (.int .i64 t957) (.slice Ao31 t958.length co31)))))) (Kd.R_lt (uR ((rf2 HO960 BK961 (by decide) (.int .i64 t957) (.slice Ao31 t958.length co31)))))) (below_size (uH HB.out))); have HO968 := zA (Kd.R_lower (Kd.R_new' (Kd.R_new' (Kd.R_new' (Kd.R_new' ho1 (Kd.R_lt (uR ((rf2 HO947 BK961 (by decide) (.int .i64 t957) (.slice Ao31 t958.length co31)))))) (Kd.R_lt (uR ((rf2 HO951 BK961 (by decide) (.int .i64 t957) (.slice Ao31 t958.length co31)))))) (Kd.R_lt (uR ((rf2 HO954 BK961 (by decide) (.int .i64 t957) (.slice Ao31 t958.length co31)))))) (Kd.R_lt (uR ((rf2 HO960 BK961 (by decide) (.int .i64 t957) (.slice Ao31 t958.length co31)))))) (below_size (uH HB.out))); replace HO947 := zA (Kd.R_mono (Kd.R_told (Kd.R_told (Kd.R_old (uR ((rf2 HO947 BK961 (by decide) (.int .i64 t957) (.slice Ao31 t958.length co31)))) hb) (Kd.R_base ho0)) (Kd.R_base ho1)) (fun _ h_ => h_.1)); replace HO951 := zA (Kd.R_mono (Kd.R_told (Kd.R_told (Kd.R_old (uR ((rf2 HO951 BK961 (by decide) (.int .i64 t957) (.slice Ao31 t958.length co31)))) hb) (Kd.R_base ho0)) (Kd.R_base ho1)) (fun _ h_ => h_.1)); replace HO954 := zA (Kd.R_mono (Kd.R_told (Kd.R_told (Kd.R_old (uR ((rf2 HO954 BK961 (by decide) (.int .i64 t957) (.slice Ao31 t958.length co31)))) hb) (Kd.R_base ho0)) (Kd.R_base ho1)) (fun _ h_ => h_.1)); replace HO960 := zA (Kd.R_mono (Kd.R_told (Kd.R_told (Kd.R_old (uR ((rf2 HO960 BK961 (by decide) (.int .i64 t957) (.slice Ao31 t958.length co31)))) hb) (Kd.R_base ho0)) (Kd.R_base ho1)) (fun _ h_ => h_.1)); replace BK942 := zA (blk_below (g := gb942) (o := .cells #[.int .i64 a0_0, .slice A0_1 l0_1.length c0_1] 34 (0, 0)) (by (repeat refine up1 ?_); refine blk_far ?_ NB942_961.out _; (repeat refine up1 ?_); refine blk_far ?_ NB942_961.out _; (repeat refine up1 ?_); exact BK942.out) hb); replace BK956 := zA (blk_below (g := gb956) (o := .cells #[.int .i64 t948, .slice Ao23 t949.length co23, .slice Ao24 t952.length co24] 26 (0, 0)) (by (repeat refine up1 ?_); refine blk_far ?_ NB956_961.out _; (repeat refine up1 ?_); refine blk_far ?_ NB956_961.out _; (repeat refine up1 ?_); exact BK956.out) hb); replace BK961 := zA (blk_below (g := gb961) (o := .cells #[.int .i64 t957, .slice Ao31 t958.length co31] 40 (0, 0)) (by (repeat refine up1 ?_); refine blk_put (cs := #[.int .i64 t957, .slice none 0 0]) ?_ 1 _ rfl; (repeat refine up1 ?_); refine blk_put (cs := #[.int .i64 0, .slice none 0 0]) ?_ 0 _ rfl; (repeat refine up1 ?_); exact BK961.out) hb); replace HB := xH HB hb; (try clear hb); (try clear hb2); (try clear hk); (try clear hi); (try clear ho0); (try clear ho1)) | ((with_reducible refine gate_dst (N := 9) rfl ?_); refine bx 9 #[.int .i64 0, .slice none 0 0, .slice none 0 0] 26 ?_; intro gb970 hg w33 hbox hb; replace HO947 := xR HO947 hb; replace HO951 := xR HO951 hb; replace HO954 := xR HO954 hb; replace HO960 := xR HO960 hb; replace HO965 := xR HO965 hb; replace HO968 := xR HO968 hb; have BK970 := zA (hbox); have GW970 := gq HB hg; have GE970 := gq HB hg; replace HB := xH HB hb; have NB942_970 := zA ((by rw [hg]; exact neL BK942 : gb942 ≠ gb970)); have NB970_942 := zA ((by rw [hg]; exact neG BK942 : gb970 ≠ gb942)); replace BK942 := xB BK942 hb; have NB956_970 := zA ((by rw [hg]; exact neL BK956 : gb956 ≠ gb970)); have NB970_956 := zA ((by rw [hg]; exact neG BK956 : gb970 ≠ gb956)); replace BK956 := xB BK956 hb; have NB961_970 := zA ((by rw [hg]; exact neL BK961 : gb961 ≠ gb970)); have NB970_961 := zA ((by rw [hg]; exact neG BK961 : gb970 ≠ gb961)); replace BK961 := xB BK961 hb; have := geI GE970; clear hb hbox hg; have hnb34 := NB970_942.out; have hnc34 := NB942_970.out; have hnb35 := NB970_956.out; have hnc35 := NB956_970.out; have hnb36 := NB970_961.out; have hnc36 := NB961_970.out; have hcz37_0 := bc BK970 0; have hcz37_1 := bc BK970 1; have hcz37_2 := bc BK970 2; have hfz37_0 := bf BK970 0; have hfz37_1 := bf BK970 1; have hfz37_2 := bf BK970 2; obtain ⟨Ao38, co38, eo38⟩ := Kd.R_slice HO965.out; subst eo38; obtain ⟨Ao39, co39, eo39⟩ := Kd.R_slice HO968.out; subst eo39))
  (try simp only [Act.put, ls, lz, ln])
  go_cut [44] (fun v44 wc => ∃ (kq : Nat) (x44_11 : Bool), v44 = .bool x44_11 ∧ Aside0 (laws_FnExactJacobiOfMoments.j0 kq a1 t955 t969 x44_11 a0_0 l0_1 t948 t949 t952 t957 t958 t962 t963 t966 = some r) ∧ Aside0 (kq ≤ k) ∧ Aside0 (Kd.R (Kd.int .i64) 2 wc w.heap.size (fun k_ => ax k_ (.slice Ao24 t952.length co24) ∧ ax k_ (.slice Ao31 t958.length co31) ∧ ax k_ (.slice Ao38 t963.length co38) ∧ ax k_ (.slice Ao39 t966.length co39)) (.slice Ao23 t949.length co23) t949) ∧ Aside0 (Kd.R (Kd.int .i64) 2 wc w.heap.size (fun k_ => ax k_ (.slice Ao23 t949.length co23) ∧ ax k_ (.slice Ao31 t958.length co31) ∧ ax k_ (.slice Ao38 t963.length co38) ∧ ax k_ (.slice Ao39 t966.length co39)) (.slice Ao24 t952.length co24) t952) ∧ Aside0 (Kd.R (Kd.int .i64) 2 wc w.heap.size (fun k_ => ax k_ (.slice Ao23 t949.length co23) ∧ ax k_ (.slice Ao24 t952.length co24) ∧ ax k_ (.slice Ao38 t963.length co38) ∧ ax k_ (.slice Ao39 t966.length co39)) (.slice Ao31 t958.length co31) t958) ∧ Aside0 (Kd.R (Kd.int .i64) 2 wc w.heap.size (fun k_ => ax k_ (.slice Ao23 t949.length co23) ∧ ax k_ (.slice Ao24 t952.length co24) ∧ ax k_ (.slice Ao31 t958.length co31) ∧ ax k_ (.slice Ao39 t966.length co39)) (.slice Ao38 t963.length co38) t963) ∧ Aside0 (Kd.R (Kd.int .i64) 2 wc w.heap.size (fun k_ => ax k_ (.slice Ao23 t949.length co23) ∧ ax k_ (.slice Ao24 t952.length co24) ∧ ax k_ (.slice Ao31 t958.length co31) ∧ ax k_ (.slice Ao38 t963.length co38)) (.slice Ao39 t966.length co39) t966) ∧ Aside0 (wc.heap[gb942]? = some (.cells #[.int .i64 a0_0, (.slice A0_1 l0_1.length c0_1)] 34 (0, 0))) ∧ Aside0 (wc.heap[gb956]? = some (.cells #[.int .i64 t948, (.slice Ao23 t949.length co23), (.slice Ao24 t952.length co24)] 26 (0, 0))) ∧ Aside0 (wc.heap[gb961]? = some (.cells #[.int .i64 t957, (.slice Ao31 t958.length co31)] 40 (0, 0))) ∧ Aside0 (wc.heap[gb970]? = some (.cells #[.int .i64 t962, (.slice Ao38 t963.length co38), (.slice Ao39 t966.length co39)] 26 (0, 0))) ∧ Aside0 (Below w.heap.size w wc))
  case first =>
   have H := HC12.out
   clear HC12
   replace H := Option.bind_eq_some_iff.mp H
   obtain ⟨t971, A400, H⟩ := H
   replace H : (if t971 = true then (laws_FnExactJacobiOfMoments.j0 k a1 t955 t969 (t969 != t955) a0_0 l0_1 t948 t949 t952 t957 t958 t962 t963 t966) else (laws_FnExactJacobiOfMoments.j0 k a1 t955 t969 true a0_0 l0_1 t948 t949 t952 t957 t958 t962 t963 t966)) = some r := H
   have A40 := zA A400
   clear A400
   by_cases c41 : t971 = true
   ·subst c41
    have H1 : (laws_FnExactJacobiOfMoments.j0 k a1 t955 t969 (t969 != t955) a0_0 l0_1 t948 t949 t952 t957 t958 t962 t963 t966) = some r := by rw [if_pos rfl] at H; exact H
    clear H
    have H := H1
    clear H1
    have H' := zA H
    clear H
    have hnb42 := NB970_942.out; have hnc42 := NB942_970.out; have hnb43 := NB970_956.out; have hnc43 := NB956_970.out; have hnb44 := NB970_961.out; have hnc44 := NB961_970.out
    have hcz45_0 := bc BK970 0
    have hcz45_1 := bc BK970 1
    have hcz45_2 := bc BK970 2
    have hfz45_0 := bf BK970 0
    have hfz45_1 := bf BK970 1
    have hfz45_2 := bf BK970 2
    have hnb46 := NB956_942.out; have hnc46 := NB942_956.out; have hnb47 := NB956_961.out; have hnc47 := NB961_956.out
    have hcz48_0 := bc BK956 0
    have hcz48_1 := bc BK956 1
    have hcz48_2 := bc BK956 2
    have hfz48_0 := bf BK956 0
    have hfz48_1 := bf BK956 1
    have hfz48_2 := bf BK956 2
    go_wp2_with (first | ((with_reducible refine gate_callee (f := 19) rfl ?_); refine gL (some 38) Try.func19 #[.agg #[.int .i64 t962, .slice Ao38 t963.length co38, .slice Ao39 t966.length co39], .agg #[.int .i64 t948, .slice Ao23 t949.length co23, .slice Ao24 t952.length co24]] ?_; (with_reducible refine (laws_eqJacobi.calls k t962 _ _ t963 _ _ t966 t948 _ _ t949 _ _ t952 true _ ?side1 ?side2 ?side3 ?side4 ?side5 ?side6 ?side7 ?side8 A40.out).mono ?_); (case side1 => refine (Kd.R_reads' (e := 2) (base := w.heap.size) (ok := fun k_ => ((((ax k_ (.slice Ao39 t966.length co39) ∧ ax k_ (.slice Ao18 t945.length co18)) ∧ ax k_ (.slice Ao23 t949.length co23)) ∧ ax k_ (.slice Ao24 t952.length co24)) ∧ ax k_ (.slice Ao31 t958.length co31))) (n := t963.length) (c := co38) ?_).2.2; exact (uR ((rf3 HO965 BK970 (by decide) (.int .i64 t962) (.slice Ao38 t963.length co38) (.slice Ao39 t966.length co39))))); (case side2 => exact (Kd.R_reads' HO965.out).2.1); (case side3 => refine (Kd.R_reads' (e := 2) (base := w.heap.size) (ok := fun k_ => ((((ax k_ (.slice Ao38 t963.length co38) ∧ ax k_ (.slice Ao18 t945.length co18)) ∧ ax k_ (.slice Ao23 t949.length co23)) ∧ ax k_ (.slice Ao24 t952.length co24)) ∧ ax k_ (.slice Ao31 t958.length co31))) (n := t966.length) (c := co39) ?_).2.2; exact (uR ((rf3 HO968 BK970 (by decide) (.int .i64 t962) (.slice Ao38 t963.length co38) (.slice Ao39 t966.length co39))))); (case side4 => exact (Kd.R_reads' HO968.out).2.1); (case side5 => refine (Kd.R_reads' (e := 2) (base := w.heap.size) (ok := fun k_ => ((((ax k_ (.slice Ao24 t952.length co24) ∧ ax k_ (.slice Ao18 t945.length co18)) ∧ ax k_ (.slice Ao31 t958.length co31)) ∧ ax k_ (.slice Ao38 t963.length co38)) ∧ ax k_ (.slice Ao39 t966.length co39))) (n := t949.length) (c := co23) ?_).2.2; exact (uR ((rf3 HO951 BK970 (by decide) (.int .i64 t962) (.slice Ao38 t963.length co38) (.slice Ao39 t966.length co39))))); (case side6 => exact (Kd.R_reads' HO951.out).2.1); (case side7 => refine (Kd.R_reads' (e := 2) (base := w.heap.size) (ok := fun k_ => ((((ax k_ (.slice Ao23 t949.length co23) ∧ ax k_ (.slice Ao18 t945.length co18)) ∧ ax k_ (.slice Ao31 t958.length co31)) ∧ ax k_ (.slice Ao38 t963.length co38)) ∧ ax k_ (.slice Ao39 t966.length co39))) (n := t952.length) (c := co24) ?_).2.2; exact (uR ((rf3 HO954 BK970 (by decide) (.int .i64 t962) (.slice Ao38 t963.length co38) (.slice Ao39 t966.length co39))))); (case side8 => exact (Kd.R_reads' HO954.out).2.1); rintro e w49 ⟨rfl, hb⟩; refine ⟨_, rfl, ?_⟩; replace HO947 := zA (Kd.R_below (uR ((rf3 HO947 BK970 (by decide) (.int .i64 t962) (.slice Ao38 t963.length co38) (.slice Ao39 t966.length co39)))) hb); replace HO951 := zA (Kd.R_below (uR ((rf3 HO951 BK970 (by decide) (.int .i64 t962) (.slice Ao38 t963.length co38) (.slice Ao39 t966.length co39)))) hb); replace HO954 := zA (Kd.R_below (uR ((rf3 HO954 BK970 (by decide) (.int .i64 t962) (.slice Ao38 t963.length co38) (.slice Ao39 t966.length co39)))) hb); replace HO960 := zA (Kd.R_below (uR ((rf3 HO960 BK970 (by decide) (.int .i64 t962) (.slice Ao38 t963.length co38) (.slice Ao39 t966.length co39)))) hb); replace HO965 := zA (Kd.R_below (uR ((rf3 HO965 BK970 (by decide) (.int .i64 t962) (.slice Ao38 t963.length co38) (.slice Ao39 t966.length co39)))) hb); replace HO968 := zA (Kd.R_below (uR ((rf3 HO968 BK970 (by decide) (.int .i64 t962) (.slice Ao38 t963.length co38) (.slice Ao39 t966.length co39)))) hb); replace BK942 := zA (blk_below (g := gb942) (o := .cells #[.int .i64 a0_0, .slice A0_1 l0_1.length c0_1] 34 (0, 0)) (by (repeat refine up1 ?_); refine blk_far ?_ NB942_970.out _; (repeat refine up1 ?_); refine blk_far ?_ NB942_970.out _; (repeat refine up1 ?_); refine blk_far ?_ NB942_970.out _; (repeat refine up1 ?_); exact BK942.out) hb); replace BK956 := zA (blk_below (g := gb956) (o := .cells #[.int .i64 t948, .slice Ao23 t949.length co23, .slice Ao24 t952.length co24] 26 (0, 0)) (by (repeat refine up1 ?_); refine blk_far ?_ NB956_970.out _; (repeat refine up1 ?_); refine blk_far ?_ NB956_970.out _; (repeat refine up1 ?_); refine blk_far ?_ NB956_970.out _; (repeat refine up1 ?_); exact BK956.out) hb); replace BK961 := zA (blk_below (g := gb961) (o := .cells #[.int .i64 t957, .slice Ao31 t958.length co31] 40 (0, 0)) (by (repeat refine up1 ?_); refine blk_far ?_ NB961_970.out _; (repeat refine up1 ?_); refine blk_far ?_ NB961_970.out _; (repeat refine up1 ?_); refine blk_far ?_ NB961_970.out _; (repeat refine up1 ?_); exact BK961.out) hb); replace BK970 := zA (blk_below (g := gb970) (o := .cells #[.int .i64 t962, .slice Ao38 t963.length co38, .slice Ao39 t966.length co39] 26 (0, 0)) (by (repeat refine up1 ?_); refine blk_put (cs := #[.int .i64 t962, .slice Ao38 t963.length co38, .slice none 0 0]) ?_ 2 _ rfl; (repeat refine up1 ?_); refine blk_put (cs := #[.int .i64 t962, .slice none 0 0, .slice none 0 0]) ?_ 1 _ rfl; (repeat refine up1 ?_); refine blk_put (cs := #[.int .i64 0, .slice none 0 0, .slice none 0 0]) ?_ 0 _ rfl; (repeat refine up1 ?_); exact BK970.out) hb); replace HB := xH HB hb; (try clear hb); (try clear hb2); (try clear hk); (try clear hi)))
    go_meet
    case rel => exact ⟨_, ((t969 != t955)), (by first | rfl | (simp; done) | (simp [*]; done)), H', ⟨by first | omega | exact Nat.le_refl _⟩, ⟨uR (Kd.R_mono HO951.out (fun _ hk => ⟨hk.1.1.1.1, ⟨hk.1.1.2, ⟨hk.1.2, hk.2⟩⟩⟩))⟩, ⟨uR (Kd.R_mono HO954.out (fun _ hk => ⟨hk.1.1.1.1, ⟨hk.1.1.2, ⟨hk.1.2, hk.2⟩⟩⟩))⟩, ⟨uR (Kd.R_mono HO960.out (fun _ hk => ⟨hk.1.1.1.2, ⟨hk.1.1.2, ⟨hk.1.2, hk.2⟩⟩⟩))⟩, ⟨uR (Kd.R_mono HO965.out (fun _ hk => ⟨hk.1.1.2, ⟨hk.1.2, ⟨hk.2, hk.1.1.1.1⟩⟩⟩))⟩, ⟨uR (Kd.R_mono HO968.out (fun _ hk => ⟨hk.1.1.2, ⟨hk.1.2, ⟨hk.2, hk.1.1.1.1⟩⟩⟩))⟩, ⟨uB BK942.out⟩, ⟨uB BK956.out⟩, ⟨uB BK961.out⟩, ⟨uB BK970.out⟩, ⟨uH HB.out⟩⟩
   ·replace c41 := Bool.eq_false_iff.mpr c41
    subst c41
    have H1 : (laws_FnExactJacobiOfMoments.j0 k a1 t955 t969 true a0_0 l0_1 t948 t949 t952 t957 t958 t962 t963 t966) = some r := by rw [if_neg (show ¬ (false = true) by decide)] at H; exact H
    clear H
    have H := H1
    clear H1
    have H' := zA H
    clear H
    have hnb50 := NB970_942.out; have hnc50 := NB942_970.out; have hnb51 := NB970_956.out; have hnc51 := NB956_970.out; have hnb52 := NB970_961.out; have hnc52 := NB961_970.out
    have hcz53_0 := bc BK970 0
    have hcz53_1 := bc BK970 1
    have hcz53_2 := bc BK970 2
    have hfz53_0 := bf BK970 0
    have hfz53_1 := bf BK970 1
    have hfz53_2 := bf BK970 2
    have hnb54 := NB956_942.out; have hnc54 := NB942_956.out; have hnb55 := NB956_961.out; have hnc55 := NB961_956.out
    have hcz56_0 := bc BK956 0
    have hcz56_1 := bc BK956 1
    have hcz56_2 := bc BK956 2
    have hfz56_0 := bf BK956 0
    have hfz56_1 := bf BK956 1
    have hfz56_2 := bf BK956 2
    go_wp2_with (first | ((with_reducible refine gate_callee (f := 19) rfl ?_); refine gL (some 38) Try.func19 #[.agg #[.int .i64 t962, .slice Ao38 t963.length co38, .slice Ao39 t966.length co39], .agg #[.int .i64 t948, .slice Ao23 t949.length co23, .slice Ao24 t952.length co24]] ?_; (with_reducible refine (laws_eqJacobi.calls k t962 _ _ t963 _ _ t966 t948 _ _ t949 _ _ t952 false _ ?side1 ?side2 ?side3 ?side4 ?side5 ?side6 ?side7 ?side8 A40.out).mono ?_); (case side1 => refine (Kd.R_reads' (e := 2) (base := w.heap.size) (ok := fun k_ => ((((ax k_ (.slice Ao39 t966.length co39) ∧ ax k_ (.slice Ao18 t945.length co18)) ∧ ax k_ (.slice Ao23 t949.length co23)) ∧ ax k_ (.slice Ao24 t952.length co24)) ∧ ax k_ (.slice Ao31 t958.length co31))) (n := t963.length) (c := co38) ?_).2.2; exact (uR ((rf3 HO965 BK970 (by decide) (.int .i64 t962) (.slice Ao38 t963.length co38) (.slice Ao39 t966.length co39))))); (case side2 => exact (Kd.R_reads' HO965.out).2.1); (case side3 => refine (Kd.R_reads' (e := 2) (base := w.heap.size) (ok := fun k_ => ((((ax k_ (.slice Ao38 t963.length co38) ∧ ax k_ (.slice Ao18 t945.length co18)) ∧ ax k_ (.slice Ao23 t949.length co23)) ∧ ax k_ (.slice Ao24 t952.length co24)) ∧ ax k_ (.slice Ao31 t958.length co31))) (n := t966.length) (c := co39) ?_).2.2; exact (uR ((rf3 HO968 BK970 (by decide) (.int .i64 t962) (.slice Ao38 t963.length co38) (.slice Ao39 t966.length co39))))); (case side4 => exact (Kd.R_reads' HO968.out).2.1); (case side5 => refine (Kd.R_reads' (e := 2) (base := w.heap.size) (ok := fun k_ => ((((ax k_ (.slice Ao24 t952.length co24) ∧ ax k_ (.slice Ao18 t945.length co18)) ∧ ax k_ (.slice Ao31 t958.length co31)) ∧ ax k_ (.slice Ao38 t963.length co38)) ∧ ax k_ (.slice Ao39 t966.length co39))) (n := t949.length) (c := co23) ?_).2.2; exact (uR ((rf3 HO951 BK970 (by decide) (.int .i64 t962) (.slice Ao38 t963.length co38) (.slice Ao39 t966.length co39))))); (case side6 => exact (Kd.R_reads' HO951.out).2.1); (case side7 => refine (Kd.R_reads' (e := 2) (base := w.heap.size) (ok := fun k_ => ((((ax k_ (.slice Ao23 t949.length co23) ∧ ax k_ (.slice Ao18 t945.length co18)) ∧ ax k_ (.slice Ao31 t958.length co31)) ∧ ax k_ (.slice Ao38 t963.length co38)) ∧ ax k_ (.slice Ao39 t966.length co39))) (n := t952.length) (c := co24) ?_).2.2; exact (uR ((rf3 HO954 BK970 (by decide) (.int .i64 t962) (.slice Ao38 t963.length co38) (.slice Ao39 t966.length co39))))); (case side8 => exact (Kd.R_reads' HO954.out).2.1); rintro e w57 ⟨rfl, hb⟩; refine ⟨_, rfl, ?_⟩; replace HO947 := zA (Kd.R_below (uR ((rf3 HO947 BK970 (by decide) (.int .i64 t962) (.slice Ao38 t963.length co38) (.slice Ao39 t966.length co39)))) hb); replace HO951 := zA (Kd.R_below (uR ((rf3 HO951 BK970 (by decide) (.int .i64 t962) (.slice Ao38 t963.length co38) (.slice Ao39 t966.length co39)))) hb); replace HO954 := zA (Kd.R_below (uR ((rf3 HO954 BK970 (by decide) (.int .i64 t962) (.slice Ao38 t963.length co38) (.slice Ao39 t966.length co39)))) hb); replace HO960 := zA (Kd.R_below (uR ((rf3 HO960 BK970 (by decide) (.int .i64 t962) (.slice Ao38 t963.length co38) (.slice Ao39 t966.length co39)))) hb); replace HO965 := zA (Kd.R_below (uR ((rf3 HO965 BK970 (by decide) (.int .i64 t962) (.slice Ao38 t963.length co38) (.slice Ao39 t966.length co39)))) hb); replace HO968 := zA (Kd.R_below (uR ((rf3 HO968 BK970 (by decide) (.int .i64 t962) (.slice Ao38 t963.length co38) (.slice Ao39 t966.length co39)))) hb); replace BK942 := zA (blk_below (g := gb942) (o := .cells #[.int .i64 a0_0, .slice A0_1 l0_1.length c0_1] 34 (0, 0)) (by (repeat refine up1 ?_); refine blk_far ?_ NB942_970.out _; (repeat refine up1 ?_); refine blk_far ?_ NB942_970.out _; (repeat refine up1 ?_); refine blk_far ?_ NB942_970.out _; (repeat refine up1 ?_); exact BK942.out) hb); replace BK956 := zA (blk_below (g := gb956) (o := .cells #[.int .i64 t948, .slice Ao23 t949.length co23, .slice Ao24 t952.length co24] 26 (0, 0)) (by (repeat refine up1 ?_); refine blk_far ?_ NB956_970.out _; (repeat refine up1 ?_); refine blk_far ?_ NB956_970.out _; (repeat refine up1 ?_); refine blk_far ?_ NB956_970.out _; (repeat refine up1 ?_); exact BK956.out) hb); replace BK961 := zA (blk_below (g := gb961) (o := .cells #[.int .i64 t957, .slice Ao31 t958.length co31] 40 (0, 0)) (by (repeat refine up1 ?_); refine blk_far ?_ NB961_970.out _; (repeat refine up1 ?_); refine blk_far ?_ NB961_970.out _; (repeat refine up1 ?_); refine blk_far ?_ NB961_970.out _; (repeat refine up1 ?_); exact BK961.out) hb); replace BK970 := zA (blk_below (g := gb970) (o := .cells #[.int .i64 t962, .slice Ao38 t963.length co38, .slice Ao39 t966.length co39] 26 (0, 0)) (by (repeat refine up1 ?_); refine blk_put (cs := #[.int .i64 t962, .slice Ao38 t963.length co38, .slice none 0 0]) ?_ 2 _ rfl; (repeat refine up1 ?_); refine blk_put (cs := #[.int .i64 t962, .slice none 0 0, .slice none 0 0]) ?_ 1 _ rfl; (repeat refine up1 ?_); refine blk_put (cs := #[.int .i64 0, .slice none 0 0, .slice none 0 0]) ?_ 0 _ rfl; (repeat refine up1 ?_); exact BK970.out) hb); replace HB := xH HB hb; (try clear hb); (try clear hb2); (try clear hk); (try clear hi)))
    go_meet
    case rel => exact ⟨_, (true), (by first | rfl | (simp; done) | (simp [*]; done)), H', ⟨by first | omega | exact Nat.le_refl _⟩, ⟨uR (Kd.R_mono HO951.out (fun _ hk => ⟨hk.1.1.1.1, ⟨hk.1.1.2, ⟨hk.1.2, hk.2⟩⟩⟩))⟩, ⟨uR (Kd.R_mono HO954.out (fun _ hk => ⟨hk.1.1.1.1, ⟨hk.1.1.2, ⟨hk.1.2, hk.2⟩⟩⟩))⟩, ⟨uR (Kd.R_mono HO960.out (fun _ hk => ⟨hk.1.1.1.2, ⟨hk.1.1.2, ⟨hk.1.2, hk.2⟩⟩⟩))⟩, ⟨uR (Kd.R_mono HO965.out (fun _ hk => ⟨hk.1.1.2, ⟨hk.1.2, ⟨hk.2, hk.1.1.1.1⟩⟩⟩))⟩, ⟨uR (Kd.R_mono HO968.out (fun _ hk => ⟨hk.1.1.2, ⟨hk.1.2, ⟨hk.2, hk.1.1.1.1⟩⟩⟩))⟩, ⟨uB BK942.out⟩, ⟨uB BK956.out⟩, ⟨uB BK961.out⟩, ⟨uB BK970.out⟩, ⟨uH HB.out⟩⟩
  case rest =>
   clear HC12
   (try clear c1);(try clear c2);(try clear p2);(try clear c3);(try clear c4);(try clear c4b0);(try clear c5);(try clear c12);(try clear c19);(try clear c21);(try clear c22);(try clear c24);(try clear c28);(try clear c29);(try clear c34);(try clear c35);(try clear c36);(try clear c41);(try clear c42);(try clear c43);(try clear c44);(try clear c46);(try clear c47);(try clear c49);(try clear c50);(try clear c51)
   (try clear c52);(try clear c54);(try clear c55);(try clear hcz14_0);(try clear hcz14_1);(try clear hcz16_0);(try clear hcz16_1);(try clear hcz22_0);(try clear hcz22_1);(try clear hcz22_2);(try clear hcz25_0);(try clear hcz25_1);(try clear hcz30_0);(try clear hcz30_1);(try clear hcz37_0);(try clear hcz37_1);(try clear hcz37_2);(try clear hcz45_0);(try clear hcz45_1);(try clear hcz45_2);(try clear hcz48_0)
   (try clear hcz48_1);(try clear hcz48_2);(try clear hcz53_0);(try clear hcz53_1);(try clear hcz53_2);(try clear hcz56_0);(try clear hcz56_1);(try clear hcz56_2);(try clear hcz6_0);(try clear hcz6_1);(try clear hfz14_0);(try clear hfz14_1);(try clear hfz16_0);(try clear hfz16_1);(try clear hfz22_0);(try clear hfz22_1);(try clear hfz22_2);(try clear hfz25_0);(try clear hfz25_1);(try clear hfz30_0)
   (try clear hfz30_1);(try clear hfz37_0);(try clear hfz37_1);(try clear hfz37_2);(try clear hfz45_0);(try clear hfz45_1);(try clear hfz45_2);(try clear hfz48_0);(try clear hfz48_1);(try clear hfz48_2);(try clear hfz53_0);(try clear hfz53_1);(try clear hfz53_2);(try clear hfz56_0);(try clear hfz56_1);(try clear hfz56_2);(try clear hfz6_0);(try clear hfz6_1)
   obtain ⟨kq, x44_11, rfl, HA, HJ11, HO_957001, HO_957002, HO_962001, HO_971001, HO_971002, BK942, BK956, BK961, BK970, HB⟩ := hcut
   cases kq with
   | zero => exact absurd HA.out (by simp [laws_FnExactJacobiOfMoments.j0])
   | succ kj11 =>
    have H := HA.out
    clear HA
    simp only [laws_FnExactJacobiOfMoments.j0] at H
    by_cases c58 : x44_11 = true
    ·subst c58
     have H1 : (some false) = some r := by rw [if_pos rfl] at H; exact H
     clear H
     have H := H1
     clear H1
     rw [HRT.out] at H
     exact absurd H (by simp)
    ·replace c58 := Bool.eq_false_iff.mpr c58
     subst c58
     have H1 : ((laws_toMoments.f kj11 a0_0 l0_1).bind fun bt972 => ((laws_eqMoments.f kj11 t957 t958 bt972.1 bt972.2).bind fun t976 => (if t976 = true then ((laws_markMoments.f kj11 t957 t958 1).bind fun bt977 => (if bt977.1 < 0 then (laws_FnExactJacobiOfMoments.j1 kj11 a1 t955 true a0_0 l0_1 t948 t949 t952 t962 t963 t966) else ((laws_eqJacobi.f kj11 t962 t963 t966 t948 t949 t952).bind fun t979 => (if t979 = true then (laws_FnExactJacobiOfMoments.j1 kj11 a1 t955 (t969 != t955) a0_0 l0_1 t948 t949 t952 t962 t963 t966) else (laws_FnExactJacobiOfMoments.j1 kj11 a1 t955 true a0_0 l0_1 t948 t949 t952 t962 t963 t966))))) else (some false)))) = some r := by rw [if_neg (show ¬ (false = true) by decide)] at H; exact H
     clear H
     have H := H1
     clear H1
     replace H := Option.bind_eq_some_iff.mp H
     obtain ⟨⟨t972, t973⟩, A590, H⟩ := H
     replace H : ((laws_eqMoments.f kj11 t957 t958 t972 t973).bind fun t976 => (if t976 = true then ((laws_markMoments.f kj11 t957 t958 1).bind fun bt977 => (if bt977.1 < 0 then (laws_FnExactJacobiOfMoments.j1 kj11 a1 t955 true a0_0 l0_1 t948 t949 t952 t962 t963 t966) else ((laws_eqJacobi.f kj11 t962 t963 t966 t948 t949 t952).bind fun t979 => (if t979 = true then (laws_FnExactJacobiOfMoments.j1 kj11 a1 t955 (t969 != t955) a0_0 l0_1 t948 t949 t952 t962 t963 t966) else (laws_FnExactJacobiOfMoments.j1 kj11 a1 t955 true a0_0 l0_1 t948 t949 t952 t962 t963 t966))))) else (some false))) = some r := H
     have A59 := zA A590
     clear A590
     replace H := Option.bind_eq_some_iff.mp H
     obtain ⟨t976, A600, H⟩ := H
     replace H : (if t976 = true then ((laws_markMoments.f kj11 t957 t958 1).bind fun bt977 => (if bt977.1 < 0 then (laws_FnExactJacobiOfMoments.j1 kj11 a1 t955 true a0_0 l0_1 t948 t949 t952 t962 t963 t966) else ((laws_eqJacobi.f kj11 t962 t963 t966 t948 t949 t952).bind fun t979 => (if t979 = true then (laws_FnExactJacobiOfMoments.j1 kj11 a1 t955 (t969 != t955) a0_0 l0_1 t948 t949 t952 t962 t963 t966) else (laws_FnExactJacobiOfMoments.j1 kj11 a1 t955 true a0_0 l0_1 t948 t949 t952 t962 t963 t966))))) else (some false)) = some r := H
     have A60 := zA A600
     clear A600
     by_cases c61 : t976 = true
     ·subst c61
      have H1 : ((laws_markMoments.f kj11 t957 t958 1).bind fun bt977 => (if bt977.1 < 0 then (laws_FnExactJacobiOfMoments.j1 kj11 a1 t955 true a0_0 l0_1 t948 t949 t952 t962 t963 t966) else ((laws_eqJacobi.f kj11 t962 t963 t966 t948 t949 t952).bind fun t979 => (if t979 = true then (laws_FnExactJacobiOfMoments.j1 kj11 a1 t955 (t969 != t955) a0_0 l0_1 t948 t949 t952 t962 t963 t966) else (laws_FnExactJacobiOfMoments.j1 kj11 a1 t955 true a0_0 l0_1 t948 t949 t952 t962 t963 t966))))) = some r := by rw [if_pos rfl] at H; exact H
      clear H
      have H := H1
      clear H1
      replace H := Option.bind_eq_some_iff.mp H
      obtain ⟨⟨t977, t978⟩, A620, H⟩ := H
      replace H : (if t977 < 0 then (laws_FnExactJacobiOfMoments.j1 kj11 a1 t955 true a0_0 l0_1 t948 t949 t952 t962 t963 t966) else ((laws_eqJacobi.f kj11 t962 t963 t966 t948 t949 t952).bind fun t979 => (if t979 = true then (laws_FnExactJacobiOfMoments.j1 kj11 a1 t955 (t969 != t955) a0_0 l0_1 t948 t949 t952 t962 t963 t966) else (laws_FnExactJacobiOfMoments.j1 kj11 a1 t955 true a0_0 l0_1 t948 t949 t952 t962 t963 t966)))) = some r := H
      have A62 := zA A620
      clear A620
      have HC63 := zA H
      clear H
      try go_wp2
      replace HO_957001 := zA (Kd.R_drew HO_957001.out)
      replace HO_957002 := zA (Kd.R_drew HO_957002.out)
      replace HO_962001 := zA (Kd.R_drew HO_962001.out)
      replace HO_971001 := zA (Kd.R_drew HO_971001.out)
      replace HO_971002 := zA (Kd.R_drew HO_971002.out)
      replace BK942 := zA (blk_drew BK942.out)
      replace BK956 := zA (blk_drew BK956.out)
      replace BK961 := zA (blk_drew BK961.out)
      replace BK970 := zA (blk_drew BK970.out)
      replace HB := zA (below_drew1 HB.out)
      refine start_ (n := 5) (S := fun w' => w'.cell? ⟨gb961, 0, none⟩ = some (.int .i64 t957) ∧ w'.cell? ⟨gb961, 1, none⟩ = some (.slice Ao31 t958.length co31) ∧ w'.cell? ⟨gb942, 0, none⟩ = some (.int .i64 a0_0) ∧ w'.cell? ⟨gb942, 1, none⟩ = some (.slice A0_1 l0_1.length c0_1)) (ds := []) #[false, false, false, false, false] (by kernel_rfl) rfl rfl ⟨bcu BK961 0, bcu BK961 1, bcu BK942 0, bcu BK942 1⟩ (fun hHeld => ?_)
      generalize wc.drew = w64 at HO_957001 HO_957002 HO_962001 HO_971001 HO_971002 BK942 BK956 BK961 BK970 HB hHeld ⊢
      refine take_ (i := 0) (N := some 45) (v := ?_) (a' := ?_) (bl 5 1) rfl rfl (by kernel_rfl) (fun _ _ _ h => h) (Or.inl ⟨by rfl, ?_⟩) hHeld ?_ ?_
      rotate_left
      ·rintro w' ⟨s0, s1, s2, s3⟩
       go_simp
       with_reducible rfl
      rotate_left
      ·simp only [Act.put, ls, lz, ln, i64_w, i32_w]
       rfl
      refine take_ (i := 1) (N := some 46) (v := ?_) (a' := ?_) (bl 5 3) rfl rfl (by kernel_rfl) (fun _ _ _ h => h) (Or.inl ⟨by rfl, ?_⟩) hHeld ?_ ?_
      rotate_left
      ·rintro w' ⟨s0, s1, s2, s3⟩
       go_simp
       with_reducible rfl
      rotate_left
      ·simp only [Act.put, ls, lz, ln, i64_w, i32_w]
       rfl
      refine one_ (i := 2) (N := some 47) (bl 5 7) rfl rfl (by kernel_rfl) (by decide) (fun K hK => ?_)
      refine gS Try.func24 #[.agg #[.int .i64 a0_0, .slice A0_1 l0_1.length c0_1]] ?_
      with_reducible refine (laws_toMoments.calls kj11 a0_0 _ _ l0_1 t972 t973 _ ?side1 ?side2 A59.out).mono ?_
      (case side1 => exact uC ((Kd.C_below HR0_1.out HB.out)))
      (case side2 => exact HC0_1.out)
      rintro e w65 ⟨v974, rfl, ho0, hb⟩
      refine ⟨_, rfl, ?_⟩
      have HO975 := zA (Kd.R_lower (Kd.R_new' (Kd.R_new' (Kd.R_new' (Kd.R_new' (Kd.R_new' ho0 (Kd.R_lt (uR HO_957001.out))) (Kd.R_lt (uR HO_957002.out))) (Kd.R_lt (uR HO_962001.out))) (Kd.R_lt (uR HO_971001.out))) (Kd.R_lt (uR HO_971002.out))) (below_size (uH HB.out)))
      replace HO_957001 := zA (Kd.R_elder' (uR HO_957001.out) (Kd.R_base ho0) hb)
      replace HO_957002 := zA (Kd.R_elder' (uR HO_957002.out) (Kd.R_base ho0) hb)
      replace HO_962001 := zA (Kd.R_elder' (uR HO_962001.out) (Kd.R_base ho0) hb)
      replace HO_971001 := zA (Kd.R_elder' (uR HO_971001.out) (Kd.R_base ho0) hb)
      replace HO_971002 := zA (Kd.R_elder' (uR HO_971002.out) (Kd.R_base ho0) hb)
      replace BK942 := xB BK942 hb
      replace BK956 := xB BK956 hb
      replace BK961 := xB BK961 hb
      replace BK970 := xB BK970 hb
      replace HB := xH HB hb
      (try clear hb); (try clear hb2); (try clear hk); (try clear hi); (try clear ho0)
      obtain ⟨Ao66, co66, eo66⟩ := Kd.R_slice HO975.out
      (first | subst eo66 | (injection eo66 with f1_ f2_ f3_; have f4_ := f1_.symm; have f5_ := f3_.symm; clear f1_ f2_ f3_; subst f4_; subst f5_))
      refine hK.out _ _ ⟨bcu BK961 0, bcu BK961 1, bcu BK942 0, bcu BK942 1⟩ (fun hHeld => ?_)
      clear hK K
      refine no_ 47 ?_
      refine one_ (i := 3) (N := some 48) (bl 5 15) rfl rfl (by kernel_rfl) (by decide) (fun K hK => ?_)
      refine gS Try.func28 #[.agg #[.int .i64 t957, .slice Ao31 t958.length co31], .agg #[.int .i64 t972, .slice Ao66 t973.length co66]] ?_
      with_reducible refine (laws_eqMoments.calls kj11 t957 _ _ t958 t972 _ _ t973 true _ ?side1 ?side2 ?side3 ?side4 A60.out).mono ?_
      (case side1 => exact uC ((Kd.R_reads' HO_962001.out).2.2))
      (case side2 => exact (Kd.R_reads' HO_962001.out).2.1)
      (case side3 => exact uC ((Kd.R_reads' HO975.out).2.2))
      (case side4 => exact (Kd.R_reads' HO975.out).2.1)
      rintro e w67 ⟨rfl, hb⟩
      refine ⟨_, rfl, ?_⟩
      replace HO_957001 := xR HO_957001 hb
      replace HO_957002 := xR HO_957002 hb
      replace HO_962001 := xR HO_962001 hb
      replace HO_971001 := xR HO_971001 hb
      replace HO_971002 := xR HO_971002 hb
      replace HO975 := xR HO975 hb
      replace BK942 := xB BK942 hb
      replace BK956 := xB BK956 hb
      replace BK961 := xB BK961 hb
      replace BK970 := xB BK970 hb
      replace HB := xH HB hb
      (try clear hb); (try clear hb2); (try clear hk); (try clear hi)
      refine hK.out _ _ ⟨bcu BK961 0, bcu BK961 1, bcu BK942 0, bcu BK942 1⟩ (fun hHeld => ?_)
      clear hK K
      refine no_ 48 ?_
      refine pure_ (i := 4) (N := some 49) (v := ?_) (a' := ?_) (bl 5 31) rfl rfl (by kernel_rfl) (fun _ _ _ h => h) (Or.inl ⟨by rfl, ?_⟩) ?_ ?_
      rotate_left
      ·intro w'
       go_simp
       with_reducible rfl
      rotate_left
      ·simp only [Act.put, ls, lz, ln, i64_w, i32_w]
       rfl
      refine done_ (by kernel_rfl) ?_
      have hnb68 := NB961_942.out; have hnc68 := NB942_961.out; have hnb69 := NB961_956.out; have hnc69 := NB956_961.out; have hnb70 := NB961_970.out; have hnc70 := NB970_961.out
      have hcz71_0 := bc BK961 0
      have hcz71_1 := bc BK961 1
      have hfz71_0 := bf BK961 0
      have hfz71_1 := bf BK961 1
      go_upto_region 14 with (first | ((with_reducible refine gate_callee (f := 30) rfl ?_); refine gL (some 52) Try.func30 #[.agg #[.int .i64 t957, .slice Ao31 t958.length co31], .int .i64 1] ?_; (with_reducible refine (laws_markMoments.calls kj11 t957 (fun k_ => some k_ = (.slice Ao31 t958.length co31 : Value).ownBlock) (.slice Ao31 t958.length co31) t958 1 t977 t978 w _ ?side1 ?side2 A62.out).mono ?_); (case side1 => repeat (first | (with_reducible first | exact HB.out | apply below_alloc | apply pw_below_drewN | apply below_drew1 | refine below_set ?_ GE942.out | refine below_set ?_ GE956.out | refine below_set ?_ GE961.out | refine below_set ?_ GE970.out) | exact HB.out)); (case side2 => exact Kd.R_tight rfl HO_962001.out); rintro e w72 ⟨rfl, hy0, hb, hkp⟩; refine ⟨_, rfl, ?_⟩; replace HO_957001 := zA (Kd.R_mono (ok' := fun k_ => ax k_ (.slice Ao24 t952.length co24) ∧ ax k_ (.slice Ao31 t958.length co31) ∧ ax k_ (.slice Ao38 t963.length co38) ∧ ax k_ (.slice Ao39 t966.length co39) ∧ ax k_ (.slice Ao66 t973.length co66)) (Kd.R_keptB (HO_957001.out) hkp (fun k_ hk_ hs_ => (hk_.1.2.1) hs_)) (fun k_ hk_ => ⟨hk_.1.1.1, hk_.1.1.2.1, hk_.1.1.2.2.1, hk_.1.1.2.2.2, hk_.1.2⟩)); replace HO_957002 := zA (Kd.R_mono (ok' := fun k_ => ax k_ (.slice Ao23 t949.length co23) ∧ ax k_ (.slice Ao31 t958.length co31) ∧ ax k_ (.slice Ao38 t963.length co38) ∧ ax k_ (.slice Ao39 t966.length co39) ∧ ax k_ (.slice Ao66 t973.length co66)) (Kd.R_keptB (HO_957002.out) hkp (fun k_ hk_ hs_ => (hk_.1.2.1) hs_)) (fun k_ hk_ => ⟨hk_.1.1.1, hk_.1.1.2.1, hk_.1.1.2.2.1, hk_.1.1.2.2.2, hk_.1.2⟩)); replace HO_971001 := zA (Kd.R_mono (ok' := fun k_ => ax k_ (.slice Ao23 t949.length co23) ∧ ax k_ (.slice Ao24 t952.length co24) ∧ ax k_ (.slice Ao31 t958.length co31) ∧ ax k_ (.slice Ao39 t966.length co39) ∧ ax k_ (.slice Ao66 t973.length co66)) (Kd.R_keptB (HO_971001.out) hkp (fun k_ hk_ hs_ => (hk_.1.2.2.1) hs_)) (fun k_ hk_ => ⟨hk_.1.1.1, hk_.1.1.2.1, hk_.1.1.2.2.1, hk_.1.1.2.2.2, hk_.1.2⟩)); replace HO_971002 := zA (Kd.R_mono (ok' := fun k_ => ax k_ (.slice Ao23 t949.length co23) ∧ ax k_ (.slice Ao24 t952.length co24) ∧ ax k_ (.slice Ao31 t958.length co31) ∧ ax k_ (.slice Ao38 t963.length co38) ∧ ax k_ (.slice Ao66 t973.length co66)) (Kd.R_keptB (HO_971002.out) hkp (fun k_ hk_ hs_ => (hk_.1.2.2.1) hs_)) (fun k_ hk_ => ⟨hk_.1.1.1, hk_.1.1.2.1, hk_.1.1.2.2.1, hk_.1.1.2.2.2, hk_.1.2⟩)); replace BK942 := zA (blk_kept (uB BK942.out) hkp (fun hs_ => (fun e_ => (Kd.R_ne HO_962001.out BK942.out (by decide)) e_) hs_)); replace BK956 := zA (blk_kept (uB BK956.out) hkp (fun hs_ => (fun e_ => (Kd.R_ne HO_962001.out BK956.out (by decide)) e_) hs_)); replace BK961 := zA (blk_kept (uB BK961.out) hkp (fun hs_ => (fun e_ => (Kd.R_ne HO_962001.out BK961.out (by decide)) e_) hs_)); replace BK970 := zA (blk_kept (uB BK970.out) hkp (fun hs_ => (fun e_ => (Kd.R_ne HO_962001.out BK970.out (by decide)) e_) hs_)); replace HO_962001 := zA (Kd.R_reok rfl hy0 (fun k_ e_ => HO_962001.out.1 k_ e_)); replace HO975 := zA (Kd.R_mono (ok' := fun k_ => ax k_ (.slice Ao23 t949.length co23) ∧ ax k_ (.slice Ao24 t952.length co24) ∧ ax k_ (.slice Ao31 t958.length co31) ∧ ax k_ (.slice Ao38 t963.length co38) ∧ ax k_ (.slice Ao39 t966.length co39)) (Kd.R_keptB (HO975.out) hkp (fun k_ hk_ hs_ => (hk_.1.1.2) hs_)) (fun k_ hk_ => ⟨hk_.1.1.1.1.1.2, hk_.1.1.1.1.2, hk_.1.1.1.2, hk_.1.1.2, hk_.1.2⟩)); replace HB := zA (hb); (try clear hb); (try clear hkp); (try clear hy0)))
      (try simp only [Act.put, ls, lz, ln])
      go_cut [65] (fun v65 wc => ∃ (kq : Nat) (x65_62 : Bool), v65 = .bool x65_62 ∧ Aside0 (laws_FnExactJacobiOfMoments.j1 kq a1 t955 x65_62 a0_0 l0_1 t948 t949 t952 t962 t963 t966 = some r) ∧ Aside0 (kq ≤ kj11) ∧ Aside0 (Kd.R (Kd.int .i64) 2 wc w.heap.size (fun k_ => ax k_ (.slice Ao24 t952.length co24) ∧ ax k_ (.slice Ao31 t958.length co31) ∧ ax k_ (.slice Ao38 t963.length co38) ∧ ax k_ (.slice Ao39 t966.length co39)) (.slice Ao23 t949.length co23) t949) ∧ Aside0 (Kd.R (Kd.int .i64) 2 wc w.heap.size (fun k_ => ax k_ (.slice Ao23 t949.length co23) ∧ ax k_ (.slice Ao31 t958.length co31) ∧ ax k_ (.slice Ao38 t963.length co38) ∧ ax k_ (.slice Ao39 t966.length co39)) (.slice Ao24 t952.length co24) t952) ∧ Aside0 (Kd.R (Kd.int .i64) 2 wc w.heap.size (fun k_ => ax k_ (.slice Ao23 t949.length co23) ∧ ax k_ (.slice Ao24 t952.length co24) ∧ ax k_ (.slice Ao38 t963.length co38) ∧ ax k_ (.slice Ao39 t966.length co39)) (.slice Ao31 t958.length co31) t978) ∧ Aside0 (Kd.R (Kd.int .i64) 2 wc w.heap.size (fun k_ => ax k_ (.slice Ao23 t949.length co23) ∧ ax k_ (.slice Ao24 t952.length co24) ∧ ax k_ (.slice Ao31 t958.length co31) ∧ ax k_ (.slice Ao39 t966.length co39)) (.slice Ao38 t963.length co38) t963) ∧ Aside0 (Kd.R (Kd.int .i64) 2 wc w.heap.size (fun k_ => ax k_ (.slice Ao23 t949.length co23) ∧ ax k_ (.slice Ao24 t952.length co24) ∧ ax k_ (.slice Ao31 t958.length co31) ∧ ax k_ (.slice Ao38 t963.length co38)) (.slice Ao39 t966.length co39) t966) ∧ Aside0 (wc.heap[gb942]? = some (.cells #[.int .i64 a0_0, (.slice A0_1 l0_1.length c0_1)] 34 (0, 0))) ∧ Aside0 (wc.heap[gb956]? = some (.cells #[.int .i64 t948, (.slice Ao23 t949.length co23), (.slice Ao24 t952.length co24)] 26 (0, 0))) ∧ Aside0 (wc.heap[gb961]? = some (.cells #[.int .i64 t957, (.slice Ao31 t958.length co31)] 40 (0, 0))) ∧ Aside0 (wc.heap[gb970]? = some (.cells #[.int .i64 t962, (.slice Ao38 t963.length co38), (.slice Ao39 t966.length co39)] 26 (0, 0))) ∧ Aside0 (Below w.heap.size w wc))
      case first =>
       have H := HC63.out
       clear HC63
       by_cases c73 : t977 < 0
       rotate_left
       ·rw [if_neg c73] at H
        have c73b0 : decide (t977 < 0) = false := decide_eq_false c73
        clear c73
        (first | rw [c73b0] | (simp only [i64_w, i32_w]; rw [c73b0]) | skip)
        replace H := Option.bind_eq_some_iff.mp H
        obtain ⟨t979, A740, H⟩ := H
        replace H : (if t979 = true then (laws_FnExactJacobiOfMoments.j1 kj11 a1 t955 (t969 != t955) a0_0 l0_1 t948 t949 t952 t962 t963 t966) else (laws_FnExactJacobiOfMoments.j1 kj11 a1 t955 true a0_0 l0_1 t948 t949 t952 t962 t963 t966)) = some r := H
        have A74 := zA A740
        clear A740
        by_cases c75 : t979 = true
        ·subst c75
         have H1 : (laws_FnExactJacobiOfMoments.j1 kj11 a1 t955 (t969 != t955) a0_0 l0_1 t948 t949 t952 t962 t963 t966) = some r := by rw [if_pos rfl] at H; exact H
         clear H
         have H := H1
         clear H1
         have H' := zA H
         clear H
         have hnb76 := NB970_942.out; have hnc76 := NB942_970.out; have hnb77 := NB970_956.out; have hnc77 := NB956_970.out; have hnb78 := NB970_961.out; have hnc78 := NB961_970.out
         have hcz79_0 := bc BK970 0
         have hcz79_1 := bc BK970 1
         have hcz79_2 := bc BK970 2
         have hfz79_0 := bf BK970 0
         have hfz79_1 := bf BK970 1
         have hfz79_2 := bf BK970 2
         have hnb80 := NB956_942.out; have hnc80 := NB942_956.out; have hnb81 := NB956_961.out; have hnc81 := NB961_956.out
         have hcz82_0 := bc BK956 0
         have hcz82_1 := bc BK956 1
         have hcz82_2 := bc BK956 2
         have hfz82_0 := bf BK956 0
         have hfz82_1 := bf BK956 1
         have hfz82_2 := bf BK956 2
         go_wp2_with (first | (go_at_call 19; (with_reducible refine (laws_eqJacobi.calls kj11 t962 _ _ t963 _ _ t966 t948 _ _ t949 _ _ t952 true _ ?side1 ?side2 ?side3 ?side4 ?side5 ?side6 ?side7 ?side8 A74.out).mono ?_); (case side1 => exact uC ((Kd.R_reads' HO_971001.out).2.2)); (case side2 => exact (Kd.R_reads' HO_971001.out).2.1); (case side3 => exact uC ((Kd.R_reads' HO_971002.out).2.2)); (case side4 => exact (Kd.R_reads' HO_971002.out).2.1); (case side5 => exact uC ((Kd.R_reads' HO_957001.out).2.2)); (case side6 => exact (Kd.R_reads' HO_957001.out).2.1); (case side7 => exact uC ((Kd.R_reads' HO_957002.out).2.2)); (case side8 => exact (Kd.R_reads' HO_957002.out).2.1); rintro e w83 ⟨rfl, hb⟩; replace HO_957001 := xR HO_957001 hb; replace HO_957002 := xR HO_957002 hb; replace HO_962001 := xR HO_962001 hb; replace HO_971001 := xR HO_971001 hb; replace HO_971002 := xR HO_971002 hb; replace HO975 := xR HO975 hb; replace BK942 := xB BK942 hb; replace BK956 := xB BK956 hb; replace BK961 := xB BK961 hb; replace BK970 := xB BK970 hb; replace HB := xH HB hb; (try clear hb); (try clear hb2); (try clear hk); (try clear hi)))
         go_meet
         case rel => exact ⟨_, ((t969 != t955)), (by first | rfl | (simp; done) | (simp [*]; done)), H', ⟨by have := HJ11.out; first | omega | exact Nat.le_refl _⟩, ⟨uR (Kd.R_mono HO_957001.out (fun _ hk => ⟨hk.1, ⟨hk.2.1, ⟨hk.2.2.1, hk.2.2.2.1⟩⟩⟩))⟩, ⟨uR (Kd.R_mono HO_957002.out (fun _ hk => ⟨hk.1, ⟨hk.2.1, ⟨hk.2.2.1, hk.2.2.2.1⟩⟩⟩))⟩, ⟨uR (Kd.R_mono HO_962001.out (fun _ hk => ⟨hk.1.1, ⟨hk.1.2.1, ⟨hk.1.2.2.1, hk.1.2.2.2⟩⟩⟩))⟩, ⟨uR (Kd.R_mono HO_971001.out (fun _ hk => ⟨hk.1, ⟨hk.2.1, ⟨hk.2.2.1, hk.2.2.2.1⟩⟩⟩))⟩, ⟨uR (Kd.R_mono HO_971002.out (fun _ hk => ⟨hk.1, ⟨hk.2.1, ⟨hk.2.2.1, hk.2.2.2.1⟩⟩⟩))⟩, ⟨uB BK942.out⟩, ⟨uB BK956.out⟩, ⟨uB BK961.out⟩, ⟨uB BK970.out⟩, ⟨uH HB.out⟩⟩
        ·replace c75 := Bool.eq_false_iff.mpr c75
         subst c75
         have H1 : (laws_FnExactJacobiOfMoments.j1 kj11 a1 t955 true a0_0 l0_1 t948 t949 t952 t962 t963 t966) = some r := by rw [if_neg (show ¬ (false = true) by decide)] at H; exact H
         clear H
         have H := H1
         clear H1
         have H' := zA H
         clear H
         have hnb84 := NB970_942.out; have hnc84 := NB942_970.out; have hnb85 := NB970_956.out; have hnc85 := NB956_970.out; have hnb86 := NB970_961.out; have hnc86 := NB961_970.out
         have hcz87_0 := bc BK970 0
         have hcz87_1 := bc BK970 1
         have hcz87_2 := bc BK970 2
         have hfz87_0 := bf BK970 0
         have hfz87_1 := bf BK970 1
         have hfz87_2 := bf BK970 2
         have hnb88 := NB956_942.out; have hnc88 := NB942_956.out; have hnb89 := NB956_961.out; have hnc89 := NB961_956.out
         have hcz90_0 := bc BK956 0
         have hcz90_1 := bc BK956 1
         have hcz90_2 := bc BK956 2
         have hfz90_0 := bf BK956 0
         have hfz90_1 := bf BK956 1
         have hfz90_2 := bf BK956 2
         go_wp2_with (first | (go_at_call 19; (with_reducible refine (laws_eqJacobi.calls kj11 t962 _ _ t963 _ _ t966 t948 _ _ t949 _ _ t952 false _ ?side1 ?side2 ?side3 ?side4 ?side5 ?side6 ?side7 ?side8 A74.out).mono ?_); (case side1 => exact uC ((Kd.R_reads' HO_971001.out).2.2)); (case side2 => exact (Kd.R_reads' HO_971001.out).2.1); (case side3 => exact uC ((Kd.R_reads' HO_971002.out).2.2)); (case side4 => exact (Kd.R_reads' HO_971002.out).2.1); (case side5 => exact uC ((Kd.R_reads' HO_957001.out).2.2)); (case side6 => exact (Kd.R_reads' HO_957001.out).2.1); (case side7 => exact uC ((Kd.R_reads' HO_957002.out).2.2)); (case side8 => exact (Kd.R_reads' HO_957002.out).2.1); rintro e w91 ⟨rfl, hb⟩; replace HO_957001 := xR HO_957001 hb; replace HO_957002 := xR HO_957002 hb; replace HO_962001 := xR HO_962001 hb; replace HO_971001 := xR HO_971001 hb; replace HO_971002 := xR HO_971002 hb; replace HO975 := xR HO975 hb; replace BK942 := xB BK942 hb; replace BK956 := xB BK956 hb; replace BK961 := xB BK961 hb; replace BK970 := xB BK970 hb; replace HB := xH HB hb; (try clear hb); (try clear hb2); (try clear hk); (try clear hi)))
         go_meet
         case rel => exact ⟨_, (true), (by first | rfl | (simp; done) | (simp [*]; done)), H', ⟨by have := HJ11.out; first | omega | exact Nat.le_refl _⟩, ⟨uR (Kd.R_mono HO_957001.out (fun _ hk => ⟨hk.1, ⟨hk.2.1, ⟨hk.2.2.1, hk.2.2.2.1⟩⟩⟩))⟩, ⟨uR (Kd.R_mono HO_957002.out (fun _ hk => ⟨hk.1, ⟨hk.2.1, ⟨hk.2.2.1, hk.2.2.2.1⟩⟩⟩))⟩, ⟨uR (Kd.R_mono HO_962001.out (fun _ hk => ⟨hk.1.1, ⟨hk.1.2.1, ⟨hk.1.2.2.1, hk.1.2.2.2⟩⟩⟩))⟩, ⟨uR (Kd.R_mono HO_971001.out (fun _ hk => ⟨hk.1, ⟨hk.2.1, ⟨hk.2.2.1, hk.2.2.2.1⟩⟩⟩))⟩, ⟨uR (Kd.R_mono HO_971002.out (fun _ hk => ⟨hk.1, ⟨hk.2.1, ⟨hk.2.2.1, hk.2.2.2.1⟩⟩⟩))⟩, ⟨uB BK942.out⟩, ⟨uB BK956.out⟩, ⟨uB BK961.out⟩, ⟨uB BK970.out⟩, ⟨uH HB.out⟩⟩
       rw [if_pos c73] at H
       have c73b0 : decide (t977 < 0) = true := decide_eq_true c73
       clear c73
       (first | rw [c73b0] | (simp only [i64_w, i32_w]; rw [c73b0]) | skip)
       have H' := zA H
       clear H
       go_wp2
       go_meet
       case rel => exact ⟨_, (true), (by first | rfl | (simp; done) | (simp [*]; done)), H', ⟨by have := HJ11.out; first | omega | exact Nat.le_refl _⟩, ⟨uR (Kd.R_mono HO_957001.out (fun _ hk => ⟨hk.1, ⟨hk.2.1, ⟨hk.2.2.1, hk.2.2.2.1⟩⟩⟩))⟩, ⟨uR (Kd.R_mono HO_957002.out (fun _ hk => ⟨hk.1, ⟨hk.2.1, ⟨hk.2.2.1, hk.2.2.2.1⟩⟩⟩))⟩, ⟨uR (Kd.R_mono HO_962001.out (fun _ hk => ⟨hk.1.1, ⟨hk.1.2.1, ⟨hk.1.2.2.1, hk.1.2.2.2⟩⟩⟩))⟩, ⟨uR (Kd.R_mono HO_971001.out (fun _ hk => ⟨hk.1, ⟨hk.2.1, ⟨hk.2.2.1, hk.2.2.2.1⟩⟩⟩))⟩, ⟨uR (Kd.R_mono HO_971002.out (fun _ hk => ⟨hk.1, ⟨hk.2.1, ⟨hk.2.2.1, hk.2.2.2.1⟩⟩⟩))⟩, ⟨uB BK942.out⟩, ⟨uB BK956.out⟩, ⟨uB BK961.out⟩, ⟨uB BK970.out⟩, ⟨uH HB.out⟩⟩
      case rest =>
       clear HC63
       (try clear c1);(try clear c2);(try clear p2);(try clear c3);(try clear c4);(try clear c4b0);(try clear c5);(try clear c6);(try clear c7);(try clear c8);(try clear c12);(try clear c19);(try clear c21);(try clear c22);(try clear c24);(try clear c28);(try clear c29);(try clear c30);(try clear c34);(try clear c35);(try clear c36);(try clear c41);(try clear c42);(try clear c43);(try clear c44);(try clear c46)
       (try clear c47);(try clear c49);(try clear c50);(try clear c51);(try clear c52);(try clear c54);(try clear c55);(try clear c58);(try clear c61);(try clear c68);(try clear c69);(try clear c70);(try clear c73);(try clear c73b0);(try clear c75);(try clear c76);(try clear c77);(try clear c78);(try clear c80);(try clear c81);(try clear c84);(try clear c85);(try clear c86);(try clear c88);(try clear c89)
       (try clear hcz14_0);(try clear hcz14_1);(try clear hcz16_0);(try clear hcz16_1);(try clear hcz22_0);(try clear hcz22_1);(try clear hcz22_2);(try clear hcz25_0);(try clear hcz25_1);(try clear hcz30_0);(try clear hcz30_1);(try clear hcz37_0);(try clear hcz37_1);(try clear hcz37_2);(try clear hcz45_0);(try clear hcz45_1);(try clear hcz45_2);(try clear hcz48_0);(try clear hcz48_1);(try clear hcz48_2)
       (try clear hcz53_0);(try clear hcz53_1);(try clear hcz53_2);(try clear hcz56_0);(try clear hcz56_1);(try clear hcz56_2);(try clear hcz6_0);(try clear hcz6_1);(try clear hcz71_0);(try clear hcz71_1);(try clear hcz79_0);(try clear hcz79_1);(try clear hcz79_2);(try clear hcz82_0);(try clear hcz82_1);(try clear hcz82_2);(try clear hcz87_0);(try clear hcz87_1);(try clear hcz87_2);(try clear hcz90_0)
       (try clear hcz90_1);(try clear hcz90_2);(try clear hfz14_0);(try clear hfz14_1);(try clear hfz16_0);(try clear hfz16_1);(try clear hfz22_0);(try clear hfz22_1);(try clear hfz22_2);(try clear hfz25_0);(try clear hfz25_1);(try clear hfz30_0);(try clear hfz30_1);(try clear hfz37_0);(try clear hfz37_1);(try clear hfz37_2);(try clear hfz45_0);(try clear hfz45_1);(try clear hfz45_2);(try clear hfz48_0)
       (try clear hfz48_1);(try clear hfz48_2);(try clear hfz53_0);(try clear hfz53_1);(try clear hfz53_2);(try clear hfz56_0);(try clear hfz56_1);(try clear hfz56_2);(try clear hfz6_0);(try clear hfz6_1);(try clear hfz71_0);(try clear hfz71_1);(try clear hfz79_0);(try clear hfz79_1);(try clear hfz79_2);(try clear hfz82_0);(try clear hfz82_1);(try clear hfz82_2);(try clear hfz87_0);(try clear hfz87_1)
       (try clear hfz87_2);(try clear hfz90_0);(try clear hfz90_1);(try clear hfz90_2);(try clear p2)
       obtain ⟨kq, x65_62, rfl, HA, HJ62, HO_957001, HO_957002, HO_962001, HO_971001, HO_971002, BK942, BK956, BK961, BK970, HB⟩ := hcut
       have hl962001_62 := (Kd.R_reads' HO_962001.out).1
       rw [hl962001_62] at HO_962001
       (try simp only [hl962001_62])
       (try simp only [hl962001_62] at BK942)
       (try simp only [hl962001_62] at BK956)
       (try simp only [hl962001_62] at BK961)
       (try simp only [hl962001_62] at BK970)
       (try simp only [hl962001_62] at HO_957001)
       (try simp only [hl962001_62] at HO_957002)
       (try simp only [hl962001_62] at HO_971001)
       (try simp only [hl962001_62] at HO_971002)
       cases kq with
       | zero => exact absurd HA.out (by simp [laws_FnExactJacobiOfMoments.j1])
       | succ kj62 =>
        have H := HA.out
        clear HA
        simp only [laws_FnExactJacobiOfMoments.j1] at H
        by_cases c92 : x65_62 = true
        ·subst c92
         have H1 : (some false) = some r := by rw [if_pos rfl] at H; exact H
         clear H
         have H := H1
         clear H1
         rw [HRT.out] at H
         exact absurd H (by simp)
        ·replace c92 := Bool.eq_false_iff.mpr c92
         subst c92
         have H1 : ((laws_markJacobi.f kj62 t962 t963 t966 1).bind fun bt980 => ((laws_heldJacobi.f kj62 t962 bt980.2.1 bt980.2.2 1).bind fun t983 => (if t983 < 0 then (some false) else (if t983 = bt980.1 then ((laws_toMoments.f kj62 a0_0 l0_1).bind fun bt984 => ((impl_JacobiOfMoments.f kj62 bt984.1 bt984.2 a1).bind fun bt988 => ((laws_eqJacobi.f kj62 bt988.1 bt988.2.1 bt988.2.2.1 t948 t949 t952).bind fun t997 => (if t997 = true then (laws_FnExactJacobiOfMoments.j2 kj62 bt980.1 (bt988.2.2.2 != t955) t962 bt980.2.1 bt980.2.2) else (laws_FnExactJacobiOfMoments.j2 kj62 bt980.1 true t962 bt980.2.1 bt980.2.2))))) else (some false))))) = some r := by rw [if_neg (show ¬ (false = true) by decide)] at H; exact H
         clear H
         have H := H1
         clear H1
         replace H := Option.bind_eq_some_iff.mp H
         obtain ⟨⟨t980, t981, t982⟩, A930, H⟩ := H
         replace H : ((laws_heldJacobi.f kj62 t962 t981 t982 1).bind fun t983 => (if t983 < 0 then (some false) else (if t983 = t980 then ((laws_toMoments.f kj62 a0_0 l0_1).bind fun bt984 => ((impl_JacobiOfMoments.f kj62 bt984.1 bt984.2 a1).bind fun bt988 => ((laws_eqJacobi.f kj62 bt988.1 bt988.2.1 bt988.2.2.1 t948 t949 t952).bind fun t997 => (if t997 = true then (laws_FnExactJacobiOfMoments.j2 kj62 t980 (bt988.2.2.2 != t955) t962 t981 t982) else (laws_FnExactJacobiOfMoments.j2 kj62 t980 true t962 t981 t982))))) else (some false)))) = some r := H
         have A93 := zA A930
         clear A930
         replace H := Option.bind_eq_some_iff.mp H
         obtain ⟨t983, A940, H⟩ := H
         replace H : (if t983 < 0 then (some false) else (if t983 = t980 then ((laws_toMoments.f kj62 a0_0 l0_1).bind fun bt984 => ((impl_JacobiOfMoments.f kj62 bt984.1 bt984.2 a1).bind fun bt988 => ((laws_eqJacobi.f kj62 bt988.1 bt988.2.1 bt988.2.2.1 t948 t949 t952).bind fun t997 => (if t997 = true then (laws_FnExactJacobiOfMoments.j2 kj62 t980 (bt988.2.2.2 != t955) t962 t981 t982) else (laws_FnExactJacobiOfMoments.j2 kj62 t980 true t962 t981 t982))))) else (some false))) = some r := H
         have A94 := zA A940
         clear A940
         by_cases c95 : t983 < 0
         rotate_left
         ·rw [if_neg c95] at H
          have c95b0 : decide (t983 < 0) = false := decide_eq_false c95
          clear c95
          by_cases c96 : t983 = t980
          rotate_left
          ·rw [if_neg c96] at H
           have c96b0 : (t983 == t980) = false := beq_eq_false_iff_ne.mpr c96
           have c96b1 : (t983 != t980) = true := bne_iff_ne.mpr c96
           rw [HRT.out] at H
           exact absurd H (by simp)
          rw [if_pos c96] at H
          have c96b0 : (t983 == t980) = true := beq_iff_eq.mpr c96
          have c96b1 : (t983 != t980) = false := bne_eq_false_iff_eq.mpr c96
          clear c96
          replace H := Option.bind_eq_some_iff.mp H
          obtain ⟨⟨t984, t985⟩, A970, H⟩ := H
          replace H : ((impl_JacobiOfMoments.f kj62 t984 t985 a1).bind fun bt988 => ((laws_eqJacobi.f kj62 bt988.1 bt988.2.1 bt988.2.2.1 t948 t949 t952).bind fun t997 => (if t997 = true then (laws_FnExactJacobiOfMoments.j2 kj62 t980 (bt988.2.2.2 != t955) t962 t981 t982) else (laws_FnExactJacobiOfMoments.j2 kj62 t980 true t962 t981 t982)))) = some r := H
          have A97 := zA A970
          clear A970
          replace H := Option.bind_eq_some_iff.mp H
          obtain ⟨⟨t988, t989, t992, t995⟩, A980, H⟩ := H
          replace H : ((laws_eqJacobi.f kj62 t988 t989 t992 t948 t949 t952).bind fun t997 => (if t997 = true then (laws_FnExactJacobiOfMoments.j2 kj62 t980 (t995 != t955) t962 t981 t982) else (laws_FnExactJacobiOfMoments.j2 kj62 t980 true t962 t981 t982))) = some r := H
          have A98 := zA A980
          clear A980
          have HC99 := zA H
          clear H
          have hnb100 := NB970_942.out; have hnc100 := NB942_970.out; have hnb101 := NB970_956.out; have hnc101 := NB956_970.out; have hnb102 := NB970_961.out; have hnc102 := NB961_970.out
          have hcz103_0 := bc BK970 0
          have hcz103_1 := bc BK970 1
          have hcz103_2 := bc BK970 2
          have hfz103_0 := bf BK970 0
          have hfz103_1 := bf BK970 1
          have hfz103_2 := bf BK970 2
          go_upto_region 25 with (first | ((with_reducible refine gate_callee (f := 20) rfl ?_); refine gL (some 68) Try.func20 #[.agg #[.int .i64 t962, .slice Ao38 t963.length co38, .slice Ao39 t966.length co39], .int .i64 1] ?_; (with_reducible refine (laws_markJacobi.calls kj62 t962 (fun k_ => some k_ = (.slice Ao38 t963.length co38 : Value).ownBlock) (.slice Ao38 t963.length co38) t963 (fun k_ => some k_ = (.slice Ao39 t966.length co39 : Value).ownBlock) (.slice Ao39 t966.length co39) t966 1 t980 t981 t982 w _ ?side1 ?side2 ?side3 ?side4 ?side5 A93.out).mono ?_); (case side1 => repeat (first | (with_reducible first | exact HB.out | apply below_alloc | apply pw_below_drewN | apply below_drew1 | refine below_set ?_ GE942.out | refine below_set ?_ GE956.out | refine below_set ?_ GE961.out | refine below_set ?_ GE970.out) | exact HB.out)); (case side2 => exact Kd.R_tight rfl HO_971001.out); (case side3 => exact fun k_ e_ => (HO_971001.out.1 k_ e_.symm).2.2.2); (case side4 => exact Kd.R_tight rfl HO_971002.out); (case side5 => exact fun k_ e_ => (HO_971002.out.1 k_ e_.symm).2.2.2); rintro e w104 ⟨rfl, hy0, hy1, hb, hkp⟩; refine ⟨_, rfl, ?_⟩; replace HO_957001 := zA (Kd.R_mono (ok' := fun k_ => ax k_ (.slice Ao24 t952.length co24) ∧ ax k_ (.slice Ao31 t978.length co31) ∧ ax k_ (.slice Ao38 t963.length co38) ∧ ax k_ (.slice Ao39 t966.length co39)) (Kd.R_keptB (HO_957001.out) hkp (fun k_ hk_ hs_ => Or.elim hs_ (fun e_ => (hk_.2.2.1) e_) (fun e_ => (hk_.2.2.2) e_))) (fun k_ hk_ => ⟨hk_.1.1, hk_.1.2.1, hk_.1.2.2.1, hk_.1.2.2.2⟩)); replace HO_957002 := zA (Kd.R_mono (ok' := fun k_ => ax k_ (.slice Ao23 t949.length co23) ∧ ax k_ (.slice Ao31 t978.length co31) ∧ ax k_ (.slice Ao38 t963.length co38) ∧ ax k_ (.slice Ao39 t966.length co39)) (Kd.R_keptB (HO_957002.out) hkp (fun k_ hk_ hs_ => Or.elim hs_ (fun e_ => (hk_.2.2.1) e_) (fun e_ => (hk_.2.2.2) e_))) (fun k_ hk_ => ⟨hk_.1.1, hk_.1.2.1, hk_.1.2.2.1, hk_.1.2.2.2⟩)); replace HO_962001 := zA (Kd.R_mono (ok' := fun k_ => ax k_ (.slice Ao23 t949.length co23) ∧ ax k_ (.slice Ao24 t952.length co24) ∧ ax k_ (.slice Ao38 t963.length co38) ∧ ax k_ (.slice Ao39 t966.length co39)) (Kd.R_keptB (HO_962001.out) hkp (fun k_ hk_ hs_ => Or.elim hs_ (fun e_ => (hk_.2.2.1) e_) (fun e_ => (hk_.2.2.2) e_))) (fun k_ hk_ => ⟨hk_.1.1, hk_.1.2.1, hk_.1.2.2.1, hk_.1.2.2.2⟩)); replace BK942 := zA (blk_kept (uB BK942.out) hkp (fun hs_ => Or.elim hs_ (fun e_ => (fun e_ => (Kd.R_ne HO_971001.out BK942.out (by decide)) e_) e_) (fun e_ => (fun e_ => (Kd.R_ne HO_971002.out BK942.out (by decide)) e_) e_))); replace BK956 := zA (blk_kept (uB BK956.out) hkp (fun hs_ => Or.elim hs_ (fun e_ => (fun e_ => (Kd.R_ne HO_971001.out BK956.out (by decide)) e_) e_) (fun e_ => (fun e_ => (Kd.R_ne HO_971002.out BK956.out (by decide)) e_) e_))); replace BK961 := zA (blk_kept (uB BK961.out) hkp (fun hs_ => Or.elim hs_ (fun e_ => (fun e_ => (Kd.R_ne HO_971001.out BK961.out (by decide)) e_) e_) (fun e_ => (fun e_ => (Kd.R_ne HO_971002.out BK961.out (by decide)) e_) e_))); replace BK970 := zA (blk_kept (uB BK970.out) hkp (fun hs_ => Or.elim hs_ (fun e_ => (fun e_ => (Kd.R_ne HO_971001.out BK970.out (by decide)) e_) e_) (fun e_ => (fun e_ => (Kd.R_ne HO_971002.out BK970.out (by decide)) e_) e_))); replace HO_971001 := zA (Kd.R_reok rfl hy0 (fun k_ e_ => HO_971001.out.1 k_ e_)); replace HO_971002 := zA (Kd.R_reok rfl hy1 (fun k_ e_ => HO_971002.out.1 k_ e_)); replace HB := zA (hb); (try clear hb); (try clear hkp); (try clear hy0); (try clear hy1); have hcz105_0 := bc BK970 0; have hcz105_1 := bc BK970 1; have hcz105_2 := bc BK970 2; have hfz105_0 := bf BK970 0; have hfz105_1 := bf BK970 1; have hfz105_2 := bf BK970 2) | ((with_reducible refine gate_callee (f := 21) rfl ?_); refine goesL_ (some 71) rfl rfl Try.func21 (by kernel_rfl) rfl #[.agg #[.int .i64 t962, .slice Ao38 t981.length co38, .slice Ao39 t982.length co39], .int .i64 1] rfl (by (try simp only [la, lb, lc]); first | done | (rw [show t981.length = t963.length from (Kd.R_reads' HO_971001.out).1.symm, show t982.length = t966.length from (Kd.R_reads' HO_971002.out).1.symm] <;> rfl) | rfl | (simp only [ld, le]; rfl)) ?_; (with_reducible refine (laws_heldJacobi.calls kj62 t962 _ _ t981 _ _ t982 1 t983 _ ?side1 ?side2 ?side3 ?side4 A94.out).mono ?_); (case side1 => exact uC ((Kd.R_reads' HO_971001.out).2.2)); (case side2 => rw [show t981.length = t963.length from (Kd.R_reads' HO_971001.out).1.symm]; exact (Kd.R_reads' HO_971001.out).2.1); (case side3 => exact uC ((Kd.R_reads' HO_971002.out).2.2)); (case side4 => rw [show t982.length = t966.length from (Kd.R_reads' HO_971002.out).1.symm]; exact (Kd.R_reads' HO_971002.out).2.1); rintro e w106 ⟨rfl, hb⟩; refine ⟨_, rfl, ?_⟩; replace HO_957001 := xR HO_957001 hb; replace HO_957002 := xR HO_957002 hb; replace HO_962001 := xR HO_962001 hb; replace HO_971001 := xR HO_971001 hb; replace HO_971002 := xR HO_971002 hb; replace BK942 := xB BK942 hb; replace BK956 := xB BK956 hb; replace BK961 := xB BK961 hb; replace BK970 := xB BK970 hb; replace HB := xH HB hb; (try clear hb); (try clear hb2); (try clear hk); (try clear hi); have hnb107 := NB942_956.out; have hnc107 := NB956_942.out; have hnb108 := NB942_961.out; have hnc108 := NB961_942.out; have hcz109_0 := bc BK942 0; have hcz109_1 := bc BK942 1; have hfz109_0 := bf BK942 0; have hfz109_1 := bf BK942 1) | ((with_reducible refine gate_callee (f := 24) rfl ?_); refine gL (some 79) Try.func24 #[.agg #[.int .i64 a0_0, .slice A0_1 l0_1.length c0_1]] ?_; (with_reducible refine (laws_toMoments.calls kj62 a0_0 _ _ l0_1 t984 t985 _ ?side1 ?side2 A97.out).mono ?_); (case side1 => exact uC ((Kd.C_below HR0_1.out HB.out))); (case side2 => exact HC0_1.out); rintro e w110 ⟨v986, rfl, ho0, hb⟩; refine ⟨_, rfl, ?_⟩; have HO987 := zA (Kd.R_lower (Kd.R_new' (Kd.R_new' (Kd.R_new' (Kd.R_new' (Kd.R_new' ho0 (Kd.R_lt (uR HO_957001.out))) (Kd.R_lt (uR HO_957002.out))) (Kd.R_lt (uR HO_962001.out))) (Kd.R_lt (uR HO_971001.out))) (Kd.R_lt (uR HO_971002.out))) (below_size (uH HB.out))); replace HO_957001 := zA (Kd.R_elder' (uR HO_957001.out) (Kd.R_base ho0) hb); replace HO_957002 := zA (Kd.R_elder' (uR HO_957002.out) (Kd.R_base ho0) hb); replace HO_962001 := zA (Kd.R_elder' (uR HO_962001.out) (Kd.R_base ho0) hb); replace HO_971001 := zA (Kd.R_elder' (uR HO_971001.out) (Kd.R_base ho0) hb); replace HO_971002 := zA (Kd.R_elder' (uR HO_971002.out) (Kd.R_base ho0) hb); replace BK942 := xB BK942 hb; replace BK956 := xB BK956 hb; replace BK961 := xB BK961 hb; replace BK970 := xB BK970 hb; replace HB := xH HB hb; (try clear hb); (try clear hb2); (try clear hk); (try clear hi); (try clear ho0); obtain ⟨Ao111, co111, eo111⟩ := Kd.R_slice HO987.out; subst eo111) | ((with_reducible refine gate_callee (f := 50) rfl ?_); refine gL (some 81) Try.func50 #[.agg #[.int .i64 t984, .slice Ao111 t985.length co111], .int .i64 a1] ?_; (with_reducible refine (impl_JacobiOfMoments.calls kj62 t984 _ _ t985 a1 t988 t989 t992 t995 _ ?side1 ?side2 A98.out).mono ?_); (case side1 => exact uC ((Kd.R_reads' HO987.out).2.2)); (case side2 => exact (Kd.R_reads' HO987.out).2.1); rintro e w112 ⟨v990, v993, rfl, ho0, ho1, hb⟩; refine ⟨_, rfl, ?_⟩; have HO991 := zA (Kd.R_lower (Kd.R_new' (Kd.R_new' (Kd.R_new' (Kd.R_new' (Kd.R_new' (Kd.R_new' ho0 (Kd.R_lt (uR HO_957001.out))) (Kd.R_lt (uR HO_957002.out))) (Kd.R_lt (uR HO_962001.out))) (Kd.R_lt (uR HO_971001.out))) (Kd.R_lt (uR HO_971002.out))) (Kd.R_lt (uR HO987.out))) (below_size (uH HB.out))); have HO994 := zA (Kd.R_lower (Kd.R_new' (Kd.R_new' (Kd.R_new' (Kd.R_new' (Kd.R_new' (Kd.R_new' ho1 (Kd.R_lt (uR HO_957001.out))) (Kd.R_lt (uR HO_957002.out))) (Kd.R_lt (uR HO_962001.out))) (Kd.R_lt (uR HO_971001.out))) (Kd.R_lt (uR HO_971002.out))) (Kd.R_lt (uR HO987.out))) (below_size (uH HB.out))); replace HO_957001 := zA (Kd.R_mono (Kd.R_told (Kd.R_told (Kd.R_old (uR HO_957001.out) hb) (Kd.R_base ho0)) (Kd.R_base ho1)) (fun _ h_ => h_.1)); replace HO_957002 := zA (Kd.R_mono (Kd.R_told (Kd.R_told (Kd.R_old (uR HO_957002.out) hb) (Kd.R_base ho0)) (Kd.R_base ho1)) (fun _ h_ => h_.1)); replace HO_962001 := zA (Kd.R_mono (Kd.R_told (Kd.R_told (Kd.R_old (uR HO_962001.out) hb) (Kd.R_base ho0)) (Kd.R_base ho1)) (fun _ h_ => h_.1)); replace HO_971001 := zA (Kd.R_mono (Kd.R_told (Kd.R_told (Kd.R_old (uR HO_971001.out) hb) (Kd.R_base ho0)) (Kd.R_base ho1)) (fun _ h_ => h_.1)); replace HO_971002 := zA (Kd.R_mono (Kd.R_told (Kd.R_told (Kd.R_old (uR HO_971002.out) hb) (Kd.R_base ho0)) (Kd.R_base ho1)) (fun _ h_ => h_.1)); replace HO987 := zA (Kd.R_mono (Kd.R_told (Kd.R_told (Kd.R_old (uR HO987.out) hb) (Kd.R_base ho0)) (Kd.R_base ho1)) (fun _ h_ => h_.1)); replace BK942 := xB BK942 hb; replace BK956 := xB BK956 hb; replace BK961 := xB BK961 hb; replace BK970 := xB BK970 hb; replace HB := xH HB hb; (try clear hb); (try clear hb2); (try clear hk); (try clear hi); (try clear ho0); (try clear ho1)) | ((with_reducible refine gate_dst (N := 14) rfl ?_); refine bx 14 #[.int .i64 0, .slice none 0 0, .slice none 0 0] 26 ?_; intro gb996 hg w113 hbox hb; replace HO_957001 := xR HO_957001 hb; replace HO_957002 := xR HO_957002 hb; replace HO_962001 := xR HO_962001 hb; replace HO_971001 := xR HO_971001 hb; replace HO_971002 := xR HO_971002 hb; replace HO987 := xR HO987 hb; replace HO991 := xR HO991 hb; replace HO994 := xR HO994 hb; have BK996 := zA (hbox); have GW996 := gq HB hg; have GE996 := gq HB hg; replace HB := xH HB hb; have NB942_996 := zA ((by rw [hg]; exact neL BK942 : gb942 ≠ gb996)); have NB996_942 := zA ((by rw [hg]; exact neG BK942 : gb996 ≠ gb942)); replace BK942 := xB BK942 hb; have NB956_996 := zA ((by rw [hg]; exact neL BK956 : gb956 ≠ gb996)); have NB996_956 := zA ((by rw [hg]; exact neG BK956 : gb996 ≠ gb956)); replace BK956 := xB BK956 hb; have NB961_996 := zA ((by rw [hg]; exact neL BK961 : gb961 ≠ gb996)); have NB996_961 := zA ((by rw [hg]; exact neG BK961 : gb996 ≠ gb961)); replace BK961 := xB BK961 hb; have NB970_996 := zA ((by rw [hg]; exact neL BK970 : gb970 ≠ gb996)); have NB996_970 := zA ((by rw [hg]; exact neG BK970 : gb996 ≠ gb970)); replace BK970 := xB BK970 hb; have := geI GE996; clear hb hbox hg; have hnb114 := NB996_942.out; have hnc114 := NB942_996.out; have hnb115 := NB996_956.out; have hnc115 := NB956_996.out; have hnb116 := NB996_961.out; have hnc116 := NB961_996.out; have hnb117 := NB996_970.out; have hnc117 := NB970_996.out; have hcz118_0 := bc BK996 0; have hcz118_1 := bc BK996 1; have hcz118_2 := bc BK996 2; have hfz118_0 := bf BK996 0; have hfz118_1 := bf BK996 1; have hfz118_2 := bf BK996 2; obtain ⟨Ao119, co119, eo119⟩ := Kd.R_slice HO991.out; subst eo119; obtain ⟨Ao120, co120, eo120⟩ := Kd.R_slice HO994.out; subst eo120))
          (try simp only [Act.put, ls, lz, ln])
          go_cut [92] (fun v92 wc => ∃ (kq : Nat) (x92_98 : Bool), v92 = .bool x92_98 ∧ Aside0 (laws_FnExactJacobiOfMoments.j2 kq t980 x92_98 t962 t981 t982 = some r) ∧ Aside0 (kq ≤ kj62) ∧ Aside0 (Kd.R (Kd.int .i64) 2 wc w.heap.size (fun k_ => ax k_ (.slice Ao24 t952.length co24) ∧ ax k_ (.slice Ao31 t978.length co31) ∧ ax k_ (.slice Ao38 t963.length co38) ∧ ax k_ (.slice Ao39 t966.length co39) ∧ ax k_ (.slice Ao119 t989.length co119) ∧ ax k_ (.slice Ao120 t992.length co120)) (.slice Ao23 t949.length co23) t949) ∧ Aside0 (Kd.R (Kd.int .i64) 2 wc w.heap.size (fun k_ => ax k_ (.slice Ao23 t949.length co23) ∧ ax k_ (.slice Ao31 t978.length co31) ∧ ax k_ (.slice Ao38 t963.length co38) ∧ ax k_ (.slice Ao39 t966.length co39) ∧ ax k_ (.slice Ao119 t989.length co119) ∧ ax k_ (.slice Ao120 t992.length co120)) (.slice Ao24 t952.length co24) t952) ∧ Aside0 (Kd.R (Kd.int .i64) 2 wc w.heap.size (fun k_ => ax k_ (.slice Ao23 t949.length co23) ∧ ax k_ (.slice Ao24 t952.length co24) ∧ ax k_ (.slice Ao38 t963.length co38) ∧ ax k_ (.slice Ao39 t966.length co39) ∧ ax k_ (.slice Ao119 t989.length co119) ∧ ax k_ (.slice Ao120 t992.length co120)) (.slice Ao31 t978.length co31) t978) ∧ Aside0 (Kd.R (Kd.int .i64) 2 wc w.heap.size (fun k_ => ax k_ (.slice Ao23 t949.length co23) ∧ ax k_ (.slice Ao24 t952.length co24) ∧ ax k_ (.slice Ao31 t978.length co31) ∧ ax k_ (.slice Ao39 t966.length co39) ∧ ax k_ (.slice Ao119 t989.length co119) ∧ ax k_ (.slice Ao120 t992.length co120)) (.slice Ao38 t963.length co38) t981) ∧ Aside0 (Kd.R (Kd.int .i64) 2 wc w.heap.size (fun k_ => ax k_ (.slice Ao23 t949.length co23) ∧ ax k_ (.slice Ao24 t952.length co24) ∧ ax k_ (.slice Ao31 t978.length co31) ∧ ax k_ (.slice Ao38 t963.length co38) ∧ ax k_ (.slice Ao119 t989.length co119) ∧ ax k_ (.slice Ao120 t992.length co120)) (.slice Ao39 t966.length co39) t982) ∧ Aside0 (Kd.R (Kd.int .i64) 2 wc w.heap.size (fun k_ => ax k_ (.slice Ao23 t949.length co23) ∧ ax k_ (.slice Ao24 t952.length co24) ∧ ax k_ (.slice Ao31 t978.length co31) ∧ ax k_ (.slice Ao38 t963.length co38) ∧ ax k_ (.slice Ao39 t966.length co39) ∧ ax k_ (.slice Ao120 t992.length co120)) (.slice Ao119 t989.length co119) t989) ∧ Aside0 (Kd.R (Kd.int .i64) 2 wc w.heap.size (fun k_ => ax k_ (.slice Ao23 t949.length co23) ∧ ax k_ (.slice Ao24 t952.length co24) ∧ ax k_ (.slice Ao31 t978.length co31) ∧ ax k_ (.slice Ao38 t963.length co38) ∧ ax k_ (.slice Ao39 t966.length co39) ∧ ax k_ (.slice Ao119 t989.length co119)) (.slice Ao120 t992.length co120) t992) ∧ Aside0 (wc.heap[gb942]? = some (.cells #[.int .i64 a0_0, (.slice A0_1 l0_1.length c0_1)] 34 (0, 0))) ∧ Aside0 (wc.heap[gb956]? = some (.cells #[.int .i64 t948, (.slice Ao23 t949.length co23), (.slice Ao24 t952.length co24)] 26 (0, 0))) ∧ Aside0 (wc.heap[gb961]? = some (.cells #[.int .i64 t957, (.slice Ao31 t978.length co31)] 40 (0, 0))) ∧ Aside0 (wc.heap[gb970]? = some (.cells #[.int .i64 t962, (.slice Ao38 t963.length co38), (.slice Ao39 t966.length co39)] 26 (0, 0))) ∧ Aside0 (wc.heap[gb996]? = some (.cells #[.int .i64 t988, (.slice Ao119 t989.length co119), (.slice Ao120 t992.length co120)] 26 (0, 0))) ∧ Aside0 (Below w.heap.size w wc))
          case first =>
           have H := HC99.out
           clear HC99
           replace H := Option.bind_eq_some_iff.mp H
           obtain ⟨t997, A1210, H⟩ := H
           replace H : (if t997 = true then (laws_FnExactJacobiOfMoments.j2 kj62 t980 (t995 != t955) t962 t981 t982) else (laws_FnExactJacobiOfMoments.j2 kj62 t980 true t962 t981 t982)) = some r := H
           have A121 := zA A1210
           clear A1210
           by_cases c122 : t997 = true
           ·subst c122
            have H1 : (laws_FnExactJacobiOfMoments.j2 kj62 t980 (t995 != t955) t962 t981 t982) = some r := by rw [if_pos rfl] at H; exact H
            clear H
            have H := H1
            clear H1
            have H' := zA H
            clear H
            have hnb123 := NB996_942.out; have hnc123 := NB942_996.out; have hnb124 := NB996_956.out; have hnc124 := NB956_996.out; have hnb125 := NB996_961.out; have hnc125 := NB961_996.out; have hnb126 := NB996_970.out; have hnc126 := NB970_996.out
            have hcz127_0 := bc BK996 0
            have hcz127_1 := bc BK996 1
            have hcz127_2 := bc BK996 2
            have hfz127_0 := bf BK996 0
            have hfz127_1 := bf BK996 1
            have hfz127_2 := bf BK996 2
            have hnb128 := NB956_942.out; have hnc128 := NB942_956.out; have hnb129 := NB956_961.out; have hnc129 := NB961_956.out; have hnb130 := NB956_970.out; have hnc130 := NB970_956.out
            have hcz131_0 := bc BK956 0
            have hcz131_1 := bc BK956 1
            have hcz131_2 := bc BK956 2
            have hfz131_0 := bf BK956 0
            have hfz131_1 := bf BK956 1
            have hfz131_2 := bf BK956 2
            go_wp2_with (first | ((with_reducible refine gate_callee (f := 19) rfl ?_); refine gL (some 86) Try.func19 #[.agg #[.int .i64 t988, .slice Ao119 t989.length co119, .slice Ao120 t992.length co120], .agg #[.int .i64 t948, .slice Ao23 t949.length co23, .slice Ao24 t952.length co24]] ?_; (with_reducible refine (laws_eqJacobi.calls kj62 t988 _ _ t989 _ _ t992 t948 _ _ t949 _ _ t952 true _ ?side1 ?side2 ?side3 ?side4 ?side5 ?side6 ?side7 ?side8 A121.out).mono ?_); (case side1 => refine (Kd.R_reads' (e := 2) (base := w.heap.size) (ok := fun k_ => ((((((ax k_ (.slice Ao120 t992.length co120) ∧ ax k_ (.slice Ao23 t949.length co23)) ∧ ax k_ (.slice Ao24 t952.length co24)) ∧ ax k_ (.slice Ao31 t978.length co31)) ∧ ax k_ (.slice Ao38 t963.length co38)) ∧ ax k_ (.slice Ao39 t966.length co39)) ∧ ax k_ (.slice Ao111 t985.length co111))) (n := t989.length) (c := co119) ?_).2.2; exact (uR ((rf3 HO991 BK996 (by decide) (.int .i64 t988) (.slice Ao119 t989.length co119) (.slice Ao120 t992.length co120))))); (case side2 => exact (Kd.R_reads' HO991.out).2.1); (case side3 => refine (Kd.R_reads' (e := 2) (base := w.heap.size) (ok := fun k_ => ((((((ax k_ (.slice Ao119 t989.length co119) ∧ ax k_ (.slice Ao23 t949.length co23)) ∧ ax k_ (.slice Ao24 t952.length co24)) ∧ ax k_ (.slice Ao31 t978.length co31)) ∧ ax k_ (.slice Ao38 t963.length co38)) ∧ ax k_ (.slice Ao39 t966.length co39)) ∧ ax k_ (.slice Ao111 t985.length co111))) (n := t992.length) (c := co120) ?_).2.2; exact (uR ((rf3 HO994 BK996 (by decide) (.int .i64 t988) (.slice Ao119 t989.length co119) (.slice Ao120 t992.length co120))))); (case side4 => exact (Kd.R_reads' HO994.out).2.1); (case side5 => refine (Kd.R_reads' (e := 2) (base := w.heap.size) (ok := fun k_ => ((((ax k_ (.slice Ao24 t952.length co24) ∧ (ax k_ (.slice Ao31 t978.length co31) ∧ (ax k_ (.slice Ao38 t963.length co38) ∧ ax k_ (.slice Ao39 t966.length co39)))) ∧ ax k_ (.slice Ao111 t985.length co111)) ∧ ax k_ (.slice Ao119 t989.length co119)) ∧ ax k_ (.slice Ao120 t992.length co120))) (n := t949.length) (c := co23) ?_).2.2; exact (uR ((rf3 HO_957001 BK996 (by decide) (.int .i64 t988) (.slice Ao119 t989.length co119) (.slice Ao120 t992.length co120))))); (case side6 => exact (Kd.R_reads' HO_957001.out).2.1); (case side7 => refine (Kd.R_reads' (e := 2) (base := w.heap.size) (ok := fun k_ => ((((ax k_ (.slice Ao23 t949.length co23) ∧ (ax k_ (.slice Ao31 t978.length co31) ∧ (ax k_ (.slice Ao38 t963.length co38) ∧ ax k_ (.slice Ao39 t966.length co39)))) ∧ ax k_ (.slice Ao111 t985.length co111)) ∧ ax k_ (.slice Ao119 t989.length co119)) ∧ ax k_ (.slice Ao120 t992.length co120))) (n := t952.length) (c := co24) ?_).2.2; exact (uR ((rf3 HO_957002 BK996 (by decide) (.int .i64 t988) (.slice Ao119 t989.length co119) (.slice Ao120 t992.length co120))))); (case side8 => exact (Kd.R_reads' HO_957002.out).2.1); rintro e w132 ⟨rfl, hb⟩; refine ⟨_, rfl, ?_⟩; replace HO_957001 := zA (Kd.R_below (uR ((rf3 HO_957001 BK996 (by decide) (.int .i64 t988) (.slice Ao119 t989.length co119) (.slice Ao120 t992.length co120)))) hb); replace HO_957002 := zA (Kd.R_below (uR ((rf3 HO_957002 BK996 (by decide) (.int .i64 t988) (.slice Ao119 t989.length co119) (.slice Ao120 t992.length co120)))) hb); replace HO_962001 := zA (Kd.R_below (uR ((rf3 HO_962001 BK996 (by decide) (.int .i64 t988) (.slice Ao119 t989.length co119) (.slice Ao120 t992.length co120)))) hb); replace HO_971001 := zA (Kd.R_below (uR ((rf3 HO_971001 BK996 (by decide) (.int .i64 t988) (.slice Ao119 t989.length co119) (.slice Ao120 t992.length co120)))) hb); replace HO_971002 := zA (Kd.R_below (uR ((rf3 HO_971002 BK996 (by decide) (.int .i64 t988) (.slice Ao119 t989.length co119) (.slice Ao120 t992.length co120)))) hb); replace HO987 := zA (Kd.R_below (uR ((rf3 HO987 BK996 (by decide) (.int .i64 t988) (.slice Ao119 t989.length co119) (.slice Ao120 t992.length co120)))) hb); replace HO991 := zA (Kd.R_below (uR ((rf3 HO991 BK996 (by decide) (.int .i64 t988) (.slice Ao119 t989.length co119) (.slice Ao120 t992.length co120)))) hb); replace HO994 := zA (Kd.R_below (uR ((rf3 HO994 BK996 (by decide) (.int .i64 t988) (.slice Ao119 t989.length co119) (.slice Ao120 t992.length co120)))) hb); replace BK942 := zA (blk_below (g := gb942) (o := .cells #[.int .i64 a0_0, .slice A0_1 l0_1.length c0_1] 34 (0, 0)) (by (repeat refine up1 ?_); refine blk_far ?_ NB942_996.out _; (repeat refine up1 ?_); refine blk_far ?_ NB942_996.out _; (repeat refine up1 ?_); refine blk_far ?_ NB942_996.out _; (repeat refine up1 ?_); exact BK942.out) hb); replace BK956 := zA (blk_below (g := gb956) (o := .cells #[.int .i64 t948, .slice Ao23 t949.length co23, .slice Ao24 t952.length co24] 26 (0, 0)) (by (repeat refine up1 ?_); refine blk_far ?_ NB956_996.out _; (repeat refine up1 ?_); refine blk_far ?_ NB956_996.out _; (repeat refine up1 ?_); refine blk_far ?_ NB956_996.out _; (repeat refine up1 ?_); exact BK956.out) hb); replace BK961 := zA (blk_below (g := gb961) (o := .cells #[.int .i64 t957, .slice Ao31 t978.length co31] 40 (0, 0)) (by (repeat refine up1 ?_); refine blk_far ?_ NB961_996.out _; (repeat refine up1 ?_); refine blk_far ?_ NB961_996.out _; (repeat refine up1 ?_); refine blk_far ?_ NB961_996.out _; (repeat refine up1 ?_); exact BK961.out) hb); replace BK970 := zA (blk_below (g := gb970) (o := .cells #[.int .i64 t962, .slice Ao38 t963.length co38, .slice Ao39 t966.length co39] 26 (0, 0)) (by (repeat refine up1 ?_); refine blk_far ?_ NB970_996.out _; (repeat refine up1 ?_); refine blk_far ?_ NB970_996.out _; (repeat refine up1 ?_); refine blk_far ?_ NB970_996.out _; (repeat refine up1 ?_); exact BK970.out) hb); replace BK996 := zA (blk_below (g := gb996) (o := .cells #[.int .i64 t988, .slice Ao119 t989.length co119, .slice Ao120 t992.length co120] 26 (0, 0)) (by (repeat refine up1 ?_); refine blk_put (cs := #[.int .i64 t988, .slice Ao119 t989.length co119, .slice none 0 0]) ?_ 2 _ rfl; (repeat refine up1 ?_); refine blk_put (cs := #[.int .i64 t988, .slice none 0 0, .slice none 0 0]) ?_ 1 _ rfl; (repeat refine up1 ?_); refine blk_put (cs := #[.int .i64 0, .slice none 0 0, .slice none 0 0]) ?_ 0 _ rfl; (repeat refine up1 ?_); exact BK996.out) hb); replace HB := xH HB hb; (try clear hb); (try clear hb2); (try clear hk); (try clear hi)))
            go_meet
            case rel => exact ⟨_, ((t995 != t955)), (by first | rfl | (simp; done) | (simp [*]; done)), H', ⟨by have := HJ11.out; have := HJ62.out; first | omega | exact Nat.le_refl _⟩, ⟨by (try simp only [hl962001_62]); (with_reducible repeat (first | apply Kd.R_alloc | apply Kd.R_drewN | apply Kd.R_drew)); exact Kd.R_mono HO_957001.out (fun _ hk => ⟨hk.1.1.1.1, ⟨hk.1.1.1.2.1, ⟨hk.1.1.1.2.2.1, ⟨hk.1.1.1.2.2.2, ⟨hk.1.2, hk.2⟩⟩⟩⟩⟩)⟩, ⟨by (try simp only [hl962001_62]); (with_reducible repeat (first | apply Kd.R_alloc | apply Kd.R_drewN | apply Kd.R_drew)); exact Kd.R_mono HO_957002.out (fun _ hk => ⟨hk.1.1.1.1, ⟨hk.1.1.1.2.1, ⟨hk.1.1.1.2.2.1, ⟨hk.1.1.1.2.2.2, ⟨hk.1.2, hk.2⟩⟩⟩⟩⟩)⟩, ⟨by (try simp only [hl962001_62]); (with_reducible repeat (first | apply Kd.R_alloc | apply Kd.R_drewN | apply Kd.R_drew)); exact Kd.R_mono HO_962001.out (fun _ hk => ⟨hk.1.1.1.1, ⟨hk.1.1.1.2.1, ⟨hk.1.1.1.2.2.1, ⟨hk.1.1.1.2.2.2, ⟨hk.1.2, hk.2⟩⟩⟩⟩⟩)⟩, ⟨by (try simp only [hl962001_62]); (with_reducible repeat (first | apply Kd.R_alloc | apply Kd.R_drewN | apply Kd.R_drew)); exact Kd.R_mono HO_971001.out (fun _ hk => ⟨hk.1.1.1.1, ⟨hk.1.1.1.2.1, ⟨hk.1.1.1.2.2.1, ⟨hk.1.1.1.2.2.2, ⟨hk.1.2, hk.2⟩⟩⟩⟩⟩)⟩, ⟨by (try simp only [hl962001_62]); (with_reducible repeat (first | apply Kd.R_alloc | apply Kd.R_drewN | apply Kd.R_drew)); exact Kd.R_mono HO_971002.out (fun _ hk => ⟨hk.1.1.1.1, ⟨hk.1.1.1.2.1, ⟨hk.1.1.1.2.2.1, ⟨hk.1.1.1.2.2.2, ⟨hk.1.2, hk.2⟩⟩⟩⟩⟩)⟩, ⟨by (try simp only [hl962001_62]); (with_reducible repeat (first | apply Kd.R_alloc | apply Kd.R_drewN | apply Kd.R_drew)); exact Kd.R_mono HO991.out (fun _ hk => ⟨hk.1.1.1.1.1.2, ⟨hk.1.1.1.1.2, ⟨hk.1.1.1.2, ⟨hk.1.1.2, ⟨hk.1.2, hk.1.1.1.1.1.1⟩⟩⟩⟩⟩)⟩, ⟨by (try simp only [hl962001_62]); (with_reducible repeat (first | apply Kd.R_alloc | apply Kd.R_drewN | apply Kd.R_drew)); exact Kd.R_mono HO994.out (fun _ hk => ⟨hk.1.1.1.1.1.2, ⟨hk.1.1.1.1.2, ⟨hk.1.1.1.2, ⟨hk.1.1.2, ⟨hk.1.2, hk.1.1.1.1.1.1⟩⟩⟩⟩⟩)⟩, ⟨by (try simp only [hl962001_62]); (repeat refine up1 ?_); exact BK942.out⟩, ⟨by (try simp only [hl962001_62]); (repeat refine up1 ?_); exact BK956.out⟩, ⟨by (try simp only [hl962001_62]); (repeat refine up1 ?_); exact BK961.out⟩, ⟨by (try simp only [hl962001_62]); (repeat refine up1 ?_); exact BK970.out⟩, ⟨by (try simp only [hl962001_62]); (repeat refine up1 ?_); exact BK996.out⟩, ⟨uH HB.out⟩⟩
           ·replace c122 := Bool.eq_false_iff.mpr c122
            subst c122
            have H1 : (laws_FnExactJacobiOfMoments.j2 kj62 t980 true t962 t981 t982) = some r := by rw [if_neg (show ¬ (false = true) by decide)] at H; exact H
            clear H
            have H := H1
            clear H1
            have H' := zA H
            clear H
            have hnb133 := NB996_942.out; have hnc133 := NB942_996.out; have hnb134 := NB996_956.out; have hnc134 := NB956_996.out; have hnb135 := NB996_961.out; have hnc135 := NB961_996.out; have hnb136 := NB996_970.out; have hnc136 := NB970_996.out
            have hcz137_0 := bc BK996 0
            have hcz137_1 := bc BK996 1
            have hcz137_2 := bc BK996 2
            have hfz137_0 := bf BK996 0
            have hfz137_1 := bf BK996 1
            have hfz137_2 := bf BK996 2
            have hnb138 := NB956_942.out; have hnc138 := NB942_956.out; have hnb139 := NB956_961.out; have hnc139 := NB961_956.out; have hnb140 := NB956_970.out; have hnc140 := NB970_956.out
            have hcz141_0 := bc BK956 0
            have hcz141_1 := bc BK956 1
            have hcz141_2 := bc BK956 2
            have hfz141_0 := bf BK956 0
            have hfz141_1 := bf BK956 1
            have hfz141_2 := bf BK956 2
            go_wp2_with (first | ((with_reducible refine gate_callee (f := 19) rfl ?_); refine gL (some 86) Try.func19 #[.agg #[.int .i64 t988, .slice Ao119 t989.length co119, .slice Ao120 t992.length co120], .agg #[.int .i64 t948, .slice Ao23 t949.length co23, .slice Ao24 t952.length co24]] ?_; (with_reducible refine (laws_eqJacobi.calls kj62 t988 _ _ t989 _ _ t992 t948 _ _ t949 _ _ t952 false _ ?side1 ?side2 ?side3 ?side4 ?side5 ?side6 ?side7 ?side8 A121.out).mono ?_); (case side1 => refine (Kd.R_reads' (e := 2) (base := w.heap.size) (ok := fun k_ => ((((((ax k_ (.slice Ao120 t992.length co120) ∧ ax k_ (.slice Ao23 t949.length co23)) ∧ ax k_ (.slice Ao24 t952.length co24)) ∧ ax k_ (.slice Ao31 t978.length co31)) ∧ ax k_ (.slice Ao38 t963.length co38)) ∧ ax k_ (.slice Ao39 t966.length co39)) ∧ ax k_ (.slice Ao111 t985.length co111))) (n := t989.length) (c := co119) ?_).2.2; exact (uR ((rf3 HO991 BK996 (by decide) (.int .i64 t988) (.slice Ao119 t989.length co119) (.slice Ao120 t992.length co120))))); (case side2 => exact (Kd.R_reads' HO991.out).2.1); (case side3 => refine (Kd.R_reads' (e := 2) (base := w.heap.size) (ok := fun k_ => ((((((ax k_ (.slice Ao119 t989.length co119) ∧ ax k_ (.slice Ao23 t949.length co23)) ∧ ax k_ (.slice Ao24 t952.length co24)) ∧ ax k_ (.slice Ao31 t978.length co31)) ∧ ax k_ (.slice Ao38 t963.length co38)) ∧ ax k_ (.slice Ao39 t966.length co39)) ∧ ax k_ (.slice Ao111 t985.length co111))) (n := t992.length) (c := co120) ?_).2.2; exact (uR ((rf3 HO994 BK996 (by decide) (.int .i64 t988) (.slice Ao119 t989.length co119) (.slice Ao120 t992.length co120))))); (case side4 => exact (Kd.R_reads' HO994.out).2.1); (case side5 => refine (Kd.R_reads' (e := 2) (base := w.heap.size) (ok := fun k_ => ((((ax k_ (.slice Ao24 t952.length co24) ∧ (ax k_ (.slice Ao31 t978.length co31) ∧ (ax k_ (.slice Ao38 t963.length co38) ∧ ax k_ (.slice Ao39 t966.length co39)))) ∧ ax k_ (.slice Ao111 t985.length co111)) ∧ ax k_ (.slice Ao119 t989.length co119)) ∧ ax k_ (.slice Ao120 t992.length co120))) (n := t949.length) (c := co23) ?_).2.2; exact (uR ((rf3 HO_957001 BK996 (by decide) (.int .i64 t988) (.slice Ao119 t989.length co119) (.slice Ao120 t992.length co120))))); (case side6 => exact (Kd.R_reads' HO_957001.out).2.1); (case side7 => refine (Kd.R_reads' (e := 2) (base := w.heap.size) (ok := fun k_ => ((((ax k_ (.slice Ao23 t949.length co23) ∧ (ax k_ (.slice Ao31 t978.length co31) ∧ (ax k_ (.slice Ao38 t963.length co38) ∧ ax k_ (.slice Ao39 t966.length co39)))) ∧ ax k_ (.slice Ao111 t985.length co111)) ∧ ax k_ (.slice Ao119 t989.length co119)) ∧ ax k_ (.slice Ao120 t992.length co120))) (n := t952.length) (c := co24) ?_).2.2; exact (uR ((rf3 HO_957002 BK996 (by decide) (.int .i64 t988) (.slice Ao119 t989.length co119) (.slice Ao120 t992.length co120))))); (case side8 => exact (Kd.R_reads' HO_957002.out).2.1); rintro e w142 ⟨rfl, hb⟩; refine ⟨_, rfl, ?_⟩; replace HO_957001 := zA (Kd.R_below (uR ((rf3 HO_957001 BK996 (by decide) (.int .i64 t988) (.slice Ao119 t989.length co119) (.slice Ao120 t992.length co120)))) hb); replace HO_957002 := zA (Kd.R_below (uR ((rf3 HO_957002 BK996 (by decide) (.int .i64 t988) (.slice Ao119 t989.length co119) (.slice Ao120 t992.length co120)))) hb); replace HO_962001 := zA (Kd.R_below (uR ((rf3 HO_962001 BK996 (by decide) (.int .i64 t988) (.slice Ao119 t989.length co119) (.slice Ao120 t992.length co120)))) hb); replace HO_971001 := zA (Kd.R_below (uR ((rf3 HO_971001 BK996 (by decide) (.int .i64 t988) (.slice Ao119 t989.length co119) (.slice Ao120 t992.length co120)))) hb); replace HO_971002 := zA (Kd.R_below (uR ((rf3 HO_971002 BK996 (by decide) (.int .i64 t988) (.slice Ao119 t989.length co119) (.slice Ao120 t992.length co120)))) hb); replace HO987 := zA (Kd.R_below (uR ((rf3 HO987 BK996 (by decide) (.int .i64 t988) (.slice Ao119 t989.length co119) (.slice Ao120 t992.length co120)))) hb); replace HO991 := zA (Kd.R_below (uR ((rf3 HO991 BK996 (by decide) (.int .i64 t988) (.slice Ao119 t989.length co119) (.slice Ao120 t992.length co120)))) hb); replace HO994 := zA (Kd.R_below (uR ((rf3 HO994 BK996 (by decide) (.int .i64 t988) (.slice Ao119 t989.length co119) (.slice Ao120 t992.length co120)))) hb); replace BK942 := zA (blk_below (g := gb942) (o := .cells #[.int .i64 a0_0, .slice A0_1 l0_1.length c0_1] 34 (0, 0)) (by (repeat refine up1 ?_); refine blk_far ?_ NB942_996.out _; (repeat refine up1 ?_); refine blk_far ?_ NB942_996.out _; (repeat refine up1 ?_); refine blk_far ?_ NB942_996.out _; (repeat refine up1 ?_); exact BK942.out) hb); replace BK956 := zA (blk_below (g := gb956) (o := .cells #[.int .i64 t948, .slice Ao23 t949.length co23, .slice Ao24 t952.length co24] 26 (0, 0)) (by (repeat refine up1 ?_); refine blk_far ?_ NB956_996.out _; (repeat refine up1 ?_); refine blk_far ?_ NB956_996.out _; (repeat refine up1 ?_); refine blk_far ?_ NB956_996.out _; (repeat refine up1 ?_); exact BK956.out) hb); replace BK961 := zA (blk_below (g := gb961) (o := .cells #[.int .i64 t957, .slice Ao31 t978.length co31] 40 (0, 0)) (by (repeat refine up1 ?_); refine blk_far ?_ NB961_996.out _; (repeat refine up1 ?_); refine blk_far ?_ NB961_996.out _; (repeat refine up1 ?_); refine blk_far ?_ NB961_996.out _; (repeat refine up1 ?_); exact BK961.out) hb); replace BK970 := zA (blk_below (g := gb970) (o := .cells #[.int .i64 t962, .slice Ao38 t963.length co38, .slice Ao39 t966.length co39] 26 (0, 0)) (by (repeat refine up1 ?_); refine blk_far ?_ NB970_996.out _; (repeat refine up1 ?_); refine blk_far ?_ NB970_996.out _; (repeat refine up1 ?_); refine blk_far ?_ NB970_996.out _; (repeat refine up1 ?_); exact BK970.out) hb); replace BK996 := zA (blk_below (g := gb996) (o := .cells #[.int .i64 t988, .slice Ao119 t989.length co119, .slice Ao120 t992.length co120] 26 (0, 0)) (by (repeat refine up1 ?_); refine blk_put (cs := #[.int .i64 t988, .slice Ao119 t989.length co119, .slice none 0 0]) ?_ 2 _ rfl; (repeat refine up1 ?_); refine blk_put (cs := #[.int .i64 t988, .slice none 0 0, .slice none 0 0]) ?_ 1 _ rfl; (repeat refine up1 ?_); refine blk_put (cs := #[.int .i64 0, .slice none 0 0, .slice none 0 0]) ?_ 0 _ rfl; (repeat refine up1 ?_); exact BK996.out) hb); replace HB := xH HB hb; (try clear hb); (try clear hb2); (try clear hk); (try clear hi)))
            go_meet
            case rel => exact ⟨_, (true), (by first | rfl | (simp; done) | (simp [*]; done)), H', ⟨by have := HJ11.out; have := HJ62.out; first | omega | exact Nat.le_refl _⟩, ⟨by (try simp only [hl962001_62]); (with_reducible repeat (first | apply Kd.R_alloc | apply Kd.R_drewN | apply Kd.R_drew)); exact Kd.R_mono HO_957001.out (fun _ hk => ⟨hk.1.1.1.1, ⟨hk.1.1.1.2.1, ⟨hk.1.1.1.2.2.1, ⟨hk.1.1.1.2.2.2, ⟨hk.1.2, hk.2⟩⟩⟩⟩⟩)⟩, ⟨by (try simp only [hl962001_62]); (with_reducible repeat (first | apply Kd.R_alloc | apply Kd.R_drewN | apply Kd.R_drew)); exact Kd.R_mono HO_957002.out (fun _ hk => ⟨hk.1.1.1.1, ⟨hk.1.1.1.2.1, ⟨hk.1.1.1.2.2.1, ⟨hk.1.1.1.2.2.2, ⟨hk.1.2, hk.2⟩⟩⟩⟩⟩)⟩, ⟨by (try simp only [hl962001_62]); (with_reducible repeat (first | apply Kd.R_alloc | apply Kd.R_drewN | apply Kd.R_drew)); exact Kd.R_mono HO_962001.out (fun _ hk => ⟨hk.1.1.1.1, ⟨hk.1.1.1.2.1, ⟨hk.1.1.1.2.2.1, ⟨hk.1.1.1.2.2.2, ⟨hk.1.2, hk.2⟩⟩⟩⟩⟩)⟩, ⟨by (try simp only [hl962001_62]); (with_reducible repeat (first | apply Kd.R_alloc | apply Kd.R_drewN | apply Kd.R_drew)); exact Kd.R_mono HO_971001.out (fun _ hk => ⟨hk.1.1.1.1, ⟨hk.1.1.1.2.1, ⟨hk.1.1.1.2.2.1, ⟨hk.1.1.1.2.2.2, ⟨hk.1.2, hk.2⟩⟩⟩⟩⟩)⟩, ⟨by (try simp only [hl962001_62]); (with_reducible repeat (first | apply Kd.R_alloc | apply Kd.R_drewN | apply Kd.R_drew)); exact Kd.R_mono HO_971002.out (fun _ hk => ⟨hk.1.1.1.1, ⟨hk.1.1.1.2.1, ⟨hk.1.1.1.2.2.1, ⟨hk.1.1.1.2.2.2, ⟨hk.1.2, hk.2⟩⟩⟩⟩⟩)⟩, ⟨by (try simp only [hl962001_62]); (with_reducible repeat (first | apply Kd.R_alloc | apply Kd.R_drewN | apply Kd.R_drew)); exact Kd.R_mono HO991.out (fun _ hk => ⟨hk.1.1.1.1.1.2, ⟨hk.1.1.1.1.2, ⟨hk.1.1.1.2, ⟨hk.1.1.2, ⟨hk.1.2, hk.1.1.1.1.1.1⟩⟩⟩⟩⟩)⟩, ⟨by (try simp only [hl962001_62]); (with_reducible repeat (first | apply Kd.R_alloc | apply Kd.R_drewN | apply Kd.R_drew)); exact Kd.R_mono HO994.out (fun _ hk => ⟨hk.1.1.1.1.1.2, ⟨hk.1.1.1.1.2, ⟨hk.1.1.1.2, ⟨hk.1.1.2, ⟨hk.1.2, hk.1.1.1.1.1.1⟩⟩⟩⟩⟩)⟩, ⟨by (try simp only [hl962001_62]); (repeat refine up1 ?_); exact BK942.out⟩, ⟨by (try simp only [hl962001_62]); (repeat refine up1 ?_); exact BK956.out⟩, ⟨by (try simp only [hl962001_62]); (repeat refine up1 ?_); exact BK961.out⟩, ⟨by (try simp only [hl962001_62]); (repeat refine up1 ?_); exact BK970.out⟩, ⟨by (try simp only [hl962001_62]); (repeat refine up1 ?_); exact BK996.out⟩, ⟨uH HB.out⟩⟩
          case rest =>
           clear HC99
           (try clear c1);(try clear c2);(try clear p2);(try clear c3);(try clear c4);(try clear c4b0);(try clear c5);(try clear c6);(try clear c7);(try clear c8);(try clear c9);(try clear c10);(try clear c11);(try clear c12);(try clear c13);(try clear c14);(try clear c19);(try clear c20);(try clear c21);(try clear c22);(try clear c24);(try clear c28);(try clear c29);(try clear c30);(try clear c34)
           (try clear c35);(try clear c36);(try clear c41);(try clear c42);(try clear c43);(try clear c44);(try clear c46);(try clear c47);(try clear c49);(try clear c50);(try clear c51);(try clear c52);(try clear c54);(try clear c55);(try clear c58);(try clear c61);(try clear c68);(try clear c69);(try clear c70);(try clear c73);(try clear c73b0);(try clear c75);(try clear c76);(try clear c77);(try clear c78)
           (try clear c80);(try clear c81);(try clear c84);(try clear c85);(try clear c86);(try clear c88);(try clear c89);(try clear c92);(try clear c95);(try clear c95b0);(try clear c96);(try clear c96b0);(try clear c96b1);(try clear c100);(try clear c101);(try clear c102);(try clear c107);(try clear c108);(try clear c114);(try clear c115);(try clear c116);(try clear c117);(try clear c122);(try clear c123)
           (try clear c124);(try clear c125);(try clear c126);(try clear c128);(try clear c129);(try clear c130);(try clear c133);(try clear c134);(try clear c135);(try clear c136);(try clear c138);(try clear c139);(try clear c140);(try clear hcz103_0);(try clear hcz103_1);(try clear hcz103_2);(try clear hcz105_0);(try clear hcz105_1);(try clear hcz105_2);(try clear hcz109_0);(try clear hcz109_1);(try clear hcz118_0)
           (try clear hcz118_1);(try clear hcz118_2);(try clear hcz127_0);(try clear hcz127_1);(try clear hcz127_2);(try clear hcz131_0);(try clear hcz131_1);(try clear hcz131_2);(try clear hcz137_0);(try clear hcz137_1);(try clear hcz137_2);(try clear hcz141_0);(try clear hcz141_1);(try clear hcz141_2);(try clear hcz14_0);(try clear hcz14_1);(try clear hcz16_0);(try clear hcz16_1);(try clear hcz22_0)
           (try clear hcz22_1);(try clear hcz22_2);(try clear hcz25_0);(try clear hcz25_1);(try clear hcz30_0);(try clear hcz30_1);(try clear hcz37_0);(try clear hcz37_1);(try clear hcz37_2);(try clear hcz45_0);(try clear hcz45_1);(try clear hcz45_2);(try clear hcz48_0);(try clear hcz48_1);(try clear hcz48_2);(try clear hcz53_0);(try clear hcz53_1);(try clear hcz53_2);(try clear hcz56_0);(try clear hcz56_1)
           (try clear hcz56_2);(try clear hcz6_0);(try clear hcz6_1);(try clear hcz71_0);(try clear hcz71_1);(try clear hcz79_0);(try clear hcz79_1);(try clear hcz79_2);(try clear hcz82_0);(try clear hcz82_1);(try clear hcz82_2);(try clear hcz87_0);(try clear hcz87_1);(try clear hcz87_2);(try clear hcz90_0);(try clear hcz90_1);(try clear hcz90_2);(try clear hfz103_0);(try clear hfz103_1);(try clear hfz103_2)
           (try clear hfz105_0);(try clear hfz105_1);(try clear hfz105_2);(try clear hfz109_0);(try clear hfz109_1);(try clear hfz118_0);(try clear hfz118_1);(try clear hfz118_2);(try clear hfz127_0);(try clear hfz127_1);(try clear hfz127_2);(try clear hfz131_0);(try clear hfz131_1);(try clear hfz131_2);(try clear hfz137_0);(try clear hfz137_1);(try clear hfz137_2);(try clear hfz141_0);(try clear hfz141_1)
           (try clear hfz141_2);(try clear hfz14_0);(try clear hfz14_1);(try clear hfz16_0);(try clear hfz16_1);(try clear hfz22_0);(try clear hfz22_1);(try clear hfz22_2);(try clear hfz25_0);(try clear hfz25_1);(try clear hfz30_0);(try clear hfz30_1);(try clear hfz37_0);(try clear hfz37_1);(try clear hfz37_2);(try clear hfz45_0);(try clear hfz45_1);(try clear hfz45_2);(try clear hfz48_0);(try clear hfz48_1)
           (try clear hfz48_2);(try clear hfz53_0);(try clear hfz53_1);(try clear hfz53_2);(try clear hfz56_0);(try clear hfz56_1);(try clear hfz56_2);(try clear hfz6_0);(try clear hfz6_1);(try clear hfz71_0);(try clear hfz71_1);(try clear hfz79_0);(try clear hfz79_1);(try clear hfz79_2);(try clear hfz82_0);(try clear hfz82_1);(try clear hfz82_2);(try clear hfz87_0);(try clear hfz87_1);(try clear hfz87_2)
           (try clear hfz90_0);(try clear hfz90_1);(try clear hfz90_2);(try clear p2)
           obtain ⟨kq, x92_98, rfl, HA, HJ98, HO_957001, HO_957002, HO_962001, HO_971001, HO_971002, HO_997001, HO_997002, BK942, BK956, BK961, BK970, BK996, HB⟩ := hcut
           have hl971001_98 := (Kd.R_reads' HO_971001.out).1
           rw [hl971001_98] at HO_971001
           (try simp only [hl971001_98])
           (try simp only [hl971001_98] at BK942)
           (try simp only [hl971001_98] at BK956)
           (try simp only [hl971001_98] at BK961)
           (try simp only [hl971001_98] at BK970)
           (try simp only [hl971001_98] at BK996)
           (try simp only [hl971001_98] at HO_957001)
           (try simp only [hl971001_98] at HO_957002)
           (try simp only [hl971001_98] at HO_962001)
           (try simp only [hl971001_98] at HO_971002)
           (try simp only [hl971001_98] at HO_997001)
           (try simp only [hl971001_98] at HO_997002)
           have hl971002_98 := (Kd.R_reads' HO_971002.out).1
           rw [hl971002_98] at HO_971002
           (try simp only [hl971002_98])
           (try simp only [hl971002_98] at BK942)
           (try simp only [hl971002_98] at BK956)
           (try simp only [hl971002_98] at BK961)
           (try simp only [hl971002_98] at BK970)
           (try simp only [hl971002_98] at BK996)
           (try simp only [hl971002_98] at HO_957001)
           (try simp only [hl971002_98] at HO_957002)
           (try simp only [hl971002_98] at HO_962001)
           (try simp only [hl971002_98] at HO_971001)
           (try simp only [hl971002_98] at HO_997001)
           (try simp only [hl971002_98] at HO_997002)
           cases kq with
           | zero => exact absurd HA.out (by simp [laws_FnExactJacobiOfMoments.j2])
           | succ kj98 =>
            have H := HA.out
            clear HA
            simp only [laws_FnExactJacobiOfMoments.j2] at H
            by_cases c143 : x92_98 = true
            ·subst c143
             have H1 : (some false) = some r := by rw [if_pos rfl] at H; exact H
             clear H
             have H := H1
             clear H1
             rw [HRT.out] at H
             exact absurd H (by simp)
            ·replace c143 := Bool.eq_false_iff.mpr c143
             subst c143
             have H1 : ((laws_heldJacobi.f kj98 t962 t981 t982 1).bind fun t998 => (if t998 < 0 then (some false) else (if t998 = t980 then (some true) else (some false)))) = some r := by rw [if_neg (show ¬ (false = true) by decide)] at H; exact H
             clear H
             have H := H1
             clear H1
             replace H := Option.bind_eq_some_iff.mp H
             obtain ⟨t998, A1440, H⟩ := H
             replace H : (if t998 < 0 then (some false) else (if t998 = t980 then (some true) else (some false))) = some r := H
             have A144 := zA A1440
             clear A1440
             by_cases c145 : t998 < 0
             rotate_left
             ·rw [if_neg c145] at H
              have c145b0 : decide (t998 < 0) = false := decide_eq_false c145
              clear c145
              by_cases c146 : t998 = t980
              rotate_left
              ·rw [if_neg c146] at H
               have c146b0 : (t998 == t980) = false := beq_eq_false_iff_ne.mpr c146
               have c146b1 : (t998 != t980) = true := bne_iff_ne.mpr c146
               rw [HRT.out] at H
               exact absurd H (by simp)
              rw [if_pos c146] at H
              have c146b0 : (t998 == t980) = true := beq_iff_eq.mpr c146
              have c146b1 : (t998 != t980) = false := bne_eq_false_iff_eq.mpr c146
              clear c146
              obtain rfl := Option.some.inj H
              have hnb147 := NB970_942.out; have hnc147 := NB942_970.out; have hnb148 := NB970_956.out; have hnc148 := NB956_970.out; have hnb149 := NB970_961.out; have hnc149 := NB961_970.out; have hnb150 := NB970_996.out; have hnc150 := NB996_970.out
              have hcz151_0 := bc BK970 0
              have hcz151_1 := bc BK970 1
              have hcz151_2 := bc BK970 2
              have hfz151_0 := bf BK970 0
              have hfz151_1 := bf BK970 1
              have hfz151_2 := bf BK970 2
              go_wp2_with (first | ((with_reducible refine gate_callee (f := 21) rfl ?_); refine gL (some 95) Try.func21 #[.agg #[.int .i64 t962, .slice Ao38 t981.length co38, .slice Ao39 t982.length co39], .int .i64 1] ?_; (with_reducible refine (laws_heldJacobi.calls kj98 t962 _ _ t981 _ _ t982 1 t998 _ ?side1 ?side2 ?side3 ?side4 A144.out).mono ?_); (case side1 => exact uC ((Kd.R_reads' HO_971001.out).2.2)); (case side2 => exact (Kd.R_reads' HO_971001.out).2.1); (case side3 => exact uC ((Kd.R_reads' HO_971002.out).2.2)); (case side4 => exact (Kd.R_reads' HO_971002.out).2.1); rintro e w152 ⟨rfl, hb⟩; refine ⟨_, rfl, ?_⟩; replace HO_957001 := xR HO_957001 hb; replace HO_957002 := xR HO_957002 hb; replace HO_962001 := xR HO_962001 hb; replace HO_971001 := xR HO_971001 hb; replace HO_971002 := xR HO_971002 hb; replace HO_997001 := xR HO_997001 hb; replace HO_997002 := xR HO_997002 hb; replace BK942 := xB BK942 hb; replace BK956 := xB BK956 hb; replace BK961 := xB BK961 hb; replace BK970 := xB BK970 hb; replace BK996 := xB BK996 hb; replace HB := xH HB hb; (try clear hb); (try clear hb2); (try clear hk); (try clear hi)))
              go_ret
              exact ⟨by first | rfl | (simp [errW_none, errW_some] <;> rfl) | (simp [*, errW_none, errW_some] <;> rfl), uH HB.out⟩
             rw [if_pos c145] at H
             have c145b0 : decide (t998 < 0) = true := decide_eq_true c145
             clear c145
             rw [HRT.out] at H
             exact absurd H (by simp)
         rw [if_pos c95] at H
         have c95b0 : decide (t983 < 0) = true := decide_eq_true c95
         clear c95
         rw [HRT.out] at H
         exact absurd H (by simp)
     ·replace c61 := Bool.eq_false_iff.mpr c61
      subst c61
      have H1 : (some false) = some r := by rw [if_neg (show ¬ (false = true) by decide)] at H; exact H
      clear H
      have H := H1
      clear H1
      rw [HRT.out] at H
      exact absurd H (by simp)

 rw [if_pos c4] at H
 have c4b0 : decide (t943 < 0) = true := decide_eq_true c4
 clear c4
 obtain rfl := Option.some.inj H
 go_enter Try.func12, Try.ntmps12
 go_wp2_with (first | ((with_reducible refine gate_dst (N := 2) rfl ?_); refine bx 2 #[.int .i64 a0_0, .slice A0_1 l0_1.length c0_1] 34 ?_; intro gb942 hg w5 hbox hb; have BK942 := zA (hbox); have GW942 := gq HB hg; have GE942 := gq HB hg; replace HB := xH HB hb; have := geI GE942; clear hb hbox hg; have hcz6_0 := bc BK942 0; have hcz6_1 := bc BK942 1; have hfz6_0 := bf BK942 0; have hfz6_1 := bf BK942 1) | ((with_reducible refine gate_callee (f := 22) rfl ?_); refine gL (some 18) Try.func22 #[.agg #[.int .i64 a0_0, .slice A0_1 l0_1.length c0_1], .int .i64 1048576] ?_; (with_reducible refine (laws_szMoments.calls a0_0 _ _ l0_1 1048576 t943 _ ?side1 ?side2 A3.out).mono ?_); (case side1 => exact uC ((Kd.C_below HR0_1.out HB.out))); (case side2 => exact HC0_1.out); rintro e w7 ⟨rfl, hb⟩; refine ⟨_, rfl, ?_⟩; replace BK942 := xB BK942 hb; replace HB := xH HB hb; (try clear hb); (try clear hb2); (try clear hk); (try clear hi)))
 go_ret
 exact ⟨by first | rfl | (simp [errW_none, errW_some] <;> rfl) | (simp [*, errW_none, errW_some] <;> rfl), uH HB.out⟩
/-- THE ONE PURE STATEMENT of laws_FnExactJacobiOfMoments: yours. -/
def laws_FnExactJacobiOfMoments.Pure : Prop := ∀ (a0_0 : Int) (l0_1 : List Int) (a1 : Int), (Lit.int .i64 a0_0).wf = true → l0_1.length ≤ maxLen → (∀ x ∈ l0_1, (Lit.int .i64 x).wf = true) → (Lit.int .i64 a1).wf = true → ∃ k, laws_FnExactJacobiOfMoments.f k a0_0 l0_1 a1 = some true
theorem laws_FnExactJacobiOfMoments.walk (P : laws_FnExactJacobiOfMoments.Pure) (a0_0 : Int) (a0_1 : Option Addr) (len0_1 cap0_1 : Nat) (z0_1 : List Int) (a1 : Int) (w : World) (w0_0 : (Lit.int .i64 a0_0).wf = true) (w0_1 : (a0_1 = none ∧ len0_1 = 0 ∧ cap0_1 = 0 ∧ z0_1 = []) ∨ ∃ x, a0_1 = some x ∧ len0_1 ≤ cap0_1 ∧ cap0_1 ≤ maxLen ∧ z0_1.length = cap0_1 ∧ (∀ i, i < z0_1.length → w.cell? (x.add i) = some (.int .i64 (z0_1.getD i 0))) ∧ ∀ n ∈ z0_1, (Lit.int .i64 n).wf = true) (w1 : (Lit.int .i64 a1).wf = true) :
  Calls Try.prog 12 #[.agg #[.int .i64 a0_0, .slice a0_1 len0_1 cap0_1], .int .i64 a1] w fun e w' => e = .returned (.bool true) ∧ Below w.heap.size w w' := by
 obtain ⟨l0_1, rfl, hr0_1, hm0_1, hw0_1, hc0_1⟩ := ReadsInt.ofRowC w0_1
 obtain ⟨k, h⟩ := P a0_0 l0_1 a1 w0_0 hm0_1 hw0_1 w1
 refine (laws_FnExactJacobiOfMoments.calls k a0_0 _ _ l0_1 a1 true rfl w (Kd.C_of_reads (d := (0 : Int)) (h1 := fun _ => rfl) hr0_1) hc0_1 h).mono ?_
 rintro e w' ⟨rfl, hd⟩
 exact ⟨rfl, hd⟩

end Go.Proofs.Ytfbnkebgdmfcfaa.Pr
