/- Printed by a program of this session out of the translation: what these functions of the program compute, under the conditions that each theorem names. -/
import Derived.Test.YtcfiegapclbenaaKC01
import Derived.Test.YtcfiegapclbenaaKC11
import Derived.Test.YtcfiegapclbenaaKC21
namespace Go.Proofs.Ytcfiegapclbenaa.Pr
open Go.RowKit Go.Proofs.YtcfiegapclbenaaW.PrintWords Go.Proofs.YtcfiegapclbenaaW.PrintLast Go.Proofs.YtcfiegapclbenaaW.PrintMore
attribute [local go_sem] max2_int min2_int max_two min_two max_three min_three max_four min_four   -- for this text's walks alone
set_option linter.unusedVariables false
set_option linter.unusedSimpArgs false

/-! ### laws_FnExactApplyFunctional: function 4 -/
def laws_FnExactApplyFunctional.j0 : Nat → List Int → List Int → Bool → Int → List Int → Int → List Int → Option (Bool)
 | 0, _, _, _, _, _, _, _ => none
 | k + 1, x1, x9, x45, x247000, x247001, x262000, x262001 => if x45 = true then (some false) else ((laws_toMoments.f k x247000 x247001).bind fun bt267 => ((laws_eqMoments.f k x262000 x262001 bt267.1 bt267.2).bind fun t271 => (if t271 = true then ((laws_toInt64S.f k x1).bind fun t272 => ((laws_eqInt64S.f k x9 t272).bind fun t275 => (if t275 = true then (some true) else (some false)))) else (some false))))
def laws_FnExactApplyFunctional.f (k : Nat) (a0_0 : Int) (l0_1 : List Int) (l1 : List Int) : Option (Bool) := if (l1.length : Int) > 1048576 then (some true) else ((laws_szMoments.f a0_0 l0_1 1048576).bind fun t247 => (if t247 < 0 then (some true) else ((laws_toMoments.f k a0_0 l0_1).bind fun bt248 => ((laws_toInt64S.f k l1).bind fun t252 => ((spec_ApplyFunctional.f k bt248.1 bt248.2 t252).bind fun bt255 => ((laws_toMoments.f k a0_0 l0_1).bind fun bt257 => ((laws_toInt64S.f k l1).bind fun t262 => ((impl_ApplyFunctional.f k bt257.1 bt257.2 t262).bind fun bt265 => (if bt265.1 = bt255.1 then (laws_FnExactApplyFunctional.j0 k l1 t262 (bt265.2 != bt255.2) a0_0 l0_1 bt257.1 bt257.2) else (laws_FnExactApplyFunctional.j0 k l1 t262 true a0_0 l0_1 bt257.1 bt257.2))))))))))
theorem laws_FnExactApplyFunctional.mono_l : ∀ k, (∀ y0 y1 y2 y3 y4 y5 y6, LeO (laws_FnExactApplyFunctional.j0 k y0 y1 y2 y3 y4 y5 y6) (laws_FnExactApplyFunctional.j0 (k + 1) y0 y1 y2 y3 y4 y5 y6))
 | 0 => fun _ _ _ _ _ _ _ r h => by simp [laws_FnExactApplyFunctional.j0] at h
 | k + 1 => by
  have ih0 := laws_FnExactApplyFunctional.mono_l k
  ·intro y0 y1 y2 y3 y4 y5 y6
   unfold laws_FnExactApplyFunctional.j0
   repeat' first
   | (with_reducible exact ih0 _ _ _ _ _ _ _)
   | (with_reducible exact impl_ApplyFunctional.mono _ _ _ _)
   | (with_reducible exact laws_eqInt64S.mono _ _ _)
   | (with_reducible exact laws_eqMoments.mono _ _ _ _ _)
   | (with_reducible exact laws_toInt64S.mono _ _)
   | (with_reducible exact laws_toMoments.mono _ _ _)
   | (with_reducible exact spec_ApplyFunctional.mono _ _ _ _)
   | (with_reducible exact LeO.refl _)
   | (with_reducible exact LeO.none _)
   | (with_reducible refine LeO.ite ?_ ?_)
   | (with_reducible refine LeO.bind ?_ (fun _ => ?_))
   | exact ih0 _ _ _ _ _ _ _
   | exact impl_ApplyFunctional.mono _ _ _ _
   | exact laws_eqInt64S.mono _ _ _
   | exact laws_eqMoments.mono _ _ _ _ _
   | exact laws_toInt64S.mono _ _
   | exact laws_toMoments.mono _ _ _
   | exact spec_ApplyFunctional.mono _ _ _ _
   | exact LeO.none _
   | refine LeO.ite ?_ ?_
   | refine LeO.bind ?_ (fun _ => ?_)
theorem laws_FnExactApplyFunctional.mono : ∀ a0 a1 a2 k, LeO (laws_FnExactApplyFunctional.f k a0 a1 a2) (laws_FnExactApplyFunctional.f (k + 1) a0 a1 a2) := by
 intro a0 a1 a2 k
 have ih0 := laws_FnExactApplyFunctional.mono_l k
 unfold laws_FnExactApplyFunctional.f
 repeat' first
   | (with_reducible exact ih0 _ _ _ _ _ _ _)
   | (with_reducible exact impl_ApplyFunctional.mono _ _ _ _)
   | (with_reducible exact laws_eqInt64S.mono _ _ _)
   | (with_reducible exact laws_eqMoments.mono _ _ _ _ _)
   | (with_reducible exact laws_toInt64S.mono _ _)
   | (with_reducible exact laws_toMoments.mono _ _ _)
   | (with_reducible exact spec_ApplyFunctional.mono _ _ _ _)
   | (with_reducible exact LeO.refl _)
   | (with_reducible exact LeO.none _)
   | (with_reducible refine LeO.ite ?_ ?_)
   | (with_reducible refine LeO.bind ?_ (fun _ => ?_))
   | exact ih0 _ _ _ _ _ _ _
   | exact impl_ApplyFunctional.mono _ _ _ _
   | exact laws_eqInt64S.mono _ _ _
   | exact laws_eqMoments.mono _ _ _ _ _
   | exact laws_toInt64S.mono _ _
   | exact laws_toMoments.mono _ _ _
   | exact spec_ApplyFunctional.mono _ _ _ _
   | exact LeO.none _
   | refine LeO.ite ?_ ?_
   | refine LeO.bind ?_ (fun _ => ?_)
set_option maxHeartbeats 8000000 in
set_option maxRecDepth 100000 in
theorem laws_FnExactApplyFunctional.calls (k : Nat) (a0_0 : Int) (A0_1 : Option Addr) (c0_1 : Nat) (l0_1 : List Int) (A1 : Option Addr) (c1 : Nat) (l1 : List Int) (r : Bool) (hr_ : r = true) (w : World) (hr0_1 : Kd.C (Kd.int .i64) w A0_1 l0_1.length l0_1) (hc0_1 : l0_1.length ≤ c0_1) (hr1 : Kd.C (Kd.int .i64) w A1 l1.length l1) (hc1 : l1.length ≤ c1) (h : laws_FnExactApplyFunctional.f k a0_0 l0_1 l1 = some r) :
  Calls Try.prog 4 #[.agg #[.int .i64 a0_0, .slice A0_1 l0_1.length c0_1], .slice A1 l1.length c1] w fun e w' => e = .returned (.bool r) ∧ Below w.heap.size w w' := by
 have hu32 := Try.underlying32
 have hu36 := Try.underlying36
 have HRT := zA hr_
 clear hr_
 have HR0_1 := zA hr0_1
 have HC0_1 := zA hc0_1
 clear hr0_1 hc0_1
 have HR1 := zA hr1
 have HC1 := zA hc1
 clear hr1 hc1
 have HB := zA (Below.refl w.heap.size w)
 have H : (if (l1.length : Int) > 1048576 then (some true) else ((laws_szMoments.f a0_0 l0_1 1048576).bind fun t247 => (if t247 < 0 then (some true) else ((laws_toMoments.f k a0_0 l0_1).bind fun bt248 => ((laws_toInt64S.f k l1).bind fun t252 => ((spec_ApplyFunctional.f k bt248.1 bt248.2 t252).bind fun bt255 => ((laws_toMoments.f k a0_0 l0_1).bind fun bt257 => ((laws_toInt64S.f k l1).bind fun t262 => ((impl_ApplyFunctional.f k bt257.1 bt257.2 t262).bind fun bt265 => (if bt265.1 = bt255.1 then (laws_FnExactApplyFunctional.j0 k l1 t262 (bt265.2 != bt255.2) a0_0 l0_1 bt257.1 bt257.2) else (laws_FnExactApplyFunctional.j0 k l1 t262 true a0_0 l0_1 bt257.1 bt257.2))))))))))) = some r := h
 clear h
 by_cases c3 : (l1.length : Int) > 1048576
 ·rw [if_pos c3] at H
  have c3b0 : decide (1048576 < (l1.length : Int)) = true := decide_eq_true c3
  have c3b1 : decide (1048576 < l1.length) = true := decide_eq_true (by omega)
  clear c3
  obtain rfl := Option.some.inj H
  go_enter Try.func4, Try.ntmps4
  go_wp2_with (first | ((with_reducible refine gate_dst (N := 2) rfl ?_); refine box_event ?hg (N := 2) ?hd (cs := #[.int .i64 a0_0, .slice A0_1 l0_1.length c0_1]) (t := 32) ?hr ?_; (case hd => rfl); (case hg => rfl); (case hr => first | (go_simp; done) | (go_simp; rfl)); intro gb246 hg w4 hbox hb; have n0_ := xH HB hb; have n1_ := zA (hbox); have n2_ := zA ((by rw [hg]; exact (below_size (uH HB.out)) : w.heap.size ≤ gb246)); have n3_ := zA ((by rw [hg]; exact (below_size (uH HB.out)) : w.heap.size ≤ gb246)); clear HB; have HB := n0_; have BK246 := n1_; have GW246 := n2_; have GE246 := n3_; have := geI GE246; clear n0_ n1_ n2_ n3_ hb hbox hg))
  go_ret
  exact ⟨by first | rfl | (simp [errW_none, errW_some] <;> rfl) | (simp [*, errW_none, errW_some] <;> rfl), uH HB.out⟩
 ·rw [if_neg c3] at H
  have c3b0 : decide (1048576 < (l1.length : Int)) = false := decide_eq_false c3
  have c3b1 : decide (1048576 < l1.length) = false := decide_eq_false (by omega)
  clear c3
  replace H := Option.bind_eq_some_iff.mp H
  obtain ⟨t247, A50, H⟩ := H
  replace H : (if t247 < 0 then (some true) else ((laws_toMoments.f k a0_0 l0_1).bind fun bt248 => ((laws_toInt64S.f k l1).bind fun t252 => ((spec_ApplyFunctional.f k bt248.1 bt248.2 t252).bind fun bt255 => ((laws_toMoments.f k a0_0 l0_1).bind fun bt257 => ((laws_toInt64S.f k l1).bind fun t262 => ((impl_ApplyFunctional.f k bt257.1 bt257.2 t262).bind fun bt265 => (if bt265.1 = bt255.1 then (laws_FnExactApplyFunctional.j0 k l1 t262 (bt265.2 != bt255.2) a0_0 l0_1 bt257.1 bt257.2) else (laws_FnExactApplyFunctional.j0 k l1 t262 true a0_0 l0_1 bt257.1 bt257.2))))))))) = some r := H
  have A5 := zA A50
  clear A50
  by_cases c6 : t247 < 0
  ·rw [if_pos c6] at H
   have c6b0 : decide (t247 < 0) = true := decide_eq_true c6
   clear c6
   obtain rfl := Option.some.inj H
   go_enter Try.func4, Try.ntmps4
   go_wp2_with (first | ((with_reducible refine gate_dst (N := 2) rfl ?_); refine box_event ?hg (N := 2) ?hd (cs := #[.int .i64 a0_0, .slice A0_1 l0_1.length c0_1]) (t := 32) ?hr ?_; (case hd => rfl); (case hg => rfl); (case hr => first | (go_simp; done) | (go_simp; rfl)); intro gb246 hg w7 hbox hb; have n0_ := xH HB hb; have n1_ := zA (hbox); have n2_ := zA ((by rw [hg]; exact (below_size (uH HB.out)) : w.heap.size ≤ gb246)); have n3_ := zA ((by rw [hg]; exact (below_size (uH HB.out)) : w.heap.size ≤ gb246)); clear HB; have HB := n0_; have BK246 := n1_; have GW246 := n2_; have GE246 := n3_; have := geI GE246; clear n0_ n1_ n2_ n3_ hb hbox hg; have hcz8_0 : w7.cell? ⟨gb246, 0, none⟩ = some (.int .i64 a0_0) := (blk_cell BK246.out 0).trans rfl; have hcz8_1 : w7.cell? ⟨gb246, 1, none⟩ = some (.slice A0_1 l0_1.length c0_1) := (blk_cell BK246.out 1).trans rfl; have hfz8_0 := blk_frozen BK246.out 0; have hfz8_1 := blk_frozen BK246.out 1) | ((with_reducible refine gate_callee (f := 14) rfl ?_); refine goesL_ (some 17) rfl rfl Try.func14 (by kernel_rfl) rfl #[.agg #[.int .i64 a0_0, .slice A0_1 l0_1.length c0_1], .int .i64 1048576] rfl (by (try simp only [List.map_toArray, List.map_cons, List.map_nil]); first | done | rfl | (simp only [List.length_drop, List.length_take]; rfl)) ?_; (with_reducible refine (laws_szMoments.calls a0_0 _ _ l0_1 1048576 t247 _ ?side1 ?side2 A5.out).mono ?_); (case side1 => exact uC ((Kd.C_below HR0_1.out HB.out))); (case side2 => exact HC0_1.out); rintro e w9 ⟨rfl, hb⟩; refine ⟨_, rfl, ?_⟩; have n0_ := xB BK246 hb; have n1_ := xH HB hb; clear BK246 HB; have BK246 := n0_; have HB := n1_; clear n0_ n1_; (try clear hb); (try clear hb2); (try clear hk); (try clear hi)))
   go_ret
   exact ⟨by first | rfl | (simp [errW_none, errW_some] <;> rfl) | (simp [*, errW_none, errW_some] <;> rfl), uH HB.out⟩
  ·rw [if_neg c6] at H
   have c6b0 : decide (t247 < 0) = false := decide_eq_false c6
   clear c6
   replace H := Option.bind_eq_some_iff.mp H
   obtain ⟨⟨t248, t249⟩, A100, H⟩ := H
   replace H : ((laws_toInt64S.f k l1).bind fun t252 => ((spec_ApplyFunctional.f k t248 t249 t252).bind fun bt255 => ((laws_toMoments.f k a0_0 l0_1).bind fun bt257 => ((laws_toInt64S.f k l1).bind fun t262 => ((impl_ApplyFunctional.f k bt257.1 bt257.2 t262).bind fun bt265 => (if bt265.1 = bt255.1 then (laws_FnExactApplyFunctional.j0 k l1 t262 (bt265.2 != bt255.2) a0_0 l0_1 bt257.1 bt257.2) else (laws_FnExactApplyFunctional.j0 k l1 t262 true a0_0 l0_1 bt257.1 bt257.2))))))) = some r := H
   have A10 := zA A100
   clear A100
   replace H := Option.bind_eq_some_iff.mp H
   obtain ⟨t252, A110, H⟩ := H
   replace H : ((spec_ApplyFunctional.f k t248 t249 t252).bind fun bt255 => ((laws_toMoments.f k a0_0 l0_1).bind fun bt257 => ((laws_toInt64S.f k l1).bind fun t262 => ((impl_ApplyFunctional.f k bt257.1 bt257.2 t262).bind fun bt265 => (if bt265.1 = bt255.1 then (laws_FnExactApplyFunctional.j0 k l1 t262 (bt265.2 != bt255.2) a0_0 l0_1 bt257.1 bt257.2) else (laws_FnExactApplyFunctional.j0 k l1 t262 true a0_0 l0_1 bt257.1 bt257.2)))))) = some r := H
   have A11 := zA A110
   clear A110
   replace H := Option.bind_eq_some_iff.mp H
   obtain ⟨⟨t255, t256⟩, A120, H⟩ := H
   replace H : ((laws_toMoments.f k a0_0 l0_1).bind fun bt257 => ((laws_toInt64S.f k l1).bind fun t262 => ((impl_ApplyFunctional.f k bt257.1 bt257.2 t262).bind fun bt265 => (if bt265.1 = t255 then (laws_FnExactApplyFunctional.j0 k l1 t262 (bt265.2 != t256) a0_0 l0_1 bt257.1 bt257.2) else (laws_FnExactApplyFunctional.j0 k l1 t262 true a0_0 l0_1 bt257.1 bt257.2))))) = some r := H
   have A12 := zA A120
   clear A120
   replace H := Option.bind_eq_some_iff.mp H
   obtain ⟨⟨t257, t258⟩, A130, H⟩ := H
   replace H : ((laws_toInt64S.f k l1).bind fun t262 => ((impl_ApplyFunctional.f k t257 t258 t262).bind fun bt265 => (if bt265.1 = t255 then (laws_FnExactApplyFunctional.j0 k l1 t262 (bt265.2 != t256) a0_0 l0_1 t257 t258) else (laws_FnExactApplyFunctional.j0 k l1 t262 true a0_0 l0_1 t257 t258)))) = some r := H
   have A13 := zA A130
   clear A130
   replace H := Option.bind_eq_some_iff.mp H
   obtain ⟨t262, A140, H⟩ := H
   replace H : ((impl_ApplyFunctional.f k t257 t258 t262).bind fun bt265 => (if bt265.1 = t255 then (laws_FnExactApplyFunctional.j0 k l1 t262 (bt265.2 != t256) a0_0 l0_1 t257 t258) else (laws_FnExactApplyFunctional.j0 k l1 t262 true a0_0 l0_1 t257 t258))) = some r := H
   have A14 := zA A140
   clear A140
   replace H := Option.bind_eq_some_iff.mp H
   obtain ⟨⟨t265, t266⟩, A150, H⟩ := H
   replace H : (if t265 = t255 then (laws_FnExactApplyFunctional.j0 k l1 t262 (t266 != t256) a0_0 l0_1 t257 t258) else (laws_FnExactApplyFunctional.j0 k l1 t262 true a0_0 l0_1 t257 t258)) = some r := H
   have A15 := zA A150
   clear A150
   have HC16 := zA H
   clear H
   go_enter Try.func4, Try.ntmps4
   go_upto_region 11 with (first | ((with_reducible refine gate_dst (N := 2) rfl ?_); refine box_event ?hg (N := 2) ?hd (cs := #[.int .i64 a0_0, .slice A0_1 l0_1.length c0_1]) (t := 32) ?hr ?_; (case hd => rfl); (case hg => rfl); (case hr => first | (go_simp; done) | (go_simp; rfl)); intro gb246 hg w17 hbox hb; have n0_ := xH HB hb; have n1_ := zA (hbox); have n2_ := zA ((by rw [hg]; exact (below_size (uH HB.out)) : w.heap.size ≤ gb246)); have n3_ := zA ((by rw [hg]; exact (below_size (uH HB.out)) : w.heap.size ≤ gb246)); clear HB; have HB := n0_; have BK246 := n1_; have GW246 := n2_; have GE246 := n3_; have := geI GE246; clear n0_ n1_ n2_ n3_ hb hbox hg; have hcz18_0 : w17.cell? ⟨gb246, 0, none⟩ = some (.int .i64 a0_0) := (blk_cell BK246.out 0).trans rfl; have hcz18_1 : w17.cell? ⟨gb246, 1, none⟩ = some (.slice A0_1 l0_1.length c0_1) := (blk_cell BK246.out 1).trans rfl; have hfz18_0 := blk_frozen BK246.out 0; have hfz18_1 := blk_frozen BK246.out 1) | ((with_reducible refine gate_callee (f := 14) rfl ?_); refine goesL_ (some 17) rfl rfl Try.func14 (by kernel_rfl) rfl #[.agg #[.int .i64 a0_0, .slice A0_1 l0_1.length c0_1], .int .i64 1048576] rfl (by (try simp only [List.map_toArray, List.map_cons, List.map_nil]); first | done | rfl | (simp only [List.length_drop, List.length_take]; rfl)) ?_; (with_reducible refine (laws_szMoments.calls a0_0 _ _ l0_1 1048576 t247 _ ?side1 ?side2 A5.out).mono ?_); (case side1 => exact uC ((Kd.C_below HR0_1.out HB.out))); (case side2 => exact HC0_1.out); rintro e w19 ⟨rfl, hb⟩; refine ⟨_, rfl, ?_⟩; have n0_ := xB BK246 hb; have n1_ := xH HB hb; clear BK246 HB; have BK246 := n0_; have HB := n1_; clear n0_ n1_; (try clear hb); (try clear hb2); (try clear hk); (try clear hi); have hcz20_0 : w19.cell? ⟨gb246, 0, none⟩ = some (.int .i64 a0_0) := (blk_cell BK246.out 0).trans rfl; have hcz20_1 : w19.cell? ⟨gb246, 1, none⟩ = some (.slice A0_1 l0_1.length c0_1) := (blk_cell BK246.out 1).trans rfl; have hfz20_0 := blk_frozen BK246.out 0; have hfz20_1 := blk_frozen BK246.out 1) | ((with_reducible refine gate_callee (f := 16) rfl ?_); refine goesL_ (some 22) rfl rfl Try.func16 (by kernel_rfl) rfl #[.agg #[.int .i64 a0_0, .slice A0_1 l0_1.length c0_1]] rfl (by (try simp only [List.map_toArray, List.map_cons, List.map_nil]); first | done | rfl | (simp only [List.length_drop, List.length_take]; rfl)) ?_; (with_reducible refine (laws_toMoments.calls k a0_0 _ _ l0_1 t248 t249 _ ?side1 ?side2 A10.out).mono ?_); (case side1 => exact uC ((Kd.C_below HR0_1.out HB.out))); (case side2 => exact HC0_1.out); rintro e w21 ⟨v250, rfl, ho0, hb⟩; refine ⟨_, rfl, ?_⟩; have n0_ := zA (Kd.R_lower ho0 (below_size (uH HB.out))); have n1_ := xB BK246 hb; have n2_ := xH HB hb; clear BK246 HB; have HO251 := n0_; have BK246 := n1_; have HB := n2_; clear n0_ n1_ n2_; (try clear hb); (try clear hb2); (try clear hk); (try clear hi); (try clear ho0)) | ((with_reducible refine gate_callee (f := 17) rfl ?_); refine goesL_ (some 24) rfl rfl Try.func17 (by kernel_rfl) rfl #[.slice A1 l1.length c1] rfl (by (try simp only [List.map_toArray, List.map_cons, List.map_nil]); first | done | rfl | (simp only [List.length_drop, List.length_take]; rfl)) ?_; (with_reducible refine (laws_toInt64S.calls k _ _ l1 t252 _ ?side1 ?side2 A11.out).mono ?_); (case side1 => exact uC ((Kd.C_below HR1.out HB.out))); (case side2 => exact HC1.out); rintro e w22 ⟨v253, rfl, ho0, hb⟩; refine ⟨_, rfl, ?_⟩; have n0_ := zA (Kd.R_elder' (uR HO251.out) (Kd.R_base ho0) hb); have n1_ := zA (Kd.R_lower (Kd.R_new' ho0 (Kd.R_lt (uR HO251.out))) (below_size (uH HB.out))); have n2_ := xB BK246 hb; have n3_ := xH HB hb; clear HO251 BK246 HB; have HO251 := n0_; have HO254 := n1_; have BK246 := n2_; have HB := n3_; clear n0_ n1_ n2_ n3_; (try clear hb); (try clear hb2); (try clear hk); (try clear hi); (try clear ho0); obtain ⟨Ao23, co23, eo23⟩ := Kd.R_slice HO251.out; subst eo23; obtain ⟨Ao24, co24, eo24⟩ := Kd.R_slice HO254.out; subst eo24) | ((with_reducible refine gate_callee (f := 15) rfl ?_); refine goesL_ (some 25) rfl rfl Try.func15 (by kernel_rfl) rfl #[.agg #[.int .i64 t248, .slice Ao23 t249.length co23], .slice Ao24 t252.length co24] rfl (by (try simp only [List.map_toArray, List.map_cons, List.map_nil]); first | done | rfl | (simp only [List.length_drop, List.length_take]; rfl)) ?_; (with_reducible refine (spec_ApplyFunctional.calls k t248 _ _ t249 _ _ t252 t255 t256 _ ?side1 ?side2 ?side3 ?side4 A12.out).mono ?_); (case side1 => exact uC ((Kd.R_reads' HO251.out).2.2)); (case side2 => exact (Kd.R_reads' HO251.out).2.1); (case side3 => exact uC ((Kd.R_reads' HO254.out).2.2)); (case side4 => exact (Kd.R_reads' HO254.out).2.1); rintro e w25 ⟨rfl, hb⟩; refine ⟨_, rfl, ?_⟩; have n0_ := xR HO251 hb; have n1_ := xR HO254 hb; have n2_ := xB BK246 hb; have n3_ := xH HB hb; clear HO251 HO254 BK246 HB; have HO251 := n0_; have HO254 := n1_; have BK246 := n2_; have HB := n3_; clear n0_ n1_ n2_ n3_; (try clear hb); (try clear hb2); (try clear hk); (try clear hi); have hcz26_0 : w25.cell? ⟨gb246, 0, none⟩ = some (.int .i64 a0_0) := (blk_cell BK246.out 0).trans rfl; have hcz26_1 : w25.cell? ⟨gb246, 1, none⟩ = some (.slice A0_1 l0_1.length c0_1) := (blk_cell BK246.out 1).trans rfl; have hfz26_0 := blk_frozen BK246.out 0; have hfz26_1 := blk_frozen BK246.out 1) | ((with_reducible refine gate_callee (f := 16) rfl ?_); refine goesL_ (some 29) rfl rfl Try.func16 (by kernel_rfl) rfl #[.agg #[.int .i64 a0_0, .slice A0_1 l0_1.length c0_1]] rfl (by (try simp only [List.map_toArray, List.map_cons, List.map_nil]); first | done | rfl | (simp only [List.length_drop, List.length_take]; rfl)) ?_; (with_reducible refine (laws_toMoments.calls k a0_0 _ _ l0_1 t257 t258 _ ?side1 ?side2 A13.out).mono ?_); (case side1 => exact uC ((Kd.C_below HR0_1.out HB.out))); (case side2 => exact HC0_1.out); rintro e w27 ⟨v259, rfl, ho0, hb⟩; refine ⟨_, rfl, ?_⟩; have n0_ := zA (Kd.R_elder' (uR HO251.out) (Kd.R_base ho0) hb); have n1_ := zA (Kd.R_elder' (uR HO254.out) (Kd.R_base ho0) hb); have n2_ := zA (Kd.R_lower (Kd.R_new' (Kd.R_new' ho0 (Kd.R_lt (uR HO251.out))) (Kd.R_lt (uR HO254.out))) (below_size (uH HB.out))); have n3_ := xB BK246 hb; have n4_ := xH HB hb; clear HO251 HO254 BK246 HB; have HO251 := n0_; have HO254 := n1_; have HO260 := n2_; have BK246 := n3_; have HB := n4_; clear n0_ n1_ n2_ n3_ n4_; (try clear hb); (try clear hb2); (try clear hk); (try clear hi); (try clear ho0)) | ((with_reducible refine gate_dst (N := 8) rfl ?_); refine box_event ?hg (N := 8) ?hd (cs := #[.int .i64 0, .slice none 0 0]) (t := 36) ?hr ?_; (case hd => rfl); (case hg => rfl); (case hr => first | (go_simp; done) | (go_simp; rfl)); intro gb261 hg w28 hbox hb; have n0_ := xR HO251 hb; have n1_ := xR HO254 hb; have n2_ := xR HO260 hb; have n3_ := xB BK246 hb; have n4_ := xH HB hb; have n5_ := zA (hbox); have n6_ := zA ((by rw [hg]; exact (below_size (uH HB.out)) : w.heap.size ≤ gb261)); have n7_ := zA ((by rw [hg]; exact (below_size (uH HB.out)) : w.heap.size ≤ gb261)); have n8_ := zA ((by rw [hg]; exact neL BK246 : gb246 ≠ gb261)); have n9_ := zA ((by rw [hg]; exact neG BK246 : gb261 ≠ gb246)); clear HO251 HO254 HO260 BK246 HB; have HO251 := n0_; have HO254 := n1_; have HO260 := n2_; have BK246 := n3_; have HB := n4_; have BK261 := n5_; have GW261 := n6_; have GE261 := n7_; have := geI GE261; have NB246_261 := n8_; have NB261_246 := n9_; clear n0_ n1_ n2_ n3_ n4_ n5_ n6_ n7_ n8_ n9_ hb hbox hg; have hnb29 := NB261_246.out; have hnc29 := NB246_261.out; have hcz30_0 : w28.cell? ⟨gb261, 0, none⟩ = some (.int .i64 0) := (blk_cell BK261.out 0).trans rfl; have hcz30_1 : w28.cell? ⟨gb261, 1, none⟩ = some (.slice none 0 0) := (blk_cell BK261.out 1).trans rfl; have hfz30_0 := blk_frozen BK261.out 0; have hfz30_1 := blk_frozen BK261.out 1; obtain ⟨Ao31, co31, eo31⟩ := Kd.R_slice HO260.out; subst eo31) | ((with_reducible refine gate_callee (f := 17) rfl ?_); refine goesL_ (some 31) rfl rfl Try.func17 (by kernel_rfl) rfl #[.slice A1 l1.length c1] rfl (by (try simp only [List.map_toArray, List.map_cons, List.map_nil]); first | done | rfl | (simp only [List.length_drop, List.length_take]; rfl)) ?_; (with_reducible refine (laws_toInt64S.calls k _ _ l1 t262 _ ?side1 ?side2 A14.out).mono ?_); (case side1 => exact Kd.C_below HR1.out (uH HB.out)); (case side2 => exact HC1.out); rintro e w32 ⟨v263, rfl, ho0, hb⟩; refine ⟨_, rfl, ?_⟩; have n0_ := zA (Kd.R_elder' (uR ((Kd.R_mono (Kd.R_far (p := ⟨gb261, 1, none⟩) (Kd.R_far (p := ⟨gb261, 0, none⟩) (Kd.R_types HO251.out BK261.out (by decide)) (fun _ hk => hk.2) (.int .i64 t257)) (fun _ hk => hk.2) (.slice Ao31 t258.length co31)) (fun _ h_ => h_.1)))) (Kd.R_base ho0) hb); have n1_ := zA (Kd.R_elder' (uR ((Kd.R_mono (Kd.R_far (p := ⟨gb261, 1, none⟩) (Kd.R_far (p := ⟨gb261, 0, none⟩) (Kd.R_types HO254.out BK261.out (by decide)) (fun _ hk => hk.2) (.int .i64 t257)) (fun _ hk => hk.2) (.slice Ao31 t258.length co31)) (fun _ h_ => h_.1)))) (Kd.R_base ho0) hb); have n2_ := zA (Kd.R_elder' (uR ((Kd.R_mono (Kd.R_far (p := ⟨gb261, 1, none⟩) (Kd.R_far (p := ⟨gb261, 0, none⟩) (Kd.R_types HO260.out BK261.out (by decide)) (fun _ hk => hk.2) (.int .i64 t257)) (fun _ hk => hk.2) (.slice Ao31 t258.length co31)) (fun _ h_ => h_.1)))) (Kd.R_base ho0) hb); have n3_ := zA (Kd.R_lower (Kd.R_new' (Kd.R_new' (Kd.R_new' ho0 (Kd.R_lt (uR ((Kd.R_mono (Kd.R_far (p := ⟨gb261, 1, none⟩) (Kd.R_far (p := ⟨gb261, 0, none⟩) (Kd.R_types HO251.out BK261.out (by decide)) (fun _ hk => hk.2) (.int .i64 t257)) (fun _ hk => hk.2) (.slice Ao31 t258.length co31)) (fun _ h_ => h_.1)))))) (Kd.R_lt (uR ((Kd.R_mono (Kd.R_far (p := ⟨gb261, 1, none⟩) (Kd.R_far (p := ⟨gb261, 0, none⟩) (Kd.R_types HO254.out BK261.out (by decide)) (fun _ hk => hk.2) (.int .i64 t257)) (fun _ hk => hk.2) (.slice Ao31 t258.length co31)) (fun _ h_ => h_.1)))))) (Kd.R_lt (uR ((Kd.R_mono (Kd.R_far (p := ⟨gb261, 1, none⟩) (Kd.R_far (p := ⟨gb261, 0, none⟩) (Kd.R_types HO260.out BK261.out (by decide)) (fun _ hk => hk.2) (.int .i64 t257)) (fun _ hk => hk.2) (.slice Ao31 t258.length co31)) (fun _ h_ => h_.1)))))) (below_size (uH HB.out))); have n4_ := zA (blk_below (g := gb246) (o := .cells #[.int .i64 a0_0, .slice A0_1 l0_1.length c0_1] 32 (0, 0)) (by (with_reducible repeat (first | refine blk_drewN ?_ _ | refine blk_drew ?_ | refine blk_alloc ?_ _)); refine blk_far ?_ NB246_261.out _; (with_reducible repeat (first | refine blk_drewN ?_ _ | refine blk_drew ?_ | refine blk_alloc ?_ _)); refine blk_far ?_ NB246_261.out _; (with_reducible repeat (first | refine blk_drewN ?_ _ | refine blk_drew ?_ | refine blk_alloc ?_ _)); exact BK246.out) hb); have n5_ := zA (blk_below (g := gb261) (o := .cells #[.int .i64 t257, .slice Ao31 t258.length co31] 36 (0, 0)) (by (with_reducible repeat (first | refine blk_drewN ?_ _ | refine blk_drew ?_ | refine blk_alloc ?_ _)); refine blk_put (cs := #[.int .i64 t257, .slice none 0 0]) ?_ 1 _ rfl; (with_reducible repeat (first | refine blk_drewN ?_ _ | refine blk_drew ?_ | refine blk_alloc ?_ _)); refine blk_put (cs := #[.int .i64 0, .slice none 0 0]) ?_ 0 _ rfl; (with_reducible repeat (first | refine blk_drewN ?_ _ | refine blk_drew ?_ | refine blk_alloc ?_ _)); exact BK261.out) hb); have n6_ := xH HB hb; clear HO251 HO254 HO260 BK246 BK261 HB; have HO251 := n0_; have HO254 := n1_; have HO260 := n2_; have HO264 := n3_; have BK246 := n4_; have BK261 := n5_; have HB := n6_; clear n0_ n1_ n2_ n3_ n4_ n5_ n6_; (try clear hb); (try clear hb2); (try clear hk); (try clear hi); (try clear ho0); have hcz33_0 : w32.cell? ⟨gb261, 0, none⟩ = some (.int .i64 t257) := (blk_cell BK261.out 0).trans rfl; have hcz33_1 : w32.cell? ⟨gb261, 1, none⟩ = some (.slice Ao31 t258.length co31) := (blk_cell BK261.out 1).trans rfl; have hfz33_0 := blk_frozen BK261.out 0; have hfz33_1 := blk_frozen BK261.out 1; obtain ⟨Ao34, co34, eo34⟩ := Kd.R_slice HO264.out; subst eo34) | ((with_reducible refine gate_callee (f := 18) rfl ?_); refine goesL_ (some 35) rfl rfl Try.func18 (by kernel_rfl) rfl #[.agg #[.int .i64 t257, .slice Ao31 t258.length co31], .slice Ao34 t262.length co34] rfl (by (try simp only [List.map_toArray, List.map_cons, List.map_nil]); first | done | rfl | (simp only [List.length_drop, List.length_take]; rfl)) ?_; (with_reducible refine (impl_ApplyFunctional.calls k t257 _ _ t258 (fun k_ => some k_ = (.slice Ao34 t262.length co34 : Value).ownBlock) _ _ t262 t265 t266 _ ?side1 ?side2 ?side3 A15.out).mono ?_); (case side1 => exact uC ((Kd.R_reads' HO260.out).2.2)); (case side2 => exact (Kd.R_reads' HO260.out).2.1); (case side3 => exact Kd.R_V (Kd.R_tight rfl (Kd.R_types (Kd.R_types (HO264.out) BK246.out (by decide)) BK261.out (by decide)))); rintro e w35 ⟨rfl, hb⟩; refine ⟨_, rfl, ?_⟩; have n0_ := xR HO251 hb; have n1_ := xR HO254 hb; have n2_ := xR HO260 hb; have n3_ := xR HO264 hb; have n4_ := xB BK246 hb; have n5_ := xB BK261 hb; have n6_ := xH HB hb; clear HO251 HO254 HO260 HO264 BK246 BK261 HB; have HO251 := n0_; have HO254 := n1_; have HO260 := n2_; have HO264 := n3_; have BK246 := n4_; have BK261 := n5_; have HB := n6_; clear n0_ n1_ n2_ n3_ n4_ n5_ n6_; (try clear hb); (try clear hb2); (try clear hk); (try clear hi)))
   (try simp only [Act.put, List.setIfInBounds_toArray, List.set_cons_zero, List.set_cons_succ])
   go_cut [45] (fun v45 wc => ∃ (kq : Nat) (x45_15 : Bool), v45 = .bool x45_15 ∧ Aside0 (laws_FnExactApplyFunctional.j0 kq l1 t262 x45_15 a0_0 l0_1 t257 t258 = some r) ∧ Aside0 (kq ≤ k) ∧ Aside0 (Kd.R (Kd.int .i64) 2 wc w.heap.size (fun k_ => some k_ ≠ ((.slice Ao31 t258.length co31) : Value).ownBlock) (.slice Ao34 t262.length co34) t262) ∧ Aside0 (Kd.R (Kd.int .i64) 2 wc w.heap.size (fun k_ => some k_ ≠ ((.slice Ao34 t262.length co34) : Value).ownBlock) (.slice Ao31 t258.length co31) t258) ∧ Aside0 (wc.heap[gb246]? = some (.cells #[.int .i64 a0_0, (.slice A0_1 l0_1.length c0_1)] 32 (0, 0))) ∧ Aside0 (wc.heap[gb261]? = some (.cells #[.int .i64 t257, (.slice Ao31 t258.length co31)] 36 (0, 0))) ∧ Aside0 (Below w.heap.size w wc))
   case first =>
    have H := HC16.out
    clear HC16
    by_cases c36 : t265 = t255
    ·rw [if_pos c36] at H
     have c36b0 : (t265 == t255) = true := beq_iff_eq.mpr c36
     have c36b1 : (t265 != t255) = false := bne_eq_false_iff_eq.mpr c36
     clear c36
     (first | rw [c36b0] | (simp only [i64_w, i32_w]; rw [c36b0]) | skip)
     have H' := zA H
     clear H
     go_wp2
     go_meet
     case rel => exact ⟨_, ((t266 != t256)), (by first | rfl | (simp; done) | (simp [*]; done)), H', ⟨by first | omega | exact Nat.le_refl _⟩, ⟨uR (Kd.R_mono HO264.out (fun _ hk => hk.2))⟩, ⟨uR (Kd.R_mono HO260.out (fun _ hk => hk.2))⟩, ⟨uB BK246.out⟩, ⟨uB BK261.out⟩, ⟨uH HB.out⟩⟩
    ·rw [if_neg c36] at H
     have c36b0 : (t265 == t255) = false := beq_eq_false_iff_ne.mpr c36
     have c36b1 : (t265 != t255) = true := bne_iff_ne.mpr c36
     (first | rw [c36b0] | (simp only [i64_w, i32_w]; rw [c36b0]) | skip)
     have H' := zA H
     clear H
     go_wp2
     go_meet
     case rel => exact ⟨_, (true), (by first | rfl | (simp; done) | (simp [*]; done)), H', ⟨by first | omega | exact Nat.le_refl _⟩, ⟨uR (Kd.R_mono HO264.out (fun _ hk => hk.2))⟩, ⟨uR (Kd.R_mono HO260.out (fun _ hk => hk.2))⟩, ⟨uB BK246.out⟩, ⟨uB BK261.out⟩, ⟨uH HB.out⟩⟩
   case rest =>
    clear HC16
    try clear c1
    try clear c2
    try clear p2
    try clear c3
    try clear c3b0
    try clear c3b1
    try clear c4
    try clear c6
    try clear c6b0
    try clear c14
    try clear c15
    try clear c16
    try clear c17
    try clear c18
    try clear c29
    try clear c36
    try clear c36b0
    try clear c36b1
    try clear hcz18_0
    try clear hcz18_1
    try clear hcz20_0
    try clear hcz20_1
    try clear hcz26_0
    try clear hcz26_1
    try clear hcz30_0
    try clear hcz30_1
    try clear hcz33_0
    try clear hcz33_1
    try clear hcz8_0
    try clear hcz8_1
    try clear hfz18_0
    try clear hfz18_1
    try clear hfz20_0
    try clear hfz20_1
    try clear hfz26_0
    try clear hfz26_1
    try clear hfz30_0
    try clear hfz30_1
    try clear hfz33_0
    try clear hfz33_1
    try clear hfz8_0
    try clear hfz8_1
    obtain ⟨kq, x45_15, rfl, HA, HJ15, HO_9, HO_262001, BK246, BK261, HB⟩ := hcut
    cases kq with
    | zero => exact absurd HA.out (by simp [laws_FnExactApplyFunctional.j0])
    | succ kj15 =>
     have H := HA.out
     clear HA
     simp only [laws_FnExactApplyFunctional.j0] at H
     by_cases c37 : x45_15 = true
     ·subst c37
      have H1 : (some false) = some r := by rw [if_pos rfl] at H; exact H
      clear H
      have H := H1
      clear H1
      rw [HRT.out] at H
      exact absurd H (by simp)
     ·replace c37 := Bool.eq_false_iff.mpr c37
      subst c37
      have H1 : ((laws_toMoments.f kj15 a0_0 l0_1).bind fun bt267 => ((laws_eqMoments.f kj15 t257 t258 bt267.1 bt267.2).bind fun t271 => (if t271 = true then ((laws_toInt64S.f kj15 l1).bind fun t272 => ((laws_eqInt64S.f kj15 t262 t272).bind fun t275 => (if t275 = true then (some true) else (some false)))) else (some false)))) = some r := by rw [if_neg (show ¬ (false = true) by decide)] at H; exact H
      clear H
      have H := H1
      clear H1
      replace H := Option.bind_eq_some_iff.mp H
      obtain ⟨⟨t267, t268⟩, A380, H⟩ := H
      replace H : ((laws_eqMoments.f kj15 t257 t258 t267 t268).bind fun t271 => (if t271 = true then ((laws_toInt64S.f kj15 l1).bind fun t272 => ((laws_eqInt64S.f kj15 t262 t272).bind fun t275 => (if t275 = true then (some true) else (some false)))) else (some false))) = some r := H
      have A38 := zA A380
      clear A380
      replace H := Option.bind_eq_some_iff.mp H
      obtain ⟨t271, A390, H⟩ := H
      replace H : (if t271 = true then ((laws_toInt64S.f kj15 l1).bind fun t272 => ((laws_eqInt64S.f kj15 t262 t272).bind fun t275 => (if t275 = true then (some true) else (some false)))) else (some false)) = some r := H
      have A39 := zA A390
      clear A390
      by_cases c40 : t271 = true
      ·subst c40
       have H1 : ((laws_toInt64S.f kj15 l1).bind fun t272 => ((laws_eqInt64S.f kj15 t262 t272).bind fun t275 => (if t275 = true then (some true) else (some false)))) = some r := by rw [if_pos rfl] at H; exact H
       clear H
       have H := H1
       clear H1
       replace H := Option.bind_eq_some_iff.mp H
       obtain ⟨t272, A410, H⟩ := H
       replace H : ((laws_eqInt64S.f kj15 t262 t272).bind fun t275 => (if t275 = true then (some true) else (some false))) = some r := H
       have A41 := zA A410
       clear A410
       replace H := Option.bind_eq_some_iff.mp H
       obtain ⟨t275, A420, H⟩ := H
       replace H : (if t275 = true then (some true) else (some false)) = some r := H
       have A42 := zA A420
       clear A420
       by_cases c43 : t275 = true
       ·subst c43
        have H1 : (some true) = some r := by rw [if_pos rfl] at H; exact H
        clear H
        have H := H1
        clear H1
        obtain rfl := Option.some.inj H
        try go_wp2
        have n0_ := zA (Kd.R_drew HO_9.out)
        have n1_ := zA (Kd.R_drew HO_262001.out)
        have n2_ := zA (blk_drew BK246.out)
        have n3_ := zA (blk_drew BK261.out)
        have n4_ := zA (below_drew1 HB.out)
        clear HO_9 HO_262001 BK246 BK261 HB
        have HO_9 := n0_; have HO_262001 := n1_; have BK246 := n2_; have BK261 := n3_; have HB := n4_
        clear n0_ n1_ n2_ n3_ n4_
        refine start_ (n := 5) (S := fun w' => w'.cell? ⟨gb261, 0, none⟩ = some (.int .i64 t257) ∧ w'.cell? ⟨gb261, 1, none⟩ = some (.slice Ao31 t258.length co31) ∧ w'.cell? ⟨gb246, 0, none⟩ = some (.int .i64 a0_0) ∧ w'.cell? ⟨gb246, 1, none⟩ = some (.slice A0_1 l0_1.length c0_1)) (ds := []) #[false, false, false, false, false] (by kernel_rfl) rfl rfl ⟨(blk_cell BK261.out 0).trans rfl, (blk_cell BK261.out 1).trans rfl, (blk_cell BK246.out 0).trans rfl, (blk_cell BK246.out 1).trans rfl⟩ (fun hHeld => ?_)
        generalize wc.drew = w44 at HO_9 HO_262001 BK246 BK261 HB hHeld ⊢
        refine take_ (i := 0) (N := some 46) (v := ?_) (a' := ?_) #[true, false, false, false, false] rfl rfl (by kernel_rfl) (fun _ _ _ h => h) (Or.inl ⟨by rfl, ?_⟩) hHeld ?_ ?_
        rotate_left
        ·rintro w' ⟨s0, s1, s2, s3⟩
         go_simp
         with_reducible rfl
        rotate_left
        ·simp only [Act.put, List.setIfInBounds_toArray, List.set_cons_zero, List.set_cons_succ, i64_w, i32_w]
         rfl
        refine take_ (i := 1) (N := some 47) (v := ?_) (a' := ?_) #[true, true, false, false, false] rfl rfl (by kernel_rfl) (fun _ _ _ h => h) (Or.inl ⟨by rfl, ?_⟩) hHeld ?_ ?_
        rotate_left
        ·rintro w' ⟨s0, s1, s2, s3⟩
         go_simp
         with_reducible rfl
        rotate_left
        ·simp only [Act.put, List.setIfInBounds_toArray, List.set_cons_zero, List.set_cons_succ, i64_w, i32_w]
         rfl
        refine one_ (i := 2) (N := some 48) #[true, true, true, false, false] rfl rfl (by kernel_rfl) (by decide) (fun K hK => ?_)
        refine goes_ Try.func16 (by kernel_rfl) rfl #[.agg #[.int .i64 a0_0, .slice A0_1 l0_1.length c0_1]] (by rfl) rfl rfl (by (try simp only [List.map_toArray, List.map_cons, List.map_nil]); first | done | rfl | (simp only [List.length_drop, List.length_take]; rfl)) ?_
        with_reducible refine (laws_toMoments.calls kj15 a0_0 _ _ l0_1 t267 t268 _ ?side1 ?side2 A38.out).mono ?_
        (case side1 => exact uC ((Kd.C_below HR0_1.out HB.out)))
        (case side2 => exact HC0_1.out)
        rintro e w45 ⟨v269, rfl, ho0, hb⟩
        refine ⟨_, rfl, ?_⟩
        have n0_ := zA (Kd.R_elder' (uR HO_9.out) (Kd.R_base ho0) hb)
        have n1_ := zA (Kd.R_elder' (uR HO_262001.out) (Kd.R_base ho0) hb)
        have n2_ := zA (Kd.R_lower (Kd.R_new' (Kd.R_new' ho0 (Kd.R_lt (uR HO_9.out))) (Kd.R_lt (uR HO_262001.out))) (below_size (uH HB.out)))
        have n3_ := xB BK246 hb
        have n4_ := xB BK261 hb
        have n5_ := xH HB hb
        clear HO_9 HO_262001 BK246 BK261 HB
        have HO_9 := n0_; have HO_262001 := n1_; have HO270 := n2_; have BK246 := n3_; have BK261 := n4_; have HB := n5_
        clear n0_ n1_ n2_ n3_ n4_ n5_
        (try clear hb); (try clear hb2); (try clear hk); (try clear hi); (try clear ho0)
        obtain ⟨Ao46, co46, eo46⟩ := Kd.R_slice HO270.out
        (first | subst eo46 | (injection eo46 with f1_ f2_ f3_; have f4_ := f1_.symm; have f5_ := f3_.symm; clear f1_ f2_ f3_; subst f4_; subst f5_))
        refine hK.out _ _ ⟨(blk_cell BK261.out 0).trans rfl, (blk_cell BK261.out 1).trans rfl, (blk_cell BK246.out 0).trans rfl, (blk_cell BK246.out 1).trans rfl⟩ (fun hHeld => ?_)
        clear hK K
        refine norm_ (a' := ?_) ?_ ?_
        rotate_left
        ·show Act.put _ (some 48) _ = _
         simp only [Act.put, List.setIfInBounds_toArray, List.set_cons_zero, List.set_cons_succ, i64_w, i32_w]
         rfl
        refine one_ (i := 3) (N := some 49) #[true, true, true, true, false] rfl rfl (by kernel_rfl) (by decide) (fun K hK => ?_)
        refine goes_ Try.func19 (by kernel_rfl) rfl #[.agg #[.int .i64 t257, .slice Ao31 t258.length co31], .agg #[.int .i64 t267, .slice Ao46 t268.length co46]] (by rfl) rfl rfl (by (try simp only [List.map_toArray, List.map_cons, List.map_nil]); first | done | rfl | (simp only [List.length_drop, List.length_take]; rfl)) ?_
        with_reducible refine (laws_eqMoments.calls kj15 t257 _ _ t258 t267 _ _ t268 true _ ?side1 ?side2 ?side3 ?side4 A39.out).mono ?_
        (case side1 => exact uC ((Kd.R_reads' HO_262001.out).2.2))
        (case side2 => exact (Kd.R_reads' HO_262001.out).2.1)
        (case side3 => exact uC ((Kd.R_reads' HO270.out).2.2))
        (case side4 => exact (Kd.R_reads' HO270.out).2.1)
        rintro e w47 ⟨rfl, hb⟩
        refine ⟨_, rfl, ?_⟩
        have n0_ := xR HO_9 hb
        have n1_ := xR HO_262001 hb
        have n2_ := xR HO270 hb
        have n3_ := xB BK246 hb
        have n4_ := xB BK261 hb
        have n5_ := xH HB hb
        clear HO_9 HO_262001 HO270 BK246 BK261 HB
        have HO_9 := n0_; have HO_262001 := n1_; have HO270 := n2_; have BK246 := n3_; have BK261 := n4_; have HB := n5_
        clear n0_ n1_ n2_ n3_ n4_ n5_
        (try clear hb); (try clear hb2); (try clear hk); (try clear hi)
        refine hK.out _ _ ⟨(blk_cell BK261.out 0).trans rfl, (blk_cell BK261.out 1).trans rfl, (blk_cell BK246.out 0).trans rfl, (blk_cell BK246.out 1).trans rfl⟩ (fun hHeld => ?_)
        clear hK K
        refine norm_ (a' := ?_) ?_ ?_
        rotate_left
        ·show Act.put _ (some 49) _ = _
         simp only [Act.put, List.setIfInBounds_toArray, List.set_cons_zero, List.set_cons_succ, i64_w, i32_w]
         rfl
        refine pure_ (i := 4) (N := some 50) (v := ?_) (a' := ?_) #[true, true, true, true, true] rfl rfl (by kernel_rfl) (fun _ _ _ h => h) (Or.inl ⟨by rfl, ?_⟩) ?_ ?_
        rotate_left
        ·intro w'
         go_simp
         with_reducible rfl
        rotate_left
        ·simp only [Act.put, List.setIfInBounds_toArray, List.set_cons_zero, List.set_cons_succ, i64_w, i32_w]
         rfl
        refine done_ (by kernel_rfl) ?_
        try go_wp2_with (first | ((with_reducible refine gate_callee (f := 17) rfl ?_); refine goesL_ (some 53) rfl rfl Try.func17 (by kernel_rfl) rfl #[.slice A1 l1.length c1] rfl (by (try simp only [List.map_toArray, List.map_cons, List.map_nil]); first | done | rfl | (simp only [List.length_drop, List.length_take]; rfl)) ?_; (with_reducible refine (laws_toInt64S.calls kj15 _ _ l1 t272 _ ?side1 ?side2 A41.out).mono ?_); (case side1 => exact uC ((Kd.C_below HR1.out HB.out))); (case side2 => exact HC1.out); rintro e w48 ⟨v273, rfl, ho0, hb⟩; refine ⟨_, rfl, ?_⟩; have n0_ := zA (Kd.R_elder' (uR HO_9.out) (Kd.R_base ho0) hb); have n1_ := zA (Kd.R_elder' (uR HO_262001.out) (Kd.R_base ho0) hb); have n2_ := zA (Kd.R_elder' (uR HO270.out) (Kd.R_base ho0) hb); have n3_ := zA (Kd.R_lower (Kd.R_new' (Kd.R_new' (Kd.R_new' ho0 (Kd.R_lt (uR HO_9.out))) (Kd.R_lt (uR HO_262001.out))) (Kd.R_lt (uR HO270.out))) (below_size (uH HB.out))); have n4_ := xB BK246 hb; have n5_ := xB BK261 hb; have n6_ := xH HB hb; clear HO_9 HO_262001 HO270 BK246 BK261 HB; have HO_9 := n0_; have HO_262001 := n1_; have HO270 := n2_; have HO274 := n3_; have BK246 := n4_; have BK261 := n5_; have HB := n6_; clear n0_ n1_ n2_ n3_ n4_ n5_ n6_; (try clear hb); (try clear hb2); (try clear hk); (try clear hi); (try clear ho0); obtain ⟨Ao49, co49, eo49⟩ := Kd.R_slice HO274.out; subst eo49) | ((with_reducible refine gate_callee (f := 20) rfl ?_); refine goesL_ (some 54) rfl rfl Try.func20 (by kernel_rfl) rfl #[.slice Ao34 t262.length co34, .slice Ao49 t272.length co49] rfl (by (try simp only [List.map_toArray, List.map_cons, List.map_nil]); first | done | rfl | (simp only [List.length_drop, List.length_take]; rfl)) ?_; (with_reducible refine (laws_eqInt64S.calls kj15 _ _ t262 _ _ t272 true _ ?side1 ?side2 ?side3 ?side4 A42.out).mono ?_); (case side1 => exact uC ((Kd.R_reads' HO_9.out).2.2)); (case side2 => exact (Kd.R_reads' HO_9.out).2.1); (case side3 => exact uC ((Kd.R_reads' HO274.out).2.2)); (case side4 => exact (Kd.R_reads' HO274.out).2.1); rintro e w' ⟨rfl, ⟨nd, rfl⟩⟩; refine ⟨_, rfl, ?_⟩))
        go_ret
        exact ⟨by first | rfl | (simp [errW_none, errW_some] <;> rfl) | (simp [*, errW_none, errW_some] <;> rfl), uH HB.out⟩
       ·replace c43 := Bool.eq_false_iff.mpr c43
        subst c43
        have H1 : (some false) = some r := by rw [if_neg (show ¬ (false = true) by decide)] at H; exact H
        clear H
        have H := H1
        clear H1
        rw [HRT.out] at H
        exact absurd H (by simp)
      ·replace c40 := Bool.eq_false_iff.mpr c40
       subst c40
       have H1 : (some false) = some r := by rw [if_neg (show ¬ (false = true) by decide)] at H; exact H
       clear H
       have H := H1
       clear H1
       rw [HRT.out] at H
       exact absurd H (by simp)

/-- THE ONE PURE STATEMENT of laws_FnExactApplyFunctional: yours. -/
def laws_FnExactApplyFunctional.Pure : Prop := ∀ (a0_0 : Int) (l0_1 : List Int) (l1 : List Int), (Lit.int .i64 a0_0).wf = true → l0_1.length ≤ maxLen → (∀ x ∈ l0_1, (Lit.int .i64 x).wf = true) → l1.length ≤ maxLen → l1.length * 8 ≤ 140737488351232 → (∀ x ∈ l1, (Lit.int .i64 x).wf = true) → ∃ k, laws_FnExactApplyFunctional.f k a0_0 l0_1 l1 = some true
theorem laws_FnExactApplyFunctional.walk (P : laws_FnExactApplyFunctional.Pure) (a0_0 : Int) (a0_1 : Option Addr) (len0_1 cap0_1 : Nat) (z0_1 : List Int) (a1 : Option Addr) (len1 cap1 : Nat) (z1 : List Int) (w : World) (w0_0 : (Lit.int .i64 a0_0).wf = true) (w0_1 : (a0_1 = none ∧ len0_1 = 0 ∧ cap0_1 = 0 ∧ z0_1 = []) ∨ ∃ x, a0_1 = some x ∧ len0_1 ≤ cap0_1 ∧ cap0_1 ≤ maxLen ∧ z0_1.length = cap0_1 ∧ (∀ i, i < z0_1.length → w.cell? (x.add i) = some (.int .i64 (z0_1.getD i 0))) ∧ ∀ n ∈ z0_1, (Lit.int .i64 n).wf = true) (w1 : (a1 = none ∧ len1 = 0 ∧ cap1 = 0 ∧ z1 = []) ∨ ∃ x, a1 = some x ∧ len1 ≤ cap1 ∧ cap1 ≤ maxLen ∧ z1.length = cap1 ∧ (∀ i, i < z1.length → w.cell? (x.add i) = some (.int .i64 (z1.getD i 0))) ∧ ∀ n ∈ z1, (Lit.int .i64 n).wf = true) (y1 : len1 * 8 ≤ 140737488351232) :
  Calls Try.prog 4 #[.agg #[.int .i64 a0_0, .slice a0_1 len0_1 cap0_1], .slice a1 len1 cap1] w fun e w' => e = .returned (.bool true) ∧ Below w.heap.size w w' := by
 obtain ⟨l0_1, rfl, hr0_1, hm0_1, hw0_1, hc0_1⟩ := ReadsInt.ofRowC w0_1
 obtain ⟨l1, rfl, hr1, hm1, hw1, hc1⟩ := ReadsInt.ofRowC w1
 obtain ⟨k, h⟩ := P a0_0 l0_1 l1 w0_0 hm0_1 hw0_1 hm1 y1 hw1
 refine (laws_FnExactApplyFunctional.calls k a0_0 _ _ l0_1 _ _ l1 true rfl w (Kd.C_of_reads (d := (0 : Int)) (h1 := fun _ => rfl) hr0_1) hc0_1 (Kd.C_of_reads (d := (0 : Int)) (h1 := fun _ => rfl) hr1) hc1 h).mono ?_
 rintro e w' ⟨rfl, hd⟩
 exact ⟨rfl, hd⟩

end Go.Proofs.Ytcfiegapclbenaa.Pr
