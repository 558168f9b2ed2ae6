/- Printed by a program of this session out of the translation: what these functions of the program compute, under the conditions that each theorem names. -/
import Derived.Test.YtcfiegapclbenaaKC01
import Derived.Test.YtcfiegapclbenaaKC11
import Derived.Test.YtcfiegapclbenaaKIsOrthogonal1
import Derived.Test.YtcfiegapclbenaaKFimplIsOrthogonal
namespace Go.Proofs.Ytcfiegapclbenaa.Pr
open Go.RowKit Go.Proofs.YtcfiegapclbenaaW.PrintWords Go.Proofs.YtcfiegapclbenaaW.PrintLast Go.Proofs.YtcfiegapclbenaaW.PrintMore
attribute [local go_sem] max2_int min2_int max_two min_two max_three min_three max_four min_four   -- for this text's walks alone
set_option linter.unusedVariables false
set_option linter.unusedSimpArgs false

/-! ### laws_FnExactIsOrthogonal: function 7 -/
def laws_FnExactIsOrthogonal.j0 : Nat → List Int → List Int → Bool → Int → List Int → Int → List Int → Option (Bool)
 | 0, _, _, _, _, _, _, _ => none
 | k + 1, x1, x11, x49, x482000, x482001, x497000, x497001 => if x49 = true then (some false) else ((laws_toMoments.f k x482000 x482001).bind fun bt502 => ((laws_eqMoments.f k x497000 x497001 bt502.1 bt502.2).bind fun t506 => (if t506 = true then ((laws_toInt64S.f k x1).bind fun t507 => ((laws_eqInt64S.f k x11 t507).bind fun t510 => (if t510 = true then (some true) else (some false)))) else (some false))))
def laws_FnExactIsOrthogonal.f (k : Nat) (a0_0 : Int) (l0_1 : List Int) (l1 : List Int) (a2 : Int) : Option (Bool) := if (l1.length : Int) > 1048576 then (some true) else ((laws_szMoments.f a0_0 l0_1 1048576).bind fun t482 => (if t482 < 0 then (some true) else ((laws_toMoments.f k a0_0 l0_1).bind fun bt483 => ((laws_toInt64S.f k l1).bind fun t487 => ((spec_IsOrthogonal.f k bt483.1 bt483.2 t487 a2).bind fun bt490 => ((laws_toMoments.f k a0_0 l0_1).bind fun bt492 => ((laws_toInt64S.f k l1).bind fun t497 => ((impl_IsOrthogonal.f k bt492.1 bt492.2 t497 a2).bind fun bt500 => (if (bt500.1 != bt490.1) = true then (laws_FnExactIsOrthogonal.j0 k l1 t497 true a0_0 l0_1 bt492.1 bt492.2) else (laws_FnExactIsOrthogonal.j0 k l1 t497 (bt500.2 != bt490.2) a0_0 l0_1 bt492.1 bt492.2))))))))))
theorem laws_FnExactIsOrthogonal.mono_l : ∀ k, (∀ y0 y1 y2 y3 y4 y5 y6, LeO (laws_FnExactIsOrthogonal.j0 k y0 y1 y2 y3 y4 y5 y6) (laws_FnExactIsOrthogonal.j0 (k + 1) y0 y1 y2 y3 y4 y5 y6))
 | 0 => fun _ _ _ _ _ _ _ r h => by simp [laws_FnExactIsOrthogonal.j0] at h
 | k + 1 => by
  have ih0 := laws_FnExactIsOrthogonal.mono_l k
  ·intro y0 y1 y2 y3 y4 y5 y6
   unfold laws_FnExactIsOrthogonal.j0
   repeat' first
   | (with_reducible exact ih0 _ _ _ _ _ _ _)
   | (with_reducible exact impl_IsOrthogonal.mono _ _ _ _ _)
   | (with_reducible exact laws_eqInt64S.mono _ _ _)
   | (with_reducible exact laws_eqMoments.mono _ _ _ _ _)
   | (with_reducible exact laws_toInt64S.mono _ _)
   | (with_reducible exact laws_toMoments.mono _ _ _)
   | (with_reducible exact spec_IsOrthogonal.mono _ _ _ _ _)
   | (with_reducible exact LeO.refl _)
   | (with_reducible exact LeO.none _)
   | (with_reducible refine LeO.ite ?_ ?_)
   | (with_reducible refine LeO.bind ?_ (fun _ => ?_))
   | exact ih0 _ _ _ _ _ _ _
   | exact impl_IsOrthogonal.mono _ _ _ _ _
   | exact laws_eqInt64S.mono _ _ _
   | exact laws_eqMoments.mono _ _ _ _ _
   | exact laws_toInt64S.mono _ _
   | exact laws_toMoments.mono _ _ _
   | exact spec_IsOrthogonal.mono _ _ _ _ _
   | exact LeO.none _
   | refine LeO.ite ?_ ?_
   | refine LeO.bind ?_ (fun _ => ?_)
theorem laws_FnExactIsOrthogonal.mono : ∀ a0 a1 a2 a3 k, LeO (laws_FnExactIsOrthogonal.f k a0 a1 a2 a3) (laws_FnExactIsOrthogonal.f (k + 1) a0 a1 a2 a3) := by
 intro a0 a1 a2 a3 k
 have ih0 := laws_FnExactIsOrthogonal.mono_l k
 unfold laws_FnExactIsOrthogonal.f
 repeat' first
   | (with_reducible exact ih0 _ _ _ _ _ _ _)
   | (with_reducible exact impl_IsOrthogonal.mono _ _ _ _ _)
   | (with_reducible exact laws_eqInt64S.mono _ _ _)
   | (with_reducible exact laws_eqMoments.mono _ _ _ _ _)
   | (with_reducible exact laws_toInt64S.mono _ _)
   | (with_reducible exact laws_toMoments.mono _ _ _)
   | (with_reducible exact spec_IsOrthogonal.mono _ _ _ _ _)
   | (with_reducible exact LeO.refl _)
   | (with_reducible exact LeO.none _)
   | (with_reducible refine LeO.ite ?_ ?_)
   | (with_reducible refine LeO.bind ?_ (fun _ => ?_))
   | exact ih0 _ _ _ _ _ _ _
   | exact impl_IsOrthogonal.mono _ _ _ _ _
   | exact laws_eqInt64S.mono _ _ _
   | exact laws_eqMoments.mono _ _ _ _ _
   | exact laws_toInt64S.mono _ _
   | exact laws_toMoments.mono _ _ _
   | exact spec_IsOrthogonal.mono _ _ _ _ _
   | exact LeO.none _
   | refine LeO.ite ?_ ?_
   | refine LeO.bind ?_ (fun _ => ?_)
set_option maxHeartbeats 8000000 in
set_option maxRecDepth 100000 in
theorem laws_FnExactIsOrthogonal.calls (k : Nat) (a0_0 : Int) (A0_1 : Option Addr) (c0_1 : Nat) (l0_1 : List Int) (A1 : Option Addr) (c1 : Nat) (l1 : List Int) (a2 : Int) (r : Bool) (hr_ : r = true) (w : World) (hr0_1 : Kd.C (Kd.int .i64) w A0_1 l0_1.length l0_1) (hc0_1 : l0_1.length ≤ c0_1) (hr1 : Kd.C (Kd.int .i64) w A1 l1.length l1) (hc1 : l1.length ≤ c1) (h : laws_FnExactIsOrthogonal.f k a0_0 l0_1 l1 a2 = some r) :
  Calls Try.prog 7 #[.agg #[.int .i64 a0_0, .slice A0_1 l0_1.length c0_1], .slice A1 l1.length c1, .int .i64 a2] w fun e w' => e = .returned (.bool r) ∧ Below w.heap.size w w' := by
 have hu32 := Try.underlying32
 have hu36 := Try.underlying36
 have HRT := zA hr_
 clear hr_
 have HR0_1 := zA hr0_1
 have HC0_1 := zA hc0_1
 clear hr0_1 hc0_1
 have HR1 := zA hr1
 have HC1 := zA hc1
 clear hr1 hc1
 have HB := zA (Below.refl w.heap.size w)
 have H : (if (l1.length : Int) > 1048576 then (some true) else ((laws_szMoments.f a0_0 l0_1 1048576).bind fun t482 => (if t482 < 0 then (some true) else ((laws_toMoments.f k a0_0 l0_1).bind fun bt483 => ((laws_toInt64S.f k l1).bind fun t487 => ((spec_IsOrthogonal.f k bt483.1 bt483.2 t487 a2).bind fun bt490 => ((laws_toMoments.f k a0_0 l0_1).bind fun bt492 => ((laws_toInt64S.f k l1).bind fun t497 => ((impl_IsOrthogonal.f k bt492.1 bt492.2 t497 a2).bind fun bt500 => (if (bt500.1 != bt490.1) = true then (laws_FnExactIsOrthogonal.j0 k l1 t497 true a0_0 l0_1 bt492.1 bt492.2) else (laws_FnExactIsOrthogonal.j0 k l1 t497 (bt500.2 != bt490.2) a0_0 l0_1 bt492.1 bt492.2))))))))))) = some r := h
 clear h
 by_cases c4 : (l1.length : Int) > 1048576
 ·rw [if_pos c4] at H
  have c4b0 : decide (1048576 < (l1.length : Int)) = true := decide_eq_true c4
  have c4b1 : decide (1048576 < l1.length) = true := decide_eq_true (by omega)
  clear c4
  obtain rfl := Option.some.inj H
  go_enter Try.func7, Try.ntmps7
  go_wp2_with (first | ((with_reducible refine gate_dst (N := 3) rfl ?_); refine box_event ?hg (N := 3) ?hd (cs := #[.int .i64 a0_0, .slice A0_1 l0_1.length c0_1]) (t := 32) ?hr ?_; (case hd => rfl); (case hg => rfl); (case hr => first | (go_simp; done) | (go_simp; rfl)); intro gb481 hg w5 hbox hb; have n0_ := xH HB hb; have n1_ := zA (hbox); have n2_ := zA ((by rw [hg]; exact (below_size (uH HB.out)) : w.heap.size ≤ gb481)); have n3_ := zA ((by rw [hg]; exact (below_size (uH HB.out)) : w.heap.size ≤ gb481)); clear HB; have HB := n0_; have BK481 := n1_; have GW481 := n2_; have GE481 := n3_; have := geI GE481; clear n0_ n1_ n2_ n3_ hb hbox hg))
  go_ret
  exact ⟨by first | rfl | (simp [errW_none, errW_some] <;> rfl) | (simp [*, errW_none, errW_some] <;> rfl), uH HB.out⟩
 ·rw [if_neg c4] at H
  have c4b0 : decide (1048576 < (l1.length : Int)) = false := decide_eq_false c4
  have c4b1 : decide (1048576 < l1.length) = false := decide_eq_false (by omega)
  clear c4
  replace H := Option.bind_eq_some_iff.mp H
  obtain ⟨t482, A60, H⟩ := H
  replace H : (if t482 < 0 then (some true) else ((laws_toMoments.f k a0_0 l0_1).bind fun bt483 => ((laws_toInt64S.f k l1).bind fun t487 => ((spec_IsOrthogonal.f k bt483.1 bt483.2 t487 a2).bind fun bt490 => ((laws_toMoments.f k a0_0 l0_1).bind fun bt492 => ((laws_toInt64S.f k l1).bind fun t497 => ((impl_IsOrthogonal.f k bt492.1 bt492.2 t497 a2).bind fun bt500 => (if (bt500.1 != bt490.1) = true then (laws_FnExactIsOrthogonal.j0 k l1 t497 true a0_0 l0_1 bt492.1 bt492.2) else (laws_FnExactIsOrthogonal.j0 k l1 t497 (bt500.2 != bt490.2) a0_0 l0_1 bt492.1 bt492.2))))))))) = some r := H
  have A6 := zA A60
  clear A60
  by_cases c7 : t482 < 0
  ·rw [if_pos c7] at H
   have c7b0 : decide (t482 < 0) = true := decide_eq_true c7
   clear c7
   obtain rfl := Option.some.inj H
   go_enter Try.func7, Try.ntmps7
   go_wp2_with (first | ((with_reducible refine gate_dst (N := 3) rfl ?_); refine box_event ?hg (N := 3) ?hd (cs := #[.int .i64 a0_0, .slice A0_1 l0_1.length c0_1]) (t := 32) ?hr ?_; (case hd => rfl); (case hg => rfl); (case hr => first | (go_simp; done) | (go_simp; rfl)); intro gb481 hg w8 hbox hb; have n0_ := xH HB hb; have n1_ := zA (hbox); have n2_ := zA ((by rw [hg]; exact (below_size (uH HB.out)) : w.heap.size ≤ gb481)); have n3_ := zA ((by rw [hg]; exact (below_size (uH HB.out)) : w.heap.size ≤ gb481)); clear HB; have HB := n0_; have BK481 := n1_; have GW481 := n2_; have GE481 := n3_; have := geI GE481; clear n0_ n1_ n2_ n3_ hb hbox hg; have hcz9_0 : w8.cell? ⟨gb481, 0, none⟩ = some (.int .i64 a0_0) := (blk_cell BK481.out 0).trans rfl; have hcz9_1 : w8.cell? ⟨gb481, 1, none⟩ = some (.slice A0_1 l0_1.length c0_1) := (blk_cell BK481.out 1).trans rfl; have hfz9_0 := blk_frozen BK481.out 0; have hfz9_1 := blk_frozen BK481.out 1) | ((with_reducible refine gate_callee (f := 14) rfl ?_); refine goesL_ (some 19) rfl rfl Try.func14 (by kernel_rfl) rfl #[.agg #[.int .i64 a0_0, .slice A0_1 l0_1.length c0_1], .int .i64 1048576] rfl (by (try simp only [List.map_toArray, List.map_cons, List.map_nil]); first | done | rfl | (simp only [List.length_drop, List.length_take]; rfl)) ?_; (with_reducible refine (laws_szMoments.calls a0_0 _ _ l0_1 1048576 t482 _ ?side1 ?side2 A6.out).mono ?_); (case side1 => exact uC ((Kd.C_below HR0_1.out HB.out))); (case side2 => exact HC0_1.out); rintro e w10 ⟨rfl, hb⟩; refine ⟨_, rfl, ?_⟩; have n0_ := xB BK481 hb; have n1_ := xH HB hb; clear BK481 HB; have BK481 := n0_; have HB := n1_; clear n0_ n1_; (try clear hb); (try clear hb2); (try clear hk); (try clear hi)))
   go_ret
   exact ⟨by first | rfl | (simp [errW_none, errW_some] <;> rfl) | (simp [*, errW_none, errW_some] <;> rfl), uH HB.out⟩
  ·rw [if_neg c7] at H
   have c7b0 : decide (t482 < 0) = false := decide_eq_false c7
   clear c7
   replace H := Option.bind_eq_some_iff.mp H
   obtain ⟨⟨t483, t484⟩, A110, H⟩ := H
   replace H : ((laws_toInt64S.f k l1).bind fun t487 => ((spec_IsOrthogonal.f k t483 t484 t487 a2).bind fun bt490 => ((laws_toMoments.f k a0_0 l0_1).bind fun bt492 => ((laws_toInt64S.f k l1).bind fun t497 => ((impl_IsOrthogonal.f k bt492.1 bt492.2 t497 a2).bind fun bt500 => (if (bt500.1 != bt490.1) = true then (laws_FnExactIsOrthogonal.j0 k l1 t497 true a0_0 l0_1 bt492.1 bt492.2) else (laws_FnExactIsOrthogonal.j0 k l1 t497 (bt500.2 != bt490.2) a0_0 l0_1 bt492.1 bt492.2))))))) = some r := H
   have A11 := zA A110
   clear A110
   replace H := Option.bind_eq_some_iff.mp H
   obtain ⟨t487, A120, H⟩ := H
   replace H : ((spec_IsOrthogonal.f k t483 t484 t487 a2).bind fun bt490 => ((laws_toMoments.f k a0_0 l0_1).bind fun bt492 => ((laws_toInt64S.f k l1).bind fun t497 => ((impl_IsOrthogonal.f k bt492.1 bt492.2 t497 a2).bind fun bt500 => (if (bt500.1 != bt490.1) = true then (laws_FnExactIsOrthogonal.j0 k l1 t497 true a0_0 l0_1 bt492.1 bt492.2) else (laws_FnExactIsOrthogonal.j0 k l1 t497 (bt500.2 != bt490.2) a0_0 l0_1 bt492.1 bt492.2)))))) = some r := H
   have A12 := zA A120
   clear A120
   replace H := Option.bind_eq_some_iff.mp H
   obtain ⟨⟨t490, t491⟩, A130, H⟩ := H
   replace H : ((laws_toMoments.f k a0_0 l0_1).bind fun bt492 => ((laws_toInt64S.f k l1).bind fun t497 => ((impl_IsOrthogonal.f k bt492.1 bt492.2 t497 a2).bind fun bt500 => (if (bt500.1 != t490) = true then (laws_FnExactIsOrthogonal.j0 k l1 t497 true a0_0 l0_1 bt492.1 bt492.2) else (laws_FnExactIsOrthogonal.j0 k l1 t497 (bt500.2 != t491) a0_0 l0_1 bt492.1 bt492.2))))) = some r := H
   have A13 := zA A130
   clear A130
   replace H := Option.bind_eq_some_iff.mp H
   obtain ⟨⟨t492, t493⟩, A140, H⟩ := H
   replace H : ((laws_toInt64S.f k l1).bind fun t497 => ((impl_IsOrthogonal.f k t492 t493 t497 a2).bind fun bt500 => (if (bt500.1 != t490) = true then (laws_FnExactIsOrthogonal.j0 k l1 t497 true a0_0 l0_1 t492 t493) else (laws_FnExactIsOrthogonal.j0 k l1 t497 (bt500.2 != t491) a0_0 l0_1 t492 t493)))) = some r := H
   have A14 := zA A140
   clear A140
   replace H := Option.bind_eq_some_iff.mp H
   obtain ⟨t497, A150, H⟩ := H
   replace H : ((impl_IsOrthogonal.f k t492 t493 t497 a2).bind fun bt500 => (if (bt500.1 != t490) = true then (laws_FnExactIsOrthogonal.j0 k l1 t497 true a0_0 l0_1 t492 t493) else (laws_FnExactIsOrthogonal.j0 k l1 t497 (bt500.2 != t491) a0_0 l0_1 t492 t493))) = some r := H
   have A15 := zA A150
   clear A150
   replace H := Option.bind_eq_some_iff.mp H
   obtain ⟨⟨t500, t501⟩, A160, H⟩ := H
   replace H : (if (t500 != t490) = true then (laws_FnExactIsOrthogonal.j0 k l1 t497 true a0_0 l0_1 t492 t493) else (laws_FnExactIsOrthogonal.j0 k l1 t497 (t501 != t491) a0_0 l0_1 t492 t493)) = some r := H
   have A16 := zA A160
   clear A160
   have HC17 := zA H
   clear H
   go_enter Try.func7, Try.ntmps7
   go_upto_region 11 with (first | ((with_reducible refine gate_dst (N := 3) rfl ?_); refine box_event ?hg (N := 3) ?hd (cs := #[.int .i64 a0_0, .slice A0_1 l0_1.length c0_1]) (t := 32) ?hr ?_; (case hd => rfl); (case hg => rfl); (case hr => first | (go_simp; done) | (go_simp; rfl)); intro gb481 hg w18 hbox hb; have n0_ := xH HB hb; have n1_ := zA (hbox); have n2_ := zA ((by rw [hg]; exact (below_size (uH HB.out)) : w.heap.size ≤ gb481)); have n3_ := zA ((by rw [hg]; exact (below_size (uH HB.out)) : w.heap.size ≤ gb481)); clear HB; have HB := n0_; have BK481 := n1_; have GW481 := n2_; have GE481 := n3_; have := geI GE481; clear n0_ n1_ n2_ n3_ hb hbox hg; have hcz19_0 : w18.cell? ⟨gb481, 0, none⟩ = some (.int .i64 a0_0) := (blk_cell BK481.out 0).trans rfl; have hcz19_1 : w18.cell? ⟨gb481, 1, none⟩ = some (.slice A0_1 l0_1.length c0_1) := (blk_cell BK481.out 1).trans rfl; have hfz19_0 := blk_frozen BK481.out 0; have hfz19_1 := blk_frozen BK481.out 1) | ((with_reducible refine gate_callee (f := 14) rfl ?_); refine goesL_ (some 19) rfl rfl Try.func14 (by kernel_rfl) rfl #[.agg #[.int .i64 a0_0, .slice A0_1 l0_1.length c0_1], .int .i64 1048576] rfl (by (try simp only [List.map_toArray, List.map_cons, List.map_nil]); first | done | rfl | (simp only [List.length_drop, List.length_take]; rfl)) ?_; (with_reducible refine (laws_szMoments.calls a0_0 _ _ l0_1 1048576 t482 _ ?side1 ?side2 A6.out).mono ?_); (case side1 => exact uC ((Kd.C_below HR0_1.out HB.out))); (case side2 => exact HC0_1.out); rintro e w20 ⟨rfl, hb⟩; refine ⟨_, rfl, ?_⟩; have n0_ := xB BK481 hb; have n1_ := xH HB hb; clear BK481 HB; have BK481 := n0_; have HB := n1_; clear n0_ n1_; (try clear hb); (try clear hb2); (try clear hk); (try clear hi); have hcz21_0 : w20.cell? ⟨gb481, 0, none⟩ = some (.int .i64 a0_0) := (blk_cell BK481.out 0).trans rfl; have hcz21_1 : w20.cell? ⟨gb481, 1, none⟩ = some (.slice A0_1 l0_1.length c0_1) := (blk_cell BK481.out 1).trans rfl; have hfz21_0 := blk_frozen BK481.out 0; have hfz21_1 := blk_frozen BK481.out 1) | ((with_reducible refine gate_callee (f := 16) rfl ?_); refine goesL_ (some 24) rfl rfl Try.func16 (by kernel_rfl) rfl #[.agg #[.int .i64 a0_0, .slice A0_1 l0_1.length c0_1]] rfl (by (try simp only [List.map_toArray, List.map_cons, List.map_nil]); first | done | rfl | (simp only [List.length_drop, List.length_take]; rfl)) ?_; (with_reducible refine (laws_toMoments.calls k a0_0 _ _ l0_1 t483 t484 _ ?side1 ?side2 A11.out).mono ?_); (case side1 => exact uC ((Kd.C_below HR0_1.out HB.out))); (case side2 => exact HC0_1.out); rintro e w22 ⟨v485, rfl, ho0, hb⟩; refine ⟨_, rfl, ?_⟩; have n0_ := zA (Kd.R_lower ho0 (below_size (uH HB.out))); have n1_ := xB BK481 hb; have n2_ := xH HB hb; clear BK481 HB; have HO486 := n0_; have BK481 := n1_; have HB := n2_; clear n0_ n1_ n2_; (try clear hb); (try clear hb2); (try clear hk); (try clear hi); (try clear ho0)) | ((with_reducible refine gate_callee (f := 17) rfl ?_); refine goesL_ (some 26) rfl rfl Try.func17 (by kernel_rfl) rfl #[.slice A1 l1.length c1] rfl (by (try simp only [List.map_toArray, List.map_cons, List.map_nil]); first | done | rfl | (simp only [List.length_drop, List.length_take]; rfl)) ?_; (with_reducible refine (laws_toInt64S.calls k _ _ l1 t487 _ ?side1 ?side2 A12.out).mono ?_); (case side1 => exact uC ((Kd.C_below HR1.out HB.out))); (case side2 => exact HC1.out); rintro e w23 ⟨v488, rfl, ho0, hb⟩; refine ⟨_, rfl, ?_⟩; have n0_ := zA (Kd.R_elder' (uR HO486.out) (Kd.R_base ho0) hb); have n1_ := zA (Kd.R_lower (Kd.R_new' ho0 (Kd.R_lt (uR HO486.out))) (below_size (uH HB.out))); have n2_ := xB BK481 hb; have n3_ := xH HB hb; clear HO486 BK481 HB; have HO486 := n0_; have HO489 := n1_; have BK481 := n2_; have HB := n3_; clear n0_ n1_ n2_ n3_; (try clear hb); (try clear hb2); (try clear hk); (try clear hi); (try clear ho0); obtain ⟨Ao24, co24, eo24⟩ := Kd.R_slice HO486.out; subst eo24; obtain ⟨Ao25, co25, eo25⟩ := Kd.R_slice HO489.out; subst eo25) | ((with_reducible refine gate_callee (f := 27) rfl ?_); refine goesL_ (some 28) rfl rfl Try.func27 (by kernel_rfl) rfl #[.agg #[.int .i64 t483, .slice Ao24 t484.length co24], .slice Ao25 t487.length co25, .int .i64 a2] rfl (by (try simp only [List.map_toArray, List.map_cons, List.map_nil]); first | done | rfl | (simp only [List.length_drop, List.length_take]; rfl)) ?_; (with_reducible refine (spec_IsOrthogonal.calls k t483 _ _ t484 _ _ t487 a2 t490 t491 _ ?side1 ?side2 ?side3 ?side4 A13.out).mono ?_); (case side1 => exact uC ((Kd.R_reads' HO486.out).2.2)); (case side2 => exact (Kd.R_reads' HO486.out).2.1); (case side3 => exact uC ((Kd.R_reads' HO489.out).2.2)); (case side4 => exact (Kd.R_reads' HO489.out).2.1); rintro e w26 ⟨rfl, hb⟩; refine ⟨_, rfl, ?_⟩; have n0_ := xR HO486 hb; have n1_ := xR HO489 hb; have n2_ := xB BK481 hb; have n3_ := xH HB hb; clear HO486 HO489 BK481 HB; have HO486 := n0_; have HO489 := n1_; have BK481 := n2_; have HB := n3_; clear n0_ n1_ n2_ n3_; (try clear hb); (try clear hb2); (try clear hk); (try clear hi); have hcz27_0 : w26.cell? ⟨gb481, 0, none⟩ = some (.int .i64 a0_0) := (blk_cell BK481.out 0).trans rfl; have hcz27_1 : w26.cell? ⟨gb481, 1, none⟩ = some (.slice A0_1 l0_1.length c0_1) := (blk_cell BK481.out 1).trans rfl; have hfz27_0 := blk_frozen BK481.out 0; have hfz27_1 := blk_frozen BK481.out 1) | ((with_reducible refine gate_callee (f := 16) rfl ?_); refine goesL_ (some 32) rfl rfl Try.func16 (by kernel_rfl) rfl #[.agg #[.int .i64 a0_0, .slice A0_1 l0_1.length c0_1]] rfl (by (try simp only [List.map_toArray, List.map_cons, List.map_nil]); first | done | rfl | (simp only [List.length_drop, List.length_take]; rfl)) ?_; (with_reducible refine (laws_toMoments.calls k a0_0 _ _ l0_1 t492 t493 _ ?side1 ?side2 A14.out).mono ?_); (case side1 => exact uC ((Kd.C_below HR0_1.out HB.out))); (case side2 => exact HC0_1.out); rintro e w28 ⟨v494, rfl, ho0, hb⟩; refine ⟨_, rfl, ?_⟩; have n0_ := zA (Kd.R_elder' (uR HO486.out) (Kd.R_base ho0) hb); have n1_ := zA (Kd.R_elder' (uR HO489.out) (Kd.R_base ho0) hb); have n2_ := zA (Kd.R_lower (Kd.R_new' (Kd.R_new' ho0 (Kd.R_lt (uR HO486.out))) (Kd.R_lt (uR HO489.out))) (below_size (uH HB.out))); have n3_ := xB BK481 hb; have n4_ := xH HB hb; clear HO486 HO489 BK481 HB; have HO486 := n0_; have HO489 := n1_; have HO495 := n2_; have BK481 := n3_; have HB := n4_; clear n0_ n1_ n2_ n3_ n4_; (try clear hb); (try clear hb2); (try clear hk); (try clear hi); (try clear ho0)) | ((with_reducible refine gate_dst (N := 10) rfl ?_); refine box_event ?hg (N := 10) ?hd (cs := #[.int .i64 0, .slice none 0 0]) (t := 36) ?hr ?_; (case hd => rfl); (case hg => rfl); (case hr => first | (go_simp; done) | (go_simp; rfl)); intro gb496 hg w29 hbox hb; have n0_ := xR HO486 hb; have n1_ := xR HO489 hb; have n2_ := xR HO495 hb; have n3_ := xB BK481 hb; have n4_ := xH HB hb; have n5_ := zA (hbox); have n6_ := zA ((by rw [hg]; exact (below_size (uH HB.out)) : w.heap.size ≤ gb496)); have n7_ := zA ((by rw [hg]; exact (below_size (uH HB.out)) : w.heap.size ≤ gb496)); have n8_ := zA ((by rw [hg]; exact neL BK481 : gb481 ≠ gb496)); have n9_ := zA ((by rw [hg]; exact neG BK481 : gb496 ≠ gb481)); clear HO486 HO489 HO495 BK481 HB; have HO486 := n0_; have HO489 := n1_; have HO495 := n2_; have BK481 := n3_; have HB := n4_; have BK496 := n5_; have GW496 := n6_; have GE496 := n7_; have := geI GE496; have NB481_496 := n8_; have NB496_481 := n9_; clear n0_ n1_ n2_ n3_ n4_ n5_ n6_ n7_ n8_ n9_ hb hbox hg; have hnb30 := NB496_481.out; have hnc30 := NB481_496.out; have hcz31_0 : w29.cell? ⟨gb496, 0, none⟩ = some (.int .i64 0) := (blk_cell BK496.out 0).trans rfl; have hcz31_1 : w29.cell? ⟨gb496, 1, none⟩ = some (.slice none 0 0) := (blk_cell BK496.out 1).trans rfl; have hfz31_0 := blk_frozen BK496.out 0; have hfz31_1 := blk_frozen BK496.out 1; obtain ⟨Ao32, co32, eo32⟩ := Kd.R_slice HO495.out; subst eo32) | ((with_reducible refine gate_callee (f := 17) rfl ?_); refine goesL_ (some 34) rfl rfl Try.func17 (by kernel_rfl) rfl #[.slice A1 l1.length c1] rfl (by (try simp only [List.map_toArray, List.map_cons, List.map_nil]); first | done | rfl | (simp only [List.length_drop, List.length_take]; rfl)) ?_; (with_reducible refine (laws_toInt64S.calls k _ _ l1 t497 _ ?side1 ?side2 A15.out).mono ?_); (case side1 => exact Kd.C_below HR1.out (uH HB.out)); (case side2 => exact HC1.out); rintro e w33 ⟨v498, rfl, ho0, hb⟩; refine ⟨_, rfl, ?_⟩; have n0_ := zA (Kd.R_elder' (uR ((Kd.R_mono (Kd.R_far (p := ⟨gb496, 1, none⟩) (Kd.R_far (p := ⟨gb496, 0, none⟩) (Kd.R_types HO486.out BK496.out (by decide)) (fun _ hk => hk.2) (.int .i64 t492)) (fun _ hk => hk.2) (.slice Ao32 t493.length co32)) (fun _ h_ => h_.1)))) (Kd.R_base ho0) hb); have n1_ := zA (Kd.R_elder' (uR ((Kd.R_mono (Kd.R_far (p := ⟨gb496, 1, none⟩) (Kd.R_far (p := ⟨gb496, 0, none⟩) (Kd.R_types HO489.out BK496.out (by decide)) (fun _ hk => hk.2) (.int .i64 t492)) (fun _ hk => hk.2) (.slice Ao32 t493.length co32)) (fun _ h_ => h_.1)))) (Kd.R_base ho0) hb); have n2_ := zA (Kd.R_elder' (uR ((Kd.R_mono (Kd.R_far (p := ⟨gb496, 1, none⟩) (Kd.R_far (p := ⟨gb496, 0, none⟩) (Kd.R_types HO495.out BK496.out (by decide)) (fun _ hk => hk.2) (.int .i64 t492)) (fun _ hk => hk.2) (.slice Ao32 t493.length co32)) (fun _ h_ => h_.1)))) (Kd.R_base ho0) hb); have n3_ := zA (Kd.R_lower (Kd.R_new' (Kd.R_new' (Kd.R_new' ho0 (Kd.R_lt (uR ((Kd.R_mono (Kd.R_far (p := ⟨gb496, 1, none⟩) (Kd.R_far (p := ⟨gb496, 0, none⟩) (Kd.R_types HO486.out BK496.out (by decide)) (fun _ hk => hk.2) (.int .i64 t492)) (fun _ hk => hk.2) (.slice Ao32 t493.length co32)) (fun _ h_ => h_.1)))))) (Kd.R_lt (uR ((Kd.R_mono (Kd.R_far (p := ⟨gb496, 1, none⟩) (Kd.R_far (p := ⟨gb496, 0, none⟩) (Kd.R_types HO489.out BK496.out (by decide)) (fun _ hk => hk.2) (.int .i64 t492)) (fun _ hk => hk.2) (.slice Ao32 t493.length co32)) (fun _ h_ => h_.1)))))) (Kd.R_lt (uR ((Kd.R_mono (Kd.R_far (p := ⟨gb496, 1, none⟩) (Kd.R_far (p := ⟨gb496, 0, none⟩) (Kd.R_types HO495.out BK496.out (by decide)) (fun _ hk => hk.2) (.int .i64 t492)) (fun _ hk => hk.2) (.slice Ao32 t493.length co32)) (fun _ h_ => h_.1)))))) (below_size (uH HB.out))); have n4_ := zA (blk_below (g := gb481) (o := .cells #[.int .i64 a0_0, .slice A0_1 l0_1.length c0_1] 32 (0, 0)) (by (with_reducible repeat (first | refine blk_drewN ?_ _ | refine blk_drew ?_ | refine blk_alloc ?_ _)); refine blk_far ?_ NB481_496.out _; (with_reducible repeat (first | refine blk_drewN ?_ _ | refine blk_drew ?_ | refine blk_alloc ?_ _)); refine blk_far ?_ NB481_496.out _; (with_reducible repeat (first | refine blk_drewN ?_ _ | refine blk_drew ?_ | refine blk_alloc ?_ _)); exact BK481.out) hb); have n5_ := zA (blk_below (g := gb496) (o := .cells #[.int .i64 t492, .slice Ao32 t493.length co32] 36 (0, 0)) (by (with_reducible repeat (first | refine blk_drewN ?_ _ | refine blk_drew ?_ | refine blk_alloc ?_ _)); refine blk_put (cs := #[.int .i64 t492, .slice none 0 0]) ?_ 1 _ rfl; (with_reducible repeat (first | refine blk_drewN ?_ _ | refine blk_drew ?_ | refine blk_alloc ?_ _)); refine blk_put (cs := #[.int .i64 0, .slice none 0 0]) ?_ 0 _ rfl; (with_reducible repeat (first | refine blk_drewN ?_ _ | refine blk_drew ?_ | refine blk_alloc ?_ _)); exact BK496.out) hb); have n6_ := xH HB hb; clear HO486 HO489 HO495 BK481 BK496 HB; have HO486 := n0_; have HO489 := n1_; have HO495 := n2_; have HO499 := n3_; have BK481 := n4_; have BK496 := n5_; have HB := n6_; clear n0_ n1_ n2_ n3_ n4_ n5_ n6_; (try clear hb); (try clear hb2); (try clear hk); (try clear hi); (try clear ho0); have hcz34_0 : w33.cell? ⟨gb496, 0, none⟩ = some (.int .i64 t492) := (blk_cell BK496.out 0).trans rfl; have hcz34_1 : w33.cell? ⟨gb496, 1, none⟩ = some (.slice Ao32 t493.length co32) := (blk_cell BK496.out 1).trans rfl; have hfz34_0 := blk_frozen BK496.out 0; have hfz34_1 := blk_frozen BK496.out 1; obtain ⟨Ao35, co35, eo35⟩ := Kd.R_slice HO499.out; subst eo35) | ((with_reducible refine gate_callee (f := 28) rfl ?_); refine goesL_ (some 39) rfl rfl Try.func28 (by kernel_rfl) rfl #[.agg #[.int .i64 t492, .slice Ao32 t493.length co32], .slice Ao35 t497.length co35, .int .i64 a2] rfl (by (try simp only [List.map_toArray, List.map_cons, List.map_nil]); first | done | rfl | (simp only [List.length_drop, List.length_take]; rfl)) ?_; (with_reducible refine (impl_IsOrthogonal.calls k t492 _ _ t493 (fun k_ => some k_ = (.slice Ao35 t497.length co35 : Value).ownBlock) _ _ t497 a2 t500 t501 _ ?side1 ?side2 ?side3 A16.out).mono ?_); (case side1 => exact uC ((Kd.R_reads' HO495.out).2.2)); (case side2 => exact (Kd.R_reads' HO495.out).2.1); (case side3 => exact Kd.R_V (Kd.R_tight rfl (Kd.R_types (Kd.R_types (HO499.out) BK481.out (by decide)) BK496.out (by decide)))); rintro e w36 ⟨rfl, hb⟩; refine ⟨_, rfl, ?_⟩; have n0_ := xR HO486 hb; have n1_ := xR HO489 hb; have n2_ := xR HO495 hb; have n3_ := xR HO499 hb; have n4_ := xB BK481 hb; have n5_ := xB BK496 hb; have n6_ := xH HB hb; clear HO486 HO489 HO495 HO499 BK481 BK496 HB; have HO486 := n0_; have HO489 := n1_; have HO495 := n2_; have HO499 := n3_; have BK481 := n4_; have BK496 := n5_; have HB := n6_; clear n0_ n1_ n2_ n3_ n4_ n5_ n6_; (try clear hb); (try clear hb2); (try clear hk); (try clear hi)))
   (try simp only [Act.put, List.setIfInBounds_toArray, List.set_cons_zero, List.set_cons_succ])
   go_cut [49] (fun v49 wc => ∃ (kq : Nat) (x49_16 : Bool), v49 = .bool x49_16 ∧ Aside0 (laws_FnExactIsOrthogonal.j0 kq l1 t497 x49_16 a0_0 l0_1 t492 t493 = some r) ∧ Aside0 (kq ≤ k) ∧ Aside0 (Kd.R (Kd.int .i64) 2 wc w.heap.size (fun k_ => some k_ ≠ ((.slice Ao32 t493.length co32) : Value).ownBlock) (.slice Ao35 t497.length co35) t497) ∧ Aside0 (Kd.R (Kd.int .i64) 2 wc w.heap.size (fun k_ => some k_ ≠ ((.slice Ao35 t497.length co35) : Value).ownBlock) (.slice Ao32 t493.length co32) t493) ∧ Aside0 (wc.heap[gb481]? = some (.cells #[.int .i64 a0_0, (.slice A0_1 l0_1.length c0_1)] 32 (0, 0))) ∧ Aside0 (wc.heap[gb496]? = some (.cells #[.int .i64 t492, (.slice Ao32 t493.length co32)] 36 (0, 0))) ∧ Aside0 (Below w.heap.size w wc))
   case first =>
    have H := HC17.out
    clear HC17
    by_cases c37 : (t500 != t490) = true
    ·rw [if_pos c37] at H
     have c37b0 : (t500 != t490) = true := c37
     (try (have c37b1 : decide (t500 = t490) = false := by simpa using c37))
     (try (have c37b2 : (t500 == t490) = false := by simpa using c37))
     (try (have c37b3 : ¬ (t500 = t490) := by simpa using c37))
     clear c37
     (first | rw [c37b0] | (simp only [i64_w, i32_w]; rw [c37b0]) | skip)
     have H' := zA H
     clear H
     go_wp2
     go_meet
     case rel => exact ⟨_, (true), (by first | rfl | (simp; done) | (simp [*]; done)), H', ⟨by first | omega | exact Nat.le_refl _⟩, ⟨uR (Kd.R_mono HO499.out (fun _ hk => hk.2))⟩, ⟨uR (Kd.R_mono HO495.out (fun _ hk => hk.2))⟩, ⟨uB BK481.out⟩, ⟨uB BK496.out⟩, ⟨uH HB.out⟩⟩
    ·rw [if_neg c37] at H
     have c37b0 : (t500 != t490) = false := by simpa using c37
     (try (have c37b1 : decide (t500 = t490) = true := by simpa using c37))
     (try (have c37b2 : (t500 == t490) = true := by simpa using c37))
     clear c37
     (first | rw [c37b0] | (simp only [i64_w, i32_w]; rw [c37b0]) | skip)
     have H' := zA H
     clear H
     go_wp2
     go_meet
     case rel => exact ⟨_, ((t501 != t491)), (by first | rfl | (simp; done) | (simp [*]; done)), H', ⟨by first | omega | exact Nat.le_refl _⟩, ⟨uR (Kd.R_mono HO499.out (fun _ hk => hk.2))⟩, ⟨uR (Kd.R_mono HO495.out (fun _ hk => hk.2))⟩, ⟨uB BK481.out⟩, ⟨uB BK496.out⟩, ⟨uH HB.out⟩⟩
   case rest =>
    clear HC17
    try clear c1
    try clear c2
    try clear p2
    try clear c3
    try clear c4
    try clear c4b0
    try clear c4b1
    try clear c7
    try clear c7b0
    try clear c14
    try clear c16
    try clear c17
    try clear c27
    try clear c28
    try clear c30
    try clear c37
    try clear c37b0
    try clear c37b1
    try clear c37b2
    try clear hcz19_0
    try clear hcz19_1
    try clear hcz21_0
    try clear hcz21_1
    try clear hcz27_0
    try clear hcz27_1
    try clear hcz31_0
    try clear hcz31_1
    try clear hcz34_0
    try clear hcz34_1
    try clear hcz9_0
    try clear hcz9_1
    try clear hfz19_0
    try clear hfz19_1
    try clear hfz21_0
    try clear hfz21_1
    try clear hfz27_0
    try clear hfz27_1
    try clear hfz31_0
    try clear hfz31_1
    try clear hfz34_0
    try clear hfz34_1
    try clear hfz9_0
    try clear hfz9_1
    obtain ⟨kq, x49_16, rfl, HA, HJ16, HO_11, HO_497001, BK481, BK496, HB⟩ := hcut
    cases kq with
    | zero => exact absurd HA.out (by simp [laws_FnExactIsOrthogonal.j0])
    | succ kj16 =>
     have H := HA.out
     clear HA
     simp only [laws_FnExactIsOrthogonal.j0] at H
     by_cases c38 : x49_16 = true
     ·subst c38
      have H1 : (some false) = some r := by rw [if_pos rfl] at H; exact H
      clear H
      have H := H1
      clear H1
      rw [HRT.out] at H
      exact absurd H (by simp)
     ·replace c38 := Bool.eq_false_iff.mpr c38
      subst c38
      have H1 : ((laws_toMoments.f kj16 a0_0 l0_1).bind fun bt502 => ((laws_eqMoments.f kj16 t492 t493 bt502.1 bt502.2).bind fun t506 => (if t506 = true then ((laws_toInt64S.f kj16 l1).bind fun t507 => ((laws_eqInt64S.f kj16 t497 t507).bind fun t510 => (if t510 = true then (some true) else (some false)))) else (some false)))) = some r := by rw [if_neg (show ¬ (false = true) by decide)] at H; exact H
      clear H
      have H := H1
      clear H1
      replace H := Option.bind_eq_some_iff.mp H
      obtain ⟨⟨t502, t503⟩, A390, H⟩ := H
      replace H : ((laws_eqMoments.f kj16 t492 t493 t502 t503).bind fun t506 => (if t506 = true then ((laws_toInt64S.f kj16 l1).bind fun t507 => ((laws_eqInt64S.f kj16 t497 t507).bind fun t510 => (if t510 = true then (some true) else (some false)))) else (some false))) = some r := H
      have A39 := zA A390
      clear A390
      replace H := Option.bind_eq_some_iff.mp H
      obtain ⟨t506, A400, H⟩ := H
      replace H : (if t506 = true then ((laws_toInt64S.f kj16 l1).bind fun t507 => ((laws_eqInt64S.f kj16 t497 t507).bind fun t510 => (if t510 = true then (some true) else (some false)))) else (some false)) = some r := H
      have A40 := zA A400
      clear A400
      by_cases c41 : t506 = true
      ·subst c41
       have H1 : ((laws_toInt64S.f kj16 l1).bind fun t507 => ((laws_eqInt64S.f kj16 t497 t507).bind fun t510 => (if t510 = true then (some true) else (some false)))) = some r := by rw [if_pos rfl] at H; exact H
       clear H
       have H := H1
       clear H1
       replace H := Option.bind_eq_some_iff.mp H
       obtain ⟨t507, A420, H⟩ := H
       replace H : ((laws_eqInt64S.f kj16 t497 t507).bind fun t510 => (if t510 = true then (some true) else (some false))) = some r := H
       have A42 := zA A420
       clear A420
       replace H := Option.bind_eq_some_iff.mp H
       obtain ⟨t510, A430, H⟩ := H
       replace H : (if t510 = true then (some true) else (some false)) = some r := H
       have A43 := zA A430
       clear A430
       by_cases c44 : t510 = true
       ·subst c44
        have H1 : (some true) = some r := by rw [if_pos rfl] at H; exact H
        clear H
        have H := H1
        clear H1
        obtain rfl := Option.some.inj H
        try go_wp2
        have n0_ := zA (Kd.R_drew HO_11.out)
        have n1_ := zA (Kd.R_drew HO_497001.out)
        have n2_ := zA (blk_drew BK481.out)
        have n3_ := zA (blk_drew BK496.out)
        have n4_ := zA (below_drew1 HB.out)
        clear HO_11 HO_497001 BK481 BK496 HB
        have HO_11 := n0_; have HO_497001 := n1_; have BK481 := n2_; have BK496 := n3_; have HB := n4_
        clear n0_ n1_ n2_ n3_ n4_
        refine start_ (n := 5) (S := fun w' => w'.cell? ⟨gb496, 0, none⟩ = some (.int .i64 t492) ∧ w'.cell? ⟨gb496, 1, none⟩ = some (.slice Ao32 t493.length co32) ∧ w'.cell? ⟨gb481, 0, none⟩ = some (.int .i64 a0_0) ∧ w'.cell? ⟨gb481, 1, none⟩ = some (.slice A0_1 l0_1.length c0_1)) (ds := []) #[false, false, false, false, false] (by kernel_rfl) rfl rfl ⟨(blk_cell BK496.out 0).trans rfl, (blk_cell BK496.out 1).trans rfl, (blk_cell BK481.out 0).trans rfl, (blk_cell BK481.out 1).trans rfl⟩ (fun hHeld => ?_)
        generalize wc.drew = w45 at HO_11 HO_497001 BK481 BK496 HB hHeld ⊢
        refine take_ (i := 0) (N := some 50) (v := ?_) (a' := ?_) #[true, false, false, false, false] rfl rfl (by kernel_rfl) (fun _ _ _ h => h) (Or.inl ⟨by rfl, ?_⟩) hHeld ?_ ?_
        rotate_left
        ·rintro w' ⟨s0, s1, s2, s3⟩
         go_simp
         with_reducible rfl
        rotate_left
        ·simp only [Act.put, List.setIfInBounds_toArray, List.set_cons_zero, List.set_cons_succ, i64_w, i32_w]
         rfl
        refine take_ (i := 1) (N := some 51) (v := ?_) (a' := ?_) #[true, true, false, false, false] rfl rfl (by kernel_rfl) (fun _ _ _ h => h) (Or.inl ⟨by rfl, ?_⟩) hHeld ?_ ?_
        rotate_left
        ·rintro w' ⟨s0, s1, s2, s3⟩
         go_simp
         with_reducible rfl
        rotate_left
        ·simp only [Act.put, List.setIfInBounds_toArray, List.set_cons_zero, List.set_cons_succ, i64_w, i32_w]
         rfl
        refine one_ (i := 2) (N := some 52) #[true, true, true, false, false] rfl rfl (by kernel_rfl) (by decide) (fun K hK => ?_)
        refine goes_ Try.func16 (by kernel_rfl) rfl #[.agg #[.int .i64 a0_0, .slice A0_1 l0_1.length c0_1]] (by rfl) rfl rfl (by (try simp only [List.map_toArray, List.map_cons, List.map_nil]); first | done | rfl | (simp only [List.length_drop, List.length_take]; rfl)) ?_
        with_reducible refine (laws_toMoments.calls kj16 a0_0 _ _ l0_1 t502 t503 _ ?side1 ?side2 A39.out).mono ?_
        (case side1 => exact uC ((Kd.C_below HR0_1.out HB.out)))
        (case side2 => exact HC0_1.out)
        rintro e w46 ⟨v504, rfl, ho0, hb⟩
        refine ⟨_, rfl, ?_⟩
        have n0_ := zA (Kd.R_elder' (uR HO_11.out) (Kd.R_base ho0) hb)
        have n1_ := zA (Kd.R_elder' (uR HO_497001.out) (Kd.R_base ho0) hb)
        have n2_ := zA (Kd.R_lower (Kd.R_new' (Kd.R_new' ho0 (Kd.R_lt (uR HO_11.out))) (Kd.R_lt (uR HO_497001.out))) (below_size (uH HB.out)))
        have n3_ := xB BK481 hb
        have n4_ := xB BK496 hb
        have n5_ := xH HB hb
        clear HO_11 HO_497001 BK481 BK496 HB
        have HO_11 := n0_; have HO_497001 := n1_; have HO505 := n2_; have BK481 := n3_; have BK496 := n4_; have HB := n5_
        clear n0_ n1_ n2_ n3_ n4_ n5_
        (try clear hb); (try clear hb2); (try clear hk); (try clear hi); (try clear ho0)
        obtain ⟨Ao47, co47, eo47⟩ := Kd.R_slice HO505.out
        (first | subst eo47 | (injection eo47 with f1_ f2_ f3_; have f4_ := f1_.symm; have f5_ := f3_.symm; clear f1_ f2_ f3_; subst f4_; subst f5_))
        refine hK.out _ _ ⟨(blk_cell BK496.out 0).trans rfl, (blk_cell BK496.out 1).trans rfl, (blk_cell BK481.out 0).trans rfl, (blk_cell BK481.out 1).trans rfl⟩ (fun hHeld => ?_)
        clear hK K
        refine norm_ (a' := ?_) ?_ ?_
        rotate_left
        ·show Act.put _ (some 52) _ = _
         simp only [Act.put, List.setIfInBounds_toArray, List.set_cons_zero, List.set_cons_succ, i64_w, i32_w]
         rfl
        refine one_ (i := 3) (N := some 53) #[true, true, true, true, false] rfl rfl (by kernel_rfl) (by decide) (fun K hK => ?_)
        refine goes_ Try.func19 (by kernel_rfl) rfl #[.agg #[.int .i64 t492, .slice Ao32 t493.length co32], .agg #[.int .i64 t502, .slice Ao47 t503.length co47]] (by rfl) rfl rfl (by (try simp only [List.map_toArray, List.map_cons, List.map_nil]); first | done | rfl | (simp only [List.length_drop, List.length_take]; rfl)) ?_
        with_reducible refine (laws_eqMoments.calls kj16 t492 _ _ t493 t502 _ _ t503 true _ ?side1 ?side2 ?side3 ?side4 A40.out).mono ?_
        (case side1 => exact uC ((Kd.R_reads' HO_497001.out).2.2))
        (case side2 => exact (Kd.R_reads' HO_497001.out).2.1)
        (case side3 => exact uC ((Kd.R_reads' HO505.out).2.2))
        (case side4 => exact (Kd.R_reads' HO505.out).2.1)
        rintro e w48 ⟨rfl, hb⟩
        refine ⟨_, rfl, ?_⟩
        have n0_ := xR HO_11 hb
        have n1_ := xR HO_497001 hb
        have n2_ := xR HO505 hb
        have n3_ := xB BK481 hb
        have n4_ := xB BK496 hb
        have n5_ := xH HB hb
        clear HO_11 HO_497001 HO505 BK481 BK496 HB
        have HO_11 := n0_; have HO_497001 := n1_; have HO505 := n2_; have BK481 := n3_; have BK496 := n4_; have HB := n5_
        clear n0_ n1_ n2_ n3_ n4_ n5_
        (try clear hb); (try clear hb2); (try clear hk); (try clear hi)
        refine hK.out _ _ ⟨(blk_cell BK496.out 0).trans rfl, (blk_cell BK496.out 1).trans rfl, (blk_cell BK481.out 0).trans rfl, (blk_cell BK481.out 1).trans rfl⟩ (fun hHeld => ?_)
        clear hK K
        refine norm_ (a' := ?_) ?_ ?_
        rotate_left
        ·show Act.put _ (some 53) _ = _
         simp only [Act.put, List.setIfInBounds_toArray, List.set_cons_zero, List.set_cons_succ, i64_w, i32_w]
         rfl
        refine pure_ (i := 4) (N := some 54) (v := ?_) (a' := ?_) #[true, true, true, true, true] rfl rfl (by kernel_rfl) (fun _ _ _ h => h) (Or.inl ⟨by rfl, ?_⟩) ?_ ?_
        rotate_left
        ·intro w'
         go_simp
         with_reducible rfl
        rotate_left
        ·simp only [Act.put, List.setIfInBounds_toArray, List.set_cons_zero, List.set_cons_succ, i64_w, i32_w]
         rfl
        refine done_ (by kernel_rfl) ?_
        try go_wp2_with (first | ((with_reducible refine gate_callee (f := 17) rfl ?_); refine goesL_ (some 57) rfl rfl Try.func17 (by kernel_rfl) rfl #[.slice A1 l1.length c1] rfl (by (try simp only [List.map_toArray, List.map_cons, List.map_nil]); first | done | rfl | (simp only [List.length_drop, List.length_take]; rfl)) ?_; (with_reducible refine (laws_toInt64S.calls kj16 _ _ l1 t507 _ ?side1 ?side2 A42.out).mono ?_); (case side1 => exact uC ((Kd.C_below HR1.out HB.out))); (case side2 => exact HC1.out); rintro e w49 ⟨v508, rfl, ho0, hb⟩; refine ⟨_, rfl, ?_⟩; have n0_ := zA (Kd.R_elder' (uR HO_11.out) (Kd.R_base ho0) hb); have n1_ := zA (Kd.R_elder' (uR HO_497001.out) (Kd.R_base ho0) hb); have n2_ := zA (Kd.R_elder' (uR HO505.out) (Kd.R_base ho0) hb); have n3_ := zA (Kd.R_lower (Kd.R_new' (Kd.R_new' (Kd.R_new' ho0 (Kd.R_lt (uR HO_11.out))) (Kd.R_lt (uR HO_497001.out))) (Kd.R_lt (uR HO505.out))) (below_size (uH HB.out))); have n4_ := xB BK481 hb; have n5_ := xB BK496 hb; have n6_ := xH HB hb; clear HO_11 HO_497001 HO505 BK481 BK496 HB; have HO_11 := n0_; have HO_497001 := n1_; have HO505 := n2_; have HO509 := n3_; have BK481 := n4_; have BK496 := n5_; have HB := n6_; clear n0_ n1_ n2_ n3_ n4_ n5_ n6_; (try clear hb); (try clear hb2); (try clear hk); (try clear hi); (try clear ho0); obtain ⟨Ao50, co50, eo50⟩ := Kd.R_slice HO509.out; subst eo50) | ((with_reducible refine gate_callee (f := 20) rfl ?_); refine goesL_ (some 58) rfl rfl Try.func20 (by kernel_rfl) rfl #[.slice Ao35 t497.length co35, .slice Ao50 t507.length co50] rfl (by (try simp only [List.map_toArray, List.map_cons, List.map_nil]); first | done | rfl | (simp only [List.length_drop, List.length_take]; rfl)) ?_; (with_reducible refine (laws_eqInt64S.calls kj16 _ _ t497 _ _ t507 true _ ?side1 ?side2 ?side3 ?side4 A43.out).mono ?_); (case side1 => exact uC ((Kd.R_reads' HO_11.out).2.2)); (case side2 => exact (Kd.R_reads' HO_11.out).2.1); (case side3 => exact uC ((Kd.R_reads' HO509.out).2.2)); (case side4 => exact (Kd.R_reads' HO509.out).2.1); rintro e w' ⟨rfl, ⟨nd, rfl⟩⟩; refine ⟨_, rfl, ?_⟩))
        go_ret
        exact ⟨by first | rfl | (simp [errW_none, errW_some] <;> rfl) | (simp [*, errW_none, errW_some] <;> rfl), uH HB.out⟩
       ·replace c44 := Bool.eq_false_iff.mpr c44
        subst c44
        have H1 : (some false) = some r := by rw [if_neg (show ¬ (false = true) by decide)] at H; exact H
        clear H
        have H := H1
        clear H1
        rw [HRT.out] at H
        exact absurd H (by simp)
      ·replace c41 := Bool.eq_false_iff.mpr c41
       subst c41
       have H1 : (some false) = some r := by rw [if_neg (show ¬ (false = true) by decide)] at H; exact H
       clear H
       have H := H1
       clear H1
       rw [HRT.out] at H
       exact absurd H (by simp)

/-- THE ONE PURE STATEMENT of laws_FnExactIsOrthogonal: yours. -/
def laws_FnExactIsOrthogonal.Pure : Prop := ∀ (a0_0 : Int) (l0_1 : List Int) (l1 : List Int) (a2 : Int), (Lit.int .i64 a0_0).wf = true → l0_1.length ≤ maxLen → (∀ x ∈ l0_1, (Lit.int .i64 x).wf = true) → l1.length ≤ maxLen → l1.length * 8 ≤ 140737488351232 → (∀ x ∈ l1, (Lit.int .i64 x).wf = true) → (Lit.int .i64 a2).wf = true → ∃ k, laws_FnExactIsOrthogonal.f k a0_0 l0_1 l1 a2 = some true
theorem laws_FnExactIsOrthogonal.walk (P : laws_FnExactIsOrthogonal.Pure) (a0_0 : Int) (a0_1 : Option Addr) (len0_1 cap0_1 : Nat) (z0_1 : List Int) (a1 : Option Addr) (len1 cap1 : Nat) (z1 : List Int) (a2 : Int) (w : World) (w0_0 : (Lit.int .i64 a0_0).wf = true) (w0_1 : (a0_1 = none ∧ len0_1 = 0 ∧ cap0_1 = 0 ∧ z0_1 = []) ∨ ∃ x, a0_1 = some x ∧ len0_1 ≤ cap0_1 ∧ cap0_1 ≤ maxLen ∧ z0_1.length = cap0_1 ∧ (∀ i, i < z0_1.length → w.cell? (x.add i) = some (.int .i64 (z0_1.getD i 0))) ∧ ∀ n ∈ z0_1, (Lit.int .i64 n).wf = true) (w1 : (a1 = none ∧ len1 = 0 ∧ cap1 = 0 ∧ z1 = []) ∨ ∃ x, a1 = some x ∧ len1 ≤ cap1 ∧ cap1 ≤ maxLen ∧ z1.length = cap1 ∧ (∀ i, i < z1.length → w.cell? (x.add i) = some (.int .i64 (z1.getD i 0))) ∧ ∀ n ∈ z1, (Lit.int .i64 n).wf = true) (y1 : len1 * 8 ≤ 140737488351232) (w2 : (Lit.int .i64 a2).wf = true) :
  Calls Try.prog 7 #[.agg #[.int .i64 a0_0, .slice a0_1 len0_1 cap0_1], .slice a1 len1 cap1, .int .i64 a2] w fun e w' => e = .returned (.bool true) ∧ Below w.heap.size w w' := by
 obtain ⟨l0_1, rfl, hr0_1, hm0_1, hw0_1, hc0_1⟩ := ReadsInt.ofRowC w0_1
 obtain ⟨l1, rfl, hr1, hm1, hw1, hc1⟩ := ReadsInt.ofRowC w1
 obtain ⟨k, h⟩ := P a0_0 l0_1 l1 a2 w0_0 hm0_1 hw0_1 hm1 y1 hw1 w2
 refine (laws_FnExactIsOrthogonal.calls k a0_0 _ _ l0_1 _ _ l1 a2 true rfl w (Kd.C_of_reads (d := (0 : Int)) (h1 := fun _ => rfl) hr0_1) hc0_1 (Kd.C_of_reads (d := (0 : Int)) (h1 := fun _ => rfl) hr1) hc1 h).mono ?_
 rintro e w' ⟨rfl, hd⟩
 exact ⟨rfl, hd⟩

end Go.Proofs.Ytcfiegapclbenaa.Pr
