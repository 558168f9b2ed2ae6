/- Printed by a program of this session out of the translation: what these functions of the program compute, under the conditions that each theorem names. -/
import Derived.Test.YteoipomgldioeaaKSumOf1
import Derived.Test.YteoipomgldioeaaKSumOf2
import Derived.Test.YteoipomgldioeaaKSumOf7
import Derived.Test.YteoipomgldioeaaKSumOf6
namespace Go.Proofs.Yteoipomgldioeaa.Pr
open Go.RowKit Go.Proofs.YteoipomgldioeaaW.PrintWords Go.Proofs.YteoipomgldioeaaW.PrintLast Go.Proofs.YteoipomgldioeaaW.PrintMore
attribute [local go_sem] max2_int min2_int max_two min_two max_three min_three max_four min_four   -- for this text's walks alone
set_option linter.unusedVariables false
set_option linter.unusedSimpArgs false

/-! ### laws_FnExactSumOf: function 4 -/
def laws_FnExactSumOf.j0 : Nat → List Int → List Int → Bool → Int → List Int → List Int → Int → List Int → List Int → Option (Bool)
 | 0, _, _, _, _, _, _, _, _, _ => none
 | k + 1, x1, x9, x45, x267000, x267001, x267002, x288000, x288001, x288002 => if x45 = true then (some false) else ((laws_toRule.f k x267000 x267001 x267002).bind fun bt293 => ((laws_eqRule.f k x288000 x288001 x288002 bt293.1 bt293.2.1 bt293.2.2).bind fun t300 => (if t300 = true then ((laws_toInt64S.f k x1).bind fun t301 => ((laws_eqInt64S.f k x9 t301).bind fun t304 => (if t304 = true then (some true) else (some false)))) else (some false))))
def laws_FnExactSumOf.f (k : Nat) (a0_0 : Int) (l0_1 : List Int) (l0_2 : List Int) (l1 : List Int) : Option (Bool) := if (l1.length : Int) > 1048576 then (some true) else ((laws_szRule.f a0_0 l0_1 l0_2 1048576).bind fun t267 => (if t267 < 0 then (some true) else ((laws_toRule.f k a0_0 l0_1 l0_2).bind fun bt268 => ((laws_toInt64S.f k l1).bind fun t275 => ((spec_SumOf.f k bt268.1 bt268.2.1 bt268.2.2 t275).bind fun bt278 => ((laws_toRule.f k a0_0 l0_1 l0_2).bind fun bt280 => ((laws_toInt64S.f k l1).bind fun t288 => ((impl_SumOf.f k bt280.1 bt280.2.1 bt280.2.2 t288).bind fun bt291 => (if bt291.1 = bt278.1 then (laws_FnExactSumOf.j0 k l1 t288 (bt291.2 != bt278.2) a0_0 l0_1 l0_2 bt280.1 bt280.2.1 bt280.2.2) else (laws_FnExactSumOf.j0 k l1 t288 true a0_0 l0_1 l0_2 bt280.1 bt280.2.1 bt280.2.2))))))))))
theorem laws_FnExactSumOf.mono_l : ∀ k, (∀ y0 y1 y2 y3 y4 y5 y6 y7 y8, LeO (laws_FnExactSumOf.j0 k y0 y1 y2 y3 y4 y5 y6 y7 y8) (laws_FnExactSumOf.j0 (k + 1) y0 y1 y2 y3 y4 y5 y6 y7 y8))
 | 0 => fun _ _ _ _ _ _ _ _ _ r h => by simp [laws_FnExactSumOf.j0] at h
 | k + 1 => by
  have ih0 := laws_FnExactSumOf.mono_l k
  ·intro y0 y1 y2 y3 y4 y5 y6 y7 y8
   unfold laws_FnExactSumOf.j0
   repeat' first
   | (with_reducible exact ih0 _ _ _ _ _ _ _ _ _)
   | (with_reducible exact impl_SumOf.mono _ _ _ _ _)
   | (with_reducible exact laws_eqInt64S.mono _ _ _)
   | (with_reducible exact laws_eqRule.mono _ _ _ _ _ _ _)
   | (with_reducible exact laws_toInt64S.mono _ _)
   | (with_reducible exact laws_toRule.mono _ _ _ _)
   | (with_reducible exact spec_SumOf.mono _ _ _ _ _)
   | (with_reducible exact LeO.refl _)
   | (with_reducible exact LeO.none _)
   | (with_reducible refine LeO.ite ?_ ?_)
   | (with_reducible refine LeO.bind ?_ (fun _ => ?_))
   | exact ih0 _ _ _ _ _ _ _ _ _
   | exact impl_SumOf.mono _ _ _ _ _
   | exact laws_eqInt64S.mono _ _ _
   | exact laws_eqRule.mono _ _ _ _ _ _ _
   | exact laws_toInt64S.mono _ _
   | exact laws_toRule.mono _ _ _ _
   | exact spec_SumOf.mono _ _ _ _ _
   | exact LeO.none _
   | refine LeO.ite ?_ ?_
   | refine LeO.bind ?_ (fun _ => ?_)
theorem laws_FnExactSumOf.mono : ∀ a0 a1 a2 a3 k, LeO (laws_FnExactSumOf.f k a0 a1 a2 a3) (laws_FnExactSumOf.f (k + 1) a0 a1 a2 a3) := by
 intro a0 a1 a2 a3 k
 have ih0 := laws_FnExactSumOf.mono_l k
 unfold laws_FnExactSumOf.f
 repeat' first
   | (with_reducible exact ih0 _ _ _ _ _ _ _ _ _)
   | (with_reducible exact impl_SumOf.mono _ _ _ _ _)
   | (with_reducible exact laws_eqInt64S.mono _ _ _)
   | (with_reducible exact laws_eqRule.mono _ _ _ _ _ _ _)
   | (with_reducible exact laws_toInt64S.mono _ _)
   | (with_reducible exact laws_toRule.mono _ _ _ _)
   | (with_reducible exact spec_SumOf.mono _ _ _ _ _)
   | (with_reducible exact LeO.refl _)
   | (with_reducible exact LeO.none _)
   | (with_reducible refine LeO.ite ?_ ?_)
   | (with_reducible refine LeO.bind ?_ (fun _ => ?_))
   | exact ih0 _ _ _ _ _ _ _ _ _
   | exact impl_SumOf.mono _ _ _ _ _
   | exact laws_eqInt64S.mono _ _ _
   | exact laws_eqRule.mono _ _ _ _ _ _ _
   | exact laws_toInt64S.mono _ _
   | exact laws_toRule.mono _ _ _ _
   | exact spec_SumOf.mono _ _ _ _ _
   | exact LeO.none _
   | refine LeO.ite ?_ ?_
   | refine LeO.bind ?_ (fun _ => ?_)
set_option maxHeartbeats 8000000 in
set_option maxRecDepth 100000 in
theorem laws_FnExactSumOf.calls (k : Nat) (a0_0 : Int) (A0_1 : Option Addr) (c0_1 : Nat) (l0_1 : List Int) (A0_2 : Option Addr) (c0_2 : Nat) (l0_2 : List Int) (A1 : Option Addr) (c1 : Nat) (l1 : List Int) (r : Bool) (hr_ : r = true) (w : World) (hr0_1 : Kd.C (Kd.int .i64) w A0_1 l0_1.length l0_1) (hc0_1 : l0_1.length ≤ c0_1) (hr0_2 : Kd.C (Kd.int .i64) w A0_2 l0_2.length l0_2) (hc0_2 : l0_2.length ≤ c0_2) (hr1 : Kd.C (Kd.int .i64) w A1 l1.length l1) (hc1 : l1.length ≤ c1) (h : laws_FnExactSumOf.f k a0_0 l0_1 l0_2 l1 = some r) :
  Calls Try.prog 4 #[.agg #[.int .i64 a0_0, .slice A0_1 l0_1.length c0_1, .slice A0_2 l0_2.length c0_2], .slice A1 l1.length c1] w fun e w' => e = .returned (.bool r) ∧ Below w.heap.size w w' := by
 have hu24 := Try.underlying24
 have hu26 := Try.underlying26
 have HRT := zA hr_
 clear hr_
 have HR0_1 := zA hr0_1
 have HC0_1 := zA hc0_1
 clear hr0_1 hc0_1
 have HR0_2 := zA hr0_2
 have HC0_2 := zA hc0_2
 clear hr0_2 hc0_2
 have HR1 := zA hr1
 have HC1 := zA hc1
 clear hr1 hc1
 have HB := zA (Below.refl w.heap.size w)
 have H : (if (l1.length : Int) > 1048576 then (some true) else ((laws_szRule.f a0_0 l0_1 l0_2 1048576).bind fun t267 => (if t267 < 0 then (some true) else ((laws_toRule.f k a0_0 l0_1 l0_2).bind fun bt268 => ((laws_toInt64S.f k l1).bind fun t275 => ((spec_SumOf.f k bt268.1 bt268.2.1 bt268.2.2 t275).bind fun bt278 => ((laws_toRule.f k a0_0 l0_1 l0_2).bind fun bt280 => ((laws_toInt64S.f k l1).bind fun t288 => ((impl_SumOf.f k bt280.1 bt280.2.1 bt280.2.2 t288).bind fun bt291 => (if bt291.1 = bt278.1 then (laws_FnExactSumOf.j0 k l1 t288 (bt291.2 != bt278.2) a0_0 l0_1 l0_2 bt280.1 bt280.2.1 bt280.2.2) else (laws_FnExactSumOf.j0 k l1 t288 true a0_0 l0_1 l0_2 bt280.1 bt280.2.1 bt280.2.2))))))))))) = some r := h
 clear h
 by_cases c3 : (l1.length : Int) > 1048576
 ·rw [if_pos c3] at H
  have c3b0 : decide (1048576 < (l1.length : Int)) = true := decide_eq_true c3
  have c3b1 : decide (1048576 < l1.length) = true := decide_eq_true (by omega)
  clear c3
  obtain rfl := Option.some.inj H
  go_enter Try.func4, Try.ntmps4
  go_wp2_with (first | ((with_reducible refine gate_dst (N := 2) rfl ?_); refine box_event ?hg (N := 2) ?hd (cs := #[.int .i64 a0_0, .slice A0_1 l0_1.length c0_1, .slice A0_2 l0_2.length c0_2]) (t := 24) ?hr ?_; (case hd => rfl); (case hg => rfl); (case hr => first | (go_simp; done) | (go_simp; rfl)); intro gb266 hg w4 hbox hb; have n0_ := xH HB hb; have n1_ := zA (hbox); have n2_ := zA ((by rw [hg]; exact (below_size (uH HB.out)) : w.heap.size ≤ gb266)); have n3_ := zA ((by rw [hg]; exact (below_size (uH HB.out)) : w.heap.size ≤ gb266)); clear HB; have HB := n0_; have BK266 := n1_; have GW266 := n2_; have GE266 := n3_; have := geI GE266; clear n0_ n1_ n2_ n3_ hb hbox hg))
  go_ret
  exact ⟨by first | rfl | (simp [errW_none, errW_some] <;> rfl) | (simp [*, errW_none, errW_some] <;> rfl), uH HB.out⟩
 ·rw [if_neg c3] at H
  have c3b0 : decide (1048576 < (l1.length : Int)) = false := decide_eq_false c3
  have c3b1 : decide (1048576 < l1.length) = false := decide_eq_false (by omega)
  clear c3
  replace H := Option.bind_eq_some_iff.mp H
  obtain ⟨t267, A50, H⟩ := H
  replace H : (if t267 < 0 then (some true) else ((laws_toRule.f k a0_0 l0_1 l0_2).bind fun bt268 => ((laws_toInt64S.f k l1).bind fun t275 => ((spec_SumOf.f k bt268.1 bt268.2.1 bt268.2.2 t275).bind fun bt278 => ((laws_toRule.f k a0_0 l0_1 l0_2).bind fun bt280 => ((laws_toInt64S.f k l1).bind fun t288 => ((impl_SumOf.f k bt280.1 bt280.2.1 bt280.2.2 t288).bind fun bt291 => (if bt291.1 = bt278.1 then (laws_FnExactSumOf.j0 k l1 t288 (bt291.2 != bt278.2) a0_0 l0_1 l0_2 bt280.1 bt280.2.1 bt280.2.2) else (laws_FnExactSumOf.j0 k l1 t288 true a0_0 l0_1 l0_2 bt280.1 bt280.2.1 bt280.2.2))))))))) = some r := H
  have A5 := zA A50
  clear A50
  by_cases c6 : t267 < 0
  ·rw [if_pos c6] at H
   have c6b0 : decide (t267 < 0) = true := decide_eq_true c6
   clear c6
   obtain rfl := Option.some.inj H
   go_enter Try.func4, Try.ntmps4
   go_wp2_with (first | ((with_reducible refine gate_dst (N := 2) rfl ?_); refine box_event ?hg (N := 2) ?hd (cs := #[.int .i64 a0_0, .slice A0_1 l0_1.length c0_1, .slice A0_2 l0_2.length c0_2]) (t := 24) ?hr ?_; (case hd => rfl); (case hg => rfl); (case hr => first | (go_simp; done) | (go_simp; rfl)); intro gb266 hg w7 hbox hb; have n0_ := xH HB hb; have n1_ := zA (hbox); have n2_ := zA ((by rw [hg]; exact (below_size (uH HB.out)) : w.heap.size ≤ gb266)); have n3_ := zA ((by rw [hg]; exact (below_size (uH HB.out)) : w.heap.size ≤ gb266)); clear HB; have HB := n0_; have BK266 := n1_; have GW266 := n2_; have GE266 := n3_; have := geI GE266; clear n0_ n1_ n2_ n3_ hb hbox hg; have hcz8_0 : w7.cell? ⟨gb266, 0, none⟩ = some (.int .i64 a0_0) := (blk_cell BK266.out 0).trans rfl; have hcz8_1 : w7.cell? ⟨gb266, 1, none⟩ = some (.slice A0_1 l0_1.length c0_1) := (blk_cell BK266.out 1).trans rfl; have hcz8_2 : w7.cell? ⟨gb266, 2, none⟩ = some (.slice A0_2 l0_2.length c0_2) := (blk_cell BK266.out 2).trans rfl; have hfz8_0 := blk_frozen BK266.out 0; have hfz8_1 := blk_frozen BK266.out 1; have hfz8_2 := blk_frozen BK266.out 2) | ((with_reducible refine gate_callee (f := 13) rfl ?_); refine goesL_ (some 17) rfl rfl Try.func13 (by kernel_rfl) rfl #[.agg #[.int .i64 a0_0, .slice A0_1 l0_1.length c0_1, .slice A0_2 l0_2.length c0_2], .int .i64 1048576] rfl (by (try simp only [la, lb, lc]); first | done | rfl | (simp only [ld, le]; rfl)) ?_; (with_reducible refine (laws_szRule.calls a0_0 _ _ l0_1 _ _ l0_2 1048576 t267 _ ?side1 ?side2 ?side3 ?side4 A5.out).mono ?_); (case side1 => exact uC ((Kd.C_below HR0_1.out HB.out))); (case side2 => exact HC0_1.out); (case side3 => exact uC ((Kd.C_below HR0_2.out HB.out))); (case side4 => exact HC0_2.out); rintro e w9 ⟨rfl, hb⟩; refine ⟨_, rfl, ?_⟩; have n0_ := xB BK266 hb; have n1_ := xH HB hb; clear BK266 HB; have BK266 := n0_; have HB := n1_; clear n0_ n1_; (try clear hb); (try clear hb2); (try clear hk); (try clear hi)))
   go_ret
   exact ⟨by first | rfl | (simp [errW_none, errW_some] <;> rfl) | (simp [*, errW_none, errW_some] <;> rfl), uH HB.out⟩
  ·rw [if_neg c6] at H
   have c6b0 : decide (t267 < 0) = false := decide_eq_false c6
   clear c6
   replace H := Option.bind_eq_some_iff.mp H
   obtain ⟨⟨t268, t269, t272⟩, A100, H⟩ := H
   replace H : ((laws_toInt64S.f k l1).bind fun t275 => ((spec_SumOf.f k t268 t269 t272 t275).bind fun bt278 => ((laws_toRule.f k a0_0 l0_1 l0_2).bind fun bt280 => ((laws_toInt64S.f k l1).bind fun t288 => ((impl_SumOf.f k bt280.1 bt280.2.1 bt280.2.2 t288).bind fun bt291 => (if bt291.1 = bt278.1 then (laws_FnExactSumOf.j0 k l1 t288 (bt291.2 != bt278.2) a0_0 l0_1 l0_2 bt280.1 bt280.2.1 bt280.2.2) else (laws_FnExactSumOf.j0 k l1 t288 true a0_0 l0_1 l0_2 bt280.1 bt280.2.1 bt280.2.2))))))) = some r := H
   have A10 := zA A100
   clear A100
   replace H := Option.bind_eq_some_iff.mp H
   obtain ⟨t275, A110, H⟩ := H
   replace H : ((spec_SumOf.f k t268 t269 t272 t275).bind fun bt278 => ((laws_toRule.f k a0_0 l0_1 l0_2).bind fun bt280 => ((laws_toInt64S.f k l1).bind fun t288 => ((impl_SumOf.f k bt280.1 bt280.2.1 bt280.2.2 t288).bind fun bt291 => (if bt291.1 = bt278.1 then (laws_FnExactSumOf.j0 k l1 t288 (bt291.2 != bt278.2) a0_0 l0_1 l0_2 bt280.1 bt280.2.1 bt280.2.2) else (laws_FnExactSumOf.j0 k l1 t288 true a0_0 l0_1 l0_2 bt280.1 bt280.2.1 bt280.2.2)))))) = some r := H
   have A11 := zA A110
   clear A110
   replace H := Option.bind_eq_some_iff.mp H
   obtain ⟨⟨t278, t279⟩, A120, H⟩ := H
   replace H : ((laws_toRule.f k a0_0 l0_1 l0_2).bind fun bt280 => ((laws_toInt64S.f k l1).bind fun t288 => ((impl_SumOf.f k bt280.1 bt280.2.1 bt280.2.2 t288).bind fun bt291 => (if bt291.1 = t278 then (laws_FnExactSumOf.j0 k l1 t288 (bt291.2 != t279) a0_0 l0_1 l0_2 bt280.1 bt280.2.1 bt280.2.2) else (laws_FnExactSumOf.j0 k l1 t288 true a0_0 l0_1 l0_2 bt280.1 bt280.2.1 bt280.2.2))))) = some r := H
   have A12 := zA A120
   clear A120
   replace H := Option.bind_eq_some_iff.mp H
   obtain ⟨⟨t280, t281, t284⟩, A130, H⟩ := H
   replace H : ((laws_toInt64S.f k l1).bind fun t288 => ((impl_SumOf.f k t280 t281 t284 t288).bind fun bt291 => (if bt291.1 = t278 then (laws_FnExactSumOf.j0 k l1 t288 (bt291.2 != t279) a0_0 l0_1 l0_2 t280 t281 t284) else (laws_FnExactSumOf.j0 k l1 t288 true a0_0 l0_1 l0_2 t280 t281 t284)))) = some r := H
   have A13 := zA A130
   clear A130
   replace H := Option.bind_eq_some_iff.mp H
   obtain ⟨t288, A140, H⟩ := H
   replace H : ((impl_SumOf.f k t280 t281 t284 t288).bind fun bt291 => (if bt291.1 = t278 then (laws_FnExactSumOf.j0 k l1 t288 (bt291.2 != t279) a0_0 l0_1 l0_2 t280 t281 t284) else (laws_FnExactSumOf.j0 k l1 t288 true a0_0 l0_1 l0_2 t280 t281 t284))) = some r := H
   have A14 := zA A140
   clear A140
   replace H := Option.bind_eq_some_iff.mp H
   obtain ⟨⟨t291, t292⟩, A150, H⟩ := H
   replace H : (if t291 = t278 then (laws_FnExactSumOf.j0 k l1 t288 (t292 != t279) a0_0 l0_1 l0_2 t280 t281 t284) else (laws_FnExactSumOf.j0 k l1 t288 true a0_0 l0_1 l0_2 t280 t281 t284)) = some r := H
   have A15 := zA A150
   clear A150
   have HC16 := zA H
   clear H
   go_enter Try.func4, Try.ntmps4
   go_upto_region 11 with (first | ((with_reducible refine gate_dst (N := 2) rfl ?_); refine box_event ?hg (N := 2) ?hd (cs := #[.int .i64 a0_0, .slice A0_1 l0_1.length c0_1, .slice A0_2 l0_2.length c0_2]) (t := 24) ?hr ?_; (case hd => rfl); (case hg => rfl); (case hr => first | (go_simp; done) | (go_simp; rfl)); intro gb266 hg w17 hbox hb; have n0_ := xH HB hb; have n1_ := zA (hbox); have n2_ := zA ((by rw [hg]; exact (below_size (uH HB.out)) : w.heap.size ≤ gb266)); have n3_ := zA ((by rw [hg]; exact (below_size (uH HB.out)) : w.heap.size ≤ gb266)); clear HB; have HB := n0_; have BK266 := n1_; have GW266 := n2_; have GE266 := n3_; have := geI GE266; clear n0_ n1_ n2_ n3_ hb hbox hg; have hcz18_0 : w17.cell? ⟨gb266, 0, none⟩ = some (.int .i64 a0_0) := (blk_cell BK266.out 0).trans rfl; have hcz18_1 : w17.cell? ⟨gb266, 1, none⟩ = some (.slice A0_1 l0_1.length c0_1) := (blk_cell BK266.out 1).trans rfl; have hcz18_2 : w17.cell? ⟨gb266, 2, none⟩ = some (.slice A0_2 l0_2.length c0_2) := (blk_cell BK266.out 2).trans rfl; have hfz18_0 := blk_frozen BK266.out 0; have hfz18_1 := blk_frozen BK266.out 1; have hfz18_2 := blk_frozen BK266.out 2) | ((with_reducible refine gate_callee (f := 13) rfl ?_); refine goesL_ (some 17) rfl rfl Try.func13 (by kernel_rfl) rfl #[.agg #[.int .i64 a0_0, .slice A0_1 l0_1.length c0_1, .slice A0_2 l0_2.length c0_2], .int .i64 1048576] rfl (by (try simp only [la, lb, lc]); first | done | rfl | (simp only [ld, le]; rfl)) ?_; (with_reducible refine (laws_szRule.calls a0_0 _ _ l0_1 _ _ l0_2 1048576 t267 _ ?side1 ?side2 ?side3 ?side4 A5.out).mono ?_); (case side1 => exact uC ((Kd.C_below HR0_1.out HB.out))); (case side2 => exact HC0_1.out); (case side3 => exact uC ((Kd.C_below HR0_2.out HB.out))); (case side4 => exact HC0_2.out); rintro e w19 ⟨rfl, hb⟩; refine ⟨_, rfl, ?_⟩; have n0_ := xB BK266 hb; have n1_ := xH HB hb; clear BK266 HB; have BK266 := n0_; have HB := n1_; clear n0_ n1_; (try clear hb); (try clear hb2); (try clear hk); (try clear hi); have hcz20_0 : w19.cell? ⟨gb266, 0, none⟩ = some (.int .i64 a0_0) := (blk_cell BK266.out 0).trans rfl; have hcz20_1 : w19.cell? ⟨gb266, 1, none⟩ = some (.slice A0_1 l0_1.length c0_1) := (blk_cell BK266.out 1).trans rfl; have hcz20_2 : w19.cell? ⟨gb266, 2, none⟩ = some (.slice A0_2 l0_2.length c0_2) := (blk_cell BK266.out 2).trans rfl; have hfz20_0 := blk_frozen BK266.out 0; have hfz20_1 := blk_frozen BK266.out 1; have hfz20_2 := blk_frozen BK266.out 2) | ((with_reducible refine gate_callee (f := 15) rfl ?_); refine goesL_ (some 22) rfl rfl Try.func15 (by kernel_rfl) rfl #[.agg #[.int .i64 a0_0, .slice A0_1 l0_1.length c0_1, .slice A0_2 l0_2.length c0_2]] rfl (by (try simp only [la, lb, lc]); first | done | rfl | (simp only [ld, le]; rfl)) ?_; (with_reducible refine (laws_toRule.calls k a0_0 _ _ l0_1 _ _ l0_2 t268 t269 t272 _ ?side1 ?side2 ?side3 ?side4 A10.out).mono ?_); (case side1 => exact uC ((Kd.C_below HR0_1.out HB.out))); (case side2 => exact HC0_1.out); (case side3 => exact uC ((Kd.C_below HR0_2.out HB.out))); (case side4 => exact HC0_2.out); rintro e w21 ⟨v270, v273, rfl, ho0, ho1, hb⟩; refine ⟨_, rfl, ?_⟩; have n0_ := zA (Kd.R_lower ho0 (below_size (uH HB.out))); have n1_ := zA (Kd.R_lower ho1 (below_size (uH HB.out))); have n2_ := xB BK266 hb; have n3_ := xH HB hb; clear BK266 HB; have HO271 := n0_; have HO274 := n1_; have BK266 := n2_; have HB := n3_; clear n0_ n1_ n2_ n3_; (try clear hb); (try clear hb2); (try clear hk); (try clear hi); (try clear ho0); (try clear ho1)) | ((with_reducible refine gate_callee (f := 21) rfl ?_); refine goesL_ (some 24) rfl rfl Try.func21 (by kernel_rfl) rfl #[.slice A1 l1.length c1] rfl (by (try simp only [la, lb, lc]); first | done | rfl | (simp only [ld, le]; rfl)) ?_; (with_reducible refine (laws_toInt64S.calls k _ _ l1 t275 _ ?side1 ?side2 A11.out).mono ?_); (case side1 => exact uC ((Kd.C_below HR1.out HB.out))); (case side2 => exact HC1.out); rintro e w22 ⟨v276, rfl, ho0, hb⟩; refine ⟨_, rfl, ?_⟩; have n0_ := zA (Kd.R_elder' (uR HO271.out) (Kd.R_base ho0) hb); have n1_ := zA (Kd.R_elder' (uR HO274.out) (Kd.R_base ho0) hb); have n2_ := zA (Kd.R_lower (Kd.R_new' (Kd.R_new' ho0 (Kd.R_lt (uR HO271.out))) (Kd.R_lt (uR HO274.out))) (below_size (uH HB.out))); have n3_ := xB BK266 hb; have n4_ := xH HB hb; clear HO271 HO274 BK266 HB; have HO271 := n0_; have HO274 := n1_; have HO277 := n2_; have BK266 := n3_; have HB := n4_; clear n0_ n1_ n2_ n3_ n4_; (try clear hb); (try clear hb2); (try clear hk); (try clear hi); (try clear ho0); obtain ⟨Ao23, co23, eo23⟩ := Kd.R_slice HO271.out; subst eo23; obtain ⟨Ao24, co24, eo24⟩ := Kd.R_slice HO274.out; subst eo24; obtain ⟨Ao25, co25, eo25⟩ := Kd.R_slice HO277.out; subst eo25) | ((with_reducible refine gate_callee (f := 20) rfl ?_); refine goesL_ (some 25) rfl rfl Try.func20 (by kernel_rfl) rfl #[.agg #[.int .i64 t268, .slice Ao23 t269.length co23, .slice Ao24 t272.length co24], .slice Ao25 t275.length co25] rfl (by (try simp only [la, lb, lc]); first | done | rfl | (simp only [ld, le]; rfl)) ?_; (with_reducible refine (spec_SumOf.calls k t268 _ _ t269 _ _ t272 _ _ t275 t278 t279 _ ?side1 ?side2 ?side3 ?side4 ?side5 ?side6 A12.out).mono ?_); (case side1 => exact uC ((Kd.R_reads' HO271.out).2.2)); (case side2 => exact (Kd.R_reads' HO271.out).2.1); (case side3 => exact uC ((Kd.R_reads' HO274.out).2.2)); (case side4 => exact (Kd.R_reads' HO274.out).2.1); (case side5 => exact uC ((Kd.R_reads' HO277.out).2.2)); (case side6 => exact (Kd.R_reads' HO277.out).2.1); rintro e w26 ⟨rfl, hb⟩; refine ⟨_, rfl, ?_⟩; have n0_ := xR HO271 hb; have n1_ := xR HO274 hb; have n2_ := xR HO277 hb; have n3_ := xB BK266 hb; have n4_ := xH HB hb; clear HO271 HO274 HO277 BK266 HB; have HO271 := n0_; have HO274 := n1_; have HO277 := n2_; have BK266 := n3_; have HB := n4_; clear n0_ n1_ n2_ n3_ n4_; (try clear hb); (try clear hb2); (try clear hk); (try clear hi); have hcz27_0 : w26.cell? ⟨gb266, 0, none⟩ = some (.int .i64 a0_0) := (blk_cell BK266.out 0).trans rfl; have hcz27_1 : w26.cell? ⟨gb266, 1, none⟩ = some (.slice A0_1 l0_1.length c0_1) := (blk_cell BK266.out 1).trans rfl; have hcz27_2 : w26.cell? ⟨gb266, 2, none⟩ = some (.slice A0_2 l0_2.length c0_2) := (blk_cell BK266.out 2).trans rfl; have hfz27_0 := blk_frozen BK266.out 0; have hfz27_1 := blk_frozen BK266.out 1; have hfz27_2 := blk_frozen BK266.out 2) | ((with_reducible refine gate_callee (f := 15) rfl ?_); refine goesL_ (some 29) rfl rfl Try.func15 (by kernel_rfl) rfl #[.agg #[.int .i64 a0_0, .slice A0_1 l0_1.length c0_1, .slice A0_2 l0_2.length c0_2]] rfl (by (try simp only [la, lb, lc]); first | done | rfl | (simp only [ld, le]; rfl)) ?_; (with_reducible refine (laws_toRule.calls k a0_0 _ _ l0_1 _ _ l0_2 t280 t281 t284 _ ?side1 ?side2 ?side3 ?side4 A13.out).mono ?_); (case side1 => exact uC ((Kd.C_below HR0_1.out HB.out))); (case side2 => exact HC0_1.out); (case side3 => exact uC ((Kd.C_below HR0_2.out HB.out))); (case side4 => exact HC0_2.out); rintro e w28 ⟨v282, v285, rfl, ho0, ho1, hb⟩; refine ⟨_, rfl, ?_⟩; have n0_ := zA (Kd.R_mono (Kd.R_told (Kd.R_told (Kd.R_old (uR HO271.out) hb) (Kd.R_base ho0)) (Kd.R_base ho1)) (fun _ h_ => h_.1)); have n1_ := zA (Kd.R_mono (Kd.R_told (Kd.R_told (Kd.R_old (uR HO274.out) hb) (Kd.R_base ho0)) (Kd.R_base ho1)) (fun _ h_ => h_.1)); have n2_ := zA (Kd.R_mono (Kd.R_told (Kd.R_told (Kd.R_old (uR HO277.out) hb) (Kd.R_base ho0)) (Kd.R_base ho1)) (fun _ h_ => h_.1)); have n3_ := zA (Kd.R_lower (Kd.R_new' (Kd.R_new' (Kd.R_new' ho0 (Kd.R_lt (uR HO271.out))) (Kd.R_lt (uR HO274.out))) (Kd.R_lt (uR HO277.out))) (below_size (uH HB.out))); have n4_ := zA (Kd.R_lower (Kd.R_new' (Kd.R_new' (Kd.R_new' ho1 (Kd.R_lt (uR HO271.out))) (Kd.R_lt (uR HO274.out))) (Kd.R_lt (uR HO277.out))) (below_size (uH HB.out))); have n5_ := xB BK266 hb; have n6_ := xH HB hb; clear HO271 HO274 HO277 BK266 HB; have HO271 := n0_; have HO274 := n1_; have HO277 := n2_; have HO283 := n3_; have HO286 := n4_; have BK266 := n5_; have HB := n6_; clear n0_ n1_ n2_ n3_ n4_ n5_ n6_; (try clear hb); (try clear hb2); (try clear hk); (try clear hi); (try clear ho0); (try clear ho1)) | ((with_reducible refine gate_dst (N := 8) rfl ?_); refine box_event ?hg (N := 8) ?hd (cs := #[.int .i64 0, .slice none 0 0, .slice none 0 0]) (t := 26) ?hr ?_; (case hd => rfl); (case hg => rfl); (case hr => first | (go_simp; done) | (go_simp; rfl)); intro gb287 hg w29 hbox hb; have n0_ := xR HO271 hb; have n1_ := xR HO274 hb; have n2_ := xR HO277 hb; have n3_ := xR HO283 hb; have n4_ := xR HO286 hb; have n5_ := xB BK266 hb; have n6_ := xH HB hb; have n7_ := zA (hbox); have n8_ := zA ((by rw [hg]; exact (below_size (uH HB.out)) : w.heap.size ≤ gb287)); have n9_ := zA ((by rw [hg]; exact (below_size (uH HB.out)) : w.heap.size ≤ gb287)); have n10_ := zA ((by rw [hg]; exact neL BK266 : gb266 ≠ gb287)); have n11_ := zA ((by rw [hg]; exact neG BK266 : gb287 ≠ gb266)); clear HO271 HO274 HO277 HO283 HO286 BK266 HB; have HO271 := n0_; have HO274 := n1_; have HO277 := n2_; have HO283 := n3_; have HO286 := n4_; have BK266 := n5_; have HB := n6_; have BK287 := n7_; have GW287 := n8_; have GE287 := n9_; have := geI GE287; have NB266_287 := n10_; have NB287_266 := n11_; clear n0_ n1_ n2_ n3_ n4_ n5_ n6_ n7_ n8_ n9_ n10_ n11_ hb hbox hg; have hnb30 := NB287_266.out; have hnc30 := NB266_287.out; have hcz31_0 : w29.cell? ⟨gb287, 0, none⟩ = some (.int .i64 0) := (blk_cell BK287.out 0).trans rfl; have hcz31_1 : w29.cell? ⟨gb287, 1, none⟩ = some (.slice none 0 0) := (blk_cell BK287.out 1).trans rfl; have hcz31_2 : w29.cell? ⟨gb287, 2, none⟩ = some (.slice none 0 0) := (blk_cell BK287.out 2).trans rfl; have hfz31_0 := blk_frozen BK287.out 0; have hfz31_1 := blk_frozen BK287.out 1; have hfz31_2 := blk_frozen BK287.out 2; obtain ⟨Ao32, co32, eo32⟩ := Kd.R_slice HO283.out; subst eo32; obtain ⟨Ao33, co33, eo33⟩ := Kd.R_slice HO286.out; subst eo33) | ((with_reducible refine gate_callee (f := 21) rfl ?_); refine goesL_ (some 31) rfl rfl Try.func21 (by kernel_rfl) rfl #[.slice A1 l1.length c1] rfl (by (try simp only [la, lb, lc]); first | done | rfl | (simp only [ld, le]; rfl)) ?_; (with_reducible refine (laws_toInt64S.calls k _ _ l1 t288 _ ?side1 ?side2 A14.out).mono ?_); (case side1 => exact Kd.C_below HR1.out (uH HB.out)); (case side2 => exact HC1.out); rintro e w34 ⟨v289, rfl, ho0, hb⟩; refine ⟨_, rfl, ?_⟩; have n0_ := zA (Kd.R_elder' (uR ((Kd.R_mono (Kd.R_far (p := ⟨gb287, 2, none⟩) (Kd.R_far (p := ⟨gb287, 1, none⟩) (Kd.R_far (p := ⟨gb287, 0, none⟩) (Kd.R_types HO271.out BK287.out (by decide)) (fun _ hk => hk.2) (.int .i64 t280)) (fun _ hk => hk.2) (.slice Ao32 t281.length co32)) (fun _ hk => hk.2) (.slice Ao33 t284.length co33)) (fun _ h_ => h_.1)))) (Kd.R_base ho0) hb); have n1_ := zA (Kd.R_elder' (uR ((Kd.R_mono (Kd.R_far (p := ⟨gb287, 2, none⟩) (Kd.R_far (p := ⟨gb287, 1, none⟩) (Kd.R_far (p := ⟨gb287, 0, none⟩) (Kd.R_types HO274.out BK287.out (by decide)) (fun _ hk => hk.2) (.int .i64 t280)) (fun _ hk => hk.2) (.slice Ao32 t281.length co32)) (fun _ hk => hk.2) (.slice Ao33 t284.length co33)) (fun _ h_ => h_.1)))) (Kd.R_base ho0) hb); have n2_ := zA (Kd.R_elder' (uR ((Kd.R_mono (Kd.R_far (p := ⟨gb287, 2, none⟩) (Kd.R_far (p := ⟨gb287, 1, none⟩) (Kd.R_far (p := ⟨gb287, 0, none⟩) (Kd.R_types HO277.out BK287.out (by decide)) (fun _ hk => hk.2) (.int .i64 t280)) (fun _ hk => hk.2) (.slice Ao32 t281.length co32)) (fun _ hk => hk.2) (.slice Ao33 t284.length co33)) (fun _ h_ => h_.1)))) (Kd.R_base ho0) hb); have n3_ := zA (Kd.R_elder' (uR ((Kd.R_mono (Kd.R_far (p := ⟨gb287, 2, none⟩) (Kd.R_far (p := ⟨gb287, 1, none⟩) (Kd.R_far (p := ⟨gb287, 0, none⟩) (Kd.R_types HO283.out BK287.out (by decide)) (fun _ hk => hk.2) (.int .i64 t280)) (fun _ hk => hk.2) (.slice Ao32 t281.length co32)) (fun _ hk => hk.2) (.slice Ao33 t284.length co33)) (fun _ h_ => h_.1)))) (Kd.R_base ho0) hb); have n4_ := zA (Kd.R_elder' (uR ((Kd.R_mono (Kd.R_far (p := ⟨gb287, 2, none⟩) (Kd.R_far (p := ⟨gb287, 1, none⟩) (Kd.R_far (p := ⟨gb287, 0, none⟩) (Kd.R_types HO286.out BK287.out (by decide)) (fun _ hk => hk.2) (.int .i64 t280)) (fun _ hk => hk.2) (.slice Ao32 t281.length co32)) (fun _ hk => hk.2) (.slice Ao33 t284.length co33)) (fun _ h_ => h_.1)))) (Kd.R_base ho0) hb); have n5_ := zA (Kd.R_lower (Kd.R_new' (Kd.R_new' (Kd.R_new' (Kd.R_new' (Kd.R_new' ho0 (Kd.R_lt (uR ((Kd.R_mono (Kd.R_far (p := ⟨gb287, 2, none⟩) (Kd.R_far (p := ⟨gb287, 1, none⟩) (Kd.R_far (p := ⟨gb287, 0, none⟩) (Kd.R_types HO271.out BK287.out (by decide)) (fun _ hk => hk.2) (.int .i64 t280)) (fun _ hk => hk.2) (.slice Ao32 t281.length co32)) (fun _ hk => hk.2) (.slice Ao33 t284.length co33)) (fun _ h_ => h_.1)))))) (Kd.R_lt (uR ((Kd.R_mono (Kd.R_far (p := ⟨gb287, 2, none⟩) (Kd.R_far (p := ⟨gb287, 1, none⟩) (Kd.R_far (p := ⟨gb287, 0, none⟩) (Kd.R_types HO274.out BK287.out (by decide)) (fun _ hk => hk.2) (.int .i64 t280)) (fun _ hk => hk.2) (.slice Ao32 t281.length co32)) (fun _ hk => hk.2) (.slice Ao33 t284.length co33)) (fun _ h_ => h_.1)))))) (Kd.R_lt (uR ((Kd.R_mono (Kd.R_far (p := ⟨gb287, 2, none⟩) (Kd.R_far (p := ⟨gb287, 1, none⟩) (Kd.R_far (p := ⟨gb287, 0, none⟩) (Kd.R_types HO277.out BK287.out (by decide)) (fun _ hk => hk.2) (.int .i64 t280)) (fun _ hk => hk.2) (.slice Ao32 t281.length co32)) (fun _ hk => hk.2) (.slice Ao33 t284.length co33)) (fun _ h_ => h_.1)))))) (Kd.R_lt (uR ((Kd.R_mono (Kd.R_far (p := ⟨gb287, 2, none⟩) (Kd.R_far (p := ⟨gb287, 1, none⟩) (Kd.R_far (p := ⟨gb287, 0, none⟩) (Kd.R_types HO283.out BK287.out (by decide)) (fun _ hk => hk.2) (.int .i64 t280)) (fun _ hk => hk.2) (.slice Ao32 t281.length co32)) (fun _ hk => hk.2) (.slice Ao33 t284.length co33)) (fun _ h_ => h_.1)))))) (Kd.R_lt (uR ((Kd.R_mono (Kd.R_far (p := ⟨gb287, 2, none⟩) (Kd.R_far (p := ⟨gb287, 1, none⟩) (Kd.R_far (p := ⟨gb287, 0, none⟩) (Kd.R_types HO286.out BK287.out (by decide)) (fun _ hk => hk.2) (.int .i64 t280)) (fun _ hk => hk.2) (.slice Ao32 t281.length co32)) (fun _ hk => hk.2) (.slice Ao33 t284.length co33)) (fun _ h_ => h_.1)))))) (below_size (uH HB.out))); have n6_ := zA (blk_below (g := gb266) (o := .cells #[.int .i64 a0_0, .slice A0_1 l0_1.length c0_1, .slice A0_2 l0_2.length c0_2] 24 (0, 0)) (by (with_reducible repeat (first | refine blk_drewN ?_ _ | refine blk_drew ?_ | refine blk_alloc ?_ _)); refine blk_far ?_ NB266_287.out _; (with_reducible repeat (first | refine blk_drewN ?_ _ | refine blk_drew ?_ | refine blk_alloc ?_ _)); refine blk_far ?_ NB266_287.out _; (with_reducible repeat (first | refine blk_drewN ?_ _ | refine blk_drew ?_ | refine blk_alloc ?_ _)); refine blk_far ?_ NB266_287.out _; (with_reducible repeat (first | refine blk_drewN ?_ _ | refine blk_drew ?_ | refine blk_alloc ?_ _)); exact BK266.out) hb); have n7_ := zA (blk_below (g := gb287) (o := .cells #[.int .i64 t280, .slice Ao32 t281.length co32, .slice Ao33 t284.length co33] 26 (0, 0)) (by (with_reducible repeat (first | refine blk_drewN ?_ _ | refine blk_drew ?_ | refine blk_alloc ?_ _)); refine blk_put (cs := #[.int .i64 t280, .slice Ao32 t281.length co32, .slice none 0 0]) ?_ 2 _ rfl; (with_reducible repeat (first | refine blk_drewN ?_ _ | refine blk_drew ?_ | refine blk_alloc ?_ _)); refine blk_put (cs := #[.int .i64 t280, .slice none 0 0, .slice none 0 0]) ?_ 1 _ rfl; (with_reducible repeat (first | refine blk_drewN ?_ _ | refine blk_drew ?_ | refine blk_alloc ?_ _)); refine blk_put (cs := #[.int .i64 0, .slice none 0 0, .slice none 0 0]) ?_ 0 _ rfl; (with_reducible repeat (first | refine blk_drewN ?_ _ | refine blk_drew ?_ | refine blk_alloc ?_ _)); exact BK287.out) hb); have n8_ := xH HB hb; clear HO271 HO274 HO277 HO283 HO286 BK266 BK287 HB; have HO271 := n0_; have HO274 := n1_; have HO277 := n2_; have HO283 := n3_; have HO286 := n4_; have HO290 := n5_; have BK266 := n6_; have BK287 := n7_; have HB := n8_; clear n0_ n1_ n2_ n3_ n4_ n5_ n6_ n7_ n8_; (try clear hb); (try clear hb2); (try clear hk); (try clear hi); (try clear ho0); have hcz35_0 : w34.cell? ⟨gb287, 0, none⟩ = some (.int .i64 t280) := (blk_cell BK287.out 0).trans rfl; have hcz35_1 : w34.cell? ⟨gb287, 1, none⟩ = some (.slice Ao32 t281.length co32) := (blk_cell BK287.out 1).trans rfl; have hcz35_2 : w34.cell? ⟨gb287, 2, none⟩ = some (.slice Ao33 t284.length co33) := (blk_cell BK287.out 2).trans rfl; have hfz35_0 := blk_frozen BK287.out 0; have hfz35_1 := blk_frozen BK287.out 1; have hfz35_2 := blk_frozen BK287.out 2; obtain ⟨Ao36, co36, eo36⟩ := Kd.R_slice HO290.out; subst eo36) | ((with_reducible refine gate_callee (f := 22) rfl ?_); refine goesL_ (some 35) rfl rfl Try.func22 (by kernel_rfl) rfl #[.agg #[.int .i64 t280, .slice Ao32 t281.length co32, .slice Ao33 t284.length co33], .slice Ao36 t288.length co36] rfl (by (try simp only [la, lb, lc]); first | done | rfl | (simp only [ld, le]; rfl)) ?_; (with_reducible refine (impl_SumOf.calls k t280 _ _ t281 _ _ t284 (fun k_ => some k_ = (.slice Ao36 t288.length co36 : Value).ownBlock) _ _ t288 t291 t292 _ ?side1 ?side2 ?side3 ?side4 ?side5 A15.out).mono ?_); (case side1 => exact uC ((Kd.R_reads' HO283.out).2.2)); (case side2 => exact (Kd.R_reads' HO283.out).2.1); (case side3 => exact uC ((Kd.R_reads' HO286.out).2.2)); (case side4 => exact (Kd.R_reads' HO286.out).2.1); (case side5 => exact Kd.R_V (Kd.R_tight rfl (Kd.R_types (Kd.R_types (HO290.out) BK266.out (by decide)) BK287.out (by decide)))); rintro e w37 ⟨rfl, hb⟩; refine ⟨_, rfl, ?_⟩; have n0_ := xR HO271 hb; have n1_ := xR HO274 hb; have n2_ := xR HO277 hb; have n3_ := xR HO283 hb; have n4_ := xR HO286 hb; have n5_ := xR HO290 hb; have n6_ := xB BK266 hb; have n7_ := xB BK287 hb; have n8_ := xH HB hb; clear HO271 HO274 HO277 HO283 HO286 HO290 BK266 BK287 HB; have HO271 := n0_; have HO274 := n1_; have HO277 := n2_; have HO283 := n3_; have HO286 := n4_; have HO290 := n5_; have BK266 := n6_; have BK287 := n7_; have HB := n8_; clear n0_ n1_ n2_ n3_ n4_ n5_ n6_ n7_ n8_; (try clear hb); (try clear hb2); (try clear hk); (try clear hi)))
   (try simp only [Act.put, ls, lz, ln])
   go_cut [45] (fun v45 wc => ∃ (kq : Nat) (x45_15 : Bool), v45 = .bool x45_15 ∧ Aside0 (laws_FnExactSumOf.j0 kq l1 t288 x45_15 a0_0 l0_1 l0_2 t280 t281 t284 = some r) ∧ Aside0 (kq ≤ k) ∧ Aside0 (Kd.R (Kd.int .i64) 2 wc w.heap.size (fun k_ => some k_ ≠ ((.slice Ao32 t281.length co32) : Value).ownBlock ∧ some k_ ≠ ((.slice Ao33 t284.length co33) : Value).ownBlock) (.slice Ao36 t288.length co36) t288) ∧ Aside0 (Kd.R (Kd.int .i64) 2 wc w.heap.size (fun k_ => some k_ ≠ ((.slice Ao36 t288.length co36) : Value).ownBlock ∧ some k_ ≠ ((.slice Ao33 t284.length co33) : Value).ownBlock) (.slice Ao32 t281.length co32) t281) ∧ Aside0 (Kd.R (Kd.int .i64) 2 wc w.heap.size (fun k_ => some k_ ≠ ((.slice Ao36 t288.length co36) : Value).ownBlock ∧ some k_ ≠ ((.slice Ao32 t281.length co32) : Value).ownBlock) (.slice Ao33 t284.length co33) t284) ∧ Aside0 (wc.heap[gb266]? = some (.cells #[.int .i64 a0_0, (.slice A0_1 l0_1.length c0_1), (.slice A0_2 l0_2.length c0_2)] 24 (0, 0))) ∧ Aside0 (wc.heap[gb287]? = some (.cells #[.int .i64 t280, (.slice Ao32 t281.length co32), (.slice Ao33 t284.length co33)] 26 (0, 0))) ∧ Aside0 (Below w.heap.size w wc))
   case first =>
    have H := HC16.out
    clear HC16
    by_cases c38 : t291 = t278
    ·rw [if_pos c38] at H
     have c38b0 : (t291 == t278) = true := beq_iff_eq.mpr c38
     have c38b1 : (t291 != t278) = false := bne_eq_false_iff_eq.mpr c38
     clear c38
     (first | rw [c38b0] | (simp only [i64_w, i32_w]; rw [c38b0]) | skip)
     have H' := zA H
     clear H
     go_wp2
     go_meet
     case rel => exact ⟨_, ((t292 != t279)), (by first | rfl | (simp; done) | (simp [*]; done)), H', ⟨by first | omega | exact Nat.le_refl _⟩, ⟨uR (Kd.R_mono HO290.out (fun _ hk => ⟨hk.1.2, hk.2⟩))⟩, ⟨uR (Kd.R_mono HO283.out (fun _ hk => ⟨hk.2, hk.1.1.1.1⟩))⟩, ⟨uR (Kd.R_mono HO286.out (fun _ hk => ⟨hk.2, hk.1.1.1.1⟩))⟩, ⟨uB BK266.out⟩, ⟨uB BK287.out⟩, ⟨uH HB.out⟩⟩
    ·rw [if_neg c38] at H
     have c38b0 : (t291 == t278) = false := beq_eq_false_iff_ne.mpr c38
     have c38b1 : (t291 != t278) = true := bne_iff_ne.mpr c38
     (first | rw [c38b0] | (simp only [i64_w, i32_w]; rw [c38b0]) | skip)
     have H' := zA H
     clear H
     go_wp2
     go_meet
     case rel => exact ⟨_, (true), (by first | rfl | (simp; done) | (simp [*]; done)), H', ⟨by first | omega | exact Nat.le_refl _⟩, ⟨uR (Kd.R_mono HO290.out (fun _ hk => ⟨hk.1.2, hk.2⟩))⟩, ⟨uR (Kd.R_mono HO283.out (fun _ hk => ⟨hk.2, hk.1.1.1.1⟩))⟩, ⟨uR (Kd.R_mono HO286.out (fun _ hk => ⟨hk.2, hk.1.1.1.1⟩))⟩, ⟨uB BK266.out⟩, ⟨uB BK287.out⟩, ⟨uH HB.out⟩⟩
   case rest =>
    clear HC16
    try clear c1
    try clear c2
    try clear p2
    try clear c3
    try clear c3b0
    try clear c3b1
    try clear c4
    try clear c6
    try clear c6b0
    try clear c13
    try clear c15
    try clear c20
    try clear c21
    try clear c22
    try clear c30
    try clear c38
    try clear c38b0
    try clear c38b1
    try clear hcz18_0
    try clear hcz18_1
    try clear hcz18_2
    try clear hcz20_0
    try clear hcz20_1
    try clear hcz20_2
    try clear hcz27_0
    try clear hcz27_1
    try clear hcz27_2
    try clear hcz31_0
    try clear hcz31_1
    try clear hcz31_2
    try clear hcz35_0
    try clear hcz35_1
    try clear hcz35_2
    try clear hcz8_0
    try clear hcz8_1
    try clear hcz8_2
    try clear hfz18_0
    try clear hfz18_1
    try clear hfz18_2
    try clear hfz20_0
    try clear hfz20_1
    try clear hfz20_2
    try clear hfz27_0
    try clear hfz27_1
    try clear hfz27_2
    try clear hfz31_0
    try clear hfz31_1
    try clear hfz31_2
    try clear hfz35_0
    try clear hfz35_1
    try clear hfz35_2
    try clear hfz8_0
    try clear hfz8_1
    try clear hfz8_2
    obtain ⟨kq, x45_15, rfl, HA, HJ15, HO_9, HO_288001, HO_288002, BK266, BK287, HB⟩ := hcut
    cases kq with
    | zero => exact absurd HA.out (by simp [laws_FnExactSumOf.j0])
    | succ kj15 =>
     have H := HA.out
     clear HA
     simp only [laws_FnExactSumOf.j0] at H
     by_cases c39 : x45_15 = true
     ·subst c39
      have H1 : (some false) = some r := by rw [if_pos rfl] at H; exact H
      clear H
      have H := H1
      clear H1
      rw [HRT.out] at H
      exact absurd H (by simp)
     ·replace c39 := Bool.eq_false_iff.mpr c39
      subst c39
      have H1 : ((laws_toRule.f kj15 a0_0 l0_1 l0_2).bind fun bt293 => ((laws_eqRule.f kj15 t280 t281 t284 bt293.1 bt293.2.1 bt293.2.2).bind fun t300 => (if t300 = true then ((laws_toInt64S.f kj15 l1).bind fun t301 => ((laws_eqInt64S.f kj15 t288 t301).bind fun t304 => (if t304 = true then (some true) else (some false)))) else (some false)))) = some r := by rw [if_neg (show ¬ (false = true) by decide)] at H; exact H
      clear H
      have H := H1
      clear H1
      replace H := Option.bind_eq_some_iff.mp H
      obtain ⟨⟨t293, t294, t297⟩, A400, H⟩ := H
      replace H : ((laws_eqRule.f kj15 t280 t281 t284 t293 t294 t297).bind fun t300 => (if t300 = true then ((laws_toInt64S.f kj15 l1).bind fun t301 => ((laws_eqInt64S.f kj15 t288 t301).bind fun t304 => (if t304 = true then (some true) else (some false)))) else (some false))) = some r := H
      have A40 := zA A400
      clear A400
      replace H := Option.bind_eq_some_iff.mp H
      obtain ⟨t300, A410, H⟩ := H
      replace H : (if t300 = true then ((laws_toInt64S.f kj15 l1).bind fun t301 => ((laws_eqInt64S.f kj15 t288 t301).bind fun t304 => (if t304 = true then (some true) else (some false)))) else (some false)) = some r := H
      have A41 := zA A410
      clear A410
      by_cases c42 : t300 = true
      ·subst c42
       have H1 : ((laws_toInt64S.f kj15 l1).bind fun t301 => ((laws_eqInt64S.f kj15 t288 t301).bind fun t304 => (if t304 = true then (some true) else (some false)))) = some r := by rw [if_pos rfl] at H; exact H
       clear H
       have H := H1
       clear H1
       replace H := Option.bind_eq_some_iff.mp H
       obtain ⟨t301, A430, H⟩ := H
       replace H : ((laws_eqInt64S.f kj15 t288 t301).bind fun t304 => (if t304 = true then (some true) else (some false))) = some r := H
       have A43 := zA A430
       clear A430
       replace H := Option.bind_eq_some_iff.mp H
       obtain ⟨t304, A440, H⟩ := H
       replace H : (if t304 = true then (some true) else (some false)) = some r := H
       have A44 := zA A440
       clear A440
       by_cases c45 : t304 = true
       ·subst c45
        have H1 : (some true) = some r := by rw [if_pos rfl] at H; exact H
        clear H
        have H := H1
        clear H1
        obtain rfl := Option.some.inj H
        try go_wp2
        have n0_ := zA (Kd.R_drew HO_9.out)
        have n1_ := zA (Kd.R_drew HO_288001.out)
        have n2_ := zA (Kd.R_drew HO_288002.out)
        have n3_ := zA (blk_drew BK266.out)
        have n4_ := zA (blk_drew BK287.out)
        have n5_ := zA (below_drew1 HB.out)
        clear HO_9 HO_288001 HO_288002 BK266 BK287 HB
        have HO_9 := n0_; have HO_288001 := n1_; have HO_288002 := n2_; have BK266 := n3_; have BK287 := n4_; have HB := n5_
        clear n0_ n1_ n2_ n3_ n4_ n5_
        refine start_ (n := 5) (S := fun w' => w'.cell? ⟨gb287, 0, none⟩ = some (.int .i64 t280) ∧ w'.cell? ⟨gb287, 1, none⟩ = some (.slice Ao32 t281.length co32) ∧ w'.cell? ⟨gb287, 2, none⟩ = some (.slice Ao33 t284.length co33) ∧ w'.cell? ⟨gb266, 0, none⟩ = some (.int .i64 a0_0) ∧ w'.cell? ⟨gb266, 1, none⟩ = some (.slice A0_1 l0_1.length c0_1) ∧ w'.cell? ⟨gb266, 2, none⟩ = some (.slice A0_2 l0_2.length c0_2)) (ds := []) #[false, false, false, false, false] (by kernel_rfl) rfl rfl ⟨(blk_cell BK287.out 0).trans rfl, (blk_cell BK287.out 1).trans rfl, (blk_cell BK287.out 2).trans rfl, (blk_cell BK266.out 0).trans rfl, (blk_cell BK266.out 1).trans rfl, (blk_cell BK266.out 2).trans rfl⟩ (fun hHeld => ?_)
        generalize wc.drew = w46 at HO_9 HO_288001 HO_288002 BK266 BK287 HB hHeld ⊢
        refine take_ (i := 0) (N := some 46) (v := ?_) (a' := ?_) #[true, false, false, false, false] rfl rfl (by kernel_rfl) (fun _ _ _ h => h) (Or.inl ⟨by rfl, ?_⟩) hHeld ?_ ?_
        rotate_left
        ·rintro w' ⟨s0, s1, s2, s3, s4, s5⟩
         go_simp
         with_reducible rfl
        rotate_left
        ·simp only [Act.put, ls, lz, ln, i64_w, i32_w]
         rfl
        refine take_ (i := 1) (N := some 47) (v := ?_) (a' := ?_) #[true, true, false, false, false] rfl rfl (by kernel_rfl) (fun _ _ _ h => h) (Or.inl ⟨by rfl, ?_⟩) hHeld ?_ ?_
        rotate_left
        ·rintro w' ⟨s0, s1, s2, s3, s4, s5⟩
         go_simp
         with_reducible rfl
        rotate_left
        ·simp only [Act.put, ls, lz, ln, i64_w, i32_w]
         rfl
        refine one_ (i := 2) (N := some 48) #[true, true, true, false, false] rfl rfl (by kernel_rfl) (by decide) (fun K hK => ?_)
        refine goes_ Try.func15 (by kernel_rfl) rfl #[.agg #[.int .i64 a0_0, .slice A0_1 l0_1.length c0_1, .slice A0_2 l0_2.length c0_2]] (by rfl) rfl rfl (by (try simp only [la, lb, lc]); first | done | rfl | (simp only [ld, le]; rfl)) ?_
        with_reducible refine (laws_toRule.calls kj15 a0_0 _ _ l0_1 _ _ l0_2 t293 t294 t297 _ ?side1 ?side2 ?side3 ?side4 A40.out).mono ?_
        (case side1 => exact uC ((Kd.C_below HR0_1.out HB.out)))
        (case side2 => exact HC0_1.out)
        (case side3 => exact uC ((Kd.C_below HR0_2.out HB.out)))
        (case side4 => exact HC0_2.out)
        rintro e w47 ⟨v295, v298, rfl, ho0, ho1, hb⟩
        refine ⟨_, rfl, ?_⟩
        have n0_ := zA (Kd.R_mono (Kd.R_told (Kd.R_told (Kd.R_old (uR HO_9.out) hb) (Kd.R_base ho0)) (Kd.R_base ho1)) (fun _ h_ => h_.1))
        have n1_ := zA (Kd.R_mono (Kd.R_told (Kd.R_told (Kd.R_old (uR HO_288001.out) hb) (Kd.R_base ho0)) (Kd.R_base ho1)) (fun _ h_ => h_.1))
        have n2_ := zA (Kd.R_mono (Kd.R_told (Kd.R_told (Kd.R_old (uR HO_288002.out) hb) (Kd.R_base ho0)) (Kd.R_base ho1)) (fun _ h_ => h_.1))
        have n3_ := zA (Kd.R_lower (Kd.R_new' (Kd.R_new' (Kd.R_new' ho0 (Kd.R_lt (uR HO_9.out))) (Kd.R_lt (uR HO_288001.out))) (Kd.R_lt (uR HO_288002.out))) (below_size (uH HB.out)))
        have n4_ := zA (Kd.R_lower (Kd.R_new' (Kd.R_new' (Kd.R_new' ho1 (Kd.R_lt (uR HO_9.out))) (Kd.R_lt (uR HO_288001.out))) (Kd.R_lt (uR HO_288002.out))) (below_size (uH HB.out)))
        have n5_ := xB BK266 hb
        have n6_ := xB BK287 hb
        have n7_ := xH HB hb
        clear HO_9 HO_288001 HO_288002 BK266 BK287 HB
        have HO_9 := n0_; have HO_288001 := n1_; have HO_288002 := n2_; have HO296 := n3_; have HO299 := n4_; have BK266 := n5_; have BK287 := n6_; have HB := n7_
        clear n0_ n1_ n2_ n3_ n4_ n5_ n6_ n7_
        (try clear hb); (try clear hb2); (try clear hk); (try clear hi); (try clear ho0); (try clear ho1)
        obtain ⟨Ao48, co48, eo48⟩ := Kd.R_slice HO296.out
        (first | subst eo48 | (injection eo48 with f1_ f2_ f3_; have f4_ := f1_.symm; have f5_ := f3_.symm; clear f1_ f2_ f3_; subst f4_; subst f5_))
        obtain ⟨Ao49, co49, eo49⟩ := Kd.R_slice HO299.out
        (first | subst eo49 | (injection eo49 with f1_ f2_ f3_; have f4_ := f1_.symm; have f5_ := f3_.symm; clear f1_ f2_ f3_; subst f4_; subst f5_))
        refine hK.out _ _ ⟨(blk_cell BK287.out 0).trans rfl, (blk_cell BK287.out 1).trans rfl, (blk_cell BK287.out 2).trans rfl, (blk_cell BK266.out 0).trans rfl, (blk_cell BK266.out 1).trans rfl, (blk_cell BK266.out 2).trans rfl⟩ (fun hHeld => ?_)
        clear hK K
        refine norm_ (a' := ?_) ?_ ?_
        rotate_left
        ·show Act.put _ (some 48) _ = _
         simp only [Act.put, ls, lz, ln, i64_w, i32_w]
         rfl
        refine one_ (i := 3) (N := some 49) #[true, true, true, true, false] rfl rfl (by kernel_rfl) (by decide) (fun K hK => ?_)
        refine goes_ Try.func17 (by kernel_rfl) rfl #[.agg #[.int .i64 t280, .slice Ao32 t281.length co32, .slice Ao33 t284.length co33], .agg #[.int .i64 t293, .slice Ao48 t294.length co48, .slice Ao49 t297.length co49]] (by rfl) rfl rfl (by (try simp only [la, lb, lc]); first | done | rfl | (simp only [ld, le]; rfl)) ?_
        with_reducible refine (laws_eqRule.calls kj15 t280 _ _ t281 _ _ t284 t293 _ _ t294 _ _ t297 true _ ?side1 ?side2 ?side3 ?side4 ?side5 ?side6 ?side7 ?side8 A41.out).mono ?_
        (case side1 => exact uC ((Kd.R_reads' HO_288001.out).2.2))
        (case side2 => exact (Kd.R_reads' HO_288001.out).2.1)
        (case side3 => exact uC ((Kd.R_reads' HO_288002.out).2.2))
        (case side4 => exact (Kd.R_reads' HO_288002.out).2.1)
        (case side5 => exact uC ((Kd.R_reads' HO296.out).2.2))
        (case side6 => exact (Kd.R_reads' HO296.out).2.1)
        (case side7 => exact uC ((Kd.R_reads' HO299.out).2.2))
        (case side8 => exact (Kd.R_reads' HO299.out).2.1)
        rintro e w50 ⟨rfl, hb⟩
        refine ⟨_, rfl, ?_⟩
        have n0_ := xR HO_9 hb
        have n1_ := xR HO_288001 hb
        have n2_ := xR HO_288002 hb
        have n3_ := xR HO296 hb
        have n4_ := xR HO299 hb
        have n5_ := xB BK266 hb
        have n6_ := xB BK287 hb
        have n7_ := xH HB hb
        clear HO_9 HO_288001 HO_288002 HO296 HO299 BK266 BK287 HB
        have HO_9 := n0_; have HO_288001 := n1_; have HO_288002 := n2_; have HO296 := n3_; have HO299 := n4_; have BK266 := n5_; have BK287 := n6_; have HB := n7_
        clear n0_ n1_ n2_ n3_ n4_ n5_ n6_ n7_
        (try clear hb); (try clear hb2); (try clear hk); (try clear hi)
        refine hK.out _ _ ⟨(blk_cell BK287.out 0).trans rfl, (blk_cell BK287.out 1).trans rfl, (blk_cell BK287.out 2).trans rfl, (blk_cell BK266.out 0).trans rfl, (blk_cell BK266.out 1).trans rfl, (blk_cell BK266.out 2).trans rfl⟩ (fun hHeld => ?_)
        clear hK K
        refine norm_ (a' := ?_) ?_ ?_
        rotate_left
        ·show Act.put _ (some 49) _ = _
         simp only [Act.put, ls, lz, ln, i64_w, i32_w]
         rfl
        refine pure_ (i := 4) (N := some 50) (v := ?_) (a' := ?_) #[true, true, true, true, true] rfl rfl (by kernel_rfl) (fun _ _ _ h => h) (Or.inl ⟨by rfl, ?_⟩) ?_ ?_
        rotate_left
        ·intro w'
         go_simp
         with_reducible rfl
        rotate_left
        ·simp only [Act.put, ls, lz, ln, i64_w, i32_w]
         rfl
        refine done_ (by kernel_rfl) ?_
        try go_wp2_with (first | ((with_reducible refine gate_callee (f := 21) rfl ?_); refine goesL_ (some 53) rfl rfl Try.func21 (by kernel_rfl) rfl #[.slice A1 l1.length c1] rfl (by (try simp only [la, lb, lc]); first | done | rfl | (simp only [ld, le]; rfl)) ?_; (with_reducible refine (laws_toInt64S.calls kj15 _ _ l1 t301 _ ?side1 ?side2 A43.out).mono ?_); (case side1 => exact uC ((Kd.C_below HR1.out HB.out))); (case side2 => exact HC1.out); rintro e w51 ⟨v302, rfl, ho0, hb⟩; refine ⟨_, rfl, ?_⟩; have n0_ := zA (Kd.R_elder' (uR HO_9.out) (Kd.R_base ho0) hb); have n1_ := zA (Kd.R_elder' (uR HO_288001.out) (Kd.R_base ho0) hb); have n2_ := zA (Kd.R_elder' (uR HO_288002.out) (Kd.R_base ho0) hb); have n3_ := zA (Kd.R_elder' (uR HO296.out) (Kd.R_base ho0) hb); have n4_ := zA (Kd.R_elder' (uR HO299.out) (Kd.R_base ho0) hb); have n5_ := zA (Kd.R_lower (Kd.R_new' (Kd.R_new' (Kd.R_new' (Kd.R_new' (Kd.R_new' ho0 (Kd.R_lt (uR HO_9.out))) (Kd.R_lt (uR HO_288001.out))) (Kd.R_lt (uR HO_288002.out))) (Kd.R_lt (uR HO296.out))) (Kd.R_lt (uR HO299.out))) (below_size (uH HB.out))); have n6_ := xB BK266 hb; have n7_ := xB BK287 hb; have n8_ := xH HB hb; clear HO_9 HO_288001 HO_288002 HO296 HO299 BK266 BK287 HB; have HO_9 := n0_; have HO_288001 := n1_; have HO_288002 := n2_; have HO296 := n3_; have HO299 := n4_; have HO303 := n5_; have BK266 := n6_; have BK287 := n7_; have HB := n8_; clear n0_ n1_ n2_ n3_ n4_ n5_ n6_ n7_ n8_; (try clear hb); (try clear hb2); (try clear hk); (try clear hi); (try clear ho0); obtain ⟨Ao52, co52, eo52⟩ := Kd.R_slice HO303.out; subst eo52) | ((with_reducible refine gate_callee (f := 23) rfl ?_); refine goesL_ (some 54) rfl rfl Try.func23 (by kernel_rfl) rfl #[.slice Ao36 t288.length co36, .slice Ao52 t301.length co52] rfl (by (try simp only [la, lb, lc]); first | done | rfl | (simp only [ld, le]; rfl)) ?_; (with_reducible refine (laws_eqInt64S.calls kj15 _ _ t288 _ _ t301 true _ ?side1 ?side2 ?side3 ?side4 A44.out).mono ?_); (case side1 => exact uC ((Kd.R_reads' HO_9.out).2.2)); (case side2 => exact (Kd.R_reads' HO_9.out).2.1); (case side3 => exact uC ((Kd.R_reads' HO303.out).2.2)); (case side4 => exact (Kd.R_reads' HO303.out).2.1); rintro e w' ⟨rfl, ⟨nd, rfl⟩⟩; refine ⟨_, rfl, ?_⟩))
        go_ret
        exact ⟨by first | rfl | (simp [errW_none, errW_some] <;> rfl) | (simp [*, errW_none, errW_some] <;> rfl), uH HB.out⟩
       ·replace c45 := Bool.eq_false_iff.mpr c45
        subst c45
        have H1 : (some false) = some r := by rw [if_neg (show ¬ (false = true) by decide)] at H; exact H
        clear H
        have H := H1
        clear H1
        rw [HRT.out] at H
        exact absurd H (by simp)
      ·replace c42 := Bool.eq_false_iff.mpr c42
       subst c42
       have H1 : (some false) = some r := by rw [if_neg (show ¬ (false = true) by decide)] at H; exact H
       clear H
       have H := H1
       clear H1
       rw [HRT.out] at H
       exact absurd H (by simp)

/-- THE ONE PURE STATEMENT of laws_FnExactSumOf: yours. -/
def laws_FnExactSumOf.Pure : Prop := ∀ (a0_0 : Int) (l0_1 : List Int) (l0_2 : List Int) (l1 : List Int), (Lit.int .i64 a0_0).wf = true → l0_1.length ≤ maxLen → (∀ x ∈ l0_1, (Lit.int .i64 x).wf = true) → l0_2.length ≤ maxLen → (∀ x ∈ l0_2, (Lit.int .i64 x).wf = true) → l1.length ≤ maxLen → l1.length * 8 ≤ 140737488351232 → (∀ x ∈ l1, (Lit.int .i64 x).wf = true) → ∃ k, laws_FnExactSumOf.f k a0_0 l0_1 l0_2 l1 = some true
theorem laws_FnExactSumOf.walk (P : laws_FnExactSumOf.Pure) (a0_0 : Int) (a0_1 : Option Addr) (len0_1 cap0_1 : Nat) (z0_1 : List Int) (a0_2 : Option Addr) (len0_2 cap0_2 : Nat) (z0_2 : List Int) (a1 : Option Addr) (len1 cap1 : Nat) (z1 : List Int) (w : World) (w0_0 : (Lit.int .i64 a0_0).wf = true) (w0_1 : (a0_1 = none ∧ len0_1 = 0 ∧ cap0_1 = 0 ∧ z0_1 = []) ∨ ∃ x, a0_1 = some x ∧ len0_1 ≤ cap0_1 ∧ cap0_1 ≤ maxLen ∧ z0_1.length = cap0_1 ∧ (∀ i, i < z0_1.length → w.cell? (x.add i) = some (.int .i64 (z0_1.getD i 0))) ∧ ∀ n ∈ z0_1, (Lit.int .i64 n).wf = true) (w0_2 : (a0_2 = none ∧ len0_2 = 0 ∧ cap0_2 = 0 ∧ z0_2 = []) ∨ ∃ x, a0_2 = some x ∧ len0_2 ≤ cap0_2 ∧ cap0_2 ≤ maxLen ∧ z0_2.length = cap0_2 ∧ (∀ i, i < z0_2.length → w.cell? (x.add i) = some (.int .i64 (z0_2.getD i 0))) ∧ ∀ n ∈ z0_2, (Lit.int .i64 n).wf = true) (w1 : (a1 = none ∧ len1 = 0 ∧ cap1 = 0 ∧ z1 = []) ∨ ∃ x, a1 = some x ∧ len1 ≤ cap1 ∧ cap1 ≤ maxLen ∧ z1.length = cap1 ∧ (∀ i, i < z1.length → w.cell? (x.add i) = some (.int .i64 (z1.getD i 0))) ∧ ∀ n ∈ z1, (Lit.int .i64 n).wf = true) (y1 : len1 * 8 ≤ 140737488351232) :
  Calls Try.prog 4 #[.agg #[.int .i64 a0_0, .slice a0_1 len0_1 cap0_1, .slice a0_2 len0_2 cap0_2], .slice a1 len1 cap1] w fun e w' => e = .returned (.bool true) ∧ Below w.heap.size w w' := by
 obtain ⟨l0_1, rfl, hr0_1, hm0_1, hw0_1, hc0_1⟩ := ReadsInt.ofRowC w0_1
 obtain ⟨l0_2, rfl, hr0_2, hm0_2, hw0_2, hc0_2⟩ := ReadsInt.ofRowC w0_2
 obtain ⟨l1, rfl, hr1, hm1, hw1, hc1⟩ := ReadsInt.ofRowC w1
 obtain ⟨k, h⟩ := P a0_0 l0_1 l0_2 l1 w0_0 hm0_1 hw0_1 hm0_2 hw0_2 hm1 y1 hw1
 refine (laws_FnExactSumOf.calls k a0_0 _ _ l0_1 _ _ l0_2 _ _ l1 true rfl w (Kd.C_of_reads (d := (0 : Int)) (h1 := fun _ => rfl) hr0_1) hc0_1 (Kd.C_of_reads (d := (0 : Int)) (h1 := fun _ => rfl) hr0_2) hc0_2 (Kd.C_of_reads (d := (0 : Int)) (h1 := fun _ => rfl) hr1) hc1 h).mono ?_
 rintro e w' ⟨rfl, hd⟩
 exact ⟨rfl, hd⟩

end Go.Proofs.Yteoipomgldioeaa.Pr
