/- Texts of this session in one: what functions of the program compute, and plain facts of it, under the conditions that each theorem names. -/
import Derived.Below
import Derived.ChangeOld
import Derived.Lib.SmallJoins
import Derived.OpenShut
import Derived.ProofKit
import Derived.ShutString
import Derived.SizedLaws
import Derived.Test.YtokkabgkjhpecaaRows
import Derived.WalkKit
import Derived.Test.YtokkabgkjhpecaaKC01
import Derived.Test.YtokkabgkjhpecaaKC02
import Derived.Test.YtokkabgkjhpecaaKC03
import Derived.Test.YtokkabgkjhpecaaKC04
import Derived.Test.YtokkabgkjhpecaaKC05
import Derived.Test.YtokkabgkjhpecaaKC08
import Derived.Test.YtokkabgkjhpecaaKC09
import Derived.Test.YtokkabgkjhpecaaKValueOf1
import Derived.Test.YtokkabgkjhpecaaWSized
/- Printed by a program of this session out of the translation: what these functions of the program compute, under the conditions that each theorem names. -/
namespace Go.Proofs.Ytokkabgkjhpecaa.Pr
open Go.RowKit Go.Proofs.YtokkabgkjhpecaaW.PrintWords Go.Proofs.YtokkabgkjhpecaaW.PrintLast Go.Proofs.YtokkabgkjhpecaaW.PrintMore
attribute [local go_sem] max2_int min2_int max_two min_two max_three min_three max_four min_four   -- for this text's walks alone
set_option linter.unusedVariables false
set_option linter.unusedSimpArgs false

/-! ### laws_FnExactValueOf: function 5 -/
def laws_FnExactValueOf.j0 : Nat → Bool → Int → List Int → List Int → Int → List Int → List Int → Option (Bool)
 | 0, _, _, _, _, _, _, _ => none
 | k + 1, x42, x555000, x555001, x555002, x573000, x573001, x573002 => if x42 = true then (some false) else ((laws_toJacobi.f k x555000 x555001 x555002).bind fun bt575 => ((laws_eqJacobi.f k x573000 x573001 x573002 bt575.1 bt575.2.1 bt575.2.2).bind fun t582 => (if t582 = true then (some true) else (some false))))
def laws_FnExactValueOf.f (k : Nat) (a0_0 : Int) (l0_1 : List Int) (l0_2 : List Int) (a1 : Int) (a2 : Int) : Option (Bool) := (laws_szJacobi.f a0_0 l0_1 l0_2 1048576).bind fun t555 => (if t555 < 0 then (some true) else ((laws_toJacobi.f k a0_0 l0_1 l0_2).bind fun bt556 => ((spec_ValueOf.f k bt556.1 bt556.2.1 bt556.2.2 a1 a2).bind fun bt563 => ((laws_toJacobi.f k a0_0 l0_1 l0_2).bind fun bt565 => ((impl_ValueOf.f k bt565.1 bt565.2.1 bt565.2.2 a1 a2).bind fun bt573 => (if bt573.1 = bt563.1 then (laws_FnExactValueOf.j0 k (bt573.2 != bt563.2) a0_0 l0_1 l0_2 bt565.1 bt565.2.1 bt565.2.2) else (laws_FnExactValueOf.j0 k true a0_0 l0_1 l0_2 bt565.1 bt565.2.1 bt565.2.2)))))))
theorem laws_FnExactValueOf.mono_l : ∀ k, (∀ y0 y1 y2 y3 y4 y5 y6, LeO (laws_FnExactValueOf.j0 k y0 y1 y2 y3 y4 y5 y6) (laws_FnExactValueOf.j0 (k + 1) y0 y1 y2 y3 y4 y5 y6))
 | 0 => fun _ _ _ _ _ _ _ r h => by simp [laws_FnExactValueOf.j0] at h
 | k + 1 => by
  have ih0 := laws_FnExactValueOf.mono_l k
  ·intro y0 y1 y2 y3 y4 y5 y6
   unfold laws_FnExactValueOf.j0
   repeat' first
   | (with_reducible exact ih0 _ _ _ _ _ _ _)
   | (with_reducible exact impl_ValueOf.mono _ _ _ _ _ _)
   | (with_reducible exact laws_eqJacobi.mono _ _ _ _ _ _ _)
   | (with_reducible exact laws_toJacobi.mono _ _ _ _)
   | (with_reducible exact spec_ValueOf.mono _ _ _ _ _ _)
   | (with_reducible exact LeO.refl _)
   | (with_reducible exact LeO.none _)
   | (with_reducible refine LeO.ite ?_ ?_)
   | (with_reducible refine LeO.bind ?_ (fun _ => ?_))
   | exact ih0 _ _ _ _ _ _ _
   | exact impl_ValueOf.mono _ _ _ _ _ _
   | exact laws_eqJacobi.mono _ _ _ _ _ _ _
   | exact laws_toJacobi.mono _ _ _ _
   | exact spec_ValueOf.mono _ _ _ _ _ _
   | exact LeO.none _
   | refine LeO.ite ?_ ?_
   | refine LeO.bind ?_ (fun _ => ?_)
theorem laws_FnExactValueOf.mono : ∀ a0 a1 a2 a3 a4 k, LeO (laws_FnExactValueOf.f k a0 a1 a2 a3 a4) (laws_FnExactValueOf.f (k + 1) a0 a1 a2 a3 a4) := by
 intro a0 a1 a2 a3 a4 k
 have ih0 := laws_FnExactValueOf.mono_l k
 unfold laws_FnExactValueOf.f
 repeat' first
   | (with_reducible exact ih0 _ _ _ _ _ _ _)
   | (with_reducible exact impl_ValueOf.mono _ _ _ _ _ _)
   | (with_reducible exact laws_eqJacobi.mono _ _ _ _ _ _ _)
   | (with_reducible exact laws_toJacobi.mono _ _ _ _)
   | (with_reducible exact spec_ValueOf.mono _ _ _ _ _ _)
   | (with_reducible exact LeO.refl _)
   | (with_reducible exact LeO.none _)
   | (with_reducible refine LeO.ite ?_ ?_)
   | (with_reducible refine LeO.bind ?_ (fun _ => ?_))
   | exact ih0 _ _ _ _ _ _ _
   | exact impl_ValueOf.mono _ _ _ _ _ _
   | exact laws_eqJacobi.mono _ _ _ _ _ _ _
   | exact laws_toJacobi.mono _ _ _ _
   | exact spec_ValueOf.mono _ _ _ _ _ _
   | exact LeO.none _
   | refine LeO.ite ?_ ?_
   | refine LeO.bind ?_ (fun _ => ?_)
set_option maxHeartbeats 8000000 in
set_option maxRecDepth 100000 in
theorem laws_FnExactValueOf.calls (k : Nat) (a0_0 : Int) (A0_1 : Option Addr) (c0_1 : Nat) (l0_1 : List Int) (A0_2 : Option Addr) (c0_2 : Nat) (l0_2 : List Int) (a1 : Int) (a2 : Int) (r : Bool) (hr_ : r = true) (w : World) (hr0_1 : Kd.C (Kd.int .i64) w A0_1 l0_1.length l0_1) (hc0_1 : l0_1.length ≤ c0_1) (hr0_2 : Kd.C (Kd.int .i64) w A0_2 l0_2.length l0_2) (hc0_2 : l0_2.length ≤ c0_2) (h : laws_FnExactValueOf.f k a0_0 l0_1 l0_2 a1 a2 = some r) :
  Calls Try.prog 5 #[.agg #[.int .i64 a0_0, .slice A0_1 l0_1.length c0_1, .slice A0_2 l0_2.length c0_2], .int .i64 a1, .int .i64 a2] w fun e w' => e = .returned (.bool r) ∧ Below w.heap.size w w' := by
 have hu43 := Try.underlying43
 have hu46 := Try.underlying46
 have HRT := zA hr_
 clear hr_
 have HR0_1 := zA hr0_1
 have HC0_1 := zA hc0_1
 clear hr0_1 hc0_1
 have HR0_2 := zA hr0_2
 have HC0_2 := zA hc0_2
 clear hr0_2 hc0_2
 have HB := zA (Below.refl w.heap.size w)
 have H : ((laws_szJacobi.f a0_0 l0_1 l0_2 1048576).bind fun t555 => (if t555 < 0 then (some true) else ((laws_toJacobi.f k a0_0 l0_1 l0_2).bind fun bt556 => ((spec_ValueOf.f k bt556.1 bt556.2.1 bt556.2.2 a1 a2).bind fun bt563 => ((laws_toJacobi.f k a0_0 l0_1 l0_2).bind fun bt565 => ((impl_ValueOf.f k bt565.1 bt565.2.1 bt565.2.2 a1 a2).bind fun bt573 => (if bt573.1 = bt563.1 then (laws_FnExactValueOf.j0 k (bt573.2 != bt563.2) a0_0 l0_1 l0_2 bt565.1 bt565.2.1 bt565.2.2) else (laws_FnExactValueOf.j0 k true a0_0 l0_1 l0_2 bt565.1 bt565.2.1 bt565.2.2)))))))) = some r := h
 clear h
 replace H := Option.bind_eq_some_iff.mp H
 obtain ⟨t555, A40, H⟩ := H
 replace H : (if t555 < 0 then (some true) else ((laws_toJacobi.f k a0_0 l0_1 l0_2).bind fun bt556 => ((spec_ValueOf.f k bt556.1 bt556.2.1 bt556.2.2 a1 a2).bind fun bt563 => ((laws_toJacobi.f k a0_0 l0_1 l0_2).bind fun bt565 => ((impl_ValueOf.f k bt565.1 bt565.2.1 bt565.2.2 a1 a2).bind fun bt573 => (if bt573.1 = bt563.1 then (laws_FnExactValueOf.j0 k (bt573.2 != bt563.2) a0_0 l0_1 l0_2 bt565.1 bt565.2.1 bt565.2.2) else (laws_FnExactValueOf.j0 k true a0_0 l0_1 l0_2 bt565.1 bt565.2.1 bt565.2.2))))))) = some r := H
 have A4 := zA A40
 clear A40
 by_cases c5 : t555 < 0
 ·rw [if_pos c5] at H
  have c5b0 : decide (t555 < 0) = true := decide_eq_true c5
  clear c5
  obtain rfl := Option.some.inj H
  go_enter Try.func5, Try.ntmps5
  go_wp2_with (first | ((with_reducible refine gate_dst (N := 3) rfl ?_); refine box_event ?hg (N := 3) ?hd (cs := #[.int .i64 a0_0, .slice A0_1 l0_1.length c0_1, .slice A0_2 l0_2.length c0_2]) (t := 43) ?hr ?_; (case hd => rfl); (case hg => rfl); (case hr => first | (go_simp; done) | (go_simp; rfl)); intro gb554 hg w6 hbox hb; have n0_ := xH HB hb; have n1_ := zA (hbox); have n2_ := zA ((by rw [hg]; exact (below_size (uH HB.out)) : w.heap.size ≤ gb554)); have n3_ := zA ((by rw [hg]; exact (below_size (uH HB.out)) : w.heap.size ≤ gb554)); clear HB; have HB := n0_; have BK554 := n1_; have GW554 := n2_; have GE554 := n3_; have := geI GE554; clear n0_ n1_ n2_ n3_ hb hbox hg; have hcz7_0 : w6.cell? ⟨gb554, 0, none⟩ = some (.int .i64 a0_0) := (blk_cell BK554.out 0).trans rfl; have hcz7_1 : w6.cell? ⟨gb554, 1, none⟩ = some (.slice A0_1 l0_1.length c0_1) := (blk_cell BK554.out 1).trans rfl; have hcz7_2 : w6.cell? ⟨gb554, 2, none⟩ = some (.slice A0_2 l0_2.length c0_2) := (blk_cell BK554.out 2).trans rfl; have hfz7_0 := blk_frozen BK554.out 0; have hfz7_1 := blk_frozen BK554.out 1; have hfz7_2 := blk_frozen BK554.out 2) | ((with_reducible refine gate_callee (f := 27) rfl ?_); refine goesL_ (some 15) rfl rfl Try.func27 (by kernel_rfl) rfl #[.agg #[.int .i64 a0_0, .slice A0_1 l0_1.length c0_1, .slice A0_2 l0_2.length c0_2], .int .i64 1048576] rfl (by (try simp only [la, lb, lc]); first | done | rfl | (simp only [ld, le]; rfl)) ?_; (with_reducible refine (laws_szJacobi.calls a0_0 _ _ l0_1 _ _ l0_2 1048576 t555 _ ?side1 ?side2 ?side3 ?side4 A4.out).mono ?_); (case side1 => exact uC ((Kd.C_below HR0_1.out HB.out))); (case side2 => exact HC0_1.out); (case side3 => exact uC ((Kd.C_below HR0_2.out HB.out))); (case side4 => exact HC0_2.out); rintro e w8 ⟨rfl, hb⟩; refine ⟨_, rfl, ?_⟩; have n0_ := xB BK554 hb; have n1_ := xH HB hb; clear BK554 HB; have BK554 := n0_; have HB := n1_; clear n0_ n1_; (try clear hb); (try clear hb2); (try clear hk); (try clear hi)))
  go_ret
  exact ⟨by first | rfl | (simp [errW_none, errW_some] <;> rfl) | (simp [*, errW_none, errW_some] <;> rfl), uH HB.out⟩
 ·rw [if_neg c5] at H
  have c5b0 : decide (t555 < 0) = false := decide_eq_false c5
  clear c5
  replace H := Option.bind_eq_some_iff.mp H
  obtain ⟨⟨t556, t557, t560⟩, A90, H⟩ := H
  replace H : ((spec_ValueOf.f k t556 t557 t560 a1 a2).bind fun bt563 => ((laws_toJacobi.f k a0_0 l0_1 l0_2).bind fun bt565 => ((impl_ValueOf.f k bt565.1 bt565.2.1 bt565.2.2 a1 a2).bind fun bt573 => (if bt573.1 = bt563.1 then (laws_FnExactValueOf.j0 k (bt573.2 != bt563.2) a0_0 l0_1 l0_2 bt565.1 bt565.2.1 bt565.2.2) else (laws_FnExactValueOf.j0 k true a0_0 l0_1 l0_2 bt565.1 bt565.2.1 bt565.2.2))))) = some r := H
  have A9 := zA A90
  clear A90
  replace H := Option.bind_eq_some_iff.mp H
  obtain ⟨⟨t563, t564⟩, A100, H⟩ := H
  replace H : ((laws_toJacobi.f k a0_0 l0_1 l0_2).bind fun bt565 => ((impl_ValueOf.f k bt565.1 bt565.2.1 bt565.2.2 a1 a2).bind fun bt573 => (if bt573.1 = t563 then (laws_FnExactValueOf.j0 k (bt573.2 != t564) a0_0 l0_1 l0_2 bt565.1 bt565.2.1 bt565.2.2) else (laws_FnExactValueOf.j0 k true a0_0 l0_1 l0_2 bt565.1 bt565.2.1 bt565.2.2)))) = some r := H
  have A10 := zA A100
  clear A100
  replace H := Option.bind_eq_some_iff.mp H
  obtain ⟨⟨t565, t566, t569⟩, A110, H⟩ := H
  replace H : ((impl_ValueOf.f k t565 t566 t569 a1 a2).bind fun bt573 => (if bt573.1 = t563 then (laws_FnExactValueOf.j0 k (bt573.2 != t564) a0_0 l0_1 l0_2 t565 t566 t569) else (laws_FnExactValueOf.j0 k true a0_0 l0_1 l0_2 t565 t566 t569))) = some r := H
  have A11 := zA A110
  clear A110
  replace H := Option.bind_eq_some_iff.mp H
  obtain ⟨⟨t573, t574⟩, A120, H⟩ := H
  replace H : (if t573 = t563 then (laws_FnExactValueOf.j0 k (t574 != t564) a0_0 l0_1 l0_2 t565 t566 t569) else (laws_FnExactValueOf.j0 k true a0_0 l0_1 l0_2 t565 t566 t569)) = some r := H
  have A12 := zA A120
  clear A120
  have HC13 := zA H
  clear H
  go_enter Try.func5, Try.ntmps5
  go_upto_region 8 with (first | ((with_reducible refine gate_dst (N := 3) rfl ?_); refine box_event ?hg (N := 3) ?hd (cs := #[.int .i64 a0_0, .slice A0_1 l0_1.length c0_1, .slice A0_2 l0_2.length c0_2]) (t := 43) ?hr ?_; (case hd => rfl); (case hg => rfl); (case hr => first | (go_simp; done) | (go_simp; rfl)); intro gb554 hg w14 hbox hb; have n0_ := xH HB hb; have n1_ := zA (hbox); have n2_ := zA ((by rw [hg]; exact (below_size (uH HB.out)) : w.heap.size ≤ gb554)); have n3_ := zA ((by rw [hg]; exact (below_size (uH HB.out)) : w.heap.size ≤ gb554)); clear HB; have HB := n0_; have BK554 := n1_; have GW554 := n2_; have GE554 := n3_; have := geI GE554; clear n0_ n1_ n2_ n3_ hb hbox hg; have hcz15_0 : w14.cell? ⟨gb554, 0, none⟩ = some (.int .i64 a0_0) := (blk_cell BK554.out 0).trans rfl; have hcz15_1 : w14.cell? ⟨gb554, 1, none⟩ = some (.slice A0_1 l0_1.length c0_1) := (blk_cell BK554.out 1).trans rfl; have hcz15_2 : w14.cell? ⟨gb554, 2, none⟩ = some (.slice A0_2 l0_2.length c0_2) := (blk_cell BK554.out 2).trans rfl; have hfz15_0 := blk_frozen BK554.out 0; have hfz15_1 := blk_frozen BK554.out 1; have hfz15_2 := blk_frozen BK554.out 2) | ((with_reducible refine gate_callee (f := 27) rfl ?_); refine goesL_ (some 15) rfl rfl Try.func27 (by kernel_rfl) rfl #[.agg #[.int .i64 a0_0, .slice A0_1 l0_1.length c0_1, .slice A0_2 l0_2.length c0_2], .int .i64 1048576] rfl (by (try simp only [la, lb, lc]); first | done | rfl | (simp only [ld, le]; rfl)) ?_; (with_reducible refine (laws_szJacobi.calls a0_0 _ _ l0_1 _ _ l0_2 1048576 t555 _ ?side1 ?side2 ?side3 ?side4 A4.out).mono ?_); (case side1 => exact uC ((Kd.C_below HR0_1.out HB.out))); (case side2 => exact HC0_1.out); (case side3 => exact uC ((Kd.C_below HR0_2.out HB.out))); (case side4 => exact HC0_2.out); rintro e w16 ⟨rfl, hb⟩; refine ⟨_, rfl, ?_⟩; have n0_ := xB BK554 hb; have n1_ := xH HB hb; clear BK554 HB; have BK554 := n0_; have HB := n1_; clear n0_ n1_; (try clear hb); (try clear hb2); (try clear hk); (try clear hi); have hcz17_0 : w16.cell? ⟨gb554, 0, none⟩ = some (.int .i64 a0_0) := (blk_cell BK554.out 0).trans rfl; have hcz17_1 : w16.cell? ⟨gb554, 1, none⟩ = some (.slice A0_1 l0_1.length c0_1) := (blk_cell BK554.out 1).trans rfl; have hcz17_2 : w16.cell? ⟨gb554, 2, none⟩ = some (.slice A0_2 l0_2.length c0_2) := (blk_cell BK554.out 2).trans rfl; have hfz17_0 := blk_frozen BK554.out 0; have hfz17_1 := blk_frozen BK554.out 1; have hfz17_2 := blk_frozen BK554.out 2) | ((with_reducible refine gate_callee (f := 29) rfl ?_); refine goesL_ (some 20) rfl rfl Try.func29 (by kernel_rfl) rfl #[.agg #[.int .i64 a0_0, .slice A0_1 l0_1.length c0_1, .slice A0_2 l0_2.length c0_2]] rfl (by (try simp only [la, lb, lc]); first | done | rfl | (simp only [ld, le]; rfl)) ?_; (with_reducible refine (laws_toJacobi.calls k a0_0 _ _ l0_1 _ _ l0_2 t556 t557 t560 _ ?side1 ?side2 ?side3 ?side4 A9.out).mono ?_); (case side1 => exact uC ((Kd.C_below HR0_1.out HB.out))); (case side2 => exact HC0_1.out); (case side3 => exact uC ((Kd.C_below HR0_2.out HB.out))); (case side4 => exact HC0_2.out); rintro e w18 ⟨v558, v561, rfl, ho0, ho1, hb⟩; refine ⟨_, rfl, ?_⟩; have n0_ := zA (Kd.R_lower ho0 (below_size (uH HB.out))); have n1_ := zA (Kd.R_lower ho1 (below_size (uH HB.out))); have n2_ := xB BK554 hb; have n3_ := xH HB hb; clear BK554 HB; have HO559 := n0_; have HO562 := n1_; have BK554 := n2_; have HB := n3_; clear n0_ n1_ n2_ n3_; (try clear hb); (try clear hb2); (try clear hk); (try clear hi); (try clear ho0); (try clear ho1); obtain ⟨Ao19, co19, eo19⟩ := Kd.R_slice HO559.out; subst eo19; obtain ⟨Ao20, co20, eo20⟩ := Kd.R_slice HO562.out; subst eo20) | ((with_reducible refine gate_callee (f := 28) rfl ?_); refine goesL_ (some 23) rfl rfl Try.func28 (by kernel_rfl) rfl #[.agg #[.int .i64 t556, .slice Ao19 t557.length co19, .slice Ao20 t560.length co20], .int .i64 a1, .int .i64 a2] rfl (by (try simp only [la, lb, lc]); first | done | rfl | (simp only [ld, le]; rfl)) ?_; (with_reducible refine (spec_ValueOf.calls k t556 _ _ t557 _ _ t560 a1 a2 t563 t564 _ ?side1 ?side2 ?side3 ?side4 A10.out).mono ?_); (case side1 => exact uC ((Kd.R_reads' HO559.out).2.2)); (case side2 => exact (Kd.R_reads' HO559.out).2.1); (case side3 => exact uC ((Kd.R_reads' HO562.out).2.2)); (case side4 => exact (Kd.R_reads' HO562.out).2.1); rintro e w21 ⟨rfl, hb⟩; refine ⟨_, rfl, ?_⟩; have n0_ := xR HO559 hb; have n1_ := xR HO562 hb; have n2_ := xB BK554 hb; have n3_ := xH HB hb; clear HO559 HO562 BK554 HB; have HO559 := n0_; have HO562 := n1_; have BK554 := n2_; have HB := n3_; clear n0_ n1_ n2_ n3_; (try clear hb); (try clear hb2); (try clear hk); (try clear hi); have hcz22_0 : w21.cell? ⟨gb554, 0, none⟩ = some (.int .i64 a0_0) := (blk_cell BK554.out 0).trans rfl; have hcz22_1 : w21.cell? ⟨gb554, 1, none⟩ = some (.slice A0_1 l0_1.length c0_1) := (blk_cell BK554.out 1).trans rfl; have hcz22_2 : w21.cell? ⟨gb554, 2, none⟩ = some (.slice A0_2 l0_2.length c0_2) := (blk_cell BK554.out 2).trans rfl; have hfz22_0 := blk_frozen BK554.out 0; have hfz22_1 := blk_frozen BK554.out 1; have hfz22_2 := blk_frozen BK554.out 2) | ((with_reducible refine gate_callee (f := 29) rfl ?_); refine goesL_ (some 27) rfl rfl Try.func29 (by kernel_rfl) rfl #[.agg #[.int .i64 a0_0, .slice A0_1 l0_1.length c0_1, .slice A0_2 l0_2.length c0_2]] rfl (by (try simp only [la, lb, lc]); first | done | rfl | (simp only [ld, le]; rfl)) ?_; (with_reducible refine (laws_toJacobi.calls k a0_0 _ _ l0_1 _ _ l0_2 t565 t566 t569 _ ?side1 ?side2 ?side3 ?side4 A11.out).mono ?_); (case side1 => exact uC ((Kd.C_below HR0_1.out HB.out))); (case side2 => exact HC0_1.out); (case side3 => exact uC ((Kd.C_below HR0_2.out HB.out))); (case side4 => exact HC0_2.out); rintro e w23 ⟨v567, v570, rfl, ho0, ho1, hb⟩; refine ⟨_, rfl, ?_⟩; have n0_ := zA (Kd.R_mono (Kd.R_told (Kd.R_told (Kd.R_old (uR HO559.out) hb) (Kd.R_base ho0)) (Kd.R_base ho1)) (fun _ h_ => h_.1)); have n1_ := zA (Kd.R_mono (Kd.R_told (Kd.R_told (Kd.R_old (uR HO562.out) hb) (Kd.R_base ho0)) (Kd.R_base ho1)) (fun _ h_ => h_.1)); have n2_ := zA (Kd.R_lower (Kd.R_new' (Kd.R_new' ho0 (Kd.R_lt (uR HO559.out))) (Kd.R_lt (uR HO562.out))) (below_size (uH HB.out))); have n3_ := zA (Kd.R_lower (Kd.R_new' (Kd.R_new' ho1 (Kd.R_lt (uR HO559.out))) (Kd.R_lt (uR HO562.out))) (below_size (uH HB.out))); have n4_ := xB BK554 hb; have n5_ := xH HB hb; clear HO559 HO562 BK554 HB; have HO559 := n0_; have HO562 := n1_; have HO568 := n2_; have HO571 := n3_; have BK554 := n4_; have HB := n5_; clear n0_ n1_ n2_ n3_ n4_ n5_; (try clear hb); (try clear hb2); (try clear hk); (try clear hi); (try clear ho0); (try clear ho1)) | ((with_reducible refine gate_dst (N := 10) rfl ?_); refine box_event ?hg (N := 10) ?hd (cs := #[.int .i64 0, .slice none 0 0, .slice none 0 0]) (t := 46) ?hr ?_; (case hd => rfl); (case hg => rfl); (case hr => first | (go_simp; done) | (go_simp; rfl)); intro gb572 hg w24 hbox hb; have n0_ := xR HO559 hb; have n1_ := xR HO562 hb; have n2_ := xR HO568 hb; have n3_ := xR HO571 hb; have n4_ := xB BK554 hb; have n5_ := xH HB hb; have n6_ := zA (hbox); have n7_ := zA ((by rw [hg]; exact (below_size (uH HB.out)) : w.heap.size ≤ gb572)); have n8_ := zA ((by rw [hg]; exact (below_size (uH HB.out)) : w.heap.size ≤ gb572)); have n9_ := zA ((by rw [hg]; exact neL BK554 : gb554 ≠ gb572)); have n10_ := zA ((by rw [hg]; exact neG BK554 : gb572 ≠ gb554)); clear HO559 HO562 HO568 HO571 BK554 HB; have HO559 := n0_; have HO562 := n1_; have HO568 := n2_; have HO571 := n3_; have BK554 := n4_; have HB := n5_; have BK572 := n6_; have GW572 := n7_; have GE572 := n8_; have := geI GE572; have NB554_572 := n9_; have NB572_554 := n10_; clear n0_ n1_ n2_ n3_ n4_ n5_ n6_ n7_ n8_ n9_ n10_ hb hbox hg; have hnb25 := NB572_554.out; have hnc25 := NB554_572.out; have hcz26_0 : w24.cell? ⟨gb572, 0, none⟩ = some (.int .i64 0) := (blk_cell BK572.out 0).trans rfl; have hcz26_1 : w24.cell? ⟨gb572, 1, none⟩ = some (.slice none 0 0) := (blk_cell BK572.out 1).trans rfl; have hcz26_2 : w24.cell? ⟨gb572, 2, none⟩ = some (.slice none 0 0) := (blk_cell BK572.out 2).trans rfl; have hfz26_0 := blk_frozen BK572.out 0; have hfz26_1 := blk_frozen BK572.out 1; have hfz26_2 := blk_frozen BK572.out 2; obtain ⟨Ao27, co27, eo27⟩ := Kd.R_slice HO568.out; subst eo27; obtain ⟨Ao28, co28, eo28⟩ := Kd.R_slice HO571.out; subst eo28) | ((with_reducible refine gate_callee (f := 30) rfl ?_); refine goesL_ (some 32) rfl rfl Try.func30 (by kernel_rfl) rfl #[.agg #[.int .i64 t565, .slice Ao27 t566.length co27, .slice Ao28 t569.length co28], .int .i64 a1, .int .i64 a2] rfl (by (try simp only [la, lb, lc]); first | done | rfl | (simp only [ld, le]; rfl)) ?_; (with_reducible refine (impl_ValueOf.calls k t565 _ _ t566 _ _ t569 a1 a2 t573 t574 _ ?side1 ?side2 ?side3 ?side4 A12.out).mono ?_); (case side1 => refine (Kd.R_reads' (e := 2) (base := w.heap.size) (ok := fun k_ => ((some k_ ≠ (.slice Ao28 t569.length co28 : Value).ownBlock ∧ some k_ ≠ (.slice Ao19 t557.length co19 : Value).ownBlock) ∧ some k_ ≠ (.slice Ao20 t560.length co20 : Value).ownBlock)) (n := t566.length) (c := co27) ?_).2.2; exact (uR ((Kd.R_mono (Kd.R_far (p := ⟨gb572, 2, none⟩) (Kd.R_far (p := ⟨gb572, 1, none⟩) (Kd.R_far (p := ⟨gb572, 0, none⟩) (Kd.R_types HO568.out BK572.out (by decide)) (fun _ hk => hk.2) (.int .i64 t565)) (fun _ hk => hk.2) (.slice Ao27 t566.length co27)) (fun _ hk => hk.2) (.slice Ao28 t569.length co28)) (fun _ h_ => h_.1))))); (case side2 => exact (Kd.R_reads' HO568.out).2.1); (case side3 => refine (Kd.R_reads' (e := 2) (base := w.heap.size) (ok := fun k_ => ((some k_ ≠ (.slice Ao27 t566.length co27 : Value).ownBlock ∧ some k_ ≠ (.slice Ao19 t557.length co19 : Value).ownBlock) ∧ some k_ ≠ (.slice Ao20 t560.length co20 : Value).ownBlock)) (n := t569.length) (c := co28) ?_).2.2; exact (uR ((Kd.R_mono (Kd.R_far (p := ⟨gb572, 2, none⟩) (Kd.R_far (p := ⟨gb572, 1, none⟩) (Kd.R_far (p := ⟨gb572, 0, none⟩) (Kd.R_types HO571.out BK572.out (by decide)) (fun _ hk => hk.2) (.int .i64 t565)) (fun _ hk => hk.2) (.slice Ao27 t566.length co27)) (fun _ hk => hk.2) (.slice Ao28 t569.length co28)) (fun _ h_ => h_.1))))); (case side4 => exact (Kd.R_reads' HO571.out).2.1); rintro e w29 ⟨rfl, hb⟩; refine ⟨_, rfl, ?_⟩; have n0_ := zA (Kd.R_below (uR ((Kd.R_mono (Kd.R_far (p := ⟨gb572, 2, none⟩) (Kd.R_far (p := ⟨gb572, 1, none⟩) (Kd.R_far (p := ⟨gb572, 0, none⟩) (Kd.R_types HO559.out BK572.out (by decide)) (fun _ hk => hk.2) (.int .i64 t565)) (fun _ hk => hk.2) (.slice Ao27 t566.length co27)) (fun _ hk => hk.2) (.slice Ao28 t569.length co28)) (fun _ h_ => h_.1)))) hb); have n1_ := zA (Kd.R_below (uR ((Kd.R_mono (Kd.R_far (p := ⟨gb572, 2, none⟩) (Kd.R_far (p := ⟨gb572, 1, none⟩) (Kd.R_far (p := ⟨gb572, 0, none⟩) (Kd.R_types HO562.out BK572.out (by decide)) (fun _ hk => hk.2) (.int .i64 t565)) (fun _ hk => hk.2) (.slice Ao27 t566.length co27)) (fun _ hk => hk.2) (.slice Ao28 t569.length co28)) (fun _ h_ => h_.1)))) hb); have n2_ := zA (Kd.R_below (uR ((Kd.R_mono (Kd.R_far (p := ⟨gb572, 2, none⟩) (Kd.R_far (p := ⟨gb572, 1, none⟩) (Kd.R_far (p := ⟨gb572, 0, none⟩) (Kd.R_types HO568.out BK572.out (by decide)) (fun _ hk => hk.2) (.int .i64 t565)) (fun _ hk => hk.2) (.slice Ao27 t566.length co27)) (fun _ hk => hk.2) (.slice Ao28 t569.length co28)) (fun _ h_ => h_.1)))) hb); have n3_ := zA (Kd.R_below (uR ((Kd.R_mono (Kd.R_far (p := ⟨gb572, 2, none⟩) (Kd.R_far (p := ⟨gb572, 1, none⟩) (Kd.R_far (p := ⟨gb572, 0, none⟩) (Kd.R_types HO571.out BK572.out (by decide)) (fun _ hk => hk.2) (.int .i64 t565)) (fun _ hk => hk.2) (.slice Ao27 t566.length co27)) (fun _ hk => hk.2) (.slice Ao28 t569.length co28)) (fun _ h_ => h_.1)))) hb); have n4_ := zA (blk_below (g := gb554) (o := .cells #[.int .i64 a0_0, .slice A0_1 l0_1.length c0_1, .slice A0_2 l0_2.length c0_2] 43 (0, 0)) (by (with_reducible repeat (first | refine blk_drewN ?_ _ | refine blk_drew ?_ | refine blk_alloc ?_ _)); refine blk_far ?_ NB554_572.out _; (with_reducible repeat (first | refine blk_drewN ?_ _ | refine blk_drew ?_ | refine blk_alloc ?_ _)); refine blk_far ?_ NB554_572.out _; (with_reducible repeat (first | refine blk_drewN ?_ _ | refine blk_drew ?_ | refine blk_alloc ?_ _)); refine blk_far ?_ NB554_572.out _; (with_reducible repeat (first | refine blk_drewN ?_ _ | refine blk_drew ?_ | refine blk_alloc ?_ _)); exact BK554.out) hb); have n5_ := zA (blk_below (g := gb572) (o := .cells #[.int .i64 t565, .slice Ao27 t566.length co27, .slice Ao28 t569.length co28] 46 (0, 0)) (by (with_reducible repeat (first | refine blk_drewN ?_ _ | refine blk_drew ?_ | refine blk_alloc ?_ _)); refine blk_put (cs := #[.int .i64 t565, .slice Ao27 t566.length co27, .slice none 0 0]) ?_ 2 _ rfl; (with_reducible repeat (first | refine blk_drewN ?_ _ | refine blk_drew ?_ | refine blk_alloc ?_ _)); refine blk_put (cs := #[.int .i64 t565, .slice none 0 0, .slice none 0 0]) ?_ 1 _ rfl; (with_reducible repeat (first | refine blk_drewN ?_ _ | refine blk_drew ?_ | refine blk_alloc ?_ _)); refine blk_put (cs := #[.int .i64 0, .slice none 0 0, .slice none 0 0]) ?_ 0 _ rfl; (with_reducible repeat (first | refine blk_drewN ?_ _ | refine blk_drew ?_ | refine blk_alloc ?_ _)); exact BK572.out) hb); have n6_ := xH HB hb; clear HO559 HO562 HO568 HO571 BK554 BK572 HB; have HO559 := n0_; have HO562 := n1_; have HO568 := n2_; have HO571 := n3_; have BK554 := n4_; have BK572 := n5_; have HB := n6_; clear n0_ n1_ n2_ n3_ n4_ n5_ n6_; (try clear hb); (try clear hb2); (try clear hk); (try clear hi)))
  (try simp only [Act.put, ls, lz, ln])
  go_cut [42] (fun v42 wc => ∃ (kq : Nat) (x42_12 : Bool), v42 = .bool x42_12 ∧ Aside0 (laws_FnExactValueOf.j0 kq x42_12 a0_0 l0_1 l0_2 t565 t566 t569 = some r) ∧ Aside0 (kq ≤ k) ∧ Aside0 (Kd.R (Kd.int .i64) 2 wc w.heap.size (fun k_ => some k_ ≠ ((.slice Ao28 t569.length co28) : Value).ownBlock) (.slice Ao27 t566.length co27) t566) ∧ Aside0 (Kd.R (Kd.int .i64) 2 wc w.heap.size (fun k_ => some k_ ≠ ((.slice Ao27 t566.length co27) : Value).ownBlock) (.slice Ao28 t569.length co28) t569) ∧ Aside0 (wc.heap[gb554]? = some (.cells #[.int .i64 a0_0, (.slice A0_1 l0_1.length c0_1), (.slice A0_2 l0_2.length c0_2)] 43 (0, 0))) ∧ Aside0 (wc.heap[gb572]? = some (.cells #[.int .i64 t565, (.slice Ao27 t566.length co27), (.slice Ao28 t569.length co28)] 46 (0, 0))) ∧ Aside0 (Below w.heap.size w wc))
  case first =>
   have H := HC13.out
   clear HC13
   by_cases c30 : t573 = t563
   ·rw [if_pos c30] at H
    have c30b0 : (t573 == t563) = true := beq_iff_eq.mpr c30
    have c30b1 : (t573 != t563) = false := bne_eq_false_iff_eq.mpr c30
    clear c30
    (first | rw [c30b0] | (simp only [i64_w, i32_w]; rw [c30b0]) | skip)
    have H' := zA H
    clear H
    go_wp2
    go_meet
    case rel => exact ⟨_, ((t574 != t564)), (by first | rfl | (simp; done) | (simp [*]; done)), H', ⟨by first | omega | exact Nat.le_refl _⟩, ⟨uR (Kd.R_mono HO568.out (fun _ hk => hk.1.1))⟩, ⟨uR (Kd.R_mono HO571.out (fun _ hk => hk.1.1))⟩, ⟨uB BK554.out⟩, ⟨uB BK572.out⟩, ⟨uH HB.out⟩⟩
   ·rw [if_neg c30] at H
    have c30b0 : (t573 == t563) = false := beq_eq_false_iff_ne.mpr c30
    have c30b1 : (t573 != t563) = true := bne_iff_ne.mpr c30
    (first | rw [c30b0] | (simp only [i64_w, i32_w]; rw [c30b0]) | skip)
    have H' := zA H
    clear H
    go_wp2
    go_meet
    case rel => exact ⟨_, (true), (by first | rfl | (simp; done) | (simp [*]; done)), H', ⟨by first | omega | exact Nat.le_refl _⟩, ⟨uR (Kd.R_mono HO568.out (fun _ hk => hk.1.1))⟩, ⟨uR (Kd.R_mono HO571.out (fun _ hk => hk.1.1))⟩, ⟨uB BK554.out⟩, ⟨uB BK572.out⟩, ⟨uH HB.out⟩⟩
  case rest =>
   clear HC13
   try clear c2
   try clear p2
   try clear c3
   try clear c5
   try clear c5b0
   try clear c25
   try clear c27
   try clear c28
   try clear c29
   try clear c30
   try clear c30b0
   try clear c30b1
   try clear hcz15_0
   try clear hcz15_1
   try clear hcz15_2
   try clear hcz17_0
   try clear hcz17_1
   try clear hcz17_2
   try clear hcz22_0
   try clear hcz22_1
   try clear hcz22_2
   try clear hcz26_0
   try clear hcz26_1
   try clear hcz26_2
   try clear hcz7_0
   try clear hcz7_1
   try clear hcz7_2
   try clear hfz15_0
   try clear hfz15_1
   try clear hfz15_2
   try clear hfz17_0
   try clear hfz17_1
   try clear hfz17_2
   try clear hfz22_0
   try clear hfz22_1
   try clear hfz22_2
   try clear hfz26_0
   try clear hfz26_1
   try clear hfz26_2
   try clear hfz7_0
   try clear hfz7_1
   try clear hfz7_2
   obtain ⟨kq, x42_12, rfl, HA, HJ12, HO_573001, HO_573002, BK554, BK572, HB⟩ := hcut
   cases kq with
   | zero => exact absurd HA.out (by simp [laws_FnExactValueOf.j0])
   | succ kj12 =>
    have H := HA.out
    clear HA
    simp only [laws_FnExactValueOf.j0] at H
    by_cases c31 : x42_12 = true
    ·subst c31
     have H1 : (some false) = some r := by rw [if_pos rfl] at H; exact H
     clear H
     have H := H1
     clear H1
     rw [HRT.out] at H
     exact absurd H (by simp)
    ·replace c31 := Bool.eq_false_iff.mpr c31
     subst c31
     have H1 : ((laws_toJacobi.f kj12 a0_0 l0_1 l0_2).bind fun bt575 => ((laws_eqJacobi.f kj12 t565 t566 t569 bt575.1 bt575.2.1 bt575.2.2).bind fun t582 => (if t582 = true then (some true) else (some false)))) = some r := by rw [if_neg (show ¬ (false = true) by decide)] at H; exact H
     clear H
     have H := H1
     clear H1
     replace H := Option.bind_eq_some_iff.mp H
     obtain ⟨⟨t575, t576, t579⟩, A320, H⟩ := H
     replace H : ((laws_eqJacobi.f kj12 t565 t566 t569 t575 t576 t579).bind fun t582 => (if t582 = true then (some true) else (some false))) = some r := H
     have A32 := zA A320
     clear A320
     replace H := Option.bind_eq_some_iff.mp H
     obtain ⟨t582, A330, H⟩ := H
     replace H : (if t582 = true then (some true) else (some false)) = some r := H
     have A33 := zA A330
     clear A330
     by_cases c34 : t582 = true
     ·subst c34
      have H1 : (some true) = some r := by rw [if_pos rfl] at H; exact H
      clear H
      have H := H1
      clear H1
      obtain rfl := Option.some.inj H
      try go_wp2
      have n0_ := zA (Kd.R_drew HO_573001.out)
      have n1_ := zA (Kd.R_drew HO_573002.out)
      have n2_ := zA (blk_drew BK554.out)
      have n3_ := zA (blk_drew BK572.out)
      have n4_ := zA (below_drew1 HB.out)
      clear HO_573001 HO_573002 BK554 BK572 HB
      have HO_573001 := n0_; have HO_573002 := n1_; have BK554 := n2_; have BK572 := n3_; have HB := n4_
      clear n0_ n1_ n2_ n3_ n4_
      refine start_ (n := 5) (S := fun w' => w'.cell? ⟨gb572, 0, none⟩ = some (.int .i64 t565) ∧ w'.cell? ⟨gb572, 1, none⟩ = some (.slice Ao27 t566.length co27) ∧ w'.cell? ⟨gb572, 2, none⟩ = some (.slice Ao28 t569.length co28) ∧ w'.cell? ⟨gb554, 0, none⟩ = some (.int .i64 a0_0) ∧ w'.cell? ⟨gb554, 1, none⟩ = some (.slice A0_1 l0_1.length c0_1) ∧ w'.cell? ⟨gb554, 2, none⟩ = some (.slice A0_2 l0_2.length c0_2)) (ds := []) #[false, false, false, false, false] (by kernel_rfl) rfl rfl ⟨(blk_cell BK572.out 0).trans rfl, (blk_cell BK572.out 1).trans rfl, (blk_cell BK572.out 2).trans rfl, (blk_cell BK554.out 0).trans rfl, (blk_cell BK554.out 1).trans rfl, (blk_cell BK554.out 2).trans rfl⟩ (fun hHeld => ?_)
      generalize wc.drew = w35 at HO_573001 HO_573002 BK554 BK572 HB hHeld ⊢
      refine take_ (i := 0) (N := some 43) (v := ?_) (a' := ?_) (bl 5 1) rfl rfl (by kernel_rfl) (fun _ _ _ h => h) (Or.inl ⟨by rfl, ?_⟩) hHeld ?_ ?_
      rotate_left
      ·rintro w' ⟨s0, s1, s2, s3, s4, s5⟩
       go_simp
       with_reducible rfl
      rotate_left
      ·simp only [Act.put, ls, lz, ln, i64_w, i32_w]
       rfl
      refine take_ (i := 1) (N := some 44) (v := ?_) (a' := ?_) (bl 5 3) rfl rfl (by kernel_rfl) (fun _ _ _ h => h) (Or.inl ⟨by rfl, ?_⟩) hHeld ?_ ?_
      rotate_left
      ·rintro w' ⟨s0, s1, s2, s3, s4, s5⟩
       go_simp
       with_reducible rfl
      rotate_left
      ·simp only [Act.put, ls, lz, ln, i64_w, i32_w]
       rfl
      refine one_ (i := 2) (N := some 45) (bl 5 7) rfl rfl (by kernel_rfl) (by decide) (fun K hK => ?_)
      refine goes_ Try.func29 (by kernel_rfl) rfl #[.agg #[.int .i64 a0_0, .slice A0_1 l0_1.length c0_1, .slice A0_2 l0_2.length c0_2]] (by rfl) rfl rfl (by (try simp only [la, lb, lc]); first | done | rfl | (simp only [ld, le]; rfl)) ?_
      with_reducible refine (laws_toJacobi.calls kj12 a0_0 _ _ l0_1 _ _ l0_2 t575 t576 t579 _ ?side1 ?side2 ?side3 ?side4 A32.out).mono ?_
      (case side1 => exact uC ((Kd.C_below HR0_1.out HB.out)))
      (case side2 => exact HC0_1.out)
      (case side3 => exact uC ((Kd.C_below HR0_2.out HB.out)))
      (case side4 => exact HC0_2.out)
      rintro e w36 ⟨v577, v580, rfl, ho0, ho1, hb⟩
      refine ⟨_, rfl, ?_⟩
      have n0_ := zA (Kd.R_mono (Kd.R_told (Kd.R_told (Kd.R_old (uR HO_573001.out) hb) (Kd.R_base ho0)) (Kd.R_base ho1)) (fun _ h_ => h_.1))
      have n1_ := zA (Kd.R_mono (Kd.R_told (Kd.R_told (Kd.R_old (uR HO_573002.out) hb) (Kd.R_base ho0)) (Kd.R_base ho1)) (fun _ h_ => h_.1))
      have n2_ := zA (Kd.R_lower (Kd.R_new' (Kd.R_new' ho0 (Kd.R_lt (uR HO_573001.out))) (Kd.R_lt (uR HO_573002.out))) (below_size (uH HB.out)))
      have n3_ := zA (Kd.R_lower (Kd.R_new' (Kd.R_new' ho1 (Kd.R_lt (uR HO_573001.out))) (Kd.R_lt (uR HO_573002.out))) (below_size (uH HB.out)))
      have n4_ := xB BK554 hb
      have n5_ := xB BK572 hb
      have n6_ := xH HB hb
      clear HO_573001 HO_573002 BK554 BK572 HB
      have HO_573001 := n0_; have HO_573002 := n1_; have HO578 := n2_; have HO581 := n3_; have BK554 := n4_; have BK572 := n5_; have HB := n6_
      clear n0_ n1_ n2_ n3_ n4_ n5_ n6_
      (try clear hb); (try clear hb2); (try clear hk); (try clear hi); (try clear ho0); (try clear ho1)
      obtain ⟨Ao37, co37, eo37⟩ := Kd.R_slice HO578.out
      (first | subst eo37 | (injection eo37 with f1_ f2_ f3_; have f4_ := f1_.symm; have f5_ := f3_.symm; clear f1_ f2_ f3_; subst f4_; subst f5_))
      obtain ⟨Ao38, co38, eo38⟩ := Kd.R_slice HO581.out
      (first | subst eo38 | (injection eo38 with f1_ f2_ f3_; have f4_ := f1_.symm; have f5_ := f3_.symm; clear f1_ f2_ f3_; subst f4_; subst f5_))
      refine hK.out _ _ ⟨(blk_cell BK572.out 0).trans rfl, (blk_cell BK572.out 1).trans rfl, (blk_cell BK572.out 2).trans rfl, (blk_cell BK554.out 0).trans rfl, (blk_cell BK554.out 1).trans rfl, (blk_cell BK554.out 2).trans rfl⟩ (fun hHeld => ?_)
      clear hK K
      refine no_ 45 ?_
      refine one_ (i := 3) (N := some 46) (bl 5 15) rfl rfl (by kernel_rfl) (by decide) (fun K hK => ?_)
      refine goes_ Try.func31 (by kernel_rfl) rfl #[.agg #[.int .i64 t565, .slice Ao27 t566.length co27, .slice Ao28 t569.length co28], .agg #[.int .i64 t575, .slice Ao37 t576.length co37, .slice Ao38 t579.length co38]] (by rfl) rfl rfl (by (try simp only [la, lb, lc]); first | done | rfl | (simp only [ld, le]; rfl)) ?_
      with_reducible refine (laws_eqJacobi.calls kj12 t565 _ _ t566 _ _ t569 t575 _ _ t576 _ _ t579 true _ ?side1 ?side2 ?side3 ?side4 ?side5 ?side6 ?side7 ?side8 A33.out).mono ?_
      (case side1 => exact uC ((Kd.R_reads' HO_573001.out).2.2))
      (case side2 => exact (Kd.R_reads' HO_573001.out).2.1)
      (case side3 => exact uC ((Kd.R_reads' HO_573002.out).2.2))
      (case side4 => exact (Kd.R_reads' HO_573002.out).2.1)
      (case side5 => exact uC ((Kd.R_reads' HO578.out).2.2))
      (case side6 => exact (Kd.R_reads' HO578.out).2.1)
      (case side7 => exact uC ((Kd.R_reads' HO581.out).2.2))
      (case side8 => exact (Kd.R_reads' HO581.out).2.1)
      rintro e w39 ⟨rfl, hb⟩
      refine ⟨_, rfl, ?_⟩
      have n0_ := xR HO_573001 hb
      have n1_ := xR HO_573002 hb
      have n2_ := xR HO578 hb
      have n3_ := xR HO581 hb
      have n4_ := xB BK554 hb
      have n5_ := xB BK572 hb
      have n6_ := xH HB hb
      clear HO_573001 HO_573002 HO578 HO581 BK554 BK572 HB
      have HO_573001 := n0_; have HO_573002 := n1_; have HO578 := n2_; have HO581 := n3_; have BK554 := n4_; have BK572 := n5_; have HB := n6_
      clear n0_ n1_ n2_ n3_ n4_ n5_ n6_
      (try clear hb); (try clear hb2); (try clear hk); (try clear hi)
      refine hK.out _ _ ⟨(blk_cell BK572.out 0).trans rfl, (blk_cell BK572.out 1).trans rfl, (blk_cell BK572.out 2).trans rfl, (blk_cell BK554.out 0).trans rfl, (blk_cell BK554.out 1).trans rfl, (blk_cell BK554.out 2).trans rfl⟩ (fun hHeld => ?_)
      clear hK K
      refine no_ 46 ?_
      refine pure_ (i := 4) (N := some 47) (v := ?_) (a' := ?_) (bl 5 31) rfl rfl (by kernel_rfl) (fun _ _ _ h => h) (Or.inl ⟨by rfl, ?_⟩) ?_ ?_
      rotate_left
      ·intro w'
       go_simp
       with_reducible rfl
      rotate_left
      ·simp only [Act.put, ls, lz, ln, i64_w, i32_w]
       rfl
      refine done_ (by kernel_rfl) ?_
      try go_wp2
      go_ret
      exact ⟨by first | rfl | (simp [errW_none, errW_some] <;> rfl) | (simp [*, errW_none, errW_some] <;> rfl), uH HB.out⟩
     ·replace c34 := Bool.eq_false_iff.mpr c34
      subst c34
      have H1 : (some false) = some r := by rw [if_neg (show ¬ (false = true) by decide)] at H; exact H
      clear H
      have H := H1
      clear H1
      rw [HRT.out] at H
      exact absurd H (by simp)

/-- THE ONE PURE STATEMENT of laws_FnExactValueOf: yours. -/
def laws_FnExactValueOf.Pure : Prop := ∀ (a0_0 : Int) (l0_1 : List Int) (l0_2 : List Int) (a1 : Int) (a2 : Int), (Lit.int .i64 a0_0).wf = true → l0_1.length ≤ maxLen → (∀ x ∈ l0_1, (Lit.int .i64 x).wf = true) → l0_2.length ≤ maxLen → (∀ x ∈ l0_2, (Lit.int .i64 x).wf = true) → (Lit.int .i64 a1).wf = true → (Lit.int .i64 a2).wf = true → ∃ k, laws_FnExactValueOf.f k a0_0 l0_1 l0_2 a1 a2 = some true
theorem laws_FnExactValueOf.walk (P : laws_FnExactValueOf.Pure) (a0_0 : Int) (a0_1 : Option Addr) (len0_1 cap0_1 : Nat) (z0_1 : List Int) (a0_2 : Option Addr) (len0_2 cap0_2 : Nat) (z0_2 : List Int) (a1 : Int) (a2 : Int) (w : World) (w0_0 : (Lit.int .i64 a0_0).wf = true) (w0_1 : (a0_1 = none ∧ len0_1 = 0 ∧ cap0_1 = 0 ∧ z0_1 = []) ∨ ∃ x, a0_1 = some x ∧ len0_1 ≤ cap0_1 ∧ cap0_1 ≤ maxLen ∧ z0_1.length = cap0_1 ∧ (∀ i, i < z0_1.length → w.cell? (x.add i) = some (.int .i64 (z0_1.getD i 0))) ∧ ∀ n ∈ z0_1, (Lit.int .i64 n).wf = true) (w0_2 : (a0_2 = none ∧ len0_2 = 0 ∧ cap0_2 = 0 ∧ z0_2 = []) ∨ ∃ x, a0_2 = some x ∧ len0_2 ≤ cap0_2 ∧ cap0_2 ≤ maxLen ∧ z0_2.length = cap0_2 ∧ (∀ i, i < z0_2.length → w.cell? (x.add i) = some (.int .i64 (z0_2.getD i 0))) ∧ ∀ n ∈ z0_2, (Lit.int .i64 n).wf = true) (w1 : (Lit.int .i64 a1).wf = true) (w2 : (Lit.int .i64 a2).wf = true) :
  Calls Try.prog 5 #[.agg #[.int .i64 a0_0, .slice a0_1 len0_1 cap0_1, .slice a0_2 len0_2 cap0_2], .int .i64 a1, .int .i64 a2] w fun e w' => e = .returned (.bool true) ∧ Below w.heap.size w w' := by
 obtain ⟨l0_1, rfl, hr0_1, hm0_1, hw0_1, hc0_1⟩ := ReadsInt.ofRowC w0_1
 obtain ⟨l0_2, rfl, hr0_2, hm0_2, hw0_2, hc0_2⟩ := ReadsInt.ofRowC w0_2
 obtain ⟨k, h⟩ := P a0_0 l0_1 l0_2 a1 a2 w0_0 hm0_1 hw0_1 hm0_2 hw0_2 w1 w2
 refine (laws_FnExactValueOf.calls k a0_0 _ _ l0_1 _ _ l0_2 a1 a2 true rfl w (Kd.C_of_reads (d := (0 : Int)) (h1 := fun _ => rfl) hr0_1) hc0_1 (Kd.C_of_reads (d := (0 : Int)) (h1 := fun _ => rfl) hr0_2) hc0_2 h).mono ?_
 rintro e w' ⟨rfl, hd⟩
 exact ⟨rfl, hd⟩

end Go.Proofs.Ytokkabgkjhpecaa.Pr
/- ValueOf: for all arguments the program and the reference come to one value; no condition. -/
namespace Go.Proofs.Ytokkabgkjhpecaa.Pr
open Go.RowKit Go.Proofs.YtokkabgkjhpecaaW.PrintWords Go.Proofs.YtokkabgkjhpecaaW.PrintLast Go.Proofs.YtokkabgkjhpecaaW.PrintMore

theorem ValueOf_both (p : Int) (a b : List Int) (k x : Int) (ha : Sm a.length) (hb : Sm b.length) :
    ∃ v : Int × Int, Ev (fun n => spec_ValueOf.f n p a b k x) v ∧ Ev (fun n => impl_ValueOf.f n p a b k x) v := by
  have hs := specJacCode_ev p a b k 0 (a.length : Int) ha hb
  by_cases h : jacB p a b = true
  · obtain ⟨⟨⟨h4, h5⟩, h6⟩, h7, h8⟩ := jacB.all h
    have hp := jacB.pm h
    have hp2 := hp.two
    have hpt := hp.top
    have hi : ∀ r, Ev (fun n => impl_jacobiCode.f n p a b r) (if r = true then 0 else 2) := fun r => by
      have := implJacCode_ev p a b r ha hb
      unfold jacC at this
      rwa [if_pos h] at this
    have hw : wrap64 (p - 1) = p - 1 := wrap_id (by omega) (by omega)
    by_cases g1 : 0 ≤ k ∧ k ≤ (a.length : Int)
    · have hc0 : jacC p a b (decide (0 ≤ k ∧ k ≤ (a.length : Int))) = 0 := by
        unfold jacC; rw [if_pos h, if_pos (decide_eq_true g1)]
      rw [hc0] at hs
      by_cases g2 : 0 ≤ x ∧ x < p
      · obtain ⟨i, rfl⟩ : ∃ i : Nat, k = (i : Int) := ⟨k.toNat, by omega⟩
        have o1 := pPair_ok hp a b i
        have np : (pAll p a b (a.length + 1)).length = a.length + 1 := by simp [pAll]
        have r1 : rd_L1 (pAll p a b (a.length + 1)) (i : Int) = (pPair p a b i).2 := by rw [rdL_nat]; exact getD_map_range _ _ (by omega)
        refine ⟨(valF p x (pPair p a b i).2, 0), ?_, ?_⟩
        · unfold spec_ValueOf.f
          rw [hw]
          refine Ev.bind hs (Ev.pos rfl (Ev.bindE (in_eq _ _ _) ?_))
          rw [decide_eq_true (show 0 ≤ x ∧ x ≤ p - 1 from by omega)]
          refine Ev.step (fun n => by rw [spec_ValueOf.j0]) ?_
          refine Ev.neg (by decide) ?_
          refine Ev.step (fun n => by rw [spec_ValueOf.j1]) ?_
          exact Ev.pos rfl (Ev.bind (specPoly03_ev hp a b h7 h8.nm i (by omega) h5 h6) (Ev.bind (specAt_ev hp g2 _ o1.1.2 (by unfold Sm; omega)) (Ev.now _)))
        · unfold impl_ValueOf.f
          refine Ev.bindE (size_eq p a b) (Ev.bindE (within_eq _ _ _) (Ev.pos (decide_eq_true g1) (Ev.bindE (a := p) rfl (Ev.bindE (has_eq p x) (Ev.bind (hi _) ?_)))))
          rw [if_pos (decide_eq_true g2)]
          refine Ev.step (fun n => by rw [impl_ValueOf.j0]) ?_
          refine Ev.pos rfl (Ev.bindE (a := p) rfl (Ev.bind (implPolys_ev hp a b h7 h8.nm h5 h6) ?_))
          rw [r1]
          exact Ev.pos (by omega) (Ev.pos (by omega) (Ev.bindE (implValue_eq hp g2 _ o1.1.2 (by unfold Sm; omega)) (Ev.now _)))
      · refine ⟨(0, 2), ?_, ?_⟩
        · unfold spec_ValueOf.f
          rw [hw]
          refine Ev.bind hs (Ev.pos rfl (Ev.bindE (in_eq _ _ _) ?_))
          rw [decide_eq_false (show ¬ (0 ≤ x ∧ x ≤ p - 1) from by omega)]
          refine Ev.step (fun n => by rw [spec_ValueOf.j0]) ?_
          refine Ev.pos rfl ?_
          refine Ev.step (fun n => by rw [spec_ValueOf.j1]) ?_
          exact Ev.neg (by decide) (Ev.now _)
        · unfold impl_ValueOf.f
          refine Ev.bindE (size_eq p a b) (Ev.bindE (within_eq _ _ _) (Ev.pos (decide_eq_true g1) (Ev.bindE (a := p) rfl (Ev.bindE (has_eq p x) (Ev.bind (hi _) ?_)))))
          rw [if_neg (by simp only [decide_eq_true_eq]; exact g2)]
          refine Ev.step (fun n => by rw [impl_ValueOf.j0]) ?_
          exact Ev.neg (by decide) (Ev.now _)
    · have hc2 : jacC p a b (decide (0 ≤ k ∧ k ≤ (a.length : Int))) = 2 := by
        unfold jacC; rw [if_pos h, if_neg (by simp only [decide_eq_true_eq]; exact g1)]
      rw [hc2] at hs
      refine ⟨(0, 2), ?_, ?_⟩
      · unfold spec_ValueOf.f
        refine Ev.bind hs (Ev.neg (by decide) ?_)
        refine Ev.step (fun n => by rw [spec_ValueOf.j0]) ?_
        refine Ev.neg (by decide) ?_
        refine Ev.step (fun n => by rw [spec_ValueOf.j1]) ?_
        exact Ev.neg (by decide) (Ev.now _)
      · unfold impl_ValueOf.f
        refine Ev.bindE (size_eq p a b) (Ev.bindE (within_eq _ _ _) (Ev.neg (by simp only [decide_eq_true_eq]; exact g1) (Ev.bind (hi _) ?_)))
        rw [if_neg (by decide)]
        refine Ev.step (fun n => by rw [impl_ValueOf.j0]) ?_
        exact Ev.neg (by decide) (Ev.now _)
  · have hi : ∀ r, Ev (fun n => impl_jacobiCode.f n p a b r) 1 := fun r => by
      have := implJacCode_ev p a b r ha hb
      unfold jacC at this
      rwa [if_neg h] at this
    have hc1 : ∀ r, jacC p a b r = 1 := fun r => by unfold jacC; rw [if_neg h]
    rw [hc1] at hs
    refine ⟨(0, 1), ?_, ?_⟩
    · unfold spec_ValueOf.f
      refine Ev.bind hs (Ev.neg (by decide) ?_)
      refine Ev.step (fun n => by rw [spec_ValueOf.j0]) ?_
      refine Ev.neg (by decide) ?_
      refine Ev.step (fun n => by rw [spec_ValueOf.j1]) ?_
      exact Ev.neg (by decide) (Ev.now _)
    · unfold impl_ValueOf.f
      refine Ev.bindE (size_eq p a b) (Ev.bindE (within_eq _ _ _) ?_)
      by_cases g1 : 0 ≤ k ∧ k ≤ (a.length : Int)
      · refine Ev.pos (decide_eq_true g1) (Ev.bindE (a := p) rfl (Ev.bindE (has_eq p x) (Ev.bind (hi _) ?_)))
        refine Ev.step (fun n => by rw [impl_ValueOf.j0]) ?_
        exact Ev.neg (by decide) (Ev.now _)
      · refine Ev.neg (by simp only [decide_eq_true_eq]; exact g1) (Ev.bind (hi _) ?_)
        refine Ev.step (fun n => by rw [impl_ValueOf.j0]) ?_
        exact Ev.neg (by decide) (Ev.now _)
end Go.Proofs.Ytokkabgkjhpecaa.Pr
/- FnExactValueOf: for every input the law answers true: the program's ValueOf and the reference's come to one value, and the law's own copies, marks and comparisons answer as they have to. No condition. -/
namespace Go.Proofs.Ytokkabgkjhpecaa.Pure
open Go.RowKit Go.Proofs.Ytokkabgkjhpecaa.Pr Go.Proofs.YtokkabgkjhpecaaW.PrintWords Go.Proofs.YtokkabgkjhpecaaW.PrintLast

theorem FnExactValueOf : laws_FnExactValueOf.Pure := by
  intro a0_0 l0_1 l0_2 a1 a2 w0_0 ml0_1 wl0_1 ml0_2 wl0_2 w1 w2
  have main : Ev (fun k => laws_FnExactValueOf.f k a0_0 l0_1 l0_2 a1 a2) true := by
    unfold laws_FnExactValueOf.f
    by_cases z0 : l0_1.length + l0_2.length ≤ 1048576
    case neg => exact Ev.bindE (szJacobi_no _ l0_1 l0_2 (by unfold maxLen at ml0_1; omega) (by unfold maxLen at ml0_2; omega) (1048576) (by omega) (by omega)) (Ev.pos (by omega) (Ev.now _))
    refine Ev.bindE (szJacobi_yes _ l0_1 l0_2 (1048576) (by omega) z0) (Ev.neg (by omega) ?_)
    have sl0_1 : Sm l0_1.length := by unfold Sm; omega
    have sl0_2 : Sm l0_2.length := by unfold Sm; omega
    have bw0_0 := wf64 w0_0
    have bw1 := wf64 w1
    have bw2 := wf64 w2
    obtain ⟨v, hspec, himpl⟩ := ValueOf_both a0_0 l0_1 l0_2 a1 a2 sl0_1 sl0_2
    repeat' first
      | exact Ev.now _
      | refine Ev.bind hspec ?_
      | refine Ev.bind himpl ?_
      | refine Ev.bind (toJacobi_ev _ _ _ (by first | assumption | (rw [marks_length]; assumption)) (by first | assumption | (rw [marks_length]; assumption))) ?_
      | refine Ev.bind (eqJacobi_ev _ _ _ (by first | assumption | (rw [marks_length]; assumption)) (by first | assumption | (rw [marks_length]; assumption))) ?_
      | refine Ev.pos (by first | rfl | omega | (dsimp only; omega)) ?_
      | refine Ev.neg (by first | exact ne_self _ | omega | (dsimp only; omega) | decide) ?_
      | refine Ev.step (fun k => by rw [laws_FnExactValueOf.j0]) ?_
      | refine Ev.step (fun k => by rw [laws_FnExactValueOf.j1]) ?_
      | refine Ev.step (fun k => by rw [laws_FnExactValueOf.j2]) ?_
      | refine Ev.step (fun k => by rw [laws_FnExactValueOf.j3]) ?_
      | refine Ev.step (fun k => by rw [laws_FnExactValueOf.j4]) ?_
      | refine Ev.step (fun k => by rw [laws_FnExactValueOf.j5]) ?_
  exact main.rounds

end Go.Proofs.Ytokkabgkjhpecaa.Pure
/- Printed by a program of this session out of the translation: what these functions of the program compute, under the conditions that each theorem names. -/
namespace Go.Proofs.Ytokkabgkjhpecaa.fnExactValueOf
open Go.ChangeShapes Go.WideShapes Go.ChangeAt Go.RowKit
open Go.ChangeMaps (open_string shut_string)
set_option linter.unusedVariables false
theorem own : ownKnob Try.prog.godebug = none := by kernel_rfl
theorem laidOut : laidOutB Try.prog = true := by kernel_rfl
def IsRow (k : IntKind) (w : World) (a : Option Addr) (len cap : Nat) (zs : List Int) : Prop :=
  (a = none ∧ len = 0 ∧ cap = 0 ∧ zs = []) ∨
  ∃ x, a = some x ∧ len ≤ cap ∧ cap ≤ maxLen ∧ zs.length = cap ∧ (∀ i, i < zs.length → w.cell? (x.add i) = some (.int k (zs.getD i 0))) ∧ ∀ n ∈ zs, (Lit.int k n).wf = true
set_option maxRecDepth 100000 in
theorem lifted (os : Os) (started : os.Started) (H : Type) (enc : TypeId × Value → H) :
    ReturnsInHanded {} Try.checked os 5 .any (Rows.fnExactValueOfSpec.pre6 enc Try.prog Try.f5 Rows.fnExactValueOfRow.domain false) (Rows.fnExactValueOfSpec.post enc Try.prog Try.f5 false true false false) := by
  refine returnsInHanded_of_change_sized (C := Try.checked) own started (by kernel_rfl) Try.func5
    (ChangeSpec.witness6 (enc := enc) (C := Try.checked) false ⟨#[], #[.agg #[.int .i64 0, .slice none 0 0, .slice none 0 0], .int .i64 0, .int .i64 0], []⟩ 8 (by kernel_rfl) (by kernel_rfl) (by kernel_rfl) (by kernel_rfl)) ?_
  intro W base args ds gs before hval0 hW hcnd hsz0 _
  have hsz : (DataW.weightsEach Try.prog (Try.f5.params.toList ++ Rows.fnExactValueOfSpec.plain.varTypes Try.prog) (ds ++ gs)).all (· ≤ reachBytes) = true := hsz0
  have hval : ∀ (j : Nat) t v, Try.f5.params[j]? = some t → args[j]? = some v → Value.okWide Try.prog W .any base t v := hval0
  have hW' := hW
  obtain ⟨p, q, hA0, hV, rfl, hfz, hnd⟩ := hW
  have hA : DataW.TrodAll enc Try.prog W 0 (fun _ => true) true Try.f5.params.toList args.toList ds p := hA0
  rw [Try.params5] at hA hval hsz
  obtain ⟨v0, vs0, d0, ds0, p0, q0, hargs, rfl, rfl, h0, r0⟩ := trodAll_cons hA
  obtain ⟨v1, vs1, d1, ds1, p1, q1, rfl, rfl, rfl, h1, r1⟩ := trodAll_cons r0
  obtain ⟨v2, vs2, d2, ds2, p2, q2, rfl, rfl, rfl, h2, r2⟩ := trodAll_cons r1
  obtain ⟨rfl, rfl, rfl⟩ := trodAll_nil r2
  obtain rfl : args = #[v0, v1, v2] := by cases args; simp_all
  obtain ⟨rfl, rfl⟩ := trodVars_none hV
  have k0 := h0
  have lt0 : ∀ x ∈ p0, x.block < W.heap.size := by obtain ⟨m, hm⟩ := k0; exact DataW.trod_lt m _ _ _ hm
  obtain ⟨c0_0, c0_1, c0_2, y0_0, y0_1, y0_2, n0, rfl, rfl, rfl, e0_0, e0_1, e0_2⟩ := Go.Joins.open_agg3 Try.underlying43 (by kernel_rfl) (by kernel_rfl) (hval 0 43 v0 rfl rfl) h0
  obtain ⟨a0_0, f0_0, _, w0_0⟩ := DataW.trod_int Try.underlying2 e0_0
  simp only [List.cons.injEq, and_true] at f0_0
  subst f0_0
  obtain ⟨a0_1, len0_1, cap0_1, z0_1, f0_1, w0_1⟩ : ∃ a len cap zs, c0_1 = .slice a len cap ∧ IsRow .i64 W a len cap zs := by
    rcases open_ints Try.underlying22 Try.underlying2 (by kernel_rfl) e0_1 with ⟨hcs, _⟩ | ⟨x, l, c, zs, hcs, _, hl, hm, hz, _, hcell, hwz⟩
    · simp only [List.cons.injEq, and_true] at hcs
      exact ⟨none, 0, 0, [], hcs, .inl ⟨rfl, rfl, rfl, rfl⟩⟩
    · simp only [List.cons.injEq, and_true] at hcs
      exact ⟨some x, l, c, zs, hcs, .inr ⟨_, rfl, hl, hm, by simpa using hz, hcell, hwz⟩⟩
  subst f0_1
  obtain ⟨a0_2, len0_2, cap0_2, z0_2, f0_2, w0_2⟩ : ∃ a len cap zs, c0_2 = .slice a len cap ∧ IsRow .i64 W a len cap zs := by
    rcases open_ints Try.underlying22 Try.underlying2 (by kernel_rfl) e0_2 with ⟨hcs, _⟩ | ⟨x, l, c, zs, hcs, _, hl, hm, hz, _, hcell, hwz⟩
    · simp only [List.cons.injEq, and_true] at hcs
      exact ⟨none, 0, 0, [], hcs, .inl ⟨rfl, rfl, rfl, rfl⟩⟩
    · simp only [List.cons.injEq, and_true] at hcs
      exact ⟨some x, l, c, zs, hcs, .inr ⟨_, rfl, hl, hm, by simpa using hz, hcell, hwz⟩⟩
  subst f0_2
  obtain ⟨a1, rfl, rfl, rfl, w1⟩ := open_int Try.underlying2 (hval 1 2 v1 rfl rfl) h1
  obtain ⟨a2, rfl, rfl, rfl, w2⟩ := open_int Try.underlying2 (hval 2 2 v2 rfl rfl) h2
  clear hA0 hval0 hsz0 hsz
  refine (Pr.laws_FnExactValueOf.walk Pure.FnExactValueOf a0_0 a0_1 len0_1 cap0_1 z0_1 a0_2 len0_2 cap0_2 z0_2 a1 a2 W w0_0 w0_1 w0_2 w1 w2).mono fun e W' ⟨he, bel⟩ => ?_
  subst he
  exact ⟨_, rfl, _, _, _, [], _, [], hW', trodAll_mk1 (shut_bool Try.underlying4 _), (trodAll_cons_mk (Below.trod laidOut (by kernel_rfl) (of_decide_eq_true (by kernel_rfl)) k0 bel lt0) (trodAll_cons_mk (shut_int Try.underlying2 w1) (trodAll_cons_mk (shut_int Try.underlying2 w2) trodAll_mk0))), rfl, bel.frame _, fun h => by cases h⟩
theorem over : Rows.fnExactValueOfRow.holds Try.pinned (OpenSpec.ofChange Rows.fnExactValueOfSpec) :=
  OpenClaim.holds_of_wide 5 Try.f5 rfl rfl rfl rfl rfl rfl rfl ⟨rfl, rfl, rfl, rfl, rfl⟩ rfl rfl rfl rfl rfl (by kernel_rfl) Try.func5 (by kernel_rfl)
    (of_decide_eq_true (by kernel_rfl)) (by unfold Func.isWrapper; first | (rw [if_pos (by decide +kernel)]; kernel_rfl) | (rw [if_neg (by decide +kernel)]; exact ⟨rfl, rfl⟩))
    (fun os started H enc _ => lifted os started H enc)
theorem proved : Rows.FnExactValueOfSaid := over
#print axioms proved
end Go.Proofs.Ytokkabgkjhpecaa.fnExactValueOf
namespace Go.Proofs.Ytokkabgkjhpecaa
/-- The row, under a short name, for the claim. -/
theorem fnExactValueOf_holds : Rows.FnExactValueOfSaid := fnExactValueOf.proved
end Go.Proofs.Ytokkabgkjhpecaa
