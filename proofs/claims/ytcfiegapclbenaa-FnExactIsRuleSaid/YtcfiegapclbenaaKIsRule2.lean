/- Texts of this session in one: what functions of the program compute, and plain facts of it, under the conditions that each theorem names. -/
import Derived.Below
import Derived.ChangeOld
import Derived.Lib.SmallJoins
import Derived.OpenShut
import Derived.ProofKit
import Derived.ShutString
import Derived.SizedLaws
import Derived.Test.YtcfiegapclbenaaRows
import Derived.WalkKit
import Derived.Test.YtcfiegapclbenaaKFimplIsRule
import Derived.Test.YtcfiegapclbenaaKFspecl07Is
import Derived.Test.YtcfiegapclbenaaKC01
import Derived.Test.YtcfiegapclbenaaKC04
import Derived.Test.YtcfiegapclbenaaKIsRule1
import Derived.Test.YtcfiegapclbenaaWSized
/- Printed by a program of this session out of the translation: what these functions of the program compute, under the conditions that each theorem names. -/
namespace Go.Proofs.Ytcfiegapclbenaa.Pr
open Go.RowKit Go.Proofs.YtcfiegapclbenaaW.PrintWords Go.Proofs.YtcfiegapclbenaaW.PrintLast Go.Proofs.YtcfiegapclbenaaW.PrintMore
attribute [local go_sem] max2_int min2_int max_two min_two max_three min_three max_four min_four   -- for this text's walks alone
set_option linter.unusedVariables false
set_option linter.unusedSimpArgs false

/-! ### spec_IsRule: function 10 -/
def spec_IsRule.f (k : Nat) (a0_0 : Int) (l0_1 : List Int) (l0_2 : List Int) : Option (Bool) := (spec_l07Is.f k a0_0 l0_1 l0_2).bind fun t114 => (some t114)
theorem spec_IsRule.mono : ∀ a0 a1 a2 k, LeO (spec_IsRule.f k a0 a1 a2) (spec_IsRule.f (k + 1) a0 a1 a2) := by
 intro a0 a1 a2 k
 unfold spec_IsRule.f
 repeat' first
   | (with_reducible exact spec_l07Is.mono _ _ _ _)
   | (with_reducible exact LeO.refl _)
   | (with_reducible exact LeO.none _)
   | (with_reducible refine LeO.ite ?_ ?_)
   | (with_reducible refine LeO.bind ?_ (fun _ => ?_))
   | exact spec_l07Is.mono _ _ _ _
   | exact LeO.none _
   | refine LeO.ite ?_ ?_
   | refine LeO.bind ?_ (fun _ => ?_)
set_option maxHeartbeats 8000000 in
set_option maxRecDepth 100000 in
theorem spec_IsRule.calls (k : Nat) (a0_0 : Int) (A0_1 : Option Addr) (c0_1 : Nat) (l0_1 : List Int) (A0_2 : Option Addr) (c0_2 : Nat) (l0_2 : List Int) (r : Bool) (w : World) (hr0_1 : Kd.C (Kd.int .i64) w A0_1 l0_1.length l0_1) (hc0_1 : l0_1.length ≤ c0_1) (hr0_2 : Kd.C (Kd.int .i64) w A0_2 l0_2.length l0_2) (hc0_2 : l0_2.length ≤ c0_2) (h : spec_IsRule.f k a0_0 l0_1 l0_2 = some r) :
  Calls Try.prog 10 #[.agg #[.int .i64 a0_0, .slice A0_1 l0_1.length c0_1, .slice A0_2 l0_2.length c0_2]] w fun e w' => e = .returned (.bool r) ∧ Below w.heap.size w w' := by
 have hu27 := Try.underlying27
 have HR0_1 := zA hr0_1
 have HC0_1 := zA hc0_1
 clear hr0_1 hc0_1
 have HR0_2 := zA hr0_2
 have HC0_2 := zA hc0_2
 clear hr0_2 hc0_2
 have HB := zA (Below.refl w.heap.size w)
 have H : ((spec_l07Is.f k a0_0 l0_1 l0_2).bind fun t114 => (some t114)) = some r := h
 clear h
 replace H := Option.bind_eq_some_iff.mp H
 obtain ⟨t114, A20, H⟩ := H
 replace H : (some t114) = some r := H
 have A2 := zA A20
 clear A20
 obtain rfl := Option.some.inj H
 go_enter Try.func10, Try.ntmps10
 go_wp2_with (first | ((with_reducible refine gate_dst (N := 1) rfl ?_); refine box_event ?hg (N := 1) ?hd (cs := #[.int .i64 a0_0, .slice A0_1 l0_1.length c0_1, .slice A0_2 l0_2.length c0_2]) (t := 27) ?hr ?_; (case hd => rfl); (case hg => rfl); (case hr => first | (go_simp; done) | (go_simp; rfl)); intro gb113 hg w3 hbox hb; have n0_ := xH HB hb; have n1_ := zA (hbox); have n2_ := zA ((by rw [hg]; exact (below_size (uH HB.out)) : w.heap.size ≤ gb113)); have n3_ := zA ((by rw [hg]; exact (below_size (uH HB.out)) : w.heap.size ≤ gb113)); clear HB; have HB := n0_; have BK113 := n1_; have GW113 := n2_; have GE113 := n3_; have := geI GE113; clear n0_ n1_ n2_ n3_ hb hbox hg; have hcz4_0 : w3.cell? ⟨gb113, 0, none⟩ = some (.int .i64 a0_0) := (blk_cell BK113.out 0).trans rfl; have hcz4_1 : w3.cell? ⟨gb113, 1, none⟩ = some (.slice A0_1 l0_1.length c0_1) := (blk_cell BK113.out 1).trans rfl; have hcz4_2 : w3.cell? ⟨gb113, 2, none⟩ = some (.slice A0_2 l0_2.length c0_2) := (blk_cell BK113.out 2).trans rfl; have hfz4_0 := blk_frozen BK113.out 0; have hfz4_1 := blk_frozen BK113.out 1; have hfz4_2 := blk_frozen BK113.out 2) | ((with_reducible refine gate_callee (f := 32) rfl ?_); refine goesL_ (some 4) rfl rfl Try.func32 (by kernel_rfl) rfl #[.agg #[.int .i64 a0_0, .slice A0_1 l0_1.length c0_1, .slice A0_2 l0_2.length c0_2]] rfl (by (try simp only [List.map_toArray, List.map_cons, List.map_nil]); first | done | rfl | (simp only [List.length_drop, List.length_take]; rfl)) ?_; (with_reducible refine (spec_l07Is.calls k a0_0 _ _ l0_1 _ _ l0_2 t114 _ ?side1 ?side2 ?side3 ?side4 A2.out).mono ?_); (case side1 => exact uC ((Kd.C_below HR0_1.out HB.out))); (case side2 => exact HC0_1.out); (case side3 => exact uC ((Kd.C_below HR0_2.out HB.out))); (case side4 => exact HC0_2.out); rintro e w5 ⟨rfl, hb⟩; refine ⟨_, rfl, ?_⟩; have n0_ := xB BK113 hb; have n1_ := xH HB hb; clear BK113 HB; have BK113 := n0_; have HB := n1_; clear n0_ n1_; (try clear hb); (try clear hb2); (try clear hk); (try clear hi)))
 go_ret
 exact ⟨by first | rfl | (simp [errW_none, errW_some] <;> rfl) | (simp [*, errW_none, errW_some] <;> rfl), uH HB.out⟩

end Go.Proofs.Ytcfiegapclbenaa.Pr
/- Printed by a program of this session out of the translation: what these functions of the program compute, under the conditions that each theorem names. -/
namespace Go.Proofs.Ytcfiegapclbenaa.Pr
open Go.RowKit Go.Proofs.YtcfiegapclbenaaW.PrintWords Go.Proofs.YtcfiegapclbenaaW.PrintLast Go.Proofs.YtcfiegapclbenaaW.PrintMore
attribute [local go_sem] max2_int min2_int max_two min_two max_three min_three max_four min_four   -- for this text's walks alone
set_option linter.unusedVariables false
set_option linter.unusedSimpArgs false

/-! ### laws_FnExactIsRule: function 3 -/
def laws_FnExactIsRule.f (k : Nat) (a0_0 : Int) (l0_1 : List Int) (l0_2 : List Int) : Option (Bool) := (laws_szRule.f a0_0 l0_1 l0_2 1048576).bind fun t155 => (if t155 < 0 then (some true) else ((laws_toRule.f k a0_0 l0_1 l0_2).bind fun bt156 => ((spec_IsRule.f k bt156.1 bt156.2.1 bt156.2.2).bind fun t163 => ((laws_toRule.f k a0_0 l0_1 l0_2).bind fun bt164 => ((impl_IsRule.f k bt164.1 bt164.2.1 bt164.2.2).bind fun t172 => (if (t172 != t163) = true then (some false) else ((laws_toRule.f k a0_0 l0_1 l0_2).bind fun bt173 => ((laws_eqRule.f k bt164.1 bt164.2.1 bt164.2.2 bt173.1 bt173.2.1 bt173.2.2).bind fun t180 => (if t180 = true then (some true) else (some false))))))))))
theorem laws_FnExactIsRule.mono : ∀ a0 a1 a2 k, LeO (laws_FnExactIsRule.f k a0 a1 a2) (laws_FnExactIsRule.f (k + 1) a0 a1 a2) := by
 intro a0 a1 a2 k
 unfold laws_FnExactIsRule.f
 repeat' first
   | (with_reducible exact impl_IsRule.mono _ _ _ _)
   | (with_reducible exact laws_eqRule.mono _ _ _ _ _ _ _)
   | (with_reducible exact laws_toRule.mono _ _ _ _)
   | (with_reducible exact spec_IsRule.mono _ _ _ _)
   | (with_reducible exact LeO.refl _)
   | (with_reducible exact LeO.none _)
   | (with_reducible refine LeO.ite ?_ ?_)
   | (with_reducible refine LeO.bind ?_ (fun _ => ?_))
   | exact impl_IsRule.mono _ _ _ _
   | exact laws_eqRule.mono _ _ _ _ _ _ _
   | exact laws_toRule.mono _ _ _ _
   | exact spec_IsRule.mono _ _ _ _
   | exact LeO.none _
   | refine LeO.ite ?_ ?_
   | refine LeO.bind ?_ (fun _ => ?_)
set_option maxHeartbeats 8000000 in
set_option maxRecDepth 100000 in
theorem laws_FnExactIsRule.calls (k : Nat) (a0_0 : Int) (A0_1 : Option Addr) (c0_1 : Nat) (l0_1 : List Int) (A0_2 : Option Addr) (c0_2 : Nat) (l0_2 : List Int) (r : Bool) (hr_ : r = true) (w : World) (hr0_1 : Kd.C (Kd.int .i64) w A0_1 l0_1.length l0_1) (hc0_1 : l0_1.length ≤ c0_1) (hr0_2 : Kd.C (Kd.int .i64) w A0_2 l0_2.length l0_2) (hc0_2 : l0_2.length ≤ c0_2) (h : laws_FnExactIsRule.f k a0_0 l0_1 l0_2 = some r) :
  Calls Try.prog 3 #[.agg #[.int .i64 a0_0, .slice A0_1 l0_1.length c0_1, .slice A0_2 l0_2.length c0_2]] w fun e w' => e = .returned (.bool r) ∧ Below w.heap.size w w' := by
 have hu24 := Try.underlying24
 have hu27 := Try.underlying27
 have HRT := zA hr_
 clear hr_
 have HR0_1 := zA hr0_1
 have HC0_1 := zA hc0_1
 clear hr0_1 hc0_1
 have HR0_2 := zA hr0_2
 have HC0_2 := zA hc0_2
 clear hr0_2 hc0_2
 have HB := zA (Below.refl w.heap.size w)
 have H : ((laws_szRule.f a0_0 l0_1 l0_2 1048576).bind fun t155 => (if t155 < 0 then (some true) else ((laws_toRule.f k a0_0 l0_1 l0_2).bind fun bt156 => ((spec_IsRule.f k bt156.1 bt156.2.1 bt156.2.2).bind fun t163 => ((laws_toRule.f k a0_0 l0_1 l0_2).bind fun bt164 => ((impl_IsRule.f k bt164.1 bt164.2.1 bt164.2.2).bind fun t172 => (if (t172 != t163) = true then (some false) else ((laws_toRule.f k a0_0 l0_1 l0_2).bind fun bt173 => ((laws_eqRule.f k bt164.1 bt164.2.1 bt164.2.2 bt173.1 bt173.2.1 bt173.2.2).bind fun t180 => (if t180 = true then (some true) else (some false))))))))))) = some r := h
 clear h
 replace H := Option.bind_eq_some_iff.mp H
 obtain ⟨t155, A20, H⟩ := H
 replace H : (if t155 < 0 then (some true) else ((laws_toRule.f k a0_0 l0_1 l0_2).bind fun bt156 => ((spec_IsRule.f k bt156.1 bt156.2.1 bt156.2.2).bind fun t163 => ((laws_toRule.f k a0_0 l0_1 l0_2).bind fun bt164 => ((impl_IsRule.f k bt164.1 bt164.2.1 bt164.2.2).bind fun t172 => (if (t172 != t163) = true then (some false) else ((laws_toRule.f k a0_0 l0_1 l0_2).bind fun bt173 => ((laws_eqRule.f k bt164.1 bt164.2.1 bt164.2.2 bt173.1 bt173.2.1 bt173.2.2).bind fun t180 => (if t180 = true then (some true) else (some false)))))))))) = some r := H
 have A2 := zA A20
 clear A20
 by_cases c3 : t155 < 0
 ·rw [if_pos c3] at H
  have c3b0 : decide (t155 < 0) = true := decide_eq_true c3
  clear c3
  obtain rfl := Option.some.inj H
  go_enter Try.func3, Try.ntmps3
  go_wp2_with (first | ((with_reducible refine gate_dst (N := 1) rfl ?_); refine box_event ?hg (N := 1) ?hd (cs := #[.int .i64 a0_0, .slice A0_1 l0_1.length c0_1, .slice A0_2 l0_2.length c0_2]) (t := 24) ?hr ?_; (case hd => rfl); (case hg => rfl); (case hr => first | (go_simp; done) | (go_simp; rfl)); intro gb154 hg w4 hbox hb; have n0_ := xH HB hb; have n1_ := zA (hbox); have n2_ := zA ((by rw [hg]; exact (below_size (uH HB.out)) : w.heap.size ≤ gb154)); have n3_ := zA ((by rw [hg]; exact (below_size (uH HB.out)) : w.heap.size ≤ gb154)); clear HB; have HB := n0_; have BK154 := n1_; have GW154 := n2_; have GE154 := n3_; have := geI GE154; clear n0_ n1_ n2_ n3_ hb hbox hg; have hcz5_0 : w4.cell? ⟨gb154, 0, none⟩ = some (.int .i64 a0_0) := (blk_cell BK154.out 0).trans rfl; have hcz5_1 : w4.cell? ⟨gb154, 1, none⟩ = some (.slice A0_1 l0_1.length c0_1) := (blk_cell BK154.out 1).trans rfl; have hcz5_2 : w4.cell? ⟨gb154, 2, none⟩ = some (.slice A0_2 l0_2.length c0_2) := (blk_cell BK154.out 2).trans rfl; have hfz5_0 := blk_frozen BK154.out 0; have hfz5_1 := blk_frozen BK154.out 1; have hfz5_2 := blk_frozen BK154.out 2) | ((with_reducible refine gate_callee (f := 9) rfl ?_); refine goesL_ (some 9) rfl rfl Try.func9 (by kernel_rfl) rfl #[.agg #[.int .i64 a0_0, .slice A0_1 l0_1.length c0_1, .slice A0_2 l0_2.length c0_2], .int .i64 1048576] rfl (by (try simp only [List.map_toArray, List.map_cons, List.map_nil]); first | done | rfl | (simp only [List.length_drop, List.length_take]; rfl)) ?_; (with_reducible refine (laws_szRule.calls a0_0 _ _ l0_1 _ _ l0_2 1048576 t155 _ ?side1 ?side2 ?side3 ?side4 A2.out).mono ?_); (case side1 => exact uC ((Kd.C_below HR0_1.out HB.out))); (case side2 => exact HC0_1.out); (case side3 => exact uC ((Kd.C_below HR0_2.out HB.out))); (case side4 => exact HC0_2.out); rintro e w6 ⟨rfl, hb⟩; refine ⟨_, rfl, ?_⟩; have n0_ := xB BK154 hb; have n1_ := xH HB hb; clear BK154 HB; have BK154 := n0_; have HB := n1_; clear n0_ n1_; (try clear hb); (try clear hb2); (try clear hk); (try clear hi)))
  go_ret
  exact ⟨by first | rfl | (simp [errW_none, errW_some] <;> rfl) | (simp [*, errW_none, errW_some] <;> rfl), uH HB.out⟩
 ·rw [if_neg c3] at H
  have c3b0 : decide (t155 < 0) = false := decide_eq_false c3
  clear c3
  replace H := Option.bind_eq_some_iff.mp H
  obtain ⟨⟨t156, t157, t160⟩, A70, H⟩ := H
  replace H : ((spec_IsRule.f k t156 t157 t160).bind fun t163 => ((laws_toRule.f k a0_0 l0_1 l0_2).bind fun bt164 => ((impl_IsRule.f k bt164.1 bt164.2.1 bt164.2.2).bind fun t172 => (if (t172 != t163) = true then (some false) else ((laws_toRule.f k a0_0 l0_1 l0_2).bind fun bt173 => ((laws_eqRule.f k bt164.1 bt164.2.1 bt164.2.2 bt173.1 bt173.2.1 bt173.2.2).bind fun t180 => (if t180 = true then (some true) else (some false)))))))) = some r := H
  have A7 := zA A70
  clear A70
  replace H := Option.bind_eq_some_iff.mp H
  obtain ⟨t163, A80, H⟩ := H
  replace H : ((laws_toRule.f k a0_0 l0_1 l0_2).bind fun bt164 => ((impl_IsRule.f k bt164.1 bt164.2.1 bt164.2.2).bind fun t172 => (if (t172 != t163) = true then (some false) else ((laws_toRule.f k a0_0 l0_1 l0_2).bind fun bt173 => ((laws_eqRule.f k bt164.1 bt164.2.1 bt164.2.2 bt173.1 bt173.2.1 bt173.2.2).bind fun t180 => (if t180 = true then (some true) else (some false))))))) = some r := H
  have A8 := zA A80
  clear A80
  replace H := Option.bind_eq_some_iff.mp H
  obtain ⟨⟨t164, t165, t168⟩, A90, H⟩ := H
  replace H : ((impl_IsRule.f k t164 t165 t168).bind fun t172 => (if (t172 != t163) = true then (some false) else ((laws_toRule.f k a0_0 l0_1 l0_2).bind fun bt173 => ((laws_eqRule.f k t164 t165 t168 bt173.1 bt173.2.1 bt173.2.2).bind fun t180 => (if t180 = true then (some true) else (some false)))))) = some r := H
  have A9 := zA A90
  clear A90
  replace H := Option.bind_eq_some_iff.mp H
  obtain ⟨t172, A100, H⟩ := H
  replace H : (if (t172 != t163) = true then (some false) else ((laws_toRule.f k a0_0 l0_1 l0_2).bind fun bt173 => ((laws_eqRule.f k t164 t165 t168 bt173.1 bt173.2.1 bt173.2.2).bind fun t180 => (if t180 = true then (some true) else (some false))))) = some r := H
  have A10 := zA A100
  clear A100
  by_cases c11 : (t172 != t163) = true
  ·rw [if_pos c11] at H
   have c11b0 : (t172 != t163) = true := c11
   (try (have c11b1 : decide (t172 = t163) = false := by simpa using c11))
   (try (have c11b2 : (t172 == t163) = false := by simpa using c11))
   (try (have c11b3 : ¬ (t172 = t163) := by simpa using c11))
   clear c11
   rw [HRT.out] at H
   exact absurd H (by simp)
  ·rw [if_neg c11] at H
   have c11b0 : (t172 != t163) = false := by simpa using c11
   (try (have c11b1 : decide (t172 = t163) = true := by simpa using c11))
   (try (have c11b2 : (t172 == t163) = true := by simpa using c11))
   clear c11
   replace H := Option.bind_eq_some_iff.mp H
   obtain ⟨⟨t173, t174, t177⟩, A120, H⟩ := H
   replace H : ((laws_eqRule.f k t164 t165 t168 t173 t174 t177).bind fun t180 => (if t180 = true then (some true) else (some false))) = some r := H
   have A12 := zA A120
   clear A120
   replace H := Option.bind_eq_some_iff.mp H
   obtain ⟨t180, A130, H⟩ := H
   replace H : (if t180 = true then (some true) else (some false)) = some r := H
   have A13 := zA A130
   clear A130
   by_cases c14 : t180 = true
   ·subst c14
    have H1 : (some true) = some r := by rw [if_pos rfl] at H; exact H
    clear H
    have H := H1
    clear H1
    obtain rfl := Option.some.inj H
    go_enter Try.func3, Try.ntmps3
    try go_wp2_with (first | ((with_reducible refine gate_dst (N := 1) rfl ?_); refine box_event ?hg (N := 1) ?hd (cs := #[.int .i64 a0_0, .slice A0_1 l0_1.length c0_1, .slice A0_2 l0_2.length c0_2]) (t := 24) ?hr ?_; (case hd => rfl); (case hg => rfl); (case hr => first | (go_simp; done) | (go_simp; rfl)); intro gb154 hg w15 hbox hb; have n0_ := xH HB hb; have n1_ := zA (hbox); have n2_ := zA ((by rw [hg]; exact (below_size (uH HB.out)) : w.heap.size ≤ gb154)); have n3_ := zA ((by rw [hg]; exact (below_size (uH HB.out)) : w.heap.size ≤ gb154)); clear HB; have HB := n0_; have BK154 := n1_; have GW154 := n2_; have GE154 := n3_; have := geI GE154; clear n0_ n1_ n2_ n3_ hb hbox hg; have hcz16_0 : w15.cell? ⟨gb154, 0, none⟩ = some (.int .i64 a0_0) := (blk_cell BK154.out 0).trans rfl; have hcz16_1 : w15.cell? ⟨gb154, 1, none⟩ = some (.slice A0_1 l0_1.length c0_1) := (blk_cell BK154.out 1).trans rfl; have hcz16_2 : w15.cell? ⟨gb154, 2, none⟩ = some (.slice A0_2 l0_2.length c0_2) := (blk_cell BK154.out 2).trans rfl; have hfz16_0 := blk_frozen BK154.out 0; have hfz16_1 := blk_frozen BK154.out 1; have hfz16_2 := blk_frozen BK154.out 2) | ((with_reducible refine gate_callee (f := 9) rfl ?_); refine goesL_ (some 9) rfl rfl Try.func9 (by kernel_rfl) rfl #[.agg #[.int .i64 a0_0, .slice A0_1 l0_1.length c0_1, .slice A0_2 l0_2.length c0_2], .int .i64 1048576] rfl (by (try simp only [List.map_toArray, List.map_cons, List.map_nil]); first | done | rfl | (simp only [List.length_drop, List.length_take]; rfl)) ?_; (with_reducible refine (laws_szRule.calls a0_0 _ _ l0_1 _ _ l0_2 1048576 t155 _ ?side1 ?side2 ?side3 ?side4 A2.out).mono ?_); (case side1 => exact uC ((Kd.C_below HR0_1.out HB.out))); (case side2 => exact HC0_1.out); (case side3 => exact uC ((Kd.C_below HR0_2.out HB.out))); (case side4 => exact HC0_2.out); rintro e w17 ⟨rfl, hb⟩; refine ⟨_, rfl, ?_⟩; have n0_ := xB BK154 hb; have n1_ := xH HB hb; clear BK154 HB; have BK154 := n0_; have HB := n1_; clear n0_ n1_; (try clear hb); (try clear hb2); (try clear hk); (try clear hi); have hcz18_0 : w17.cell? ⟨gb154, 0, none⟩ = some (.int .i64 a0_0) := (blk_cell BK154.out 0).trans rfl; have hcz18_1 : w17.cell? ⟨gb154, 1, none⟩ = some (.slice A0_1 l0_1.length c0_1) := (blk_cell BK154.out 1).trans rfl; have hcz18_2 : w17.cell? ⟨gb154, 2, none⟩ = some (.slice A0_2 l0_2.length c0_2) := (blk_cell BK154.out 2).trans rfl; have hfz18_0 := blk_frozen BK154.out 0; have hfz18_1 := blk_frozen BK154.out 1; have hfz18_2 := blk_frozen BK154.out 2) | ((with_reducible refine gate_callee (f := 11) rfl ?_); refine goesL_ (some 13) rfl rfl Try.func11 (by kernel_rfl) rfl #[.agg #[.int .i64 a0_0, .slice A0_1 l0_1.length c0_1, .slice A0_2 l0_2.length c0_2]] rfl (by (try simp only [List.map_toArray, List.map_cons, List.map_nil]); first | done | rfl | (simp only [List.length_drop, List.length_take]; rfl)) ?_; (with_reducible refine (laws_toRule.calls k a0_0 _ _ l0_1 _ _ l0_2 t156 t157 t160 _ ?side1 ?side2 ?side3 ?side4 A7.out).mono ?_); (case side1 => exact uC ((Kd.C_below HR0_1.out HB.out))); (case side2 => exact HC0_1.out); (case side3 => exact uC ((Kd.C_below HR0_2.out HB.out))); (case side4 => exact HC0_2.out); rintro e w19 ⟨v158, v161, rfl, ho0, ho1, hb⟩; refine ⟨_, rfl, ?_⟩; have n0_ := zA (Kd.R_lower ho0 (below_size (uH HB.out))); have n1_ := zA (Kd.R_lower ho1 (below_size (uH HB.out))); have n2_ := xB BK154 hb; have n3_ := xH HB hb; clear BK154 HB; have HO159 := n0_; have HO162 := n1_; have BK154 := n2_; have HB := n3_; clear n0_ n1_ n2_ n3_; (try clear hb); (try clear hb2); (try clear hk); (try clear hi); (try clear ho0); (try clear ho1); obtain ⟨Ao20, co20, eo20⟩ := Kd.R_slice HO159.out; subst eo20; obtain ⟨Ao21, co21, eo21⟩ := Kd.R_slice HO162.out; subst eo21) | ((with_reducible refine gate_callee (f := 10) rfl ?_); refine goesL_ (some 14) rfl rfl Try.func10 (by kernel_rfl) rfl #[.agg #[.int .i64 t156, .slice Ao20 t157.length co20, .slice Ao21 t160.length co21]] rfl (by (try simp only [List.map_toArray, List.map_cons, List.map_nil]); first | done | rfl | (simp only [List.length_drop, List.length_take]; rfl)) ?_; (with_reducible refine (spec_IsRule.calls k t156 _ _ t157 _ _ t160 t163 _ ?side1 ?side2 ?side3 ?side4 A8.out).mono ?_); (case side1 => exact uC ((Kd.R_reads' HO159.out).2.2)); (case side2 => exact (Kd.R_reads' HO159.out).2.1); (case side3 => exact uC ((Kd.R_reads' HO162.out).2.2)); (case side4 => exact (Kd.R_reads' HO162.out).2.1); rintro e w22 ⟨rfl, hb⟩; refine ⟨_, rfl, ?_⟩; have n0_ := xR HO159 hb; have n1_ := xR HO162 hb; have n2_ := xB BK154 hb; have n3_ := xH HB hb; clear HO159 HO162 BK154 HB; have HO159 := n0_; have HO162 := n1_; have BK154 := n2_; have HB := n3_; clear n0_ n1_ n2_ n3_; (try clear hb); (try clear hb2); (try clear hk); (try clear hi); have hcz23_0 : w22.cell? ⟨gb154, 0, none⟩ = some (.int .i64 a0_0) := (blk_cell BK154.out 0).trans rfl; have hcz23_1 : w22.cell? ⟨gb154, 1, none⟩ = some (.slice A0_1 l0_1.length c0_1) := (blk_cell BK154.out 1).trans rfl; have hcz23_2 : w22.cell? ⟨gb154, 2, none⟩ = some (.slice A0_2 l0_2.length c0_2) := (blk_cell BK154.out 2).trans rfl; have hfz23_0 := blk_frozen BK154.out 0; have hfz23_1 := blk_frozen BK154.out 1; have hfz23_2 := blk_frozen BK154.out 2) | ((with_reducible refine gate_callee (f := 11) rfl ?_); refine goesL_ (some 16) rfl rfl Try.func11 (by kernel_rfl) rfl #[.agg #[.int .i64 a0_0, .slice A0_1 l0_1.length c0_1, .slice A0_2 l0_2.length c0_2]] rfl (by (try simp only [List.map_toArray, List.map_cons, List.map_nil]); first | done | rfl | (simp only [List.length_drop, List.length_take]; rfl)) ?_; (with_reducible refine (laws_toRule.calls k a0_0 _ _ l0_1 _ _ l0_2 t164 t165 t168 _ ?side1 ?side2 ?side3 ?side4 A9.out).mono ?_); (case side1 => exact uC ((Kd.C_below HR0_1.out HB.out))); (case side2 => exact HC0_1.out); (case side3 => exact uC ((Kd.C_below HR0_2.out HB.out))); (case side4 => exact HC0_2.out); rintro e w24 ⟨v166, v169, rfl, ho0, ho1, hb⟩; refine ⟨_, rfl, ?_⟩; have n0_ := zA (Kd.R_mono (Kd.R_told (Kd.R_told (Kd.R_old (uR HO159.out) hb) (Kd.R_base ho0)) (Kd.R_base ho1)) (fun _ h_ => h_.1)); have n1_ := zA (Kd.R_mono (Kd.R_told (Kd.R_told (Kd.R_old (uR HO162.out) hb) (Kd.R_base ho0)) (Kd.R_base ho1)) (fun _ h_ => h_.1)); have n2_ := zA (Kd.R_lower (Kd.R_new' (Kd.R_new' ho0 (Kd.R_lt (uR HO159.out))) (Kd.R_lt (uR HO162.out))) (below_size (uH HB.out))); have n3_ := zA (Kd.R_lower (Kd.R_new' (Kd.R_new' ho1 (Kd.R_lt (uR HO159.out))) (Kd.R_lt (uR HO162.out))) (below_size (uH HB.out))); have n4_ := xB BK154 hb; have n5_ := xH HB hb; clear HO159 HO162 BK154 HB; have HO159 := n0_; have HO162 := n1_; have HO167 := n2_; have HO170 := n3_; have BK154 := n4_; have HB := n5_; clear n0_ n1_ n2_ n3_ n4_ n5_; (try clear hb); (try clear hb2); (try clear hk); (try clear hi); (try clear ho0); (try clear ho1)) | ((with_reducible refine gate_dst (N := 5) rfl ?_); refine box_event ?hg (N := 5) ?hd (cs := #[.int .i64 0, .slice none 0 0, .slice none 0 0]) (t := 27) ?hr ?_; (case hd => rfl); (case hg => rfl); (case hr => first | (go_simp; done) | (go_simp; rfl)); intro gb171 hg w25 hbox hb; have n0_ := xR HO159 hb; have n1_ := xR HO162 hb; have n2_ := xR HO167 hb; have n3_ := xR HO170 hb; have n4_ := xB BK154 hb; have n5_ := xH HB hb; have n6_ := zA (hbox); have n7_ := zA ((by rw [hg]; exact (below_size (uH HB.out)) : w.heap.size ≤ gb171)); have n8_ := zA ((by rw [hg]; exact (below_size (uH HB.out)) : w.heap.size ≤ gb171)); have n9_ := zA ((by rw [hg]; exact neL BK154 : gb154 ≠ gb171)); have n10_ := zA ((by rw [hg]; exact neG BK154 : gb171 ≠ gb154)); clear HO159 HO162 HO167 HO170 BK154 HB; have HO159 := n0_; have HO162 := n1_; have HO167 := n2_; have HO170 := n3_; have BK154 := n4_; have HB := n5_; have BK171 := n6_; have GW171 := n7_; have GE171 := n8_; have := geI GE171; have NB154_171 := n9_; have NB171_154 := n10_; clear n0_ n1_ n2_ n3_ n4_ n5_ n6_ n7_ n8_ n9_ n10_ hb hbox hg; have hnb26 := NB171_154.out; have hnc26 := NB154_171.out; have hcz27_0 : w25.cell? ⟨gb171, 0, none⟩ = some (.int .i64 0) := (blk_cell BK171.out 0).trans rfl; have hcz27_1 : w25.cell? ⟨gb171, 1, none⟩ = some (.slice none 0 0) := (blk_cell BK171.out 1).trans rfl; have hcz27_2 : w25.cell? ⟨gb171, 2, none⟩ = some (.slice none 0 0) := (blk_cell BK171.out 2).trans rfl; have hfz27_0 := blk_frozen BK171.out 0; have hfz27_1 := blk_frozen BK171.out 1; have hfz27_2 := blk_frozen BK171.out 2; obtain ⟨Ao28, co28, eo28⟩ := Kd.R_slice HO167.out; subst eo28; obtain ⟨Ao29, co29, eo29⟩ := Kd.R_slice HO170.out; subst eo29) | ((with_reducible refine gate_callee (f := 12) rfl ?_); refine goesL_ (some 18) rfl rfl Try.func12 (by kernel_rfl) rfl #[.agg #[.int .i64 t164, .slice Ao28 t165.length co28, .slice Ao29 t168.length co29]] rfl (by (try simp only [List.map_toArray, List.map_cons, List.map_nil]); first | done | rfl | (simp only [List.length_drop, List.length_take]; rfl)) ?_; (with_reducible refine (impl_IsRule.calls k t164 _ _ t165 _ _ t168 t172 _ ?side1 ?side2 ?side3 ?side4 A10.out).mono ?_); (case side1 => refine (Kd.R_reads' (e := 2) (base := w.heap.size) (ok := fun k_ => ((some k_ ≠ (.slice Ao29 t168.length co29 : Value).ownBlock ∧ some k_ ≠ (.slice Ao20 t157.length co20 : Value).ownBlock) ∧ some k_ ≠ (.slice Ao21 t160.length co21 : Value).ownBlock)) (n := t165.length) (c := co28) ?_).2.2; exact (uR ((Kd.R_mono (Kd.R_far (p := ⟨gb171, 2, none⟩) (Kd.R_far (p := ⟨gb171, 1, none⟩) (Kd.R_far (p := ⟨gb171, 0, none⟩) (Kd.R_types HO167.out BK171.out (by decide)) (fun _ hk => hk.2) (.int .i64 t164)) (fun _ hk => hk.2) (.slice Ao28 t165.length co28)) (fun _ hk => hk.2) (.slice Ao29 t168.length co29)) (fun _ h_ => h_.1))))); (case side2 => exact (Kd.R_reads' HO167.out).2.1); (case side3 => refine (Kd.R_reads' (e := 2) (base := w.heap.size) (ok := fun k_ => ((some k_ ≠ (.slice Ao28 t165.length co28 : Value).ownBlock ∧ some k_ ≠ (.slice Ao20 t157.length co20 : Value).ownBlock) ∧ some k_ ≠ (.slice Ao21 t160.length co21 : Value).ownBlock)) (n := t168.length) (c := co29) ?_).2.2; exact (uR ((Kd.R_mono (Kd.R_far (p := ⟨gb171, 2, none⟩) (Kd.R_far (p := ⟨gb171, 1, none⟩) (Kd.R_far (p := ⟨gb171, 0, none⟩) (Kd.R_types HO170.out BK171.out (by decide)) (fun _ hk => hk.2) (.int .i64 t164)) (fun _ hk => hk.2) (.slice Ao28 t165.length co28)) (fun _ hk => hk.2) (.slice Ao29 t168.length co29)) (fun _ h_ => h_.1))))); (case side4 => exact (Kd.R_reads' HO170.out).2.1); rintro e w30 ⟨rfl, hb⟩; refine ⟨_, rfl, ?_⟩; have n0_ := zA (Kd.R_below (uR ((Kd.R_mono (Kd.R_far (p := ⟨gb171, 2, none⟩) (Kd.R_far (p := ⟨gb171, 1, none⟩) (Kd.R_far (p := ⟨gb171, 0, none⟩) (Kd.R_types HO159.out BK171.out (by decide)) (fun _ hk => hk.2) (.int .i64 t164)) (fun _ hk => hk.2) (.slice Ao28 t165.length co28)) (fun _ hk => hk.2) (.slice Ao29 t168.length co29)) (fun _ h_ => h_.1)))) hb); have n1_ := zA (Kd.R_below (uR ((Kd.R_mono (Kd.R_far (p := ⟨gb171, 2, none⟩) (Kd.R_far (p := ⟨gb171, 1, none⟩) (Kd.R_far (p := ⟨gb171, 0, none⟩) (Kd.R_types HO162.out BK171.out (by decide)) (fun _ hk => hk.2) (.int .i64 t164)) (fun _ hk => hk.2) (.slice Ao28 t165.length co28)) (fun _ hk => hk.2) (.slice Ao29 t168.length co29)) (fun _ h_ => h_.1)))) hb); have n2_ := zA (Kd.R_below (uR ((Kd.R_mono (Kd.R_far (p := ⟨gb171, 2, none⟩) (Kd.R_far (p := ⟨gb171, 1, none⟩) (Kd.R_far (p := ⟨gb171, 0, none⟩) (Kd.R_types HO167.out BK171.out (by decide)) (fun _ hk => hk.2) (.int .i64 t164)) (fun _ hk => hk.2) (.slice Ao28 t165.length co28)) (fun _ hk => hk.2) (.slice Ao29 t168.length co29)) (fun _ h_ => h_.1)))) hb); have n3_ := zA (Kd.R_below (uR ((Kd.R_mono (Kd.R_far (p := ⟨gb171, 2, none⟩) (Kd.R_far (p := ⟨gb171, 1, none⟩) (Kd.R_far (p := ⟨gb171, 0, none⟩) (Kd.R_types HO170.out BK171.out (by decide)) (fun _ hk => hk.2) (.int .i64 t164)) (fun _ hk => hk.2) (.slice Ao28 t165.length co28)) (fun _ hk => hk.2) (.slice Ao29 t168.length co29)) (fun _ h_ => h_.1)))) hb); have n4_ := zA (blk_below (g := gb154) (o := .cells #[.int .i64 a0_0, .slice A0_1 l0_1.length c0_1, .slice A0_2 l0_2.length c0_2] 24 (0, 0)) (by (with_reducible repeat (first | refine blk_drewN ?_ _ | refine blk_drew ?_ | refine blk_alloc ?_ _)); refine blk_far ?_ NB154_171.out _; (with_reducible repeat (first | refine blk_drewN ?_ _ | refine blk_drew ?_ | refine blk_alloc ?_ _)); refine blk_far ?_ NB154_171.out _; (with_reducible repeat (first | refine blk_drewN ?_ _ | refine blk_drew ?_ | refine blk_alloc ?_ _)); refine blk_far ?_ NB154_171.out _; (with_reducible repeat (first | refine blk_drewN ?_ _ | refine blk_drew ?_ | refine blk_alloc ?_ _)); exact BK154.out) hb); have n5_ := zA (blk_below (g := gb171) (o := .cells #[.int .i64 t164, .slice Ao28 t165.length co28, .slice Ao29 t168.length co29] 27 (0, 0)) (by (with_reducible repeat (first | refine blk_drewN ?_ _ | refine blk_drew ?_ | refine blk_alloc ?_ _)); refine blk_put (cs := #[.int .i64 t164, .slice Ao28 t165.length co28, .slice none 0 0]) ?_ 2 _ rfl; (with_reducible repeat (first | refine blk_drewN ?_ _ | refine blk_drew ?_ | refine blk_alloc ?_ _)); refine blk_put (cs := #[.int .i64 t164, .slice none 0 0, .slice none 0 0]) ?_ 1 _ rfl; (with_reducible repeat (first | refine blk_drewN ?_ _ | refine blk_drew ?_ | refine blk_alloc ?_ _)); refine blk_put (cs := #[.int .i64 0, .slice none 0 0, .slice none 0 0]) ?_ 0 _ rfl; (with_reducible repeat (first | refine blk_drewN ?_ _ | refine blk_drew ?_ | refine blk_alloc ?_ _)); exact BK171.out) hb); have n6_ := xH HB hb; clear HO159 HO162 HO167 HO170 BK154 BK171 HB; have HO159 := n0_; have HO162 := n1_; have HO167 := n2_; have HO170 := n3_; have BK154 := n4_; have BK171 := n5_; have HB := n6_; clear n0_ n1_ n2_ n3_ n4_ n5_ n6_; (try clear hb); (try clear hb2); (try clear hk); (try clear hi)))
    have n0_ := zA (Kd.R_drew HO159.out)
    have n1_ := zA (Kd.R_drew HO162.out)
    have n2_ := zA (Kd.R_drew HO167.out)
    have n3_ := zA (Kd.R_drew HO170.out)
    have n4_ := zA (blk_drew BK154.out)
    have n5_ := zA (blk_drew BK171.out)
    have n6_ := zA (below_drew1 HB.out)
    clear HO159 HO162 HO167 HO170 BK154 BK171 HB
    have HO159 := n0_; have HO162 := n1_; have HO167 := n2_; have HO170 := n3_; have BK154 := n4_; have BK171 := n5_; have HB := n6_
    clear n0_ n1_ n2_ n3_ n4_ n5_ n6_
    refine start_ (n := 5) (S := fun w' => w'.cell? ⟨gb171, 0, none⟩ = some (.int .i64 t164) ∧ w'.cell? ⟨gb171, 1, none⟩ = some (.slice Ao28 t165.length co28) ∧ w'.cell? ⟨gb171, 2, none⟩ = some (.slice Ao29 t168.length co29) ∧ w'.cell? ⟨gb154, 0, none⟩ = some (.int .i64 a0_0) ∧ w'.cell? ⟨gb154, 1, none⟩ = some (.slice A0_1 l0_1.length c0_1) ∧ w'.cell? ⟨gb154, 2, none⟩ = some (.slice A0_2 l0_2.length c0_2)) (ds := []) #[false, false, false, false, false] (by kernel_rfl) rfl rfl ⟨(blk_cell BK171.out 0).trans rfl, (blk_cell BK171.out 1).trans rfl, (blk_cell BK171.out 2).trans rfl, (blk_cell BK154.out 0).trans rfl, (blk_cell BK154.out 1).trans rfl, (blk_cell BK154.out 2).trans rfl⟩ (fun hHeld => ?_)
    generalize w30.drew = w31 at HO159 HO162 HO167 HO170 BK154 BK171 HB hHeld ⊢
    refine take_ (i := 0) (N := some 22) (v := ?_) (a' := ?_) #[true, false, false, false, false] rfl rfl (by kernel_rfl) (fun _ _ _ h => h) (Or.inl ⟨by rfl, ?_⟩) hHeld ?_ ?_
    rotate_left
    ·rintro w' ⟨s0, s1, s2, s3, s4, s5⟩
     go_simp
     with_reducible rfl
    rotate_left
    ·simp only [Act.put, List.setIfInBounds_toArray, List.set_cons_zero, List.set_cons_succ, i64_w, i32_w]
     rfl
    refine take_ (i := 1) (N := some 23) (v := ?_) (a' := ?_) #[true, true, false, false, false] rfl rfl (by kernel_rfl) (fun _ _ _ h => h) (Or.inl ⟨by rfl, ?_⟩) hHeld ?_ ?_
    rotate_left
    ·rintro w' ⟨s0, s1, s2, s3, s4, s5⟩
     go_simp
     with_reducible rfl
    rotate_left
    ·simp only [Act.put, List.setIfInBounds_toArray, List.set_cons_zero, List.set_cons_succ, i64_w, i32_w]
     rfl
    refine one_ (i := 2) (N := some 24) #[true, true, true, false, false] rfl rfl (by kernel_rfl) (by decide) (fun K hK => ?_)
    refine goes_ Try.func11 (by kernel_rfl) rfl #[.agg #[.int .i64 a0_0, .slice A0_1 l0_1.length c0_1, .slice A0_2 l0_2.length c0_2]] (by rfl) rfl rfl (by (try simp only [List.map_toArray, List.map_cons, List.map_nil]); first | done | rfl | (simp only [List.length_drop, List.length_take]; rfl)) ?_
    with_reducible refine (laws_toRule.calls k a0_0 _ _ l0_1 _ _ l0_2 t173 t174 t177 _ ?side1 ?side2 ?side3 ?side4 A12.out).mono ?_
    (case side1 => exact uC ((Kd.C_below HR0_1.out HB.out)))
    (case side2 => exact HC0_1.out)
    (case side3 => exact uC ((Kd.C_below HR0_2.out HB.out)))
    (case side4 => exact HC0_2.out)
    rintro e w32 ⟨v175, v178, rfl, ho0, ho1, hb⟩
    refine ⟨_, rfl, ?_⟩
    have n0_ := zA (Kd.R_mono (Kd.R_told (Kd.R_told (Kd.R_old (uR HO159.out) hb) (Kd.R_base ho0)) (Kd.R_base ho1)) (fun _ h_ => h_.1))
    have n1_ := zA (Kd.R_mono (Kd.R_told (Kd.R_told (Kd.R_old (uR HO162.out) hb) (Kd.R_base ho0)) (Kd.R_base ho1)) (fun _ h_ => h_.1))
    have n2_ := zA (Kd.R_mono (Kd.R_told (Kd.R_told (Kd.R_old (uR HO167.out) hb) (Kd.R_base ho0)) (Kd.R_base ho1)) (fun _ h_ => h_.1))
    have n3_ := zA (Kd.R_mono (Kd.R_told (Kd.R_told (Kd.R_old (uR HO170.out) hb) (Kd.R_base ho0)) (Kd.R_base ho1)) (fun _ h_ => h_.1))
    have n4_ := zA (Kd.R_lower (Kd.R_new' (Kd.R_new' (Kd.R_new' (Kd.R_new' ho0 (Kd.R_lt (uR HO159.out))) (Kd.R_lt (uR HO162.out))) (Kd.R_lt (uR HO167.out))) (Kd.R_lt (uR HO170.out))) (below_size (uH HB.out)))
    have n5_ := zA (Kd.R_lower (Kd.R_new' (Kd.R_new' (Kd.R_new' (Kd.R_new' ho1 (Kd.R_lt (uR HO159.out))) (Kd.R_lt (uR HO162.out))) (Kd.R_lt (uR HO167.out))) (Kd.R_lt (uR HO170.out))) (below_size (uH HB.out)))
    have n6_ := xB BK154 hb
    have n7_ := xB BK171 hb
    have n8_ := xH HB hb
    clear HO159 HO162 HO167 HO170 BK154 BK171 HB
    have HO159 := n0_; have HO162 := n1_; have HO167 := n2_; have HO170 := n3_; have HO176 := n4_; have HO179 := n5_; have BK154 := n6_; have BK171 := n7_; have HB := n8_
    clear n0_ n1_ n2_ n3_ n4_ n5_ n6_ n7_ n8_
    (try clear hb); (try clear hb2); (try clear hk); (try clear hi); (try clear ho0); (try clear ho1)
    obtain ⟨Ao33, co33, eo33⟩ := Kd.R_slice HO176.out
    (first | subst eo33 | (injection eo33 with f1_ f2_ f3_; have f4_ := f1_.symm; have f5_ := f3_.symm; clear f1_ f2_ f3_; subst f4_; subst f5_))
    obtain ⟨Ao34, co34, eo34⟩ := Kd.R_slice HO179.out
    (first | subst eo34 | (injection eo34 with f1_ f2_ f3_; have f4_ := f1_.symm; have f5_ := f3_.symm; clear f1_ f2_ f3_; subst f4_; subst f5_))
    refine hK.out _ _ ⟨(blk_cell BK171.out 0).trans rfl, (blk_cell BK171.out 1).trans rfl, (blk_cell BK171.out 2).trans rfl, (blk_cell BK154.out 0).trans rfl, (blk_cell BK154.out 1).trans rfl, (blk_cell BK154.out 2).trans rfl⟩ (fun hHeld => ?_)
    clear hK K
    refine norm_ (a' := ?_) ?_ ?_
    rotate_left
    ·show Act.put _ (some 24) _ = _
     simp only [Act.put, List.setIfInBounds_toArray, List.set_cons_zero, List.set_cons_succ, i64_w, i32_w]
     rfl
    refine one_ (i := 3) (N := some 25) #[true, true, true, true, false] rfl rfl (by kernel_rfl) (by decide) (fun K hK => ?_)
    refine goes_ Try.func13 (by kernel_rfl) rfl #[.agg #[.int .i64 t164, .slice Ao28 t165.length co28, .slice Ao29 t168.length co29], .agg #[.int .i64 t173, .slice Ao33 t174.length co33, .slice Ao34 t177.length co34]] (by rfl) rfl rfl (by (try simp only [List.map_toArray, List.map_cons, List.map_nil]); first | done | rfl | (simp only [List.length_drop, List.length_take]; rfl)) ?_
    with_reducible refine (laws_eqRule.calls k t164 _ _ t165 _ _ t168 t173 _ _ t174 _ _ t177 true _ ?side1 ?side2 ?side3 ?side4 ?side5 ?side6 ?side7 ?side8 A13.out).mono ?_
    (case side1 => exact uC ((Kd.R_reads' HO167.out).2.2))
    (case side2 => exact (Kd.R_reads' HO167.out).2.1)
    (case side3 => exact uC ((Kd.R_reads' HO170.out).2.2))
    (case side4 => exact (Kd.R_reads' HO170.out).2.1)
    (case side5 => exact uC ((Kd.R_reads' HO176.out).2.2))
    (case side6 => exact (Kd.R_reads' HO176.out).2.1)
    (case side7 => exact uC ((Kd.R_reads' HO179.out).2.2))
    (case side8 => exact (Kd.R_reads' HO179.out).2.1)
    rintro e w35 ⟨rfl, hb⟩
    refine ⟨_, rfl, ?_⟩
    have n0_ := xR HO159 hb
    have n1_ := xR HO162 hb
    have n2_ := xR HO167 hb
    have n3_ := xR HO170 hb
    have n4_ := xR HO176 hb
    have n5_ := xR HO179 hb
    have n6_ := xB BK154 hb
    have n7_ := xB BK171 hb
    have n8_ := xH HB hb
    clear HO159 HO162 HO167 HO170 HO176 HO179 BK154 BK171 HB
    have HO159 := n0_; have HO162 := n1_; have HO167 := n2_; have HO170 := n3_; have HO176 := n4_; have HO179 := n5_; have BK154 := n6_; have BK171 := n7_; have HB := n8_
    clear n0_ n1_ n2_ n3_ n4_ n5_ n6_ n7_ n8_
    (try clear hb); (try clear hb2); (try clear hk); (try clear hi)
    refine hK.out _ _ ⟨(blk_cell BK171.out 0).trans rfl, (blk_cell BK171.out 1).trans rfl, (blk_cell BK171.out 2).trans rfl, (blk_cell BK154.out 0).trans rfl, (blk_cell BK154.out 1).trans rfl, (blk_cell BK154.out 2).trans rfl⟩ (fun hHeld => ?_)
    clear hK K
    refine norm_ (a' := ?_) ?_ ?_
    rotate_left
    ·show Act.put _ (some 25) _ = _
     simp only [Act.put, List.setIfInBounds_toArray, List.set_cons_zero, List.set_cons_succ, i64_w, i32_w]
     rfl
    refine pure_ (i := 4) (N := some 26) (v := ?_) (a' := ?_) #[true, true, true, true, true] rfl rfl (by kernel_rfl) (fun _ _ _ h => h) (Or.inl ⟨by rfl, ?_⟩) ?_ ?_
    rotate_left
    ·intro w'
     go_simp
     with_reducible rfl
    rotate_left
    ·simp only [Act.put, List.setIfInBounds_toArray, List.set_cons_zero, List.set_cons_succ, i64_w, i32_w]
     rfl
    refine done_ (by kernel_rfl) ?_
    try go_wp2
    go_ret
    exact ⟨by first | rfl | (simp [errW_none, errW_some] <;> rfl) | (simp [*, errW_none, errW_some] <;> rfl), uH HB.out⟩
   ·replace c14 := Bool.eq_false_iff.mpr c14
    subst c14
    have H1 : (some false) = some r := by rw [if_neg (show ¬ (false = true) by decide)] at H; exact H
    clear H
    have H := H1
    clear H1
    rw [HRT.out] at H
    exact absurd H (by simp)

/-- THE ONE PURE STATEMENT of laws_FnExactIsRule: yours. -/
def laws_FnExactIsRule.Pure : Prop := ∀ (a0_0 : Int) (l0_1 : List Int) (l0_2 : List Int), (Lit.int .i64 a0_0).wf = true → l0_1.length ≤ maxLen → (∀ x ∈ l0_1, (Lit.int .i64 x).wf = true) → l0_2.length ≤ maxLen → (∀ x ∈ l0_2, (Lit.int .i64 x).wf = true) → ∃ k, laws_FnExactIsRule.f k a0_0 l0_1 l0_2 = some true
theorem laws_FnExactIsRule.walk (P : laws_FnExactIsRule.Pure) (a0_0 : Int) (a0_1 : Option Addr) (len0_1 cap0_1 : Nat) (z0_1 : List Int) (a0_2 : Option Addr) (len0_2 cap0_2 : Nat) (z0_2 : List Int) (w : World) (w0_0 : (Lit.int .i64 a0_0).wf = true) (w0_1 : (a0_1 = none ∧ len0_1 = 0 ∧ cap0_1 = 0 ∧ z0_1 = []) ∨ ∃ x, a0_1 = some x ∧ len0_1 ≤ cap0_1 ∧ cap0_1 ≤ maxLen ∧ z0_1.length = cap0_1 ∧ (∀ i, i < z0_1.length → w.cell? (x.add i) = some (.int .i64 (z0_1.getD i 0))) ∧ ∀ n ∈ z0_1, (Lit.int .i64 n).wf = true) (w0_2 : (a0_2 = none ∧ len0_2 = 0 ∧ cap0_2 = 0 ∧ z0_2 = []) ∨ ∃ x, a0_2 = some x ∧ len0_2 ≤ cap0_2 ∧ cap0_2 ≤ maxLen ∧ z0_2.length = cap0_2 ∧ (∀ i, i < z0_2.length → w.cell? (x.add i) = some (.int .i64 (z0_2.getD i 0))) ∧ ∀ n ∈ z0_2, (Lit.int .i64 n).wf = true) :
  Calls Try.prog 3 #[.agg #[.int .i64 a0_0, .slice a0_1 len0_1 cap0_1, .slice a0_2 len0_2 cap0_2]] w fun e w' => e = .returned (.bool true) ∧ Below w.heap.size w w' := by
 obtain ⟨l0_1, rfl, hr0_1, hm0_1, hw0_1, hc0_1⟩ := ReadsInt.ofRowC w0_1
 obtain ⟨l0_2, rfl, hr0_2, hm0_2, hw0_2, hc0_2⟩ := ReadsInt.ofRowC w0_2
 obtain ⟨k, h⟩ := P a0_0 l0_1 l0_2 w0_0 hm0_1 hw0_1 hm0_2 hw0_2
 refine (laws_FnExactIsRule.calls k a0_0 _ _ l0_1 _ _ l0_2 true rfl w (Kd.C_of_reads (d := (0 : Int)) (h1 := fun _ => rfl) hr0_1) hc0_1 (Kd.C_of_reads (d := (0 : Int)) (h1 := fun _ => rfl) hr0_2) hc0_2 h).mono ?_
 rintro e w' ⟨rfl, hd⟩
 exact ⟨rfl, hd⟩

end Go.Proofs.Ytcfiegapclbenaa.Pr
/- Rules: what the program and the reference take for one. -/
namespace Go.Proofs.Ytcfiegapclbenaa.Pr
open Go.RowKit Go.Proofs.YtcfiegapclbenaaW.PrintWords Go.Proofs.YtcfiegapclbenaaW.PrintLast Go.Proofs.YtcfiegapclbenaaW.PrintMore

def ascFrom (l : List Int) (i : Nat) : Prop := ∀ j, j < l.length → i ≤ j → l.getD (j - 1) 0 < l.getD j 0
instance (l : List Int) (i : Nat) : Decidable (ascFrom l i) := by unfold ascFrom; infer_instance
theorem asc_l0 (l : List Int) (hl : Sm l.length) (d : Nat) : ∀ i, 1 ≤ i → (i + d = l.length ∨ d = 0 ∧ l.length ≤ i) → i ≤ l.length + 1 → Ev (fun k => impl_areAscending.l0 k l (i : Int)) (decide (ascFrom l i)) := by
  induction d with
  | zero =>
    intro i hi hd _
    refine Ev.step (fun k => by rw [impl_areAscending.l0]) ?_
    refine Ev.neg (by omega) (Ev.some' ?_)
    exact (decide_eq_true (fun j h1 h2 => by omega)).symm
  | succ d ih =>
    intro i hi hd _
    unfold Sm at hl
    refine Ev.step (fun k => by rw [impl_areAscending.l0]) ?_
    refine Ev.pos (by omega) (Ev.pos (by omega) ?_)
    rw [wpred (by omega) (by omega)]
    refine Ev.pos (by omega) (Ev.pos (by omega) ?_)
    rw [rd_nat, rd_nat, wsucc (i := i) (n := l.length) (by omega) (by omega)]
    by_cases h : l.getD i 0 ≤ l.getD (i - 1) 0
    · refine Ev.pos h (Ev.some' (decide_eq_false (fun g => ?_)).symm)
      have := g i (by omega) (by omega)
      omega
    · refine Ev.neg h (Ev.cast (ih (i + 1) (by omega) (by omega) (by omega)) ?_)
      apply decide_eq_decide.2
      constructor
      · intro g j h1 h2
        by_cases e : j = i
        · subst e; omega
        · exact g j h1 (by omega)
      · exact fun g j h1 h2 => g j h1 (by omega)
theorem asc_ev (l : List Int) (hl : Sm l.length) : Ev (fun k => impl_areAscending.f k l) (decide (ascFrom l 1)) := by
  unfold impl_areAscending.f
  by_cases h : 1 ≤ l.length
  · exact asc_l0 l hl (l.length - 1) 1 (by omega) (by omega) (by omega)
  · exact asc_l0 l hl 0 1 (by omega) (by omega) (by omega)
theorem numbers_eq (p : Int) (l : List Int) (hl : Sm l.length) (a b : Int) : Ev (fun k => impl_areNumbers.f k p l a b) (primeB p && (decide (a ≤ (l.length : Int) ∧ (l.length : Int) ≤ b) && decide (Nm p l))) := by
  unfold impl_areNumbers.f
  refine Ev.bind (implPrime_ev p) ?_
  by_cases hp : primeB p = true
  · rw [hp, Bool.true_and]
    refine Ev.pos rfl (Ev.bindE (a := (l.length : Int)) rfl (Ev.bindE (within_eq _ _ _) ?_))
    by_cases h : a ≤ (l.length : Int) ∧ (l.length : Int) ≤ b
    · refine Ev.pos (decide_eq_true h) (Ev.bindE (areAll_has p l (by unfold Sm at hl; omega)) (Ev.some' ?_))
      rw [decide_eq_true h, Bool.true_and]
    · refine Ev.neg (by simpa using h) (Ev.some' ?_)
      rw [decide_eq_false h, Bool.false_and]
  · rw [Bool.eq_false_iff.2 hp, Bool.false_and]
    exact Ev.neg (by simp) (Ev.now _)

def okFrom (p : Int) (n w : List Int) (i : Nat) : Prop := ∀ j, j < n.length → i ≤ j → (0 ≤ n.getD j 0 ∧ n.getD j 0 < p) ∧ (0 ≤ w.getD j 0 ∧ w.getD j 0 < p) ∧ (0 < j → n.getD (j - 1) 0 < n.getD j 0)
instance (p : Int) (n w : List Int) (i : Nat) : Decidable (okFrom p n w i) := by unfold okFrom; infer_instance
def ruleB (p : Int) (n w : List Int) : Bool := primeB p && decide (n.length ≤ 24 ∧ w.length = n.length ∧ okFrom p n w 0)
theorem Nm_iff (p : Int) (l : List Int) : Nm p l ↔ ∀ j, j < l.length → 0 ≤ l.getD j 0 ∧ l.getD j 0 < p := by
  constructor
  · exact fun h j hj => h.get hj
  · intro h x hx
    obtain ⟨j, hj, rfl⟩ := List.getElem_of_mem hx
    have := h j hj
    simpa [List.getD, hj] using this
theorem okFrom_iff (p : Int) (n w : List Int) (h : w.length = n.length) : okFrom p n w 0 ↔ Nm p n ∧ ascFrom n 1 ∧ Nm p w := by
  rw [Nm_iff, Nm_iff]
  constructor
  · exact fun g => ⟨fun j hj => (g j hj (by omega)).1, fun j hj h1 => (g j hj (by omega)).2.2 (by omega), fun j hj => (g j (by omega) (by omega)).2.1⟩
  · exact fun g j hj _ => ⟨g.1 j hj, g.2.2 j (by omega), fun h0 => g.2.1 j hj (by omega)⟩
theorem specRule_l0 {p : Int} (hp : Pm p) (n w : List Int) (hl : Sm n.length) (hw : w.length = n.length) (d : Nat) : ∀ i, i + d = n.length → Ev (fun k => spec_l07Is.l0 k (i : Int) p n w) (decide (okFrom p n w i)) := by
  have h2 := hp.two
  have ht := hp.top
  induction d with
  | zero =>
    intro i hi
    refine Ev.step (fun k => by rw [spec_l07Is.l0]) ?_
    refine Ev.neg (by omega) (Ev.some' ?_)
    exact (decide_eq_true (fun j h1 h2 => by omega)).symm
  | succ d ih =>
    intro i hi
    unfold Sm at hl
    have next : (0 ≤ n.getD i 0 ∧ n.getD i 0 < p) → (0 ≤ w.getD i 0 ∧ w.getD i 0 < p) → (0 < i → n.getD (i - 1) 0 < n.getD i 0) → Ev (fun k => spec_l07Is.l0 k (wrap64 ((i : Int) + 1)) p n w) (decide (okFrom p n w i)) := by
      intro g1 g2 g3
      rw [wsucc (i := i) (n := n.length) (by omega) (by omega)]
      refine Ev.cast (ih (i + 1) (by omega)) ?_
      apply decide_eq_decide.2
      constructor
      · intro g j h1 h2
        by_cases e : j = i
        · subst e; exact ⟨g1, g2, g3⟩
        · exact g j h1 (by omega)
      · exact fun g j h1 h2 => g j h1 (by omega)
    refine Ev.step (fun k => by rw [spec_l07Is.l0]) ?_
    refine Ev.pos (by omega) (Ev.pos (by omega) (Ev.bindE (in_eq _ _ _) ?_))
    rw [rd_nat, rd_nat, wrap_id (x := p - 1) (by omega) (by omega)]
    by_cases h1 : 0 ≤ n.getD i 0 ∧ n.getD i 0 ≤ p - 1
    · refine Ev.pos (decide_eq_true h1) (Ev.pos (by omega) (Ev.bindE (in_eq _ _ _) ?_))
      by_cases h3 : 0 ≤ w.getD i 0 ∧ w.getD i 0 ≤ p - 1
      · refine Ev.pos (decide_eq_true h3) ?_
        by_cases h0 : 0 < i
        · refine Ev.pos (by omega) ?_
          rw [wpred (by omega) (by omega), rd_nat]
          refine Ev.pos (by omega) (Ev.pos (by omega) ?_)
          by_cases h4 : n.getD i 0 ≤ n.getD (i - 1) 0
          · refine Ev.pos h4 (Ev.some' (decide_eq_false (fun g => ?_)).symm)
            have := (g i (by omega) (by omega)).2.2 h0
            omega
          · exact Ev.neg h4 (next ⟨h1.1, by omega⟩ ⟨h3.1, by omega⟩ (fun _ => by omega))
        · exact Ev.neg (by omega) (next ⟨h1.1, by omega⟩ ⟨h3.1, by omega⟩ (fun h => absurd h h0))
      · refine Ev.neg (by simpa using h3) (Ev.some' (decide_eq_false (fun g => h3 ?_)).symm)
        have := (g i (by omega) (by omega)).2.1
        exact ⟨this.1, by omega⟩
    · refine Ev.neg (by simpa using h1) (Ev.some' (decide_eq_false (fun g => h1 ?_)).symm)
      have := (g i (by omega) (by omega)).1
      exact ⟨this.1, by omega⟩
theorem specRule_ev (p : Int) (n w : List Int) (hn : Sm n.length) (_hw : Sm w.length) : Ev (fun k => spec_l07Is.f k p n w) (ruleB p n w) := by
  unfold spec_l07Is.f ruleB
  refine Ev.bind (specPrime_ev p) ?_
  by_cases hp : primeB p = true
  · rw [hp, Bool.true_and]
    refine Ev.pos rfl ?_
    by_cases h1 : n.length ≤ 24
    · refine Ev.neg (by omega) ?_
      by_cases h2 : w.length = n.length
      · rw [show (((w.length : Int) != (n.length : Int)) : Bool) = false from by simp [h2]]
        refine Ev.step (fun k => by rw [spec_l07Is.j0]) ?_
        refine Ev.neg (by decide) ?_
        refine Ev.cast (specRule_l0 (primeB.pm hp) n w hn h2 n.length 0 (by omega)) ?_
        apply decide_eq_decide.2
        exact ⟨fun g => ⟨h1, h2, g⟩, fun g => g.2.2⟩
      · rw [show (((w.length : Int) != (n.length : Int)) : Bool) = true from by simp; omega]
        refine Ev.step (fun k => by rw [spec_l07Is.j0]) ?_
        refine Ev.pos rfl (Ev.some' (decide_eq_false (fun g => h2 g.2.1)).symm)
    · refine Ev.pos (by omega) ?_
      refine Ev.step (fun k => by rw [spec_l07Is.j0]) ?_
      refine Ev.pos rfl (Ev.some' (decide_eq_false (fun g => h1 g.1)).symm)
  · rw [Bool.eq_false_iff.2 hp, Bool.false_and]
    refine Ev.neg (by simp) ?_
    refine Ev.step (fun k => by rw [spec_l07Is.j0]) ?_
    exact Ev.pos rfl (Ev.now _)
theorem implRule_ev (p : Int) (n w : List Int) (hn : Sm n.length) (hw : Sm w.length) : Ev (fun k => impl_IsRule.f k p n w) (ruleB p n w) := by
  unfold impl_IsRule.f ruleB
  refine Ev.bind (numbers_eq p n hn 0 24) ?_
  by_cases hp : primeB p = true
  · rw [hp, Bool.true_and, Bool.true_and]
    by_cases h1 : n.length ≤ 24 ∧ Nm p n
    · refine Ev.pos (by rw [decide_eq_true (by omega), decide_eq_true h1.2]; rfl) (Ev.bind (asc_ev n hn) ?_)
      by_cases h2 : ascFrom n 1
      · refine Ev.pos (decide_eq_true h2) (Ev.bindE (a := (n.length : Int)) rfl (Ev.bindE (a := (n.length : Int)) rfl (Ev.bind (numbers_eq p w hw _ _) (Ev.some' ?_))))
        rw [hp, Bool.true_and]
        by_cases h3 : w.length = n.length
        · rw [decide_eq_true (by omega), Bool.true_and]
          apply decide_eq_decide.2
          rw [okFrom_iff p n w h3]
          exact ⟨fun g => ⟨h1.1, h3, h1.2, h2, g⟩, fun g => g.2.2.2.2⟩
        · rw [decide_eq_false (by omega), Bool.false_and]
          exact (decide_eq_false (fun g => h3 g.2.1)).symm
      · refine Ev.neg (by simpa using h2) (Ev.some' (decide_eq_false (fun g => h2 ?_)).symm)
        exact ((okFrom_iff p n w g.2.1).1 g.2.2).2.1
    · refine Ev.neg ?_ (Ev.some' (decide_eq_false (fun g => h1 ⟨g.1, ((okFrom_iff p n w g.2.1).1 g.2.2).1⟩)).symm)
      simp only [Bool.and_eq_true, decide_eq_true_eq]
      exact fun g => h1 ⟨by omega, g.2⟩
  · rw [Bool.eq_false_iff.2 hp, Bool.false_and, Bool.false_and]
    exact Ev.neg (by simp) (Ev.now _)
theorem ruleB.pm {p : Int} {n w : List Int} (h : ruleB p n w = true) : Pm p := by
  simp only [ruleB, Bool.and_eq_true] at h; exact primeB.pm h.1
end Go.Proofs.Ytcfiegapclbenaa.Pr
/- IsRule: for all arguments the program and the reference come to one value; no condition. -/
namespace Go.Proofs.Ytcfiegapclbenaa.Pr
open Go.RowKit Go.Proofs.YtcfiegapclbenaaW.PrintWords Go.Proofs.YtcfiegapclbenaaW.PrintLast Go.Proofs.YtcfiegapclbenaaW.PrintMore

theorem IsRule_both (p : Int) (n w : List Int) (hn : Sm n.length) (hw : Sm w.length) : ∃ v : Bool, Ev (fun k => spec_IsRule.f k p n w) v ∧ Ev (fun k => impl_IsRule.f k p n w) v := by
  refine ⟨ruleB p n w, ?_, implRule_ev p n w hn hw⟩
  unfold spec_IsRule.f
  exact Ev.bind (specRule_ev p n w hn hw) (Ev.now _)
end Go.Proofs.Ytcfiegapclbenaa.Pr
/- FnExactIsRule: for every input the law answers true: the program's IsRule and the reference's come to one value, and the law's own copies, marks and comparisons answer as they have to. No condition. -/
namespace Go.Proofs.Ytcfiegapclbenaa.Pure
open Go.RowKit Go.Proofs.Ytcfiegapclbenaa.Pr Go.Proofs.YtcfiegapclbenaaW.PrintWords Go.Proofs.YtcfiegapclbenaaW.PrintLast

theorem FnExactIsRule : laws_FnExactIsRule.Pure := by
  intro a0_0 l0_1 l0_2 w0_0 ml0_1 wl0_1 ml0_2 wl0_2
  have main : Ev (fun k => laws_FnExactIsRule.f k a0_0 l0_1 l0_2) true := by
    unfold laws_FnExactIsRule.f
    by_cases z0 : l0_1.length + l0_2.length ≤ 1048576
    case neg => exact Ev.bindE (szRule_no _ l0_1 l0_2 (by unfold maxLen at ml0_1; omega) (by unfold maxLen at ml0_2; omega) (1048576) (by omega) (by omega)) (Ev.pos (by omega) (Ev.now _))
    refine Ev.bindE (szRule_yes _ l0_1 l0_2 (1048576) (by omega) z0) (Ev.neg (by omega) ?_)
    have sl0_1 : Sm l0_1.length := by unfold Sm; omega
    have sl0_2 : Sm l0_2.length := by unfold Sm; omega
    have bw0_0 := wf64 w0_0
    obtain ⟨v, hspec, himpl⟩ := IsRule_both a0_0 l0_1 l0_2 sl0_1 sl0_2
    repeat' first
      | exact Ev.now _
      | refine Ev.bind hspec ?_
      | refine Ev.bind himpl ?_
      | refine Ev.bind (toRule_ev _ _ _ (by first | assumption | (rw [marks_length]; assumption)) (by first | assumption | (rw [marks_length]; assumption))) ?_
      | refine Ev.bind (eqRule_ev _ _ _ (by first | assumption | (rw [marks_length]; assumption)) (by first | assumption | (rw [marks_length]; assumption))) ?_
      | refine Ev.pos (by first | rfl | omega | (dsimp only; omega)) ?_
      | refine Ev.neg (by first | exact ne_self _ | omega | (dsimp only; omega) | decide) ?_
      | refine Ev.step (fun k => by rw [laws_FnExactIsRule.j0]) ?_
      | refine Ev.step (fun k => by rw [laws_FnExactIsRule.j1]) ?_
      | refine Ev.step (fun k => by rw [laws_FnExactIsRule.j2]) ?_
      | refine Ev.step (fun k => by rw [laws_FnExactIsRule.j3]) ?_
      | refine Ev.step (fun k => by rw [laws_FnExactIsRule.j4]) ?_
      | refine Ev.step (fun k => by rw [laws_FnExactIsRule.j5]) ?_
  exact main.rounds

end Go.Proofs.Ytcfiegapclbenaa.Pure
/- Printed by a program of this session out of the translation: what these functions of the program compute, under the conditions that each theorem names. -/
namespace Go.Proofs.Ytcfiegapclbenaa.fnExactIsRule
open Go.ChangeShapes Go.WideShapes Go.ChangeAt Go.RowKit
open Go.ChangeMaps (open_string shut_string)
set_option linter.unusedVariables false
theorem own : ownKnob Try.prog.godebug = none := by kernel_rfl
theorem laidOut : laidOutB Try.prog = true := by kernel_rfl
def IsRow (k : IntKind) (w : World) (a : Option Addr) (len cap : Nat) (zs : List Int) : Prop :=
  (a = none ∧ len = 0 ∧ cap = 0 ∧ zs = []) ∨
  ∃ x, a = some x ∧ len ≤ cap ∧ cap ≤ maxLen ∧ zs.length = cap ∧ (∀ i, i < zs.length → w.cell? (x.add i) = some (.int k (zs.getD i 0))) ∧ ∀ n ∈ zs, (Lit.int k n).wf = true
set_option maxRecDepth 100000 in
theorem lifted (os : Os) (started : os.Started) (H : Type) (enc : TypeId × Value → H) :
    ReturnsInHanded {} Try.checked os 3 .any (Rows.fnExactIsRuleSpec.pre6 enc Try.prog Try.f3 Rows.fnExactIsRuleRow.domain false) (Rows.fnExactIsRuleSpec.post enc Try.prog Try.f3 false true false false) := by
  refine returnsInHanded_of_change_sized (C := Try.checked) own started (by kernel_rfl) Try.func3
    (ChangeSpec.witness6 (enc := enc) (C := Try.checked) false ⟨#[], #[.agg #[.int .i64 0, .slice none 0 0, .slice none 0 0]], []⟩ 8 (by kernel_rfl) (by kernel_rfl) (by kernel_rfl) (by kernel_rfl)) ?_
  intro W base args ds gs before hval0 hW hcnd hsz0 _
  have hsz : (DataW.weightsEach Try.prog (Try.f3.params.toList ++ Rows.fnExactIsRuleSpec.plain.varTypes Try.prog) (ds ++ gs)).all (· ≤ reachBytes) = true := hsz0
  have hval : ∀ (j : Nat) t v, Try.f3.params[j]? = some t → args[j]? = some v → Value.okWide Try.prog W .any base t v := hval0
  have hW' := hW
  obtain ⟨p, q, hA0, hV, rfl, hfz, hnd⟩ := hW
  have hA : DataW.TrodAll enc Try.prog W 0 (fun _ => true) true Try.f3.params.toList args.toList ds p := hA0
  rw [Try.params3] at hA hval hsz
  obtain ⟨v0, vs0, d0, ds0, p0, q0, hargs, rfl, rfl, h0, r0⟩ := trodAll_cons hA
  obtain ⟨rfl, rfl, rfl⟩ := trodAll_nil r0
  obtain rfl : args = #[v0] := by cases args; simp_all
  obtain ⟨rfl, rfl⟩ := trodVars_none hV
  have k0 := h0
  have lt0 : ∀ x ∈ p0, x.block < W.heap.size := by obtain ⟨m, hm⟩ := k0; exact DataW.trod_lt m _ _ _ hm
  obtain ⟨c0_0, c0_1, c0_2, y0_0, y0_1, y0_2, n0, rfl, rfl, rfl, e0_0, e0_1, e0_2⟩ := Go.Joins.open_agg3 Try.underlying24 (by kernel_rfl) (by kernel_rfl) (hval 0 24 v0 rfl rfl) h0
  obtain ⟨a0_0, f0_0, _, w0_0⟩ := DataW.trod_int Try.underlying2 e0_0
  simp only [List.cons.injEq, and_true] at f0_0
  subst f0_0
  obtain ⟨a0_1, len0_1, cap0_1, z0_1, f0_1, w0_1⟩ : ∃ a len cap zs, c0_1 = .slice a len cap ∧ IsRow .i64 W a len cap zs := by
    rcases open_ints Try.underlying22 Try.underlying2 (by kernel_rfl) e0_1 with ⟨hcs, _⟩ | ⟨x, l, c, zs, hcs, _, hl, hm, hz, _, hcell, hwz⟩
    · simp only [List.cons.injEq, and_true] at hcs
      exact ⟨none, 0, 0, [], hcs, .inl ⟨rfl, rfl, rfl, rfl⟩⟩
    · simp only [List.cons.injEq, and_true] at hcs
      exact ⟨some x, l, c, zs, hcs, .inr ⟨_, rfl, hl, hm, by simpa using hz, hcell, hwz⟩⟩
  subst f0_1
  obtain ⟨a0_2, len0_2, cap0_2, z0_2, f0_2, w0_2⟩ : ∃ a len cap zs, c0_2 = .slice a len cap ∧ IsRow .i64 W a len cap zs := by
    rcases open_ints Try.underlying22 Try.underlying2 (by kernel_rfl) e0_2 with ⟨hcs, _⟩ | ⟨x, l, c, zs, hcs, _, hl, hm, hz, _, hcell, hwz⟩
    · simp only [List.cons.injEq, and_true] at hcs
      exact ⟨none, 0, 0, [], hcs, .inl ⟨rfl, rfl, rfl, rfl⟩⟩
    · simp only [List.cons.injEq, and_true] at hcs
      exact ⟨some x, l, c, zs, hcs, .inr ⟨_, rfl, hl, hm, by simpa using hz, hcell, hwz⟩⟩
  subst f0_2
  clear hA0 hval0 hsz0 hsz
  refine (Pr.laws_FnExactIsRule.walk Pure.FnExactIsRule a0_0 a0_1 len0_1 cap0_1 z0_1 a0_2 len0_2 cap0_2 z0_2 W w0_0 w0_1 w0_2).mono fun e W' ⟨he, bel⟩ => ?_
  subst he
  exact ⟨_, rfl, _, _, _, [], _, [], hW', trodAll_mk1 (shut_bool Try.underlying4 _), (trodAll_cons_mk (Below.trod laidOut (by kernel_rfl) (of_decide_eq_true (by kernel_rfl)) k0 bel lt0) trodAll_mk0), rfl, bel.frame _, fun h => by cases h⟩
theorem over : Rows.fnExactIsRuleRow.holds Try.pinned (OpenSpec.ofChange Rows.fnExactIsRuleSpec) :=
  OpenClaim.holds_of_wide 3 Try.f3 rfl rfl rfl rfl rfl rfl rfl ⟨rfl, rfl, rfl, rfl, rfl⟩ rfl rfl rfl rfl rfl (by kernel_rfl) Try.func3 (by kernel_rfl)
    (of_decide_eq_true (by kernel_rfl)) (by unfold Func.isWrapper; first | (rw [if_pos (by decide +kernel)]; kernel_rfl) | (rw [if_neg (by decide +kernel)]; exact ⟨rfl, rfl⟩))
    (fun os started H enc _ => lifted os started H enc)
theorem proved : Rows.FnExactIsRuleSaid := over
#print axioms proved
end Go.Proofs.Ytcfiegapclbenaa.fnExactIsRule
namespace Go.Proofs.Ytcfiegapclbenaa
/-- The row, under a short name, for the claim. -/
theorem fnExactIsRule_holds : Rows.FnExactIsRuleSaid := fnExactIsRule.proved
end Go.Proofs.Ytcfiegapclbenaa
