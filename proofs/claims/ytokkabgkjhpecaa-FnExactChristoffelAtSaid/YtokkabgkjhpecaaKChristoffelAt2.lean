/- Texts of this session in one: what functions of the program compute, and plain facts of it, under the conditions that each theorem names. -/
import Derived.Below
import Derived.ChangeOld
import Derived.Lib.SmallJoins
import Derived.OpenShut
import Derived.ProofKit
import Derived.ShutString
import Derived.SizedLaws
import Derived.Test.YtokkabgkjhpecaaRows
import Derived.WalkKit
import Derived.Test.YtokkabgkjhpecaaKFimplChristoffelAt
import Derived.Test.YtokkabgkjhpecaaKFspecChristoffelAt
import Derived.Test.YtokkabgkjhpecaaKC01
import Derived.Test.YtokkabgkjhpecaaKC02
import Derived.Test.YtokkabgkjhpecaaKC03
import Derived.Test.YtokkabgkjhpecaaKC04
import Derived.Test.YtokkabgkjhpecaaKC05
import Derived.Test.YtokkabgkjhpecaaKC08
import Derived.Test.YtokkabgkjhpecaaKC11
import Derived.Test.YtokkabgkjhpecaaKChristoffelAt1
import Derived.Test.YtokkabgkjhpecaaWSized
/- Printed by a program of this session out of the translation: what these functions of the program compute, under the conditions that each theorem names. -/
namespace Go.Proofs.Ytokkabgkjhpecaa.Pr
open Go.RowKit Go.Proofs.YtokkabgkjhpecaaW.PrintWords Go.Proofs.YtokkabgkjhpecaaW.PrintLast Go.Proofs.YtokkabgkjhpecaaW.PrintMore
attribute [local go_sem] max2_int min2_int max_two min_two max_three min_three max_four min_four   -- for this text's walks alone
set_option linter.unusedVariables false
set_option linter.unusedSimpArgs false

/-! ### laws_FnExactChristoffelAt: function 6 -/
def laws_FnExactChristoffelAt.j0 : Nat → Bool → Int → List Int → List Int → Int → List Int → List Int → Option (Bool)
 | 0, _, _, _, _, _, _, _ => none
 | k + 1, x38, x705000, x705001, x705002, x723000, x723001, x723002 => if x38 = true then (some false) else ((laws_toJacobi.f k x705000 x705001 x705002).bind fun bt725 => ((laws_eqJacobi.f k x723000 x723001 x723002 bt725.1 bt725.2.1 bt725.2.2).bind fun t732 => (if t732 = true then (some true) else (some false))))
def laws_FnExactChristoffelAt.f (k : Nat) (a0_0 : Int) (l0_1 : List Int) (l0_2 : List Int) (a1 : Int) : Option (Bool) := (laws_szJacobi.f a0_0 l0_1 l0_2 1048576).bind fun t705 => (if t705 < 0 then (some true) else ((laws_toJacobi.f k a0_0 l0_1 l0_2).bind fun bt706 => ((spec_ChristoffelAt.f k bt706.1 bt706.2.1 bt706.2.2 a1).bind fun bt713 => ((laws_toJacobi.f k a0_0 l0_1 l0_2).bind fun bt715 => ((impl_ChristoffelAt.f k bt715.1 bt715.2.1 bt715.2.2 a1).bind fun bt723 => (if bt723.1 = bt713.1 then (laws_FnExactChristoffelAt.j0 k (bt723.2 != bt713.2) a0_0 l0_1 l0_2 bt715.1 bt715.2.1 bt715.2.2) else (laws_FnExactChristoffelAt.j0 k true a0_0 l0_1 l0_2 bt715.1 bt715.2.1 bt715.2.2)))))))
theorem laws_FnExactChristoffelAt.mono_l : ∀ k, (∀ y0 y1 y2 y3 y4 y5 y6, LeO (laws_FnExactChristoffelAt.j0 k y0 y1 y2 y3 y4 y5 y6) (laws_FnExactChristoffelAt.j0 (k + 1) y0 y1 y2 y3 y4 y5 y6))
 | 0 => fun _ _ _ _ _ _ _ r h => by simp [laws_FnExactChristoffelAt.j0] at h
 | k + 1 => by
  have ih0 := laws_FnExactChristoffelAt.mono_l k
  ·intro y0 y1 y2 y3 y4 y5 y6
   unfold laws_FnExactChristoffelAt.j0
   repeat' first
   | (with_reducible exact ih0 _ _ _ _ _ _ _)
   | (with_reducible exact impl_ChristoffelAt.mono _ _ _ _ _)
   | (with_reducible exact laws_eqJacobi.mono _ _ _ _ _ _ _)
   | (with_reducible exact laws_toJacobi.mono _ _ _ _)
   | (with_reducible exact spec_ChristoffelAt.mono _ _ _ _ _)
   | (with_reducible exact LeO.refl _)
   | (with_reducible exact LeO.none _)
   | (with_reducible refine LeO.ite ?_ ?_)
   | (with_reducible refine LeO.bind ?_ (fun _ => ?_))
   | exact ih0 _ _ _ _ _ _ _
   | exact impl_ChristoffelAt.mono _ _ _ _ _
   | exact laws_eqJacobi.mono _ _ _ _ _ _ _
   | exact laws_toJacobi.mono _ _ _ _
   | exact spec_ChristoffelAt.mono _ _ _ _ _
   | exact LeO.none _
   | refine LeO.ite ?_ ?_
   | refine LeO.bind ?_ (fun _ => ?_)
theorem laws_FnExactChristoffelAt.mono : ∀ a0 a1 a2 a3 k, LeO (laws_FnExactChristoffelAt.f k a0 a1 a2 a3) (laws_FnExactChristoffelAt.f (k + 1) a0 a1 a2 a3) := by
 intro a0 a1 a2 a3 k
 have ih0 := laws_FnExactChristoffelAt.mono_l k
 unfold laws_FnExactChristoffelAt.f
 repeat' first
   | (with_reducible exact ih0 _ _ _ _ _ _ _)
   | (with_reducible exact impl_ChristoffelAt.mono _ _ _ _ _)
   | (with_reducible exact laws_eqJacobi.mono _ _ _ _ _ _ _)
   | (with_reducible exact laws_toJacobi.mono _ _ _ _)
   | (with_reducible exact spec_ChristoffelAt.mono _ _ _ _ _)
   | (with_reducible exact LeO.refl _)
   | (with_reducible exact LeO.none _)
   | (with_reducible refine LeO.ite ?_ ?_)
   | (with_reducible refine LeO.bind ?_ (fun _ => ?_))
   | exact ih0 _ _ _ _ _ _ _
   | exact impl_ChristoffelAt.mono _ _ _ _ _
   | exact laws_eqJacobi.mono _ _ _ _ _ _ _
   | exact laws_toJacobi.mono _ _ _ _
   | exact spec_ChristoffelAt.mono _ _ _ _ _
   | exact LeO.none _
   | refine LeO.ite ?_ ?_
   | refine LeO.bind ?_ (fun _ => ?_)
set_option maxHeartbeats 8000000 in
set_option maxRecDepth 100000 in
theorem laws_FnExactChristoffelAt.calls (k : Nat) (a0_0 : Int) (A0_1 : Option Addr) (c0_1 : Nat) (l0_1 : List Int) (A0_2 : Option Addr) (c0_2 : Nat) (l0_2 : List Int) (a1 : Int) (r : Bool) (hr_ : r = true) (w : World) (hr0_1 : Kd.C (Kd.int .i64) w A0_1 l0_1.length l0_1) (hc0_1 : l0_1.length ≤ c0_1) (hr0_2 : Kd.C (Kd.int .i64) w A0_2 l0_2.length l0_2) (hc0_2 : l0_2.length ≤ c0_2) (h : laws_FnExactChristoffelAt.f k a0_0 l0_1 l0_2 a1 = some r) :
  Calls Try.prog 6 #[.agg #[.int .i64 a0_0, .slice A0_1 l0_1.length c0_1, .slice A0_2 l0_2.length c0_2], .int .i64 a1] w fun e w' => e = .returned (.bool r) ∧ Below w.heap.size w w' := by
 have hu43 := Try.underlying43
 have hu46 := Try.underlying46
 have HRT := zA hr_
 clear hr_
 have HR0_1 := zA hr0_1
 have HC0_1 := zA hc0_1
 clear hr0_1 hc0_1
 have HR0_2 := zA hr0_2
 have HC0_2 := zA hc0_2
 clear hr0_2 hc0_2
 have HB := zA (Below.refl w.heap.size w)
 have H : ((laws_szJacobi.f a0_0 l0_1 l0_2 1048576).bind fun t705 => (if t705 < 0 then (some true) else ((laws_toJacobi.f k a0_0 l0_1 l0_2).bind fun bt706 => ((spec_ChristoffelAt.f k bt706.1 bt706.2.1 bt706.2.2 a1).bind fun bt713 => ((laws_toJacobi.f k a0_0 l0_1 l0_2).bind fun bt715 => ((impl_ChristoffelAt.f k bt715.1 bt715.2.1 bt715.2.2 a1).bind fun bt723 => (if bt723.1 = bt713.1 then (laws_FnExactChristoffelAt.j0 k (bt723.2 != bt713.2) a0_0 l0_1 l0_2 bt715.1 bt715.2.1 bt715.2.2) else (laws_FnExactChristoffelAt.j0 k true a0_0 l0_1 l0_2 bt715.1 bt715.2.1 bt715.2.2)))))))) = some r := h
 clear h
 replace H := Option.bind_eq_some_iff.mp H
 obtain ⟨t705, A30, H⟩ := H
 replace H : (if t705 < 0 then (some true) else ((laws_toJacobi.f k a0_0 l0_1 l0_2).bind fun bt706 => ((spec_ChristoffelAt.f k bt706.1 bt706.2.1 bt706.2.2 a1).bind fun bt713 => ((laws_toJacobi.f k a0_0 l0_1 l0_2).bind fun bt715 => ((impl_ChristoffelAt.f k bt715.1 bt715.2.1 bt715.2.2 a1).bind fun bt723 => (if bt723.1 = bt713.1 then (laws_FnExactChristoffelAt.j0 k (bt723.2 != bt713.2) a0_0 l0_1 l0_2 bt715.1 bt715.2.1 bt715.2.2) else (laws_FnExactChristoffelAt.j0 k true a0_0 l0_1 l0_2 bt715.1 bt715.2.1 bt715.2.2))))))) = some r := H
 have A3 := zA A30
 clear A30
 by_cases c4 : t705 < 0
 ·rw [if_pos c4] at H
  have c4b0 : decide (t705 < 0) = true := decide_eq_true c4
  clear c4
  obtain rfl := Option.some.inj H
  go_enter Try.func6, Try.ntmps6
  go_wp2_with (first | ((with_reducible refine gate_dst (N := 2) rfl ?_); refine box_event ?hg (N := 2) ?hd (cs := #[.int .i64 a0_0, .slice A0_1 l0_1.length c0_1, .slice A0_2 l0_2.length c0_2]) (t := 43) ?hr ?_; (case hd => rfl); (case hg => rfl); (case hr => first | (go_simp; done) | (go_simp; rfl)); intro gb704 hg w5 hbox hb; have n0_ := xH HB hb; have n1_ := zA (hbox); have n2_ := zA ((by rw [hg]; exact (below_size (uH HB.out)) : w.heap.size ≤ gb704)); have n3_ := zA ((by rw [hg]; exact (below_size (uH HB.out)) : w.heap.size ≤ gb704)); clear HB; have HB := n0_; have BK704 := n1_; have GW704 := n2_; have GE704 := n3_; have := geI GE704; clear n0_ n1_ n2_ n3_ hb hbox hg; have hcz6_0 : w5.cell? ⟨gb704, 0, none⟩ = some (.int .i64 a0_0) := (blk_cell BK704.out 0).trans rfl; have hcz6_1 : w5.cell? ⟨gb704, 1, none⟩ = some (.slice A0_1 l0_1.length c0_1) := (blk_cell BK704.out 1).trans rfl; have hcz6_2 : w5.cell? ⟨gb704, 2, none⟩ = some (.slice A0_2 l0_2.length c0_2) := (blk_cell BK704.out 2).trans rfl; have hfz6_0 := blk_frozen BK704.out 0; have hfz6_1 := blk_frozen BK704.out 1; have hfz6_2 := blk_frozen BK704.out 2) | ((with_reducible refine gate_callee (f := 27) rfl ?_); refine goesL_ (some 13) rfl rfl Try.func27 (by kernel_rfl) rfl #[.agg #[.int .i64 a0_0, .slice A0_1 l0_1.length c0_1, .slice A0_2 l0_2.length c0_2], .int .i64 1048576] rfl (by (try simp only [la, lb, lc]); first | done | rfl | (simp only [ld, le]; rfl)) ?_; (with_reducible refine (laws_szJacobi.calls a0_0 _ _ l0_1 _ _ l0_2 1048576 t705 _ ?side1 ?side2 ?side3 ?side4 A3.out).mono ?_); (case side1 => exact uC ((Kd.C_below HR0_1.out HB.out))); (case side2 => exact HC0_1.out); (case side3 => exact uC ((Kd.C_below HR0_2.out HB.out))); (case side4 => exact HC0_2.out); rintro e w7 ⟨rfl, hb⟩; refine ⟨_, rfl, ?_⟩; have n0_ := xB BK704 hb; have n1_ := xH HB hb; clear BK704 HB; have BK704 := n0_; have HB := n1_; clear n0_ n1_; (try clear hb); (try clear hb2); (try clear hk); (try clear hi)))
  go_ret
  exact ⟨by first | rfl | (simp [errW_none, errW_some] <;> rfl) | (simp [*, errW_none, errW_some] <;> rfl), uH HB.out⟩
 ·rw [if_neg c4] at H
  have c4b0 : decide (t705 < 0) = false := decide_eq_false c4
  clear c4
  replace H := Option.bind_eq_some_iff.mp H
  obtain ⟨⟨t706, t707, t710⟩, A80, H⟩ := H
  replace H : ((spec_ChristoffelAt.f k t706 t707 t710 a1).bind fun bt713 => ((laws_toJacobi.f k a0_0 l0_1 l0_2).bind fun bt715 => ((impl_ChristoffelAt.f k bt715.1 bt715.2.1 bt715.2.2 a1).bind fun bt723 => (if bt723.1 = bt713.1 then (laws_FnExactChristoffelAt.j0 k (bt723.2 != bt713.2) a0_0 l0_1 l0_2 bt715.1 bt715.2.1 bt715.2.2) else (laws_FnExactChristoffelAt.j0 k true a0_0 l0_1 l0_2 bt715.1 bt715.2.1 bt715.2.2))))) = some r := H
  have A8 := zA A80
  clear A80
  replace H := Option.bind_eq_some_iff.mp H
  obtain ⟨⟨t713, t714⟩, A90, H⟩ := H
  replace H : ((laws_toJacobi.f k a0_0 l0_1 l0_2).bind fun bt715 => ((impl_ChristoffelAt.f k bt715.1 bt715.2.1 bt715.2.2 a1).bind fun bt723 => (if bt723.1 = t713 then (laws_FnExactChristoffelAt.j0 k (bt723.2 != t714) a0_0 l0_1 l0_2 bt715.1 bt715.2.1 bt715.2.2) else (laws_FnExactChristoffelAt.j0 k true a0_0 l0_1 l0_2 bt715.1 bt715.2.1 bt715.2.2)))) = some r := H
  have A9 := zA A90
  clear A90
  replace H := Option.bind_eq_some_iff.mp H
  obtain ⟨⟨t715, t716, t719⟩, A100, H⟩ := H
  replace H : ((impl_ChristoffelAt.f k t715 t716 t719 a1).bind fun bt723 => (if bt723.1 = t713 then (laws_FnExactChristoffelAt.j0 k (bt723.2 != t714) a0_0 l0_1 l0_2 t715 t716 t719) else (laws_FnExactChristoffelAt.j0 k true a0_0 l0_1 l0_2 t715 t716 t719))) = some r := H
  have A10 := zA A100
  clear A100
  replace H := Option.bind_eq_some_iff.mp H
  obtain ⟨⟨t723, t724⟩, A110, H⟩ := H
  replace H : (if t723 = t713 then (laws_FnExactChristoffelAt.j0 k (t724 != t714) a0_0 l0_1 l0_2 t715 t716 t719) else (laws_FnExactChristoffelAt.j0 k true a0_0 l0_1 l0_2 t715 t716 t719)) = some r := H
  have A11 := zA A110
  clear A110
  have HC12 := zA H
  clear H
  go_enter Try.func6, Try.ntmps6
  go_upto_region 8 with (first | ((with_reducible refine gate_dst (N := 2) rfl ?_); refine box_event ?hg (N := 2) ?hd (cs := #[.int .i64 a0_0, .slice A0_1 l0_1.length c0_1, .slice A0_2 l0_2.length c0_2]) (t := 43) ?hr ?_; (case hd => rfl); (case hg => rfl); (case hr => first | (go_simp; done) | (go_simp; rfl)); intro gb704 hg w13 hbox hb; have n0_ := xH HB hb; have n1_ := zA (hbox); have n2_ := zA ((by rw [hg]; exact (below_size (uH HB.out)) : w.heap.size ≤ gb704)); have n3_ := zA ((by rw [hg]; exact (below_size (uH HB.out)) : w.heap.size ≤ gb704)); clear HB; have HB := n0_; have BK704 := n1_; have GW704 := n2_; have GE704 := n3_; have := geI GE704; clear n0_ n1_ n2_ n3_ hb hbox hg; have hcz14_0 : w13.cell? ⟨gb704, 0, none⟩ = some (.int .i64 a0_0) := (blk_cell BK704.out 0).trans rfl; have hcz14_1 : w13.cell? ⟨gb704, 1, none⟩ = some (.slice A0_1 l0_1.length c0_1) := (blk_cell BK704.out 1).trans rfl; have hcz14_2 : w13.cell? ⟨gb704, 2, none⟩ = some (.slice A0_2 l0_2.length c0_2) := (blk_cell BK704.out 2).trans rfl; have hfz14_0 := blk_frozen BK704.out 0; have hfz14_1 := blk_frozen BK704.out 1; have hfz14_2 := blk_frozen BK704.out 2) | ((with_reducible refine gate_callee (f := 27) rfl ?_); refine goesL_ (some 13) rfl rfl Try.func27 (by kernel_rfl) rfl #[.agg #[.int .i64 a0_0, .slice A0_1 l0_1.length c0_1, .slice A0_2 l0_2.length c0_2], .int .i64 1048576] rfl (by (try simp only [la, lb, lc]); first | done | rfl | (simp only [ld, le]; rfl)) ?_; (with_reducible refine (laws_szJacobi.calls a0_0 _ _ l0_1 _ _ l0_2 1048576 t705 _ ?side1 ?side2 ?side3 ?side4 A3.out).mono ?_); (case side1 => exact uC ((Kd.C_below HR0_1.out HB.out))); (case side2 => exact HC0_1.out); (case side3 => exact uC ((Kd.C_below HR0_2.out HB.out))); (case side4 => exact HC0_2.out); rintro e w15 ⟨rfl, hb⟩; refine ⟨_, rfl, ?_⟩; have n0_ := xB BK704 hb; have n1_ := xH HB hb; clear BK704 HB; have BK704 := n0_; have HB := n1_; clear n0_ n1_; (try clear hb); (try clear hb2); (try clear hk); (try clear hi); have hcz16_0 : w15.cell? ⟨gb704, 0, none⟩ = some (.int .i64 a0_0) := (blk_cell BK704.out 0).trans rfl; have hcz16_1 : w15.cell? ⟨gb704, 1, none⟩ = some (.slice A0_1 l0_1.length c0_1) := (blk_cell BK704.out 1).trans rfl; have hcz16_2 : w15.cell? ⟨gb704, 2, none⟩ = some (.slice A0_2 l0_2.length c0_2) := (blk_cell BK704.out 2).trans rfl; have hfz16_0 := blk_frozen BK704.out 0; have hfz16_1 := blk_frozen BK704.out 1; have hfz16_2 := blk_frozen BK704.out 2) | ((with_reducible refine gate_callee (f := 29) rfl ?_); refine goesL_ (some 18) rfl rfl Try.func29 (by kernel_rfl) rfl #[.agg #[.int .i64 a0_0, .slice A0_1 l0_1.length c0_1, .slice A0_2 l0_2.length c0_2]] rfl (by (try simp only [la, lb, lc]); first | done | rfl | (simp only [ld, le]; rfl)) ?_; (with_reducible refine (laws_toJacobi.calls k a0_0 _ _ l0_1 _ _ l0_2 t706 t707 t710 _ ?side1 ?side2 ?side3 ?side4 A8.out).mono ?_); (case side1 => exact uC ((Kd.C_below HR0_1.out HB.out))); (case side2 => exact HC0_1.out); (case side3 => exact uC ((Kd.C_below HR0_2.out HB.out))); (case side4 => exact HC0_2.out); rintro e w17 ⟨v708, v711, rfl, ho0, ho1, hb⟩; refine ⟨_, rfl, ?_⟩; have n0_ := zA (Kd.R_lower ho0 (below_size (uH HB.out))); have n1_ := zA (Kd.R_lower ho1 (below_size (uH HB.out))); have n2_ := xB BK704 hb; have n3_ := xH HB hb; clear BK704 HB; have HO709 := n0_; have HO712 := n1_; have BK704 := n2_; have HB := n3_; clear n0_ n1_ n2_ n3_; (try clear hb); (try clear hb2); (try clear hk); (try clear hi); (try clear ho0); (try clear ho1); obtain ⟨Ao18, co18, eo18⟩ := Kd.R_slice HO709.out; subst eo18; obtain ⟨Ao19, co19, eo19⟩ := Kd.R_slice HO712.out; subst eo19) | ((with_reducible refine gate_callee (f := 32) rfl ?_); refine goesL_ (some 20) rfl rfl Try.func32 (by kernel_rfl) rfl #[.agg #[.int .i64 t706, .slice Ao18 t707.length co18, .slice Ao19 t710.length co19], .int .i64 a1] rfl (by (try simp only [la, lb, lc]); first | done | rfl | (simp only [ld, le]; rfl)) ?_; (with_reducible refine (spec_ChristoffelAt.calls k t706 _ _ t707 _ _ t710 a1 t713 t714 _ ?side1 ?side2 ?side3 ?side4 A9.out).mono ?_); (case side1 => exact uC ((Kd.R_reads' HO709.out).2.2)); (case side2 => exact (Kd.R_reads' HO709.out).2.1); (case side3 => exact uC ((Kd.R_reads' HO712.out).2.2)); (case side4 => exact (Kd.R_reads' HO712.out).2.1); rintro e w20 ⟨rfl, hb⟩; refine ⟨_, rfl, ?_⟩; have n0_ := xR HO709 hb; have n1_ := xR HO712 hb; have n2_ := xB BK704 hb; have n3_ := xH HB hb; clear HO709 HO712 BK704 HB; have HO709 := n0_; have HO712 := n1_; have BK704 := n2_; have HB := n3_; clear n0_ n1_ n2_ n3_; (try clear hb); (try clear hb2); (try clear hk); (try clear hi); have hcz21_0 : w20.cell? ⟨gb704, 0, none⟩ = some (.int .i64 a0_0) := (blk_cell BK704.out 0).trans rfl; have hcz21_1 : w20.cell? ⟨gb704, 1, none⟩ = some (.slice A0_1 l0_1.length c0_1) := (blk_cell BK704.out 1).trans rfl; have hcz21_2 : w20.cell? ⟨gb704, 2, none⟩ = some (.slice A0_2 l0_2.length c0_2) := (blk_cell BK704.out 2).trans rfl; have hfz21_0 := blk_frozen BK704.out 0; have hfz21_1 := blk_frozen BK704.out 1; have hfz21_2 := blk_frozen BK704.out 2) | ((with_reducible refine gate_callee (f := 29) rfl ?_); refine goesL_ (some 24) rfl rfl Try.func29 (by kernel_rfl) rfl #[.agg #[.int .i64 a0_0, .slice A0_1 l0_1.length c0_1, .slice A0_2 l0_2.length c0_2]] rfl (by (try simp only [la, lb, lc]); first | done | rfl | (simp only [ld, le]; rfl)) ?_; (with_reducible refine (laws_toJacobi.calls k a0_0 _ _ l0_1 _ _ l0_2 t715 t716 t719 _ ?side1 ?side2 ?side3 ?side4 A10.out).mono ?_); (case side1 => exact uC ((Kd.C_below HR0_1.out HB.out))); (case side2 => exact HC0_1.out); (case side3 => exact uC ((Kd.C_below HR0_2.out HB.out))); (case side4 => exact HC0_2.out); rintro e w22 ⟨v717, v720, rfl, ho0, ho1, hb⟩; refine ⟨_, rfl, ?_⟩; have n0_ := zA (Kd.R_mono (Kd.R_told (Kd.R_told (Kd.R_old (uR HO709.out) hb) (Kd.R_base ho0)) (Kd.R_base ho1)) (fun _ h_ => h_.1)); have n1_ := zA (Kd.R_mono (Kd.R_told (Kd.R_told (Kd.R_old (uR HO712.out) hb) (Kd.R_base ho0)) (Kd.R_base ho1)) (fun _ h_ => h_.1)); have n2_ := zA (Kd.R_lower (Kd.R_new' (Kd.R_new' ho0 (Kd.R_lt (uR HO709.out))) (Kd.R_lt (uR HO712.out))) (below_size (uH HB.out))); have n3_ := zA (Kd.R_lower (Kd.R_new' (Kd.R_new' ho1 (Kd.R_lt (uR HO709.out))) (Kd.R_lt (uR HO712.out))) (below_size (uH HB.out))); have n4_ := xB BK704 hb; have n5_ := xH HB hb; clear HO709 HO712 BK704 HB; have HO709 := n0_; have HO712 := n1_; have HO718 := n2_; have HO721 := n3_; have BK704 := n4_; have HB := n5_; clear n0_ n1_ n2_ n3_ n4_ n5_; (try clear hb); (try clear hb2); (try clear hk); (try clear hi); (try clear ho0); (try clear ho1)) | ((with_reducible refine gate_dst (N := 8) rfl ?_); refine box_event ?hg (N := 8) ?hd (cs := #[.int .i64 0, .slice none 0 0, .slice none 0 0]) (t := 46) ?hr ?_; (case hd => rfl); (case hg => rfl); (case hr => first | (go_simp; done) | (go_simp; rfl)); intro gb722 hg w23 hbox hb; have n0_ := xR HO709 hb; have n1_ := xR HO712 hb; have n2_ := xR HO718 hb; have n3_ := xR HO721 hb; have n4_ := xB BK704 hb; have n5_ := xH HB hb; have n6_ := zA (hbox); have n7_ := zA ((by rw [hg]; exact (below_size (uH HB.out)) : w.heap.size ≤ gb722)); have n8_ := zA ((by rw [hg]; exact (below_size (uH HB.out)) : w.heap.size ≤ gb722)); have n9_ := zA ((by rw [hg]; exact neL BK704 : gb704 ≠ gb722)); have n10_ := zA ((by rw [hg]; exact neG BK704 : gb722 ≠ gb704)); clear HO709 HO712 HO718 HO721 BK704 HB; have HO709 := n0_; have HO712 := n1_; have HO718 := n2_; have HO721 := n3_; have BK704 := n4_; have HB := n5_; have BK722 := n6_; have GW722 := n7_; have GE722 := n8_; have := geI GE722; have NB704_722 := n9_; have NB722_704 := n10_; clear n0_ n1_ n2_ n3_ n4_ n5_ n6_ n7_ n8_ n9_ n10_ hb hbox hg; have hnb24 := NB722_704.out; have hnc24 := NB704_722.out; have hcz25_0 : w23.cell? ⟨gb722, 0, none⟩ = some (.int .i64 0) := (blk_cell BK722.out 0).trans rfl; have hcz25_1 : w23.cell? ⟨gb722, 1, none⟩ = some (.slice none 0 0) := (blk_cell BK722.out 1).trans rfl; have hcz25_2 : w23.cell? ⟨gb722, 2, none⟩ = some (.slice none 0 0) := (blk_cell BK722.out 2).trans rfl; have hfz25_0 := blk_frozen BK722.out 0; have hfz25_1 := blk_frozen BK722.out 1; have hfz25_2 := blk_frozen BK722.out 2; obtain ⟨Ao26, co26, eo26⟩ := Kd.R_slice HO718.out; subst eo26; obtain ⟨Ao27, co27, eo27⟩ := Kd.R_slice HO721.out; subst eo27) | ((with_reducible refine gate_callee (f := 33) rfl ?_); refine goesL_ (some 28) rfl rfl Try.func33 (by kernel_rfl) rfl #[.agg #[.int .i64 t715, .slice Ao26 t716.length co26, .slice Ao27 t719.length co27], .int .i64 a1] rfl (by (try simp only [la, lb, lc]); first | done | rfl | (simp only [ld, le]; rfl)) ?_; (with_reducible refine (impl_ChristoffelAt.calls k t715 _ _ t716 _ _ t719 a1 t723 t724 _ ?side1 ?side2 ?side3 ?side4 A11.out).mono ?_); (case side1 => refine (Kd.R_reads' (e := 2) (base := w.heap.size) (ok := fun k_ => ((some k_ ≠ (.slice Ao27 t719.length co27 : Value).ownBlock ∧ some k_ ≠ (.slice Ao18 t707.length co18 : Value).ownBlock) ∧ some k_ ≠ (.slice Ao19 t710.length co19 : Value).ownBlock)) (n := t716.length) (c := co26) ?_).2.2; exact (uR ((Kd.R_mono (Kd.R_far (p := ⟨gb722, 2, none⟩) (Kd.R_far (p := ⟨gb722, 1, none⟩) (Kd.R_far (p := ⟨gb722, 0, none⟩) (Kd.R_types HO718.out BK722.out (by decide)) (fun _ hk => hk.2) (.int .i64 t715)) (fun _ hk => hk.2) (.slice Ao26 t716.length co26)) (fun _ hk => hk.2) (.slice Ao27 t719.length co27)) (fun _ h_ => h_.1))))); (case side2 => exact (Kd.R_reads' HO718.out).2.1); (case side3 => refine (Kd.R_reads' (e := 2) (base := w.heap.size) (ok := fun k_ => ((some k_ ≠ (.slice Ao26 t716.length co26 : Value).ownBlock ∧ some k_ ≠ (.slice Ao18 t707.length co18 : Value).ownBlock) ∧ some k_ ≠ (.slice Ao19 t710.length co19 : Value).ownBlock)) (n := t719.length) (c := co27) ?_).2.2; exact (uR ((Kd.R_mono (Kd.R_far (p := ⟨gb722, 2, none⟩) (Kd.R_far (p := ⟨gb722, 1, none⟩) (Kd.R_far (p := ⟨gb722, 0, none⟩) (Kd.R_types HO721.out BK722.out (by decide)) (fun _ hk => hk.2) (.int .i64 t715)) (fun _ hk => hk.2) (.slice Ao26 t716.length co26)) (fun _ hk => hk.2) (.slice Ao27 t719.length co27)) (fun _ h_ => h_.1))))); (case side4 => exact (Kd.R_reads' HO721.out).2.1); rintro e w28 ⟨rfl, hb⟩; refine ⟨_, rfl, ?_⟩; have n0_ := zA (Kd.R_below (uR ((Kd.R_mono (Kd.R_far (p := ⟨gb722, 2, none⟩) (Kd.R_far (p := ⟨gb722, 1, none⟩) (Kd.R_far (p := ⟨gb722, 0, none⟩) (Kd.R_types HO709.out BK722.out (by decide)) (fun _ hk => hk.2) (.int .i64 t715)) (fun _ hk => hk.2) (.slice Ao26 t716.length co26)) (fun _ hk => hk.2) (.slice Ao27 t719.length co27)) (fun _ h_ => h_.1)))) hb); have n1_ := zA (Kd.R_below (uR ((Kd.R_mono (Kd.R_far (p := ⟨gb722, 2, none⟩) (Kd.R_far (p := ⟨gb722, 1, none⟩) (Kd.R_far (p := ⟨gb722, 0, none⟩) (Kd.R_types HO712.out BK722.out (by decide)) (fun _ hk => hk.2) (.int .i64 t715)) (fun _ hk => hk.2) (.slice Ao26 t716.length co26)) (fun _ hk => hk.2) (.slice Ao27 t719.length co27)) (fun _ h_ => h_.1)))) hb); have n2_ := zA (Kd.R_below (uR ((Kd.R_mono (Kd.R_far (p := ⟨gb722, 2, none⟩) (Kd.R_far (p := ⟨gb722, 1, none⟩) (Kd.R_far (p := ⟨gb722, 0, none⟩) (Kd.R_types HO718.out BK722.out (by decide)) (fun _ hk => hk.2) (.int .i64 t715)) (fun _ hk => hk.2) (.slice Ao26 t716.length co26)) (fun _ hk => hk.2) (.slice Ao27 t719.length co27)) (fun _ h_ => h_.1)))) hb); have n3_ := zA (Kd.R_below (uR ((Kd.R_mono (Kd.R_far (p := ⟨gb722, 2, none⟩) (Kd.R_far (p := ⟨gb722, 1, none⟩) (Kd.R_far (p := ⟨gb722, 0, none⟩) (Kd.R_types HO721.out BK722.out (by decide)) (fun _ hk => hk.2) (.int .i64 t715)) (fun _ hk => hk.2) (.slice Ao26 t716.length co26)) (fun _ hk => hk.2) (.slice Ao27 t719.length co27)) (fun _ h_ => h_.1)))) hb); have n4_ := zA (blk_below (g := gb704) (o := .cells #[.int .i64 a0_0, .slice A0_1 l0_1.length c0_1, .slice A0_2 l0_2.length c0_2] 43 (0, 0)) (by (with_reducible repeat (first | refine blk_drewN ?_ _ | refine blk_drew ?_ | refine blk_alloc ?_ _)); refine blk_far ?_ NB704_722.out _; (with_reducible repeat (first | refine blk_drewN ?_ _ | refine blk_drew ?_ | refine blk_alloc ?_ _)); refine blk_far ?_ NB704_722.out _; (with_reducible repeat (first | refine blk_drewN ?_ _ | refine blk_drew ?_ | refine blk_alloc ?_ _)); refine blk_far ?_ NB704_722.out _; (with_reducible repeat (first | refine blk_drewN ?_ _ | refine blk_drew ?_ | refine blk_alloc ?_ _)); exact BK704.out) hb); have n5_ := zA (blk_below (g := gb722) (o := .cells #[.int .i64 t715, .slice Ao26 t716.length co26, .slice Ao27 t719.length co27] 46 (0, 0)) (by (with_reducible repeat (first | refine blk_drewN ?_ _ | refine blk_drew ?_ | refine blk_alloc ?_ _)); refine blk_put (cs := #[.int .i64 t715, .slice Ao26 t716.length co26, .slice none 0 0]) ?_ 2 _ rfl; (with_reducible repeat (first | refine blk_drewN ?_ _ | refine blk_drew ?_ | refine blk_alloc ?_ _)); refine blk_put (cs := #[.int .i64 t715, .slice none 0 0, .slice none 0 0]) ?_ 1 _ rfl; (with_reducible repeat (first | refine blk_drewN ?_ _ | refine blk_drew ?_ | refine blk_alloc ?_ _)); refine blk_put (cs := #[.int .i64 0, .slice none 0 0, .slice none 0 0]) ?_ 0 _ rfl; (with_reducible repeat (first | refine blk_drewN ?_ _ | refine blk_drew ?_ | refine blk_alloc ?_ _)); exact BK722.out) hb); have n6_ := xH HB hb; clear HO709 HO712 HO718 HO721 BK704 BK722 HB; have HO709 := n0_; have HO712 := n1_; have HO718 := n2_; have HO721 := n3_; have BK704 := n4_; have BK722 := n5_; have HB := n6_; clear n0_ n1_ n2_ n3_ n4_ n5_ n6_; (try clear hb); (try clear hb2); (try clear hk); (try clear hi)))
  (try simp only [Act.put, ls, lz, ln])
  go_cut [38] (fun v38 wc => ∃ (kq : Nat) (x38_11 : Bool), v38 = .bool x38_11 ∧ Aside0 (laws_FnExactChristoffelAt.j0 kq x38_11 a0_0 l0_1 l0_2 t715 t716 t719 = some r) ∧ Aside0 (kq ≤ k) ∧ Aside0 (Kd.R (Kd.int .i64) 2 wc w.heap.size (fun k_ => some k_ ≠ ((.slice Ao27 t719.length co27) : Value).ownBlock) (.slice Ao26 t716.length co26) t716) ∧ Aside0 (Kd.R (Kd.int .i64) 2 wc w.heap.size (fun k_ => some k_ ≠ ((.slice Ao26 t716.length co26) : Value).ownBlock) (.slice Ao27 t719.length co27) t719) ∧ Aside0 (wc.heap[gb704]? = some (.cells #[.int .i64 a0_0, (.slice A0_1 l0_1.length c0_1), (.slice A0_2 l0_2.length c0_2)] 43 (0, 0))) ∧ Aside0 (wc.heap[gb722]? = some (.cells #[.int .i64 t715, (.slice Ao26 t716.length co26), (.slice Ao27 t719.length co27)] 46 (0, 0))) ∧ Aside0 (Below w.heap.size w wc))
  case first =>
   have H := HC12.out
   clear HC12
   by_cases c29 : t723 = t713
   ·rw [if_pos c29] at H
    have c29b0 : (t723 == t713) = true := beq_iff_eq.mpr c29
    have c29b1 : (t723 != t713) = false := bne_eq_false_iff_eq.mpr c29
    clear c29
    (first | rw [c29b0] | (simp only [i64_w, i32_w]; rw [c29b0]) | skip)
    have H' := zA H
    clear H
    go_wp2
    go_meet
    case rel => exact ⟨_, ((t724 != t714)), (by first | rfl | (simp; done) | (simp [*]; done)), H', ⟨by first | omega | exact Nat.le_refl _⟩, ⟨uR (Kd.R_mono HO718.out (fun _ hk => hk.1.1))⟩, ⟨uR (Kd.R_mono HO721.out (fun _ hk => hk.1.1))⟩, ⟨uB BK704.out⟩, ⟨uB BK722.out⟩, ⟨uH HB.out⟩⟩
   ·rw [if_neg c29] at H
    have c29b0 : (t723 == t713) = false := beq_eq_false_iff_ne.mpr c29
    have c29b1 : (t723 != t713) = true := bne_iff_ne.mpr c29
    (first | rw [c29b0] | (simp only [i64_w, i32_w]; rw [c29b0]) | skip)
    have H' := zA H
    clear H
    go_wp2
    go_meet
    case rel => exact ⟨_, (true), (by first | rfl | (simp; done) | (simp [*]; done)), H', ⟨by first | omega | exact Nat.le_refl _⟩, ⟨uR (Kd.R_mono HO718.out (fun _ hk => hk.1.1))⟩, ⟨uR (Kd.R_mono HO721.out (fun _ hk => hk.1.1))⟩, ⟨uB BK704.out⟩, ⟨uB BK722.out⟩, ⟨uH HB.out⟩⟩
  case rest =>
   clear HC12
   try clear c2
   try clear p2
   try clear c3
   try clear c4
   try clear c4b0
   try clear c6
   try clear c24
   try clear c27
   try clear c29
   try clear c29b0
   try clear c29b1
   try clear hcz14_0
   try clear hcz14_1
   try clear hcz14_2
   try clear hcz16_0
   try clear hcz16_1
   try clear hcz16_2
   try clear hcz21_0
   try clear hcz21_1
   try clear hcz21_2
   try clear hcz25_0
   try clear hcz25_1
   try clear hcz25_2
   try clear hcz6_0
   try clear hcz6_1
   try clear hcz6_2
   try clear hfz14_0
   try clear hfz14_1
   try clear hfz14_2
   try clear hfz16_0
   try clear hfz16_1
   try clear hfz16_2
   try clear hfz21_0
   try clear hfz21_1
   try clear hfz21_2
   try clear hfz25_0
   try clear hfz25_1
   try clear hfz25_2
   try clear hfz6_0
   try clear hfz6_1
   try clear hfz6_2
   obtain ⟨kq, x38_11, rfl, HA, HJ11, HO_723001, HO_723002, BK704, BK722, HB⟩ := hcut
   cases kq with
   | zero => exact absurd HA.out (by simp [laws_FnExactChristoffelAt.j0])
   | succ kj11 =>
    have H := HA.out
    clear HA
    simp only [laws_FnExactChristoffelAt.j0] at H
    by_cases c30 : x38_11 = true
    ·subst c30
     have H1 : (some false) = some r := by rw [if_pos rfl] at H; exact H
     clear H
     have H := H1
     clear H1
     rw [HRT.out] at H
     exact absurd H (by simp)
    ·replace c30 := Bool.eq_false_iff.mpr c30
     subst c30
     have H1 : ((laws_toJacobi.f kj11 a0_0 l0_1 l0_2).bind fun bt725 => ((laws_eqJacobi.f kj11 t715 t716 t719 bt725.1 bt725.2.1 bt725.2.2).bind fun t732 => (if t732 = true then (some true) else (some false)))) = some r := by rw [if_neg (show ¬ (false = true) by decide)] at H; exact H
     clear H
     have H := H1
     clear H1
     replace H := Option.bind_eq_some_iff.mp H
     obtain ⟨⟨t725, t726, t729⟩, A310, H⟩ := H
     replace H : ((laws_eqJacobi.f kj11 t715 t716 t719 t725 t726 t729).bind fun t732 => (if t732 = true then (some true) else (some false))) = some r := H
     have A31 := zA A310
     clear A310
     replace H := Option.bind_eq_some_iff.mp H
     obtain ⟨t732, A320, H⟩ := H
     replace H : (if t732 = true then (some true) else (some false)) = some r := H
     have A32 := zA A320
     clear A320
     by_cases c33 : t732 = true
     ·subst c33
      have H1 : (some true) = some r := by rw [if_pos rfl] at H; exact H
      clear H
      have H := H1
      clear H1
      obtain rfl := Option.some.inj H
      try go_wp2
      have n0_ := zA (Kd.R_drew HO_723001.out)
      have n1_ := zA (Kd.R_drew HO_723002.out)
      have n2_ := zA (blk_drew BK704.out)
      have n3_ := zA (blk_drew BK722.out)
      have n4_ := zA (below_drew1 HB.out)
      clear HO_723001 HO_723002 BK704 BK722 HB
      have HO_723001 := n0_; have HO_723002 := n1_; have BK704 := n2_; have BK722 := n3_; have HB := n4_
      clear n0_ n1_ n2_ n3_ n4_
      refine start_ (n := 5) (S := fun w' => w'.cell? ⟨gb722, 0, none⟩ = some (.int .i64 t715) ∧ w'.cell? ⟨gb722, 1, none⟩ = some (.slice Ao26 t716.length co26) ∧ w'.cell? ⟨gb722, 2, none⟩ = some (.slice Ao27 t719.length co27) ∧ w'.cell? ⟨gb704, 0, none⟩ = some (.int .i64 a0_0) ∧ w'.cell? ⟨gb704, 1, none⟩ = some (.slice A0_1 l0_1.length c0_1) ∧ w'.cell? ⟨gb704, 2, none⟩ = some (.slice A0_2 l0_2.length c0_2)) (ds := []) #[false, false, false, false, false] (by kernel_rfl) rfl rfl ⟨(blk_cell BK722.out 0).trans rfl, (blk_cell BK722.out 1).trans rfl, (blk_cell BK722.out 2).trans rfl, (blk_cell BK704.out 0).trans rfl, (blk_cell BK704.out 1).trans rfl, (blk_cell BK704.out 2).trans rfl⟩ (fun hHeld => ?_)
      generalize wc.drew = w34 at HO_723001 HO_723002 BK704 BK722 HB hHeld ⊢
      refine take_ (i := 0) (N := some 39) (v := ?_) (a' := ?_) (bl 5 1) rfl rfl (by kernel_rfl) (fun _ _ _ h => h) (Or.inl ⟨by rfl, ?_⟩) hHeld ?_ ?_
      rotate_left
      ·rintro w' ⟨s0, s1, s2, s3, s4, s5⟩
       go_simp
       with_reducible rfl
      rotate_left
      ·simp only [Act.put, ls, lz, ln, i64_w, i32_w]
       rfl
      refine take_ (i := 1) (N := some 40) (v := ?_) (a' := ?_) (bl 5 3) rfl rfl (by kernel_rfl) (fun _ _ _ h => h) (Or.inl ⟨by rfl, ?_⟩) hHeld ?_ ?_
      rotate_left
      ·rintro w' ⟨s0, s1, s2, s3, s4, s5⟩
       go_simp
       with_reducible rfl
      rotate_left
      ·simp only [Act.put, ls, lz, ln, i64_w, i32_w]
       rfl
      refine one_ (i := 2) (N := some 41) (bl 5 7) rfl rfl (by kernel_rfl) (by decide) (fun K hK => ?_)
      refine goes_ Try.func29 (by kernel_rfl) rfl #[.agg #[.int .i64 a0_0, .slice A0_1 l0_1.length c0_1, .slice A0_2 l0_2.length c0_2]] (by rfl) rfl rfl (by (try simp only [la, lb, lc]); first | done | rfl | (simp only [ld, le]; rfl)) ?_
      with_reducible refine (laws_toJacobi.calls kj11 a0_0 _ _ l0_1 _ _ l0_2 t725 t726 t729 _ ?side1 ?side2 ?side3 ?side4 A31.out).mono ?_
      (case side1 => exact uC ((Kd.C_below HR0_1.out HB.out)))
      (case side2 => exact HC0_1.out)
      (case side3 => exact uC ((Kd.C_below HR0_2.out HB.out)))
      (case side4 => exact HC0_2.out)
      rintro e w35 ⟨v727, v730, rfl, ho0, ho1, hb⟩
      refine ⟨_, rfl, ?_⟩
      have n0_ := zA (Kd.R_mono (Kd.R_told (Kd.R_told (Kd.R_old (uR HO_723001.out) hb) (Kd.R_base ho0)) (Kd.R_base ho1)) (fun _ h_ => h_.1))
      have n1_ := zA (Kd.R_mono (Kd.R_told (Kd.R_told (Kd.R_old (uR HO_723002.out) hb) (Kd.R_base ho0)) (Kd.R_base ho1)) (fun _ h_ => h_.1))
      have n2_ := zA (Kd.R_lower (Kd.R_new' (Kd.R_new' ho0 (Kd.R_lt (uR HO_723001.out))) (Kd.R_lt (uR HO_723002.out))) (below_size (uH HB.out)))
      have n3_ := zA (Kd.R_lower (Kd.R_new' (Kd.R_new' ho1 (Kd.R_lt (uR HO_723001.out))) (Kd.R_lt (uR HO_723002.out))) (below_size (uH HB.out)))
      have n4_ := xB BK704 hb
      have n5_ := xB BK722 hb
      have n6_ := xH HB hb
      clear HO_723001 HO_723002 BK704 BK722 HB
      have HO_723001 := n0_; have HO_723002 := n1_; have HO728 := n2_; have HO731 := n3_; have BK704 := n4_; have BK722 := n5_; have HB := n6_
      clear n0_ n1_ n2_ n3_ n4_ n5_ n6_
      (try clear hb); (try clear hb2); (try clear hk); (try clear hi); (try clear ho0); (try clear ho1)
      obtain ⟨Ao36, co36, eo36⟩ := Kd.R_slice HO728.out
      (first | subst eo36 | (injection eo36 with f1_ f2_ f3_; have f4_ := f1_.symm; have f5_ := f3_.symm; clear f1_ f2_ f3_; subst f4_; subst f5_))
      obtain ⟨Ao37, co37, eo37⟩ := Kd.R_slice HO731.out
      (first | subst eo37 | (injection eo37 with f1_ f2_ f3_; have f4_ := f1_.symm; have f5_ := f3_.symm; clear f1_ f2_ f3_; subst f4_; subst f5_))
      refine hK.out _ _ ⟨(blk_cell BK722.out 0).trans rfl, (blk_cell BK722.out 1).trans rfl, (blk_cell BK722.out 2).trans rfl, (blk_cell BK704.out 0).trans rfl, (blk_cell BK704.out 1).trans rfl, (blk_cell BK704.out 2).trans rfl⟩ (fun hHeld => ?_)
      clear hK K
      refine no_ 41 ?_
      refine one_ (i := 3) (N := some 42) (bl 5 15) rfl rfl (by kernel_rfl) (by decide) (fun K hK => ?_)
      refine goes_ Try.func31 (by kernel_rfl) rfl #[.agg #[.int .i64 t715, .slice Ao26 t716.length co26, .slice Ao27 t719.length co27], .agg #[.int .i64 t725, .slice Ao36 t726.length co36, .slice Ao37 t729.length co37]] (by rfl) rfl rfl (by (try simp only [la, lb, lc]); first | done | rfl | (simp only [ld, le]; rfl)) ?_
      with_reducible refine (laws_eqJacobi.calls kj11 t715 _ _ t716 _ _ t719 t725 _ _ t726 _ _ t729 true _ ?side1 ?side2 ?side3 ?side4 ?side5 ?side6 ?side7 ?side8 A32.out).mono ?_
      (case side1 => exact uC ((Kd.R_reads' HO_723001.out).2.2))
      (case side2 => exact (Kd.R_reads' HO_723001.out).2.1)
      (case side3 => exact uC ((Kd.R_reads' HO_723002.out).2.2))
      (case side4 => exact (Kd.R_reads' HO_723002.out).2.1)
      (case side5 => exact uC ((Kd.R_reads' HO728.out).2.2))
      (case side6 => exact (Kd.R_reads' HO728.out).2.1)
      (case side7 => exact uC ((Kd.R_reads' HO731.out).2.2))
      (case side8 => exact (Kd.R_reads' HO731.out).2.1)
      rintro e w38 ⟨rfl, hb⟩
      refine ⟨_, rfl, ?_⟩
      have n0_ := xR HO_723001 hb
      have n1_ := xR HO_723002 hb
      have n2_ := xR HO728 hb
      have n3_ := xR HO731 hb
      have n4_ := xB BK704 hb
      have n5_ := xB BK722 hb
      have n6_ := xH HB hb
      clear HO_723001 HO_723002 HO728 HO731 BK704 BK722 HB
      have HO_723001 := n0_; have HO_723002 := n1_; have HO728 := n2_; have HO731 := n3_; have BK704 := n4_; have BK722 := n5_; have HB := n6_
      clear n0_ n1_ n2_ n3_ n4_ n5_ n6_
      (try clear hb); (try clear hb2); (try clear hk); (try clear hi)
      refine hK.out _ _ ⟨(blk_cell BK722.out 0).trans rfl, (blk_cell BK722.out 1).trans rfl, (blk_cell BK722.out 2).trans rfl, (blk_cell BK704.out 0).trans rfl, (blk_cell BK704.out 1).trans rfl, (blk_cell BK704.out 2).trans rfl⟩ (fun hHeld => ?_)
      clear hK K
      refine no_ 42 ?_
      refine pure_ (i := 4) (N := some 43) (v := ?_) (a' := ?_) (bl 5 31) rfl rfl (by kernel_rfl) (fun _ _ _ h => h) (Or.inl ⟨by rfl, ?_⟩) ?_ ?_
      rotate_left
      ·intro w'
       go_simp
       with_reducible rfl
      rotate_left
      ·simp only [Act.put, ls, lz, ln, i64_w, i32_w]
       rfl
      refine done_ (by kernel_rfl) ?_
      try go_wp2
      go_ret
      exact ⟨by first | rfl | (simp [errW_none, errW_some] <;> rfl) | (simp [*, errW_none, errW_some] <;> rfl), uH HB.out⟩
     ·replace c33 := Bool.eq_false_iff.mpr c33
      subst c33
      have H1 : (some false) = some r := by rw [if_neg (show ¬ (false = true) by decide)] at H; exact H
      clear H
      have H := H1
      clear H1
      rw [HRT.out] at H
      exact absurd H (by simp)

/-- THE ONE PURE STATEMENT of laws_FnExactChristoffelAt: yours. -/
def laws_FnExactChristoffelAt.Pure : Prop := ∀ (a0_0 : Int) (l0_1 : List Int) (l0_2 : List Int) (a1 : Int), (Lit.int .i64 a0_0).wf = true → l0_1.length ≤ maxLen → (∀ x ∈ l0_1, (Lit.int .i64 x).wf = true) → l0_2.length ≤ maxLen → (∀ x ∈ l0_2, (Lit.int .i64 x).wf = true) → (Lit.int .i64 a1).wf = true → ∃ k, laws_FnExactChristoffelAt.f k a0_0 l0_1 l0_2 a1 = some true
theorem laws_FnExactChristoffelAt.walk (P : laws_FnExactChristoffelAt.Pure) (a0_0 : Int) (a0_1 : Option Addr) (len0_1 cap0_1 : Nat) (z0_1 : List Int) (a0_2 : Option Addr) (len0_2 cap0_2 : Nat) (z0_2 : List Int) (a1 : Int) (w : World) (w0_0 : (Lit.int .i64 a0_0).wf = true) (w0_1 : (a0_1 = none ∧ len0_1 = 0 ∧ cap0_1 = 0 ∧ z0_1 = []) ∨ ∃ x, a0_1 = some x ∧ len0_1 ≤ cap0_1 ∧ cap0_1 ≤ maxLen ∧ z0_1.length = cap0_1 ∧ (∀ i, i < z0_1.length → w.cell? (x.add i) = some (.int .i64 (z0_1.getD i 0))) ∧ ∀ n ∈ z0_1, (Lit.int .i64 n).wf = true) (w0_2 : (a0_2 = none ∧ len0_2 = 0 ∧ cap0_2 = 0 ∧ z0_2 = []) ∨ ∃ x, a0_2 = some x ∧ len0_2 ≤ cap0_2 ∧ cap0_2 ≤ maxLen ∧ z0_2.length = cap0_2 ∧ (∀ i, i < z0_2.length → w.cell? (x.add i) = some (.int .i64 (z0_2.getD i 0))) ∧ ∀ n ∈ z0_2, (Lit.int .i64 n).wf = true) (w1 : (Lit.int .i64 a1).wf = true) :
  Calls Try.prog 6 #[.agg #[.int .i64 a0_0, .slice a0_1 len0_1 cap0_1, .slice a0_2 len0_2 cap0_2], .int .i64 a1] w fun e w' => e = .returned (.bool true) ∧ Below w.heap.size w w' := by
 obtain ⟨l0_1, rfl, hr0_1, hm0_1, hw0_1, hc0_1⟩ := ReadsInt.ofRowC w0_1
 obtain ⟨l0_2, rfl, hr0_2, hm0_2, hw0_2, hc0_2⟩ := ReadsInt.ofRowC w0_2
 obtain ⟨k, h⟩ := P a0_0 l0_1 l0_2 a1 w0_0 hm0_1 hw0_1 hm0_2 hw0_2 w1
 refine (laws_FnExactChristoffelAt.calls k a0_0 _ _ l0_1 _ _ l0_2 a1 true rfl w (Kd.C_of_reads (d := (0 : Int)) (h1 := fun _ => rfl) hr0_1) hc0_1 (Kd.C_of_reads (d := (0 : Int)) (h1 := fun _ => rfl) hr0_2) hc0_2 h).mono ?_
 rintro e w' ⟨rfl, hd⟩
 exact ⟨rfl, hd⟩

end Go.Proofs.Ytokkabgkjhpecaa.Pr
/- ChristoffelAt: for all arguments the program and the reference come to one value; no condition. -/
namespace Go.Proofs.Ytokkabgkjhpecaa.Pr
open Go.RowKit Go.Proofs.YtokkabgkjhpecaaW.PrintWords Go.Proofs.YtokkabgkjhpecaaW.PrintLast Go.Proofs.YtokkabgkjhpecaaW.PrintMore

/-- The weight that the Gauss rule has at x. -/
def chrF (p : Int) (a b : List Int) (x : Int) : Int :=
  (b.getD 0 0 * (valF p x (qPair p a b a.length).1 * invF p (valF p x (derF p (pPair p a b a.length).2)) % p)) % p
theorem ChristoffelAt_both (p : Int) (a b : List Int) (x : Int) (ha : Sm a.length) (hb : Sm b.length) :
    ∃ v : Int × Int, Ev (fun n => spec_ChristoffelAt.f n p a b x) v ∧ Ev (fun n => impl_ChristoffelAt.f n p a b x) v := by
  by_cases h : jacB p a b = true
  · obtain ⟨⟨⟨h4, h5⟩, h6⟩, h7, h8⟩ := jacB.all h
    have hp := jacB.pm h
    have hp2 := hp.two
    have hpt := hp.top
    have hw : wrap64 (p - 1) = p - 1 := wrap_id (by omega) (by omega)
    by_cases g : 0 ≤ x ∧ x < p
    · have hc : Ev (fun n => impl_jacobiCode.f n p a b (decide (0 ≤ x ∧ x < p))) 0 := ofCode (by unfold jacC; rw [if_pos h, if_pos (decide_eq_true g)]) ha hb
      have o1 := pPair_ok hp a b a.length
      have o2 := qPair_ok hp a b a.length
      have s1 : Sm (pPair p a b a.length).2.length := by have := o1.2.2; unfold Sm; omega
      have s2 : Sm (qPair p a b a.length).1.length := by have := o2.2.1; unfold Sm; omega
      have d1 := derF_len p (pPair p a b a.length).2
      have s3 : Sm (derF p (pPair p a b a.length).2).length := by unfold Sm at s1 ⊢; omega
      have n3 := derF_nm hp.pos (pPair p a b a.length).2
      have l3 : (pPair p a b a.length).2.length ≤ 1000 := by have := o1.2.2; omega
      have hsP := specPoly03_ev hp a b h7 h8.nm a.length (Nat.le_refl _) h5 h6
      have hsQ := specSecond_ev hp a b h7 h8.nm a.length (Nat.le_refl _) h5 h6
      have v1 := valF_in hp x (qPair p a b a.length).1
      have v2 := valF_in hp x (derF p (pPair p a b a.length).2)
      have v3 := invF_in hp (valF p x (derF p (pPair p a b a.length).2))
      have b0 := h8.nm.get (i := 0) (by omega)
      have er : rd b 0 = b.getD 0 0 := rd_nat b 0
      by_cases z1 : valF p x (pPair p a b a.length).2 = 0
      · by_cases z2 : valF p x (derF p (pPair p a b a.length).2) = 0
        · refine ⟨(0, 5), ?_, ?_⟩
          · unfold spec_ChristoffelAt.f
            rw [hw]
            exact Ev.bind (specJac_ev p a b ha hb) (Ev.pos h (Ev.bindE (in_eq _ _ _) (Ev.pos (decide_eq_true (by omega)) (Ev.bind hsP (Ev.bind (specAt_ev hp g _ o1.1.2 s1) (Ev.pos z1 (Ev.bind (specDer_ev hp _ o1.1.2 l3) (Ev.bind (specAt_ev hp g _ n3 s3) (Ev.pos z2 (Ev.now _))))))))))
          · unfold impl_ChristoffelAt.f
            refine Ev.bindE (a := p) rfl (Ev.bindE (has_eq p x) (Ev.bind hc (Ev.pos rfl (Ev.bindE (a := p) rfl (Ev.bind (implPolys_ev hp a b h7 h8.nm h5 h6) (Ev.bindE (size_eq p a b) ?_))))))
            rw [pAll_len, pAll_rd p a b (by omega)]
            exact Ev.pos (by omega) (Ev.pos (by omega) (Ev.bindE (implValue_eq hp g _ o1.1.2 s1) (Ev.pos z1 (Ev.bind (implDer_ev hp _ o1.1.2 l3) (Ev.bindE (implValue_eq hp g _ n3 s3) (Ev.pos z2 (Ev.now _)))))))
        · refine ⟨(chrF p a b x, 0), ?_, ?_⟩
          · unfold spec_ChristoffelAt.f
            rw [hw]
            refine Ev.bind (specJac_ev p a b ha hb) (Ev.pos h (Ev.bindE (in_eq _ _ _) (Ev.pos (decide_eq_true (by omega)) (Ev.bind hsP (Ev.bind (specAt_ev hp g _ o1.1.2 s1) (Ev.pos z1 (Ev.bind (specDer_ev hp _ o1.1.2 l3) (Ev.bind (specAt_ev hp g _ n3 s3) (Ev.neg z2 ?_)))))))))
            refine Ev.bind (Ev.cast (r := (b.getD 0 0 * valF p x (qPair p a b a.length).1 % p * invF p (valF p x (derF p (pPair p a b a.length).2))) % p) ?_ (mul_mod_mid _ _ _ _)) (Ev.now _)
            unfold spec_l07Christoffel.f
            refine Ev.bind hsP (Ev.bind (specDer_ev hp _ o1.1.2 l3) (Ev.bind (specAt_ev hp g _ n3 s3) (Ev.pos (by omega) (Ev.bind hsQ (Ev.bind (specAt_ev hp g _ o2.1.1 s2) (Ev.neg hp.ne (Ev.bind (specInv_ev hp v2) ?_)))))))
            have m1 := mulP hp b0.1 b0.2 v1.1 v1.2
            have e1 := emodB hp.pos (b.getD 0 0 * valF p x (qPair p a b a.length).1)
            have m2 := mulP hp e1.1 e1.2 v3.1 v3.2
            rw [er, wrap_id (x := b.getD 0 0 * valF p x (qPair p a b a.length).1) (by omega) (by omega), tmod_pos m1.1, wrap_id (by omega) (by omega), tmod_pos m2.1]
            exact Ev.now _
          · unfold impl_ChristoffelAt.f
            refine Ev.bindE (a := p) rfl (Ev.bindE (has_eq p x) (Ev.bind hc (Ev.pos rfl (Ev.bindE (a := p) rfl (Ev.bind (implPolys_ev hp a b h7 h8.nm h5 h6) (Ev.bindE (size_eq p a b) ?_))))))
            rw [pAll_len, pAll_rd p a b (by omega)]
            have hchr : Ev (fun n => impl_Jacobi_christoffel.f n p a b x) (chrF p a b x) := by
              unfold impl_Jacobi_christoffel.f
              refine Ev.bindE (a := p) rfl (Ev.bindE (size_eq p a b) (Ev.pos (by omega) (Ev.bind (implAssoc_ev hp a b h7 h8.nm h4 h5 h6) ?_)))
              rw [qAll_len, qAll_rd p a b (by omega)]
              refine Ev.pos (by omega) (Ev.pos (by omega) (Ev.bindE (implValue_eq hp g _ o2.1.1 s2) (Ev.bind (implPolys_ev hp a b h7 h8.nm h5 h6) ?_)))
              rw [pAll_len, pAll_rd p a b (by omega)]
              refine Ev.pos (by omega) (Ev.bind (implDer_ev hp _ o1.1.2 l3) (Ev.bindE (implValue_eq hp g _ n3 s3) (Ev.bind (implDiv_ev hp v1 v2) ?_)))
              rw [er]
              exact Ev.bindE (fmul_eq hp b0 (emodB hp.pos _)) (Ev.now _)
            exact Ev.pos (by omega) (Ev.pos (by omega) (Ev.bindE (implValue_eq hp g _ o1.1.2 s1) (Ev.pos z1 (Ev.bind (implDer_ev hp _ o1.1.2 l3) (Ev.bindE (implValue_eq hp g _ n3 s3) (Ev.neg z2 (Ev.bind hchr (Ev.now _))))))))
      · refine ⟨(0, 5), ?_, ?_⟩
        · unfold spec_ChristoffelAt.f
          rw [hw]
          exact Ev.bind (specJac_ev p a b ha hb) (Ev.pos h (Ev.bindE (in_eq _ _ _) (Ev.pos (decide_eq_true (by omega)) (Ev.bind hsP (Ev.bind (specAt_ev hp g _ o1.1.2 s1) (Ev.neg z1 (Ev.now _)))))))
        · unfold impl_ChristoffelAt.f
          refine Ev.bindE (a := p) rfl (Ev.bindE (has_eq p x) (Ev.bind hc (Ev.pos rfl (Ev.bindE (a := p) rfl (Ev.bind (implPolys_ev hp a b h7 h8.nm h5 h6) (Ev.bindE (size_eq p a b) ?_))))))
          rw [pAll_len, pAll_rd p a b (by omega)]
          exact Ev.pos (by omega) (Ev.pos (by omega) (Ev.bindE (implValue_eq hp g _ o1.1.2 s1) (Ev.neg z1 (Ev.now _))))
    · have hc : Ev (fun n => impl_jacobiCode.f n p a b (decide (0 ≤ x ∧ x < p))) 2 := ofCode (by unfold jacC; rw [if_pos h, if_neg (by simp only [decide_eq_true_eq]; exact g)]) ha hb
      refine ⟨(0, 2), ?_, ?_⟩
      · unfold spec_ChristoffelAt.f
        rw [hw]
        exact Ev.bind (specJac_ev p a b ha hb) (Ev.pos h (Ev.bindE (in_eq _ _ _) (Ev.neg (by simp only [decide_eq_true_eq]; omega) (Ev.now _))))
      · unfold impl_ChristoffelAt.f
        exact Ev.bindE (a := p) rfl (Ev.bindE (has_eq p x) (Ev.bind hc (Ev.neg (by decide) (Ev.now _))))
  · have hc : Ev (fun n => impl_jacobiCode.f n p a b (decide (0 ≤ x ∧ x < p))) 1 := ofCode (by unfold jacC; rw [if_neg h]) ha hb
    refine ⟨(0, 1), ?_, ?_⟩
    · unfold spec_ChristoffelAt.f
      exact Ev.bind (specJac_ev p a b ha hb) (Ev.neg h (Ev.now _))
    · unfold impl_ChristoffelAt.f
      exact Ev.bindE (a := p) rfl (Ev.bindE (has_eq p x) (Ev.bind hc (Ev.neg (by decide) (Ev.now _))))
end Go.Proofs.Ytokkabgkjhpecaa.Pr
/- FnExactChristoffelAt: for every input the law answers true: the program's ChristoffelAt and the reference's come to one value, and the law's own copies, marks and comparisons answer as they have to. No condition. -/
namespace Go.Proofs.Ytokkabgkjhpecaa.Pure
open Go.RowKit Go.Proofs.Ytokkabgkjhpecaa.Pr Go.Proofs.YtokkabgkjhpecaaW.PrintWords Go.Proofs.YtokkabgkjhpecaaW.PrintLast

theorem FnExactChristoffelAt : laws_FnExactChristoffelAt.Pure := by
  intro a0_0 l0_1 l0_2 a1 w0_0 ml0_1 wl0_1 ml0_2 wl0_2 w1
  have main : Ev (fun k => laws_FnExactChristoffelAt.f k a0_0 l0_1 l0_2 a1) true := by
    unfold laws_FnExactChristoffelAt.f
    by_cases z0 : l0_1.length + l0_2.length ≤ 1048576
    case neg => exact Ev.bindE (szJacobi_no _ l0_1 l0_2 (by unfold maxLen at ml0_1; omega) (by unfold maxLen at ml0_2; omega) (1048576) (by omega) (by omega)) (Ev.pos (by omega) (Ev.now _))
    refine Ev.bindE (szJacobi_yes _ l0_1 l0_2 (1048576) (by omega) z0) (Ev.neg (by omega) ?_)
    have sl0_1 : Sm l0_1.length := by unfold Sm; omega
    have sl0_2 : Sm l0_2.length := by unfold Sm; omega
    have bw0_0 := wf64 w0_0
    have bw1 := wf64 w1
    obtain ⟨v, hspec, himpl⟩ := ChristoffelAt_both a0_0 l0_1 l0_2 a1 sl0_1 sl0_2
    repeat' first
      | exact Ev.now _
      | refine Ev.bind hspec ?_
      | refine Ev.bind himpl ?_
      | refine Ev.bind (toJacobi_ev _ _ _ (by first | assumption | (rw [marks_length]; assumption)) (by first | assumption | (rw [marks_length]; assumption))) ?_
      | refine Ev.bind (eqJacobi_ev _ _ _ (by first | assumption | (rw [marks_length]; assumption)) (by first | assumption | (rw [marks_length]; assumption))) ?_
      | refine Ev.pos (by first | rfl | omega | (dsimp only; omega)) ?_
      | refine Ev.neg (by first | exact ne_self _ | omega | (dsimp only; omega) | decide) ?_
      | refine Ev.step (fun k => by rw [laws_FnExactChristoffelAt.j0]) ?_
      | refine Ev.step (fun k => by rw [laws_FnExactChristoffelAt.j1]) ?_
      | refine Ev.step (fun k => by rw [laws_FnExactChristoffelAt.j2]) ?_
      | refine Ev.step (fun k => by rw [laws_FnExactChristoffelAt.j3]) ?_
      | refine Ev.step (fun k => by rw [laws_FnExactChristoffelAt.j4]) ?_
      | refine Ev.step (fun k => by rw [laws_FnExactChristoffelAt.j5]) ?_
  exact main.rounds

end Go.Proofs.Ytokkabgkjhpecaa.Pure
/- Printed by a program of this session out of the translation: what these functions of the program compute, under the conditions that each theorem names. -/
namespace Go.Proofs.Ytokkabgkjhpecaa.fnExactChristoffelAt
open Go.ChangeShapes Go.WideShapes Go.ChangeAt Go.RowKit
open Go.ChangeMaps (open_string shut_string)
set_option linter.unusedVariables false
theorem own : ownKnob Try.prog.godebug = none := by kernel_rfl
theorem laidOut : laidOutB Try.prog = true := by kernel_rfl
def IsRow (k : IntKind) (w : World) (a : Option Addr) (len cap : Nat) (zs : List Int) : Prop :=
  (a = none ∧ len = 0 ∧ cap = 0 ∧ zs = []) ∨
  ∃ x, a = some x ∧ len ≤ cap ∧ cap ≤ maxLen ∧ zs.length = cap ∧ (∀ i, i < zs.length → w.cell? (x.add i) = some (.int k (zs.getD i 0))) ∧ ∀ n ∈ zs, (Lit.int k n).wf = true
set_option maxRecDepth 100000 in
theorem lifted (os : Os) (started : os.Started) (H : Type) (enc : TypeId × Value → H) :
    ReturnsInHanded {} Try.checked os 6 .any (Rows.fnExactChristoffelAtSpec.pre6 enc Try.prog Try.f6 Rows.fnExactChristoffelAtRow.domain false) (Rows.fnExactChristoffelAtSpec.post enc Try.prog Try.f6 false true false false) := by
  refine returnsInHanded_of_change_sized (C := Try.checked) own started (by kernel_rfl) Try.func6
    (ChangeSpec.witness6 (enc := enc) (C := Try.checked) false ⟨#[], #[.agg #[.int .i64 0, .slice none 0 0, .slice none 0 0], .int .i64 0], []⟩ 8 (by kernel_rfl) (by kernel_rfl) (by kernel_rfl) (by kernel_rfl)) ?_
  intro W base args ds gs before hval0 hW hcnd hsz0 _
  have hsz : (DataW.weightsEach Try.prog (Try.f6.params.toList ++ Rows.fnExactChristoffelAtSpec.plain.varTypes Try.prog) (ds ++ gs)).all (· ≤ reachBytes) = true := hsz0
  have hval : ∀ (j : Nat) t v, Try.f6.params[j]? = some t → args[j]? = some v → Value.okWide Try.prog W .any base t v := hval0
  have hW' := hW
  obtain ⟨p, q, hA0, hV, rfl, hfz, hnd⟩ := hW
  have hA : DataW.TrodAll enc Try.prog W 0 (fun _ => true) true Try.f6.params.toList args.toList ds p := hA0
  rw [Try.params6] at hA hval hsz
  obtain ⟨v0, vs0, d0, ds0, p0, q0, hargs, rfl, rfl, h0, r0⟩ := trodAll_cons hA
  obtain ⟨v1, vs1, d1, ds1, p1, q1, rfl, rfl, rfl, h1, r1⟩ := trodAll_cons r0
  obtain ⟨rfl, rfl, rfl⟩ := trodAll_nil r1
  obtain rfl : args = #[v0, v1] := by cases args; simp_all
  obtain ⟨rfl, rfl⟩ := trodVars_none hV
  have k0 := h0
  have lt0 : ∀ x ∈ p0, x.block < W.heap.size := by obtain ⟨m, hm⟩ := k0; exact DataW.trod_lt m _ _ _ hm
  obtain ⟨c0_0, c0_1, c0_2, y0_0, y0_1, y0_2, n0, rfl, rfl, rfl, e0_0, e0_1, e0_2⟩ := Go.Joins.open_agg3 Try.underlying43 (by kernel_rfl) (by kernel_rfl) (hval 0 43 v0 rfl rfl) h0
  obtain ⟨a0_0, f0_0, _, w0_0⟩ := DataW.trod_int Try.underlying2 e0_0
  simp only [List.cons.injEq, and_true] at f0_0
  subst f0_0
  obtain ⟨a0_1, len0_1, cap0_1, z0_1, f0_1, w0_1⟩ : ∃ a len cap zs, c0_1 = .slice a len cap ∧ IsRow .i64 W a len cap zs := by
    rcases open_ints Try.underlying22 Try.underlying2 (by kernel_rfl) e0_1 with ⟨hcs, _⟩ | ⟨x, l, c, zs, hcs, _, hl, hm, hz, _, hcell, hwz⟩
    · simp only [List.cons.injEq, and_true] at hcs
      exact ⟨none, 0, 0, [], hcs, .inl ⟨rfl, rfl, rfl, rfl⟩⟩
    · simp only [List.cons.injEq, and_true] at hcs
      exact ⟨some x, l, c, zs, hcs, .inr ⟨_, rfl, hl, hm, by simpa using hz, hcell, hwz⟩⟩
  subst f0_1
  obtain ⟨a0_2, len0_2, cap0_2, z0_2, f0_2, w0_2⟩ : ∃ a len cap zs, c0_2 = .slice a len cap ∧ IsRow .i64 W a len cap zs := by
    rcases open_ints Try.underlying22 Try.underlying2 (by kernel_rfl) e0_2 with ⟨hcs, _⟩ | ⟨x, l, c, zs, hcs, _, hl, hm, hz, _, hcell, hwz⟩
    · simp only [List.cons.injEq, and_true] at hcs
      exact ⟨none, 0, 0, [], hcs, .inl ⟨rfl, rfl, rfl, rfl⟩⟩
    · simp only [List.cons.injEq, and_true] at hcs
      exact ⟨some x, l, c, zs, hcs, .inr ⟨_, rfl, hl, hm, by simpa using hz, hcell, hwz⟩⟩
  subst f0_2
  obtain ⟨a1, rfl, rfl, rfl, w1⟩ := open_int Try.underlying2 (hval 1 2 v1 rfl rfl) h1
  clear hA0 hval0 hsz0 hsz
  refine (Pr.laws_FnExactChristoffelAt.walk Pure.FnExactChristoffelAt a0_0 a0_1 len0_1 cap0_1 z0_1 a0_2 len0_2 cap0_2 z0_2 a1 W w0_0 w0_1 w0_2 w1).mono fun e W' ⟨he, bel⟩ => ?_
  subst he
  exact ⟨_, rfl, _, _, _, [], _, [], hW', trodAll_mk1 (shut_bool Try.underlying4 _), (trodAll_cons_mk (Below.trod laidOut (by kernel_rfl) (of_decide_eq_true (by kernel_rfl)) k0 bel lt0) (trodAll_cons_mk (shut_int Try.underlying2 w1) trodAll_mk0)), rfl, bel.frame _, fun h => by cases h⟩
theorem over : Rows.fnExactChristoffelAtRow.holds Try.pinned (OpenSpec.ofChange Rows.fnExactChristoffelAtSpec) :=
  OpenClaim.holds_of_wide 6 Try.f6 rfl rfl rfl rfl rfl rfl rfl ⟨rfl, rfl, rfl, rfl, rfl⟩ rfl rfl rfl rfl rfl (by kernel_rfl) Try.func6 (by kernel_rfl)
    (of_decide_eq_true (by kernel_rfl)) (by unfold Func.isWrapper; first | (rw [if_pos (by decide +kernel)]; kernel_rfl) | (rw [if_neg (by decide +kernel)]; exact ⟨rfl, rfl⟩))
    (fun os started H enc _ => lifted os started H enc)
theorem proved : Rows.FnExactChristoffelAtSaid := over
#print axioms proved
end Go.Proofs.Ytokkabgkjhpecaa.fnExactChristoffelAt
namespace Go.Proofs.Ytokkabgkjhpecaa
/-- The row, under a short name, for the claim. -/
theorem fnExactChristoffelAt_holds : Rows.FnExactChristoffelAtSaid := fnExactChristoffelAt.proved
end Go.Proofs.Ytokkabgkjhpecaa
