/- Printed by a program of this session out of the translation: what these functions of the program compute, under the conditions that each theorem names. -/
import Derived.Test.YtgneldhhlfjjaaaKWronskiAt1
import Derived.Test.YtgneldhhlfjjaaaKWronskiAt3
import Derived.Test.YtgneldhhlfjjaaaKWronskiAt4
import Derived.Test.YtgneldhhlfjjaaaKWronskiAt7
import Derived.Test.YtgneldhhlfjjaaaKFimplWronskiAt
namespace Go.Proofs.Ytgneldhhlfjjaaa.Pr
open Go.RowKit Go.Proofs.YtgneldhhlfjjaaaW.PrintWords Go.Proofs.YtgneldhhlfjjaaaW.PrintLast Go.Proofs.YtgneldhhlfjjaaaW.PrintMore
attribute [local go_sem] max2_int min2_int max_two min_two max_three min_three max_four min_four   -- for this text's walks alone
set_option linter.unusedVariables false
set_option linter.unusedSimpArgs false

/-! ### laws_FnExactWronskiAt: function 11 -/
mutual
def laws_FnExactWronskiAt.j0 : Nat → Int → List Int → Int → List Int → Int → Bool → Int → List Int → List Int → Int → List Int → List Int → Option (Bool)
 | 0, _, _, _, _, _, _, _, _, _, _, _, _ => none
 | k + 1, x1, x6, x7, x9, x10, x44, x997000, x997001, x997002, x1017000, x1017001, x1017002 => if x44 = true then (some false) else ((laws_toJacobi.f k x997000 x997001 x997002).bind fun bt1022 => ((laws_eqJacobi.f k x1017000 x1017001 x1017002 bt1022.1 bt1022.2.1 bt1022.2.2).bind fun t1029 => (if t1029 = true then ((laws_markJacobi.f k x1017000 x1017001 x1017002 1).bind fun bt1030 => (if bt1030.1 < 0 then (laws_FnExactWronskiAt.j1 k x1 x6 x7 x9 true x997000 x997001 x997002) else ((laws_eqInt64S.f k x9 x6).bind fun t1033 => (if t1033 = true then (laws_FnExactWronskiAt.j1 k x1 x6 x7 x9 (x10 != x7) x997000 x997001 x997002) else (laws_FnExactWronskiAt.j1 k x1 x6 x7 x9 true x997000 x997001 x997002))))) else (some false))))
def laws_FnExactWronskiAt.j1 : Nat → Int → List Int → Int → List Int → Bool → Int → List Int → List Int → Option (Bool)
 | 0, _, _, _, _, _, _, _, _ => none
 | k + 1, x1, x6, x7, x9, x65, x997000, x997001, x997002 => if x65 = true then (some false) else ((laws_markInt64S.f k x9 1).bind fun bt1034 => ((laws_heldInt64S.f k bt1034.2 1).bind fun t1036 => (if t1036 < 0 then (some false) else (if t1036 = bt1034.1 then ((laws_toJacobi.f k x997000 x997001 x997002).bind fun bt1037 => ((impl_WronskiAt.f k bt1037.1 bt1037.2.1 bt1037.2.2 x1).bind fun bt1044 => ((laws_eqInt64S.f k bt1044.1 x6).bind fun t1048 => (if t1048 = true then (laws_FnExactWronskiAt.j2 k bt1034.2 bt1034.1 (bt1044.2 != x7)) else (laws_FnExactWronskiAt.j2 k bt1034.2 bt1034.1 true))))) else (some false)))))
def laws_FnExactWronskiAt.j2 : Nat → List Int → Int → Bool → Option (Bool)
 | 0, _, _, _ => none
 | k + 1, x9, x12, x92 => if x92 = true then (some false) else ((laws_heldInt64S.f k x9 1).bind fun t1049 => (if t1049 < 0 then (some false) else (if t1049 = x12 then (some true) else (some false))))
end
def laws_FnExactWronskiAt.f (k : Nat) (a0_0 : Int) (l0_1 : List Int) (l0_2 : List Int) (a1 : Int) : Option (Bool) := (laws_szJacobi.f a0_0 l0_1 l0_2 1048576).bind fun t997 => (if t997 < 0 then (some true) else ((laws_toJacobi.f k a0_0 l0_1 l0_2).bind fun bt998 => ((spec_WronskiAt.f k bt998.1 bt998.2.1 bt998.2.2 a1).bind fun bt1005 => ((laws_toJacobi.f k a0_0 l0_1 l0_2).bind fun bt1009 => ((impl_WronskiAt.f k bt1009.1 bt1009.2.1 bt1009.2.2 a1).bind fun bt1017 => ((laws_eqInt64S.f k bt1017.1 bt1005.1).bind fun t1021 => (if t1021 = true then (laws_FnExactWronskiAt.j0 k a1 bt1005.1 bt1005.2 bt1017.1 bt1017.2 (bt1017.2 != bt1005.2) a0_0 l0_1 l0_2 bt1009.1 bt1009.2.1 bt1009.2.2) else (laws_FnExactWronskiAt.j0 k a1 bt1005.1 bt1005.2 bt1017.1 bt1017.2 true a0_0 l0_1 l0_2 bt1009.1 bt1009.2.1 bt1009.2.2))))))))
theorem laws_FnExactWronskiAt.mono_l : ∀ k, (∀ y0 y1 y2 y3 y4 y5 y6 y7 y8 y9 y10 y11, LeO (laws_FnExactWronskiAt.j0 k y0 y1 y2 y3 y4 y5 y6 y7 y8 y9 y10 y11) (laws_FnExactWronskiAt.j0 (k + 1) y0 y1 y2 y3 y4 y5 y6 y7 y8 y9 y10 y11)) ∧ (∀ y0 y1 y2 y3 y4 y5 y6 y7, LeO (laws_FnExactWronskiAt.j1 k y0 y1 y2 y3 y4 y5 y6 y7) (laws_FnExactWronskiAt.j1 (k + 1) y0 y1 y2 y3 y4 y5 y6 y7)) ∧ (∀ y0 y1 y2, LeO (laws_FnExactWronskiAt.j2 k y0 y1 y2) (laws_FnExactWronskiAt.j2 (k + 1) y0 y1 y2))
 | 0 => ⟨fun _ _ _ _ _ _ _ _ _ _ _ _ r h => by simp [laws_FnExactWronskiAt.j0] at h, fun _ _ _ _ _ _ _ _ r h => by simp [laws_FnExactWronskiAt.j1] at h, fun _ _ _ r h => by simp [laws_FnExactWronskiAt.j2] at h⟩
 | k + 1 => by
  obtain ⟨ih0, ih1, ih2⟩ := laws_FnExactWronskiAt.mono_l k
  refine ⟨?_, ?_, ?_⟩
  ·intro y0 y1 y2 y3 y4 y5 y6 y7 y8 y9 y10 y11
   unfold laws_FnExactWronskiAt.j0
   repeat' first
   | (with_reducible exact ih0 _ _ _ _ _ _ _ _ _ _ _ _)
   | (with_reducible exact ih1 _ _ _ _ _ _ _ _)
   | (with_reducible exact ih2 _ _ _)
   | (with_reducible exact impl_WronskiAt.mono _ _ _ _ _)
   | (with_reducible exact laws_eqInt64S.mono _ _ _)
   | (with_reducible exact laws_eqJacobi.mono _ _ _ _ _ _ _)
   | (with_reducible exact laws_heldInt64S.mono _ _ _)
   | (with_reducible exact laws_markInt64S.mono _ _ _)
   | (with_reducible exact laws_markJacobi.mono _ _ _ _ _)
   | (with_reducible exact laws_toJacobi.mono _ _ _ _)
   | (with_reducible exact spec_WronskiAt.mono _ _ _ _ _)
   | (with_reducible exact LeO.refl _)
   | (with_reducible exact LeO.none _)
   | (with_reducible refine LeO.ite ?_ ?_)
   | (with_reducible refine LeO.bind ?_ (fun _ => ?_))
   | exact ih0 _ _ _ _ _ _ _ _ _ _ _ _
   | exact ih1 _ _ _ _ _ _ _ _
   | exact ih2 _ _ _
   | exact impl_WronskiAt.mono _ _ _ _ _
   | exact laws_eqInt64S.mono _ _ _
   | exact laws_eqJacobi.mono _ _ _ _ _ _ _
   | exact laws_heldInt64S.mono _ _ _
   | exact laws_markInt64S.mono _ _ _
   | exact laws_markJacobi.mono _ _ _ _ _
   | exact laws_toJacobi.mono _ _ _ _
   | exact spec_WronskiAt.mono _ _ _ _ _
   | exact LeO.none _
   | refine LeO.ite ?_ ?_
   | refine LeO.bind ?_ (fun _ => ?_)
  ·intro y0 y1 y2 y3 y4 y5 y6 y7
   unfold laws_FnExactWronskiAt.j1
   repeat' first
   | (with_reducible exact ih0 _ _ _ _ _ _ _ _ _ _ _ _)
   | (with_reducible exact ih1 _ _ _ _ _ _ _ _)
   | (with_reducible exact ih2 _ _ _)
   | (with_reducible exact impl_WronskiAt.mono _ _ _ _ _)
   | (with_reducible exact laws_eqInt64S.mono _ _ _)
   | (with_reducible exact laws_eqJacobi.mono _ _ _ _ _ _ _)
   | (with_reducible exact laws_heldInt64S.mono _ _ _)
   | (with_reducible exact laws_markInt64S.mono _ _ _)
   | (with_reducible exact laws_markJacobi.mono _ _ _ _ _)
   | (with_reducible exact laws_toJacobi.mono _ _ _ _)
   | (with_reducible exact spec_WronskiAt.mono _ _ _ _ _)
   | (with_reducible exact LeO.refl _)
   | (with_reducible exact LeO.none _)
   | (with_reducible refine LeO.ite ?_ ?_)
   | (with_reducible refine LeO.bind ?_ (fun _ => ?_))
   | exact ih0 _ _ _ _ _ _ _ _ _ _ _ _
   | exact ih1 _ _ _ _ _ _ _ _
   | exact ih2 _ _ _
   | exact impl_WronskiAt.mono _ _ _ _ _
   | exact laws_eqInt64S.mono _ _ _
   | exact laws_eqJacobi.mono _ _ _ _ _ _ _
   | exact laws_heldInt64S.mono _ _ _
   | exact laws_markInt64S.mono _ _ _
   | exact laws_markJacobi.mono _ _ _ _ _
   | exact laws_toJacobi.mono _ _ _ _
   | exact spec_WronskiAt.mono _ _ _ _ _
   | exact LeO.none _
   | refine LeO.ite ?_ ?_
   | refine LeO.bind ?_ (fun _ => ?_)
  ·intro y0 y1 y2
   unfold laws_FnExactWronskiAt.j2
   repeat' first
   | (with_reducible exact ih0 _ _ _ _ _ _ _ _ _ _ _ _)
   | (with_reducible exact ih1 _ _ _ _ _ _ _ _)
   | (with_reducible exact ih2 _ _ _)
   | (with_reducible exact impl_WronskiAt.mono _ _ _ _ _)
   | (with_reducible exact laws_eqInt64S.mono _ _ _)
   | (with_reducible exact laws_eqJacobi.mono _ _ _ _ _ _ _)
   | (with_reducible exact laws_heldInt64S.mono _ _ _)
   | (with_reducible exact laws_markInt64S.mono _ _ _)
   | (with_reducible exact laws_markJacobi.mono _ _ _ _ _)
   | (with_reducible exact laws_toJacobi.mono _ _ _ _)
   | (with_reducible exact spec_WronskiAt.mono _ _ _ _ _)
   | (with_reducible exact LeO.refl _)
   | (with_reducible exact LeO.none _)
   | (with_reducible refine LeO.ite ?_ ?_)
   | (with_reducible refine LeO.bind ?_ (fun _ => ?_))
   | exact ih0 _ _ _ _ _ _ _ _ _ _ _ _
   | exact ih1 _ _ _ _ _ _ _ _
   | exact ih2 _ _ _
   | exact impl_WronskiAt.mono _ _ _ _ _
   | exact laws_eqInt64S.mono _ _ _
   | exact laws_eqJacobi.mono _ _ _ _ _ _ _
   | exact laws_heldInt64S.mono _ _ _
   | exact laws_markInt64S.mono _ _ _
   | exact laws_markJacobi.mono _ _ _ _ _
   | exact laws_toJacobi.mono _ _ _ _
   | exact spec_WronskiAt.mono _ _ _ _ _
   | exact LeO.none _
   | refine LeO.ite ?_ ?_
   | refine LeO.bind ?_ (fun _ => ?_)
theorem laws_FnExactWronskiAt.mono : ∀ a0 a1 a2 a3 k, LeO (laws_FnExactWronskiAt.f k a0 a1 a2 a3) (laws_FnExactWronskiAt.f (k + 1) a0 a1 a2 a3) := by
 intro a0 a1 a2 a3 k
 obtain ⟨ih0, ih1, ih2⟩ := laws_FnExactWronskiAt.mono_l k
 unfold laws_FnExactWronskiAt.f
 repeat' first
   | (with_reducible exact ih0 _ _ _ _ _ _ _ _ _ _ _ _)
   | (with_reducible exact ih1 _ _ _ _ _ _ _ _)
   | (with_reducible exact ih2 _ _ _)
   | (with_reducible exact impl_WronskiAt.mono _ _ _ _ _)
   | (with_reducible exact laws_eqInt64S.mono _ _ _)
   | (with_reducible exact laws_eqJacobi.mono _ _ _ _ _ _ _)
   | (with_reducible exact laws_heldInt64S.mono _ _ _)
   | (with_reducible exact laws_markInt64S.mono _ _ _)
   | (with_reducible exact laws_markJacobi.mono _ _ _ _ _)
   | (with_reducible exact laws_toJacobi.mono _ _ _ _)
   | (with_reducible exact spec_WronskiAt.mono _ _ _ _ _)
   | (with_reducible exact LeO.refl _)
   | (with_reducible exact LeO.none _)
   | (with_reducible refine LeO.ite ?_ ?_)
   | (with_reducible refine LeO.bind ?_ (fun _ => ?_))
   | exact ih0 _ _ _ _ _ _ _ _ _ _ _ _
   | exact ih1 _ _ _ _ _ _ _ _
   | exact ih2 _ _ _
   | exact impl_WronskiAt.mono _ _ _ _ _
   | exact laws_eqInt64S.mono _ _ _
   | exact laws_eqJacobi.mono _ _ _ _ _ _ _
   | exact laws_heldInt64S.mono _ _ _
   | exact laws_markInt64S.mono _ _ _
   | exact laws_markJacobi.mono _ _ _ _ _
   | exact laws_toJacobi.mono _ _ _ _
   | exact spec_WronskiAt.mono _ _ _ _ _
   | exact LeO.none _
   | refine LeO.ite ?_ ?_
   | refine LeO.bind ?_ (fun _ => ?_)
set_option maxHeartbeats 8000000 in
set_option maxRecDepth 100000 in
theorem laws_FnExactWronskiAt.calls (k : Nat) (a0_0 : Int) (A0_1 : Option Addr) (c0_1 : Nat) (l0_1 : List Int) (A0_2 : Option Addr) (c0_2 : Nat) (l0_2 : List Int) (a1 : Int) (r : Bool) (hr_ : r = true) (w : World) (hr0_1 : Kd.C (Kd.int .i64) w A0_1 l0_1.length l0_1) (hc0_1 : l0_1.length ≤ c0_1) (hr0_2 : Kd.C (Kd.int .i64) w A0_2 l0_2.length l0_2) (hc0_2 : l0_2.length ≤ c0_2) (h : laws_FnExactWronskiAt.f k a0_0 l0_1 l0_2 a1 = some r) :
  Calls Try.prog 11 #[.agg #[.int .i64 a0_0, .slice A0_1 l0_1.length c0_1, .slice A0_2 l0_2.length c0_2], .int .i64 a1] w fun e w' => e = .returned (.bool r) ∧ Below w.heap.size w w' := by
 have hu24 := Try.underlying24
 have hu26 := Try.underlying26
 have HRT := zA hr_
 clear hr_
 have HR0_1 := zA hr0_1
 have HC0_1 := zA hc0_1
 clear hr0_1 hc0_1
 have HR0_2 := zA hr0_2
 have HC0_2 := zA hc0_2
 clear hr0_2 hc0_2
 have HB := zA (Below.refl w.heap.size w)
 have H : ((laws_szJacobi.f a0_0 l0_1 l0_2 1048576).bind fun t997 => (if t997 < 0 then (some true) else ((laws_toJacobi.f k a0_0 l0_1 l0_2).bind fun bt998 => ((spec_WronskiAt.f k bt998.1 bt998.2.1 bt998.2.2 a1).bind fun bt1005 => ((laws_toJacobi.f k a0_0 l0_1 l0_2).bind fun bt1009 => ((impl_WronskiAt.f k bt1009.1 bt1009.2.1 bt1009.2.2 a1).bind fun bt1017 => ((laws_eqInt64S.f k bt1017.1 bt1005.1).bind fun t1021 => (if t1021 = true then (laws_FnExactWronskiAt.j0 k a1 bt1005.1 bt1005.2 bt1017.1 bt1017.2 (bt1017.2 != bt1005.2) a0_0 l0_1 l0_2 bt1009.1 bt1009.2.1 bt1009.2.2) else (laws_FnExactWronskiAt.j0 k a1 bt1005.1 bt1005.2 bt1017.1 bt1017.2 true a0_0 l0_1 l0_2 bt1009.1 bt1009.2.1 bt1009.2.2))))))))) = some r := h
 clear h
 replace H := Option.bind_eq_some_iff.mp H
 obtain ⟨t997, A30, H⟩ := H
 replace H : (if t997 < 0 then (some true) else ((laws_toJacobi.f k a0_0 l0_1 l0_2).bind fun bt998 => ((spec_WronskiAt.f k bt998.1 bt998.2.1 bt998.2.2 a1).bind fun bt1005 => ((laws_toJacobi.f k a0_0 l0_1 l0_2).bind fun bt1009 => ((impl_WronskiAt.f k bt1009.1 bt1009.2.1 bt1009.2.2 a1).bind fun bt1017 => ((laws_eqInt64S.f k bt1017.1 bt1005.1).bind fun t1021 => (if t1021 = true then (laws_FnExactWronskiAt.j0 k a1 bt1005.1 bt1005.2 bt1017.1 bt1017.2 (bt1017.2 != bt1005.2) a0_0 l0_1 l0_2 bt1009.1 bt1009.2.1 bt1009.2.2) else (laws_FnExactWronskiAt.j0 k a1 bt1005.1 bt1005.2 bt1017.1 bt1017.2 true a0_0 l0_1 l0_2 bt1009.1 bt1009.2.1 bt1009.2.2)))))))) = some r := H
 have A3 := zA A30
 clear A30
 by_cases c4 : t997 < 0
 ·rw [if_pos c4] at H
  have c4b0 : decide (t997 < 0) = true := decide_eq_true c4
  clear c4
  obtain rfl := Option.some.inj H
  go_enter Try.func11, Try.ntmps11
  go_wp2_with (first | ((with_reducible refine gate_dst (N := 2) rfl ?_); refine box_event ?hg (N := 2) ?hd (cs := #[.int .i64 a0_0, .slice A0_1 l0_1.length c0_1, .slice A0_2 l0_2.length c0_2]) (t := 24) ?hr ?_; (case hd => rfl); (case hg => rfl); (case hr => first | (go_simp; done) | (go_simp; rfl)); intro gb996 hg w5 hbox hb; have n0_ := xH HB hb; have n1_ := zA (hbox); have n2_ := zA ((by rw [hg]; exact (below_size (uH HB.out)) : w.heap.size ≤ gb996)); have n3_ := zA ((by rw [hg]; exact (below_size (uH HB.out)) : w.heap.size ≤ gb996)); clear HB; have HB := n0_; have BK996 := n1_; have GW996 := n2_; have GE996 := n3_; have := geI GE996; clear n0_ n1_ n2_ n3_ hb hbox hg; have hcz6_0 : w5.cell? ⟨gb996, 0, none⟩ = some (.int .i64 a0_0) := (blk_cell BK996.out 0).trans rfl; have hcz6_1 : w5.cell? ⟨gb996, 1, none⟩ = some (.slice A0_1 l0_1.length c0_1) := (blk_cell BK996.out 1).trans rfl; have hcz6_2 : w5.cell? ⟨gb996, 2, none⟩ = some (.slice A0_2 l0_2.length c0_2) := (blk_cell BK996.out 2).trans rfl; have hfz6_0 := blk_frozen BK996.out 0; have hfz6_1 := blk_frozen BK996.out 1; have hfz6_2 := blk_frozen BK996.out 2) | ((with_reducible refine gate_callee (f := 15) rfl ?_); refine goesL_ (some 18) rfl rfl Try.func15 (by kernel_rfl) rfl #[.agg #[.int .i64 a0_0, .slice A0_1 l0_1.length c0_1, .slice A0_2 l0_2.length c0_2], .int .i64 1048576] rfl (by (try simp only [la, lb, lc]); first | done | rfl | (simp only [ld, le]; rfl)) ?_; (with_reducible refine (laws_szJacobi.calls a0_0 _ _ l0_1 _ _ l0_2 1048576 t997 _ ?side1 ?side2 ?side3 ?side4 A3.out).mono ?_); (case side1 => exact uC ((Kd.C_below HR0_1.out HB.out))); (case side2 => exact HC0_1.out); (case side3 => exact uC ((Kd.C_below HR0_2.out HB.out))); (case side4 => exact HC0_2.out); rintro e w7 ⟨rfl, hb⟩; refine ⟨_, rfl, ?_⟩; have n0_ := xB BK996 hb; have n1_ := xH HB hb; clear BK996 HB; have BK996 := n0_; have HB := n1_; clear n0_ n1_; (try clear hb); (try clear hb2); (try clear hk); (try clear hi)))
  go_ret
  exact ⟨by first | rfl | (simp [errW_none, errW_some] <;> rfl) | (simp [*, errW_none, errW_some] <;> rfl), uH HB.out⟩
 ·rw [if_neg c4] at H
  have c4b0 : decide (t997 < 0) = false := decide_eq_false c4
  clear c4
  replace H := Option.bind_eq_some_iff.mp H
  obtain ⟨⟨t998, t999, t1002⟩, A80, H⟩ := H
  replace H : ((spec_WronskiAt.f k t998 t999 t1002 a1).bind fun bt1005 => ((laws_toJacobi.f k a0_0 l0_1 l0_2).bind fun bt1009 => ((impl_WronskiAt.f k bt1009.1 bt1009.2.1 bt1009.2.2 a1).bind fun bt1017 => ((laws_eqInt64S.f k bt1017.1 bt1005.1).bind fun t1021 => (if t1021 = true then (laws_FnExactWronskiAt.j0 k a1 bt1005.1 bt1005.2 bt1017.1 bt1017.2 (bt1017.2 != bt1005.2) a0_0 l0_1 l0_2 bt1009.1 bt1009.2.1 bt1009.2.2) else (laws_FnExactWronskiAt.j0 k a1 bt1005.1 bt1005.2 bt1017.1 bt1017.2 true a0_0 l0_1 l0_2 bt1009.1 bt1009.2.1 bt1009.2.2)))))) = some r := H
  have A8 := zA A80
  clear A80
  replace H := Option.bind_eq_some_iff.mp H
  obtain ⟨⟨t1005, t1008⟩, A90, H⟩ := H
  replace H : ((laws_toJacobi.f k a0_0 l0_1 l0_2).bind fun bt1009 => ((impl_WronskiAt.f k bt1009.1 bt1009.2.1 bt1009.2.2 a1).bind fun bt1017 => ((laws_eqInt64S.f k bt1017.1 t1005).bind fun t1021 => (if t1021 = true then (laws_FnExactWronskiAt.j0 k a1 t1005 t1008 bt1017.1 bt1017.2 (bt1017.2 != t1008) a0_0 l0_1 l0_2 bt1009.1 bt1009.2.1 bt1009.2.2) else (laws_FnExactWronskiAt.j0 k a1 t1005 t1008 bt1017.1 bt1017.2 true a0_0 l0_1 l0_2 bt1009.1 bt1009.2.1 bt1009.2.2))))) = some r := H
  have A9 := zA A90
  clear A90
  replace H := Option.bind_eq_some_iff.mp H
  obtain ⟨⟨t1009, t1010, t1013⟩, A100, H⟩ := H
  replace H : ((impl_WronskiAt.f k t1009 t1010 t1013 a1).bind fun bt1017 => ((laws_eqInt64S.f k bt1017.1 t1005).bind fun t1021 => (if t1021 = true then (laws_FnExactWronskiAt.j0 k a1 t1005 t1008 bt1017.1 bt1017.2 (bt1017.2 != t1008) a0_0 l0_1 l0_2 t1009 t1010 t1013) else (laws_FnExactWronskiAt.j0 k a1 t1005 t1008 bt1017.1 bt1017.2 true a0_0 l0_1 l0_2 t1009 t1010 t1013)))) = some r := H
  have A10 := zA A100
  clear A100
  replace H := Option.bind_eq_some_iff.mp H
  obtain ⟨⟨t1017, t1020⟩, A110, H⟩ := H
  replace H : ((laws_eqInt64S.f k t1017 t1005).bind fun t1021 => (if t1021 = true then (laws_FnExactWronskiAt.j0 k a1 t1005 t1008 t1017 t1020 (t1020 != t1008) a0_0 l0_1 l0_2 t1009 t1010 t1013) else (laws_FnExactWronskiAt.j0 k a1 t1005 t1008 t1017 t1020 true a0_0 l0_1 l0_2 t1009 t1010 t1013))) = some r := H
  have A11 := zA A110
  clear A110
  have HC12 := zA H
  clear H
  go_enter Try.func11, Try.ntmps11
  go_upto_region 8 with (first | ((with_reducible refine gate_dst (N := 2) rfl ?_); refine box_event ?hg (N := 2) ?hd (cs := #[.int .i64 a0_0, .slice A0_1 l0_1.length c0_1, .slice A0_2 l0_2.length c0_2]) (t := 24) ?hr ?_; (case hd => rfl); (case hg => rfl); (case hr => first | (go_simp; done) | (go_simp; rfl)); intro gb996 hg w13 hbox hb; have n0_ := xH HB hb; have n1_ := zA (hbox); have n2_ := zA ((by rw [hg]; exact (below_size (uH HB.out)) : w.heap.size ≤ gb996)); have n3_ := zA ((by rw [hg]; exact (below_size (uH HB.out)) : w.heap.size ≤ gb996)); clear HB; have HB := n0_; have BK996 := n1_; have GW996 := n2_; have GE996 := n3_; have := geI GE996; clear n0_ n1_ n2_ n3_ hb hbox hg; have hcz14_0 : w13.cell? ⟨gb996, 0, none⟩ = some (.int .i64 a0_0) := (blk_cell BK996.out 0).trans rfl; have hcz14_1 : w13.cell? ⟨gb996, 1, none⟩ = some (.slice A0_1 l0_1.length c0_1) := (blk_cell BK996.out 1).trans rfl; have hcz14_2 : w13.cell? ⟨gb996, 2, none⟩ = some (.slice A0_2 l0_2.length c0_2) := (blk_cell BK996.out 2).trans rfl; have hfz14_0 := blk_frozen BK996.out 0; have hfz14_1 := blk_frozen BK996.out 1; have hfz14_2 := blk_frozen BK996.out 2) | ((with_reducible refine gate_callee (f := 15) rfl ?_); refine goesL_ (some 18) rfl rfl Try.func15 (by kernel_rfl) rfl #[.agg #[.int .i64 a0_0, .slice A0_1 l0_1.length c0_1, .slice A0_2 l0_2.length c0_2], .int .i64 1048576] rfl (by (try simp only [la, lb, lc]); first | done | rfl | (simp only [ld, le]; rfl)) ?_; (with_reducible refine (laws_szJacobi.calls a0_0 _ _ l0_1 _ _ l0_2 1048576 t997 _ ?side1 ?side2 ?side3 ?side4 A3.out).mono ?_); (case side1 => exact uC ((Kd.C_below HR0_1.out HB.out))); (case side2 => exact HC0_1.out); (case side3 => exact uC ((Kd.C_below HR0_2.out HB.out))); (case side4 => exact HC0_2.out); rintro e w15 ⟨rfl, hb⟩; refine ⟨_, rfl, ?_⟩; have n0_ := xB BK996 hb; have n1_ := xH HB hb; clear BK996 HB; have BK996 := n0_; have HB := n1_; clear n0_ n1_; (try clear hb); (try clear hb2); (try clear hk); (try clear hi); have hcz16_0 : w15.cell? ⟨gb996, 0, none⟩ = some (.int .i64 a0_0) := (blk_cell BK996.out 0).trans rfl; have hcz16_1 : w15.cell? ⟨gb996, 1, none⟩ = some (.slice A0_1 l0_1.length c0_1) := (blk_cell BK996.out 1).trans rfl; have hcz16_2 : w15.cell? ⟨gb996, 2, none⟩ = some (.slice A0_2 l0_2.length c0_2) := (blk_cell BK996.out 2).trans rfl; have hfz16_0 := blk_frozen BK996.out 0; have hfz16_1 := blk_frozen BK996.out 1; have hfz16_2 := blk_frozen BK996.out 2) | ((with_reducible refine gate_callee (f := 17) rfl ?_); refine goesL_ (some 23) rfl rfl Try.func17 (by kernel_rfl) rfl #[.agg #[.int .i64 a0_0, .slice A0_1 l0_1.length c0_1, .slice A0_2 l0_2.length c0_2]] rfl (by (try simp only [la, lb, lc]); first | done | rfl | (simp only [ld, le]; rfl)) ?_; (with_reducible refine (laws_toJacobi.calls k a0_0 _ _ l0_1 _ _ l0_2 t998 t999 t1002 _ ?side1 ?side2 ?side3 ?side4 A8.out).mono ?_); (case side1 => exact uC ((Kd.C_below HR0_1.out HB.out))); (case side2 => exact HC0_1.out); (case side3 => exact uC ((Kd.C_below HR0_2.out HB.out))); (case side4 => exact HC0_2.out); rintro e w17 ⟨v1000, v1003, rfl, ho0, ho1, hb⟩; refine ⟨_, rfl, ?_⟩; have n0_ := zA (Kd.R_lower ho0 (below_size (uH HB.out))); have n1_ := zA (Kd.R_lower ho1 (below_size (uH HB.out))); have n2_ := xB BK996 hb; have n3_ := xH HB hb; clear BK996 HB; have HO1001 := n0_; have HO1004 := n1_; have BK996 := n2_; have HB := n3_; clear n0_ n1_ n2_ n3_; (try clear hb); (try clear hb2); (try clear hk); (try clear hi); (try clear ho0); (try clear ho1); obtain ⟨Ao18, co18, eo18⟩ := Kd.R_slice HO1001.out; subst eo18; obtain ⟨Ao19, co19, eo19⟩ := Kd.R_slice HO1004.out; subst eo19) | ((with_reducible refine gate_callee (f := 42) rfl ?_); refine goesL_ (some 25) rfl rfl Try.func42 (by kernel_rfl) rfl #[.agg #[.int .i64 t998, .slice Ao18 t999.length co18, .slice Ao19 t1002.length co19], .int .i64 a1] rfl (by (try simp only [la, lb, lc]); first | done | rfl | (simp only [ld, le]; rfl)) ?_; (with_reducible refine (spec_WronskiAt.calls k t998 _ _ t999 _ _ t1002 a1 t1005 t1008 _ ?side1 ?side2 ?side3 ?side4 A9.out).mono ?_); (case side1 => exact uC ((Kd.R_reads' HO1001.out).2.2)); (case side2 => exact (Kd.R_reads' HO1001.out).2.1); (case side3 => exact uC ((Kd.R_reads' HO1004.out).2.2)); (case side4 => exact (Kd.R_reads' HO1004.out).2.1); rintro e w20 ⟨v1006, rfl, ho0, hb⟩; refine ⟨_, rfl, ?_⟩; have n0_ := zA (Kd.R_elder' (uR HO1001.out) (Kd.R_base ho0) hb); have n1_ := zA (Kd.R_elder' (uR HO1004.out) (Kd.R_base ho0) hb); have n2_ := zA (Kd.R_lower (Kd.R_new' (Kd.R_new' ho0 (Kd.R_lt (uR HO1001.out))) (Kd.R_lt (uR HO1004.out))) (below_size (uH HB.out))); have n3_ := xB BK996 hb; have n4_ := xH HB hb; clear HO1001 HO1004 BK996 HB; have HO1001 := n0_; have HO1004 := n1_; have HO1007 := n2_; have BK996 := n3_; have HB := n4_; clear n0_ n1_ n2_ n3_ n4_; (try clear hb); (try clear hb2); (try clear hk); (try clear hi); (try clear ho0); have hcz21_0 : w20.cell? ⟨gb996, 0, none⟩ = some (.int .i64 a0_0) := (blk_cell BK996.out 0).trans rfl; have hcz21_1 : w20.cell? ⟨gb996, 1, none⟩ = some (.slice A0_1 l0_1.length c0_1) := (blk_cell BK996.out 1).trans rfl; have hcz21_2 : w20.cell? ⟨gb996, 2, none⟩ = some (.slice A0_2 l0_2.length c0_2) := (blk_cell BK996.out 2).trans rfl; have hfz21_0 := blk_frozen BK996.out 0; have hfz21_1 := blk_frozen BK996.out 1; have hfz21_2 := blk_frozen BK996.out 2) | ((with_reducible refine gate_callee (f := 17) rfl ?_); refine goesL_ (some 29) rfl rfl Try.func17 (by kernel_rfl) rfl #[.agg #[.int .i64 a0_0, .slice A0_1 l0_1.length c0_1, .slice A0_2 l0_2.length c0_2]] rfl (by (try simp only [la, lb, lc]); first | done | rfl | (simp only [ld, le]; rfl)) ?_; (with_reducible refine (laws_toJacobi.calls k a0_0 _ _ l0_1 _ _ l0_2 t1009 t1010 t1013 _ ?side1 ?side2 ?side3 ?side4 A10.out).mono ?_); (case side1 => exact uC ((Kd.C_below HR0_1.out HB.out))); (case side2 => exact HC0_1.out); (case side3 => exact uC ((Kd.C_below HR0_2.out HB.out))); (case side4 => exact HC0_2.out); rintro e w22 ⟨v1011, v1014, rfl, ho0, ho1, hb⟩; refine ⟨_, rfl, ?_⟩; have n0_ := zA (Kd.R_mono (Kd.R_told (Kd.R_told (Kd.R_old (uR HO1001.out) hb) (Kd.R_base ho0)) (Kd.R_base ho1)) (fun _ h_ => h_.1)); have n1_ := zA (Kd.R_mono (Kd.R_told (Kd.R_told (Kd.R_old (uR HO1004.out) hb) (Kd.R_base ho0)) (Kd.R_base ho1)) (fun _ h_ => h_.1)); have n2_ := zA (Kd.R_mono (Kd.R_told (Kd.R_told (Kd.R_old (uR HO1007.out) hb) (Kd.R_base ho0)) (Kd.R_base ho1)) (fun _ h_ => h_.1)); have n3_ := zA (Kd.R_lower (Kd.R_new' (Kd.R_new' (Kd.R_new' ho0 (Kd.R_lt (uR HO1001.out))) (Kd.R_lt (uR HO1004.out))) (Kd.R_lt (uR HO1007.out))) (below_size (uH HB.out))); have n4_ := zA (Kd.R_lower (Kd.R_new' (Kd.R_new' (Kd.R_new' ho1 (Kd.R_lt (uR HO1001.out))) (Kd.R_lt (uR HO1004.out))) (Kd.R_lt (uR HO1007.out))) (below_size (uH HB.out))); have n5_ := xB BK996 hb; have n6_ := xH HB hb; clear HO1001 HO1004 HO1007 BK996 HB; have HO1001 := n0_; have HO1004 := n1_; have HO1007 := n2_; have HO1012 := n3_; have HO1015 := n4_; have BK996 := n5_; have HB := n6_; clear n0_ n1_ n2_ n3_ n4_ n5_ n6_; (try clear hb); (try clear hb2); (try clear hk); (try clear hi); (try clear ho0); (try clear ho1)) | ((with_reducible refine gate_dst (N := 8) rfl ?_); refine box_event ?hg (N := 8) ?hd (cs := #[.int .i64 0, .slice none 0 0, .slice none 0 0]) (t := 26) ?hr ?_; (case hd => rfl); (case hg => rfl); (case hr => first | (go_simp; done) | (go_simp; rfl)); intro gb1016 hg w23 hbox hb; have n0_ := xR HO1001 hb; have n1_ := xR HO1004 hb; have n2_ := xR HO1007 hb; have n3_ := xR HO1012 hb; have n4_ := xR HO1015 hb; have n5_ := xB BK996 hb; have n6_ := xH HB hb; have n7_ := zA (hbox); have n8_ := zA ((by rw [hg]; exact (below_size (uH HB.out)) : w.heap.size ≤ gb1016)); have n9_ := zA ((by rw [hg]; exact (below_size (uH HB.out)) : w.heap.size ≤ gb1016)); have n10_ := zA ((by rw [hg]; exact neL BK996 : gb996 ≠ gb1016)); have n11_ := zA ((by rw [hg]; exact neG BK996 : gb1016 ≠ gb996)); clear HO1001 HO1004 HO1007 HO1012 HO1015 BK996 HB; have HO1001 := n0_; have HO1004 := n1_; have HO1007 := n2_; have HO1012 := n3_; have HO1015 := n4_; have BK996 := n5_; have HB := n6_; have BK1016 := n7_; have GW1016 := n8_; have GE1016 := n9_; have := geI GE1016; have NB996_1016 := n10_; have NB1016_996 := n11_; clear n0_ n1_ n2_ n3_ n4_ n5_ n6_ n7_ n8_ n9_ n10_ n11_ hb hbox hg; have hnb24 := NB1016_996.out; have hnc24 := NB996_1016.out; have hcz25_0 : w23.cell? ⟨gb1016, 0, none⟩ = some (.int .i64 0) := (blk_cell BK1016.out 0).trans rfl; have hcz25_1 : w23.cell? ⟨gb1016, 1, none⟩ = some (.slice none 0 0) := (blk_cell BK1016.out 1).trans rfl; have hcz25_2 : w23.cell? ⟨gb1016, 2, none⟩ = some (.slice none 0 0) := (blk_cell BK1016.out 2).trans rfl; have hfz25_0 := blk_frozen BK1016.out 0; have hfz25_1 := blk_frozen BK1016.out 1; have hfz25_2 := blk_frozen BK1016.out 2; obtain ⟨Ao26, co26, eo26⟩ := Kd.R_slice HO1012.out; subst eo26; obtain ⟨Ao27, co27, eo27⟩ := Kd.R_slice HO1015.out; subst eo27) | ((with_reducible refine gate_callee (f := 43) rfl ?_); refine goesL_ (some 33) rfl rfl Try.func43 (by kernel_rfl) rfl #[.agg #[.int .i64 t1009, .slice Ao26 t1010.length co26, .slice Ao27 t1013.length co27], .int .i64 a1] rfl (by (try simp only [la, lb, lc]); first | done | rfl | (simp only [ld, le]; rfl)) ?_; (with_reducible refine (impl_WronskiAt.calls k t1009 _ _ t1010 _ _ t1013 a1 t1017 t1020 _ ?side1 ?side2 ?side3 ?side4 A11.out).mono ?_); (case side1 => refine (Kd.R_reads' (e := 2) (base := w.heap.size) (ok := fun k_ => (((some k_ ≠ (.slice Ao27 t1013.length co27 : Value).ownBlock ∧ some k_ ≠ (.slice Ao18 t999.length co18 : Value).ownBlock) ∧ some k_ ≠ (.slice Ao19 t1002.length co19 : Value).ownBlock) ∧ some k_ ≠ (v1006 : Value).ownBlock)) (n := t1010.length) (c := co26) ?_).2.2; exact (uR ((Kd.R_mono (Kd.R_far (p := ⟨gb1016, 2, none⟩) (Kd.R_far (p := ⟨gb1016, 1, none⟩) (Kd.R_far (p := ⟨gb1016, 0, none⟩) (Kd.R_types HO1012.out BK1016.out (by decide)) (fun _ hk => hk.2) (.int .i64 t1009)) (fun _ hk => hk.2) (.slice Ao26 t1010.length co26)) (fun _ hk => hk.2) (.slice Ao27 t1013.length co27)) (fun _ h_ => h_.1))))); (case side2 => exact (Kd.R_reads' HO1012.out).2.1); (case side3 => refine (Kd.R_reads' (e := 2) (base := w.heap.size) (ok := fun k_ => (((some k_ ≠ (.slice Ao26 t1010.length co26 : Value).ownBlock ∧ some k_ ≠ (.slice Ao18 t999.length co18 : Value).ownBlock) ∧ some k_ ≠ (.slice Ao19 t1002.length co19 : Value).ownBlock) ∧ some k_ ≠ (v1006 : Value).ownBlock)) (n := t1013.length) (c := co27) ?_).2.2; exact (uR ((Kd.R_mono (Kd.R_far (p := ⟨gb1016, 2, none⟩) (Kd.R_far (p := ⟨gb1016, 1, none⟩) (Kd.R_far (p := ⟨gb1016, 0, none⟩) (Kd.R_types HO1015.out BK1016.out (by decide)) (fun _ hk => hk.2) (.int .i64 t1009)) (fun _ hk => hk.2) (.slice Ao26 t1010.length co26)) (fun _ hk => hk.2) (.slice Ao27 t1013.length co27)) (fun _ h_ => h_.1))))); (case side4 => exact (Kd.R_reads' HO1015.out).2.1); rintro e w28 ⟨v1018, rfl, ho0, hb⟩; refine ⟨_, rfl, ?_⟩; have n0_ := zA (Kd.R_elder' (uR ((Kd.R_mono (Kd.R_far (p := ⟨gb1016, 2, none⟩) (Kd.R_far (p := ⟨gb1016, 1, none⟩) (Kd.R_far (p := ⟨gb1016, 0, none⟩) (Kd.R_types HO1001.out BK1016.out (by decide)) (fun _ hk => hk.2) (.int .i64 t1009)) (fun _ hk => hk.2) (.slice Ao26 t1010.length co26)) (fun _ hk => hk.2) (.slice Ao27 t1013.length co27)) (fun _ h_ => h_.1)))) (Kd.R_base ho0) hb); have n1_ := zA (Kd.R_elder' (uR ((Kd.R_mono (Kd.R_far (p := ⟨gb1016, 2, none⟩) (Kd.R_far (p := ⟨gb1016, 1, none⟩) (Kd.R_far (p := ⟨gb1016, 0, none⟩) (Kd.R_types HO1004.out BK1016.out (by decide)) (fun _ hk => hk.2) (.int .i64 t1009)) (fun _ hk => hk.2) (.slice Ao26 t1010.length co26)) (fun _ hk => hk.2) (.slice Ao27 t1013.length co27)) (fun _ h_ => h_.1)))) (Kd.R_base ho0) hb); have n2_ := zA (Kd.R_elder' (uR ((Kd.R_mono (Kd.R_far (p := ⟨gb1016, 2, none⟩) (Kd.R_far (p := ⟨gb1016, 1, none⟩) (Kd.R_far (p := ⟨gb1016, 0, none⟩) (Kd.R_types HO1007.out BK1016.out (by decide)) (fun _ hk => hk.2) (.int .i64 t1009)) (fun _ hk => hk.2) (.slice Ao26 t1010.length co26)) (fun _ hk => hk.2) (.slice Ao27 t1013.length co27)) (fun _ h_ => h_.1)))) (Kd.R_base ho0) hb); have n3_ := zA (Kd.R_elder' (uR ((Kd.R_mono (Kd.R_far (p := ⟨gb1016, 2, none⟩) (Kd.R_far (p := ⟨gb1016, 1, none⟩) (Kd.R_far (p := ⟨gb1016, 0, none⟩) (Kd.R_types HO1012.out BK1016.out (by decide)) (fun _ hk => hk.2) (.int .i64 t1009)) (fun _ hk => hk.2) (.slice Ao26 t1010.length co26)) (fun _ hk => hk.2) (.slice Ao27 t1013.length co27)) (fun _ h_ => h_.1)))) (Kd.R_base ho0) hb); have n4_ := zA (Kd.R_elder' (uR ((Kd.R_mono (Kd.R_far (p := ⟨gb1016, 2, none⟩) (Kd.R_far (p := ⟨gb1016, 1, none⟩) (Kd.R_far (p := ⟨gb1016, 0, none⟩) (Kd.R_types HO1015.out BK1016.out (by decide)) (fun _ hk => hk.2) (.int .i64 t1009)) (fun _ hk => hk.2) (.slice Ao26 t1010.length co26)) (fun _ hk => hk.2) (.slice Ao27 t1013.length co27)) (fun _ h_ => h_.1)))) (Kd.R_base ho0) hb); have n5_ := zA (Kd.R_lower (Kd.R_new' (Kd.R_new' (Kd.R_new' (Kd.R_new' (Kd.R_new' ho0 (Kd.R_lt (uR ((Kd.R_mono (Kd.R_far (p := ⟨gb1016, 2, none⟩) (Kd.R_far (p := ⟨gb1016, 1, none⟩) (Kd.R_far (p := ⟨gb1016, 0, none⟩) (Kd.R_types HO1001.out BK1016.out (by decide)) (fun _ hk => hk.2) (.int .i64 t1009)) (fun _ hk => hk.2) (.slice Ao26 t1010.length co26)) (fun _ hk => hk.2) (.slice Ao27 t1013.length co27)) (fun _ h_ => h_.1)))))) (Kd.R_lt (uR ((Kd.R_mono (Kd.R_far (p := ⟨gb1016, 2, none⟩) (Kd.R_far (p := ⟨gb1016, 1, none⟩) (Kd.R_far (p := ⟨gb1016, 0, none⟩) (Kd.R_types HO1004.out BK1016.out (by decide)) (fun _ hk => hk.2) (.int .i64 t1009)) (fun _ hk => hk.2) (.slice Ao26 t1010.length co26)) (fun _ hk => hk.2) (.slice Ao27 t1013.length co27)) (fun _ h_ => h_.1)))))) (Kd.R_lt (uR ((Kd.R_mono (Kd.R_far (p := ⟨gb1016, 2, none⟩) (Kd.R_far (p := ⟨gb1016, 1, none⟩) (Kd.R_far (p := ⟨gb1016, 0, none⟩) (Kd.R_types HO1007.out BK1016.out (by decide)) (fun _ hk => hk.2) (.int .i64 t1009)) (fun _ hk => hk.2) (.slice Ao26 t1010.length co26)) (fun _ hk => hk.2) (.slice Ao27 t1013.length co27)) (fun _ h_ => h_.1)))))) (Kd.R_lt (uR ((Kd.R_mono (Kd.R_far (p := ⟨gb1016, 2, none⟩) (Kd.R_far (p := ⟨gb1016, 1, none⟩) (Kd.R_far (p := ⟨gb1016, 0, none⟩) (Kd.R_types HO1012.out BK1016.out (by decide)) (fun _ hk => hk.2) (.int .i64 t1009)) (fun _ hk => hk.2) (.slice Ao26 t1010.length co26)) (fun _ hk => hk.2) (.slice Ao27 t1013.length co27)) (fun _ h_ => h_.1)))))) (Kd.R_lt (uR ((Kd.R_mono (Kd.R_far (p := ⟨gb1016, 2, none⟩) (Kd.R_far (p := ⟨gb1016, 1, none⟩) (Kd.R_far (p := ⟨gb1016, 0, none⟩) (Kd.R_types HO1015.out BK1016.out (by decide)) (fun _ hk => hk.2) (.int .i64 t1009)) (fun _ hk => hk.2) (.slice Ao26 t1010.length co26)) (fun _ hk => hk.2) (.slice Ao27 t1013.length co27)) (fun _ h_ => h_.1)))))) (below_size (uH HB.out))); have n6_ := zA (blk_below (g := gb996) (o := .cells #[.int .i64 a0_0, .slice A0_1 l0_1.length c0_1, .slice A0_2 l0_2.length c0_2] 24 (0, 0)) (by (with_reducible repeat (first | refine blk_drewN ?_ _ | refine blk_drew ?_ | refine blk_alloc ?_ _)); refine blk_far ?_ NB996_1016.out _; (with_reducible repeat (first | refine blk_drewN ?_ _ | refine blk_drew ?_ | refine blk_alloc ?_ _)); refine blk_far ?_ NB996_1016.out _; (with_reducible repeat (first | refine blk_drewN ?_ _ | refine blk_drew ?_ | refine blk_alloc ?_ _)); refine blk_far ?_ NB996_1016.out _; (with_reducible repeat (first | refine blk_drewN ?_ _ | refine blk_drew ?_ | refine blk_alloc ?_ _)); exact BK996.out) hb); have n7_ := zA (blk_below (g := gb1016) (o := .cells #[.int .i64 t1009, .slice Ao26 t1010.length co26, .slice Ao27 t1013.length co27] 26 (0, 0)) (by (with_reducible repeat (first | refine blk_drewN ?_ _ | refine blk_drew ?_ | refine blk_alloc ?_ _)); refine blk_put (cs := #[.int .i64 t1009, .slice Ao26 t1010.length co26, .slice none 0 0]) ?_ 2 _ rfl; (with_reducible repeat (first | refine blk_drewN ?_ _ | refine blk_drew ?_ | refine blk_alloc ?_ _)); refine blk_put (cs := #[.int .i64 t1009, .slice none 0 0, .slice none 0 0]) ?_ 1 _ rfl; (with_reducible repeat (first | refine blk_drewN ?_ _ | refine blk_drew ?_ | refine blk_alloc ?_ _)); refine blk_put (cs := #[.int .i64 0, .slice none 0 0, .slice none 0 0]) ?_ 0 _ rfl; (with_reducible repeat (first | refine blk_drewN ?_ _ | refine blk_drew ?_ | refine blk_alloc ?_ _)); exact BK1016.out) hb); have n8_ := xH HB hb; clear HO1001 HO1004 HO1007 HO1012 HO1015 BK996 BK1016 HB; have HO1001 := n0_; have HO1004 := n1_; have HO1007 := n2_; have HO1012 := n3_; have HO1015 := n4_; have HO1019 := n5_; have BK996 := n6_; have BK1016 := n7_; have HB := n8_; clear n0_ n1_ n2_ n3_ n4_ n5_ n6_ n7_ n8_; (try clear hb); (try clear hb2); (try clear hk); (try clear hi); (try clear ho0)))
  (try simp only [Act.put, ls, lz, ln])
  go_cut [44] (fun v44 wc => ∃ (kq : Nat) (x44_11 : Bool), v44 = .bool x44_11 ∧ Aside0 (laws_FnExactWronskiAt.j0 kq a1 t1005 t1008 t1017 t1020 x44_11 a0_0 l0_1 l0_2 t1009 t1010 t1013 = some r) ∧ Aside0 (kq ≤ k) ∧ Aside0 (Kd.R (Kd.int .i64) 2 wc w.heap.size (fun k_ => some k_ ≠ (v1018 : Value).ownBlock ∧ some k_ ≠ ((.slice Ao26 t1010.length co26) : Value).ownBlock ∧ some k_ ≠ ((.slice Ao27 t1013.length co27) : Value).ownBlock) v1006 t1005) ∧ Aside0 (Kd.R (Kd.int .i64) 2 wc w.heap.size (fun k_ => some k_ ≠ (v1006 : Value).ownBlock ∧ some k_ ≠ ((.slice Ao26 t1010.length co26) : Value).ownBlock ∧ some k_ ≠ ((.slice Ao27 t1013.length co27) : Value).ownBlock) v1018 t1017) ∧ Aside0 (Kd.R (Kd.int .i64) 2 wc w.heap.size (fun k_ => some k_ ≠ (v1006 : Value).ownBlock ∧ some k_ ≠ (v1018 : Value).ownBlock ∧ some k_ ≠ ((.slice Ao27 t1013.length co27) : Value).ownBlock) (.slice Ao26 t1010.length co26) t1010) ∧ Aside0 (Kd.R (Kd.int .i64) 2 wc w.heap.size (fun k_ => some k_ ≠ (v1006 : Value).ownBlock ∧ some k_ ≠ (v1018 : Value).ownBlock ∧ some k_ ≠ ((.slice Ao26 t1010.length co26) : Value).ownBlock) (.slice Ao27 t1013.length co27) t1013) ∧ Aside0 (wc.heap[gb996]? = some (.cells #[.int .i64 a0_0, (.slice A0_1 l0_1.length c0_1), (.slice A0_2 l0_2.length c0_2)] 24 (0, 0))) ∧ Aside0 (wc.heap[gb1016]? = some (.cells #[.int .i64 t1009, (.slice Ao26 t1010.length co26), (.slice Ao27 t1013.length co27)] 26 (0, 0))) ∧ Aside0 (Below w.heap.size w wc))
  case first =>
   have H := HC12.out
   clear HC12
   replace H := Option.bind_eq_some_iff.mp H
   obtain ⟨t1021, A290, H⟩ := H
   replace H : (if t1021 = true then (laws_FnExactWronskiAt.j0 k a1 t1005 t1008 t1017 t1020 (t1020 != t1008) a0_0 l0_1 l0_2 t1009 t1010 t1013) else (laws_FnExactWronskiAt.j0 k a1 t1005 t1008 t1017 t1020 true a0_0 l0_1 l0_2 t1009 t1010 t1013)) = some r := H
   have A29 := zA A290
   clear A290
   by_cases c30 : t1021 = true
   ·subst c30
    have H1 : (laws_FnExactWronskiAt.j0 k a1 t1005 t1008 t1017 t1020 (t1020 != t1008) a0_0 l0_1 l0_2 t1009 t1010 t1013) = some r := by rw [if_pos rfl] at H; exact H
    clear H
    have H := H1
    clear H1
    have H' := zA H
    clear H
    obtain ⟨Ao31, co31, eo31⟩ := Kd.R_slice HO1019.out
    subst eo31
    obtain ⟨Ao32, co32, eo32⟩ := Kd.R_slice HO1007.out
    subst eo32
    go_wp2_with (first | ((with_reducible refine gate_callee (f := 35) rfl ?_); refine goesL_ (some 38) rfl rfl Try.func35 (by kernel_rfl) rfl #[.slice Ao31 t1017.length co31, .slice Ao32 t1005.length co32] rfl (by (try simp only [la, lb, lc]); first | done | rfl | (simp only [ld, le]; rfl)) ?_; (with_reducible refine (laws_eqInt64S.calls k _ _ t1017 _ _ t1005 true _ ?side1 ?side2 ?side3 ?side4 A29.out).mono ?_); (case side1 => exact uC ((Kd.R_reads' HO1019.out).2.2)); (case side2 => exact (Kd.R_reads' HO1019.out).2.1); (case side3 => exact uC ((Kd.R_reads' HO1007.out).2.2)); (case side4 => exact (Kd.R_reads' HO1007.out).2.1); rintro e w' ⟨rfl, ⟨nd, rfl⟩⟩; refine ⟨_, rfl, ?_⟩))
    go_meet
    case rel => exact ⟨_, ((t1020 != t1008)), (by first | rfl | (simp; done) | (simp [*]; done)), H', ⟨by first | omega | exact Nat.le_refl _⟩, ⟨uR (Kd.R_mono HO1007.out (fun _ hk => ⟨hk.2, ⟨hk.1.1.2, hk.1.2⟩⟩))⟩, ⟨uR (Kd.R_mono HO1019.out (fun _ hk => ⟨hk.1.1.2, ⟨hk.1.2, hk.2⟩⟩))⟩, ⟨uR (Kd.R_mono HO1012.out (fun _ hk => ⟨hk.1.2, ⟨hk.2, hk.1.1.1.1⟩⟩))⟩, ⟨uR (Kd.R_mono HO1015.out (fun _ hk => ⟨hk.1.2, ⟨hk.2, hk.1.1.1.1⟩⟩))⟩, ⟨uB BK996.out⟩, ⟨uB BK1016.out⟩, ⟨uH HB.out⟩⟩
   ·replace c30 := Bool.eq_false_iff.mpr c30
    subst c30
    have H1 : (laws_FnExactWronskiAt.j0 k a1 t1005 t1008 t1017 t1020 true a0_0 l0_1 l0_2 t1009 t1010 t1013) = some r := by rw [if_neg (show ¬ (false = true) by decide)] at H; exact H
    clear H
    have H := H1
    clear H1
    have H' := zA H
    clear H
    obtain ⟨Ao33, co33, eo33⟩ := Kd.R_slice HO1019.out
    subst eo33
    obtain ⟨Ao34, co34, eo34⟩ := Kd.R_slice HO1007.out
    subst eo34
    go_wp2_with (first | ((with_reducible refine gate_callee (f := 35) rfl ?_); refine goesL_ (some 38) rfl rfl Try.func35 (by kernel_rfl) rfl #[.slice Ao33 t1017.length co33, .slice Ao34 t1005.length co34] rfl (by (try simp only [la, lb, lc]); first | done | rfl | (simp only [ld, le]; rfl)) ?_; (with_reducible refine (laws_eqInt64S.calls k _ _ t1017 _ _ t1005 false _ ?side1 ?side2 ?side3 ?side4 A29.out).mono ?_); (case side1 => exact uC ((Kd.R_reads' HO1019.out).2.2)); (case side2 => exact (Kd.R_reads' HO1019.out).2.1); (case side3 => exact uC ((Kd.R_reads' HO1007.out).2.2)); (case side4 => exact (Kd.R_reads' HO1007.out).2.1); rintro e w' ⟨rfl, ⟨nd, rfl⟩⟩; refine ⟨_, rfl, ?_⟩))
    go_meet
    case rel => exact ⟨_, (true), (by first | rfl | (simp; done) | (simp [*]; done)), H', ⟨by first | omega | exact Nat.le_refl _⟩, ⟨uR (Kd.R_mono HO1007.out (fun _ hk => ⟨hk.2, ⟨hk.1.1.2, hk.1.2⟩⟩))⟩, ⟨uR (Kd.R_mono HO1019.out (fun _ hk => ⟨hk.1.1.2, ⟨hk.1.2, hk.2⟩⟩))⟩, ⟨uR (Kd.R_mono HO1012.out (fun _ hk => ⟨hk.1.2, ⟨hk.2, hk.1.1.1.1⟩⟩))⟩, ⟨uR (Kd.R_mono HO1015.out (fun _ hk => ⟨hk.1.2, ⟨hk.2, hk.1.1.1.1⟩⟩))⟩, ⟨uB BK996.out⟩, ⟨uB BK1016.out⟩, ⟨uH HB.out⟩⟩
  case rest =>
   clear HC12
   try clear c1
   try clear c2
   try clear p2
   try clear c3
   try clear c4
   try clear c4b0
   try clear c11
   try clear c15
   try clear c17
   try clear c24
   try clear c30
   try clear hcz14_0
   try clear hcz14_1
   try clear hcz14_2
   try clear hcz16_0
   try clear hcz16_1
   try clear hcz16_2
   try clear hcz21_0
   try clear hcz21_1
   try clear hcz21_2
   try clear hcz25_0
   try clear hcz25_1
   try clear hcz25_2
   try clear hcz6_0
   try clear hcz6_1
   try clear hcz6_2
   try clear hfz14_0
   try clear hfz14_1
   try clear hfz14_2
   try clear hfz16_0
   try clear hfz16_1
   try clear hfz16_2
   try clear hfz21_0
   try clear hfz21_1
   try clear hfz21_2
   try clear hfz25_0
   try clear hfz25_1
   try clear hfz25_2
   try clear hfz6_0
   try clear hfz6_1
   try clear hfz6_2
   obtain ⟨kq, x44_11, rfl, HA, HJ11, HO_6, HO_9, HO_1017001, HO_1017002, BK996, BK1016, HB⟩ := hcut
   cases kq with
   | zero => exact absurd HA.out (by simp [laws_FnExactWronskiAt.j0])
   | succ kj11 =>
    have H := HA.out
    clear HA
    simp only [laws_FnExactWronskiAt.j0] at H
    by_cases c35 : x44_11 = true
    ·subst c35
     have H1 : (some false) = some r := by rw [if_pos rfl] at H; exact H
     clear H
     have H := H1
     clear H1
     rw [HRT.out] at H
     exact absurd H (by simp)
    ·replace c35 := Bool.eq_false_iff.mpr c35
     subst c35
     have H1 : ((laws_toJacobi.f kj11 a0_0 l0_1 l0_2).bind fun bt1022 => ((laws_eqJacobi.f kj11 t1009 t1010 t1013 bt1022.1 bt1022.2.1 bt1022.2.2).bind fun t1029 => (if t1029 = true then ((laws_markJacobi.f kj11 t1009 t1010 t1013 1).bind fun bt1030 => (if bt1030.1 < 0 then (laws_FnExactWronskiAt.j1 kj11 a1 t1005 t1008 t1017 true a0_0 l0_1 l0_2) else ((laws_eqInt64S.f kj11 t1017 t1005).bind fun t1033 => (if t1033 = true then (laws_FnExactWronskiAt.j1 kj11 a1 t1005 t1008 t1017 (t1020 != t1008) a0_0 l0_1 l0_2) else (laws_FnExactWronskiAt.j1 kj11 a1 t1005 t1008 t1017 true a0_0 l0_1 l0_2))))) else (some false)))) = some r := by rw [if_neg (show ¬ (false = true) by decide)] at H; exact H
     clear H
     have H := H1
     clear H1
     replace H := Option.bind_eq_some_iff.mp H
     obtain ⟨⟨t1022, t1023, t1026⟩, A360, H⟩ := H
     replace H : ((laws_eqJacobi.f kj11 t1009 t1010 t1013 t1022 t1023 t1026).bind fun t1029 => (if t1029 = true then ((laws_markJacobi.f kj11 t1009 t1010 t1013 1).bind fun bt1030 => (if bt1030.1 < 0 then (laws_FnExactWronskiAt.j1 kj11 a1 t1005 t1008 t1017 true a0_0 l0_1 l0_2) else ((laws_eqInt64S.f kj11 t1017 t1005).bind fun t1033 => (if t1033 = true then (laws_FnExactWronskiAt.j1 kj11 a1 t1005 t1008 t1017 (t1020 != t1008) a0_0 l0_1 l0_2) else (laws_FnExactWronskiAt.j1 kj11 a1 t1005 t1008 t1017 true a0_0 l0_1 l0_2))))) else (some false))) = some r := H
     have A36 := zA A360
     clear A360
     replace H := Option.bind_eq_some_iff.mp H
     obtain ⟨t1029, A370, H⟩ := H
     replace H : (if t1029 = true then ((laws_markJacobi.f kj11 t1009 t1010 t1013 1).bind fun bt1030 => (if bt1030.1 < 0 then (laws_FnExactWronskiAt.j1 kj11 a1 t1005 t1008 t1017 true a0_0 l0_1 l0_2) else ((laws_eqInt64S.f kj11 t1017 t1005).bind fun t1033 => (if t1033 = true then (laws_FnExactWronskiAt.j1 kj11 a1 t1005 t1008 t1017 (t1020 != t1008) a0_0 l0_1 l0_2) else (laws_FnExactWronskiAt.j1 kj11 a1 t1005 t1008 t1017 true a0_0 l0_1 l0_2))))) else (some false)) = some r := H
     have A37 := zA A370
     clear A370
     by_cases c38 : t1029 = true
     ·subst c38
      have H1 : ((laws_markJacobi.f kj11 t1009 t1010 t1013 1).bind fun bt1030 => (if bt1030.1 < 0 then (laws_FnExactWronskiAt.j1 kj11 a1 t1005 t1008 t1017 true a0_0 l0_1 l0_2) else ((laws_eqInt64S.f kj11 t1017 t1005).bind fun t1033 => (if t1033 = true then (laws_FnExactWronskiAt.j1 kj11 a1 t1005 t1008 t1017 (t1020 != t1008) a0_0 l0_1 l0_2) else (laws_FnExactWronskiAt.j1 kj11 a1 t1005 t1008 t1017 true a0_0 l0_1 l0_2))))) = some r := by rw [if_pos rfl] at H; exact H
      clear H
      have H := H1
      clear H1
      replace H := Option.bind_eq_some_iff.mp H
      obtain ⟨⟨t1030, t1031, t1032⟩, A390, H⟩ := H
      replace H : (if t1030 < 0 then (laws_FnExactWronskiAt.j1 kj11 a1 t1005 t1008 t1017 true a0_0 l0_1 l0_2) else ((laws_eqInt64S.f kj11 t1017 t1005).bind fun t1033 => (if t1033 = true then (laws_FnExactWronskiAt.j1 kj11 a1 t1005 t1008 t1017 (t1020 != t1008) a0_0 l0_1 l0_2) else (laws_FnExactWronskiAt.j1 kj11 a1 t1005 t1008 t1017 true a0_0 l0_1 l0_2)))) = some r := H
      have A39 := zA A390
      clear A390
      have HC40 := zA H
      clear H
      try go_wp2
      have n0_ := zA (Kd.R_drew HO_6.out)
      have n1_ := zA (Kd.R_drew HO_9.out)
      have n2_ := zA (Kd.R_drew HO_1017001.out)
      have n3_ := zA (Kd.R_drew HO_1017002.out)
      have n4_ := zA (blk_drew BK996.out)
      have n5_ := zA (blk_drew BK1016.out)
      have n6_ := zA (below_drew1 HB.out)
      clear HO_6 HO_9 HO_1017001 HO_1017002 BK996 BK1016 HB
      have HO_6 := n0_; have HO_9 := n1_; have HO_1017001 := n2_; have HO_1017002 := n3_; have BK996 := n4_; have BK1016 := n5_; have HB := n6_
      clear n0_ n1_ n2_ n3_ n4_ n5_ n6_
      refine start_ (n := 5) (S := fun w' => w'.cell? ⟨gb1016, 0, none⟩ = some (.int .i64 t1009) ∧ w'.cell? ⟨gb1016, 1, none⟩ = some (.slice Ao26 t1010.length co26) ∧ w'.cell? ⟨gb1016, 2, none⟩ = some (.slice Ao27 t1013.length co27) ∧ w'.cell? ⟨gb996, 0, none⟩ = some (.int .i64 a0_0) ∧ w'.cell? ⟨gb996, 1, none⟩ = some (.slice A0_1 l0_1.length c0_1) ∧ w'.cell? ⟨gb996, 2, none⟩ = some (.slice A0_2 l0_2.length c0_2)) (ds := []) #[false, false, false, false, false] (by kernel_rfl) rfl rfl ⟨(blk_cell BK1016.out 0).trans rfl, (blk_cell BK1016.out 1).trans rfl, (blk_cell BK1016.out 2).trans rfl, (blk_cell BK996.out 0).trans rfl, (blk_cell BK996.out 1).trans rfl, (blk_cell BK996.out 2).trans rfl⟩ (fun hHeld => ?_)
      generalize wc.drew = w41 at HO_6 HO_9 HO_1017001 HO_1017002 BK996 BK1016 HB hHeld ⊢
      refine take_ (i := 0) (N := some 45) (v := ?_) (a' := ?_) #[true, false, false, false, false] rfl rfl (by kernel_rfl) (fun _ _ _ h => h) (Or.inl ⟨by rfl, ?_⟩) hHeld ?_ ?_
      rotate_left
      ·rintro w' ⟨s0, s1, s2, s3, s4, s5⟩
       go_simp
       with_reducible rfl
      rotate_left
      ·simp only [Act.put, ls, lz, ln, i64_w, i32_w]
       rfl
      refine take_ (i := 1) (N := some 46) (v := ?_) (a' := ?_) #[true, true, false, false, false] rfl rfl (by kernel_rfl) (fun _ _ _ h => h) (Or.inl ⟨by rfl, ?_⟩) hHeld ?_ ?_
      rotate_left
      ·rintro w' ⟨s0, s1, s2, s3, s4, s5⟩
       go_simp
       with_reducible rfl
      rotate_left
      ·simp only [Act.put, ls, lz, ln, i64_w, i32_w]
       rfl
      refine one_ (i := 2) (N := some 47) #[true, true, true, false, false] rfl rfl (by kernel_rfl) (by decide) (fun K hK => ?_)
      refine goes_ Try.func17 (by kernel_rfl) rfl #[.agg #[.int .i64 a0_0, .slice A0_1 l0_1.length c0_1, .slice A0_2 l0_2.length c0_2]] (by rfl) rfl rfl (by (try simp only [la, lb, lc]); first | done | rfl | (simp only [ld, le]; rfl)) ?_
      with_reducible refine (laws_toJacobi.calls kj11 a0_0 _ _ l0_1 _ _ l0_2 t1022 t1023 t1026 _ ?side1 ?side2 ?side3 ?side4 A36.out).mono ?_
      (case side1 => exact uC ((Kd.C_below HR0_1.out HB.out)))
      (case side2 => exact HC0_1.out)
      (case side3 => exact uC ((Kd.C_below HR0_2.out HB.out)))
      (case side4 => exact HC0_2.out)
      rintro e w42 ⟨v1024, v1027, rfl, ho0, ho1, hb⟩
      refine ⟨_, rfl, ?_⟩
      have n0_ := zA (Kd.R_mono (Kd.R_told (Kd.R_told (Kd.R_old (uR HO_6.out) hb) (Kd.R_base ho0)) (Kd.R_base ho1)) (fun _ h_ => h_.1))
      have n1_ := zA (Kd.R_mono (Kd.R_told (Kd.R_told (Kd.R_old (uR HO_9.out) hb) (Kd.R_base ho0)) (Kd.R_base ho1)) (fun _ h_ => h_.1))
      have n2_ := zA (Kd.R_mono (Kd.R_told (Kd.R_told (Kd.R_old (uR HO_1017001.out) hb) (Kd.R_base ho0)) (Kd.R_base ho1)) (fun _ h_ => h_.1))
      have n3_ := zA (Kd.R_mono (Kd.R_told (Kd.R_told (Kd.R_old (uR HO_1017002.out) hb) (Kd.R_base ho0)) (Kd.R_base ho1)) (fun _ h_ => h_.1))
      have n4_ := zA (Kd.R_lower (Kd.R_new' (Kd.R_new' (Kd.R_new' (Kd.R_new' ho0 (Kd.R_lt (uR HO_6.out))) (Kd.R_lt (uR HO_9.out))) (Kd.R_lt (uR HO_1017001.out))) (Kd.R_lt (uR HO_1017002.out))) (below_size (uH HB.out)))
      have n5_ := zA (Kd.R_lower (Kd.R_new' (Kd.R_new' (Kd.R_new' (Kd.R_new' ho1 (Kd.R_lt (uR HO_6.out))) (Kd.R_lt (uR HO_9.out))) (Kd.R_lt (uR HO_1017001.out))) (Kd.R_lt (uR HO_1017002.out))) (below_size (uH HB.out)))
      have n6_ := xB BK996 hb
      have n7_ := xB BK1016 hb
      have n8_ := xH HB hb
      clear HO_6 HO_9 HO_1017001 HO_1017002 BK996 BK1016 HB
      have HO_6 := n0_; have HO_9 := n1_; have HO_1017001 := n2_; have HO_1017002 := n3_; have HO1025 := n4_; have HO1028 := n5_; have BK996 := n6_; have BK1016 := n7_; have HB := n8_
      clear n0_ n1_ n2_ n3_ n4_ n5_ n6_ n7_ n8_
      (try clear hb); (try clear hb2); (try clear hk); (try clear hi); (try clear ho0); (try clear ho1)
      obtain ⟨Ao43, co43, eo43⟩ := Kd.R_slice HO1025.out
      (first | subst eo43 | (injection eo43 with f1_ f2_ f3_; have f4_ := f1_.symm; have f5_ := f3_.symm; clear f1_ f2_ f3_; subst f4_; subst f5_))
      obtain ⟨Ao44, co44, eo44⟩ := Kd.R_slice HO1028.out
      (first | subst eo44 | (injection eo44 with f1_ f2_ f3_; have f4_ := f1_.symm; have f5_ := f3_.symm; clear f1_ f2_ f3_; subst f4_; subst f5_))
      refine hK.out _ _ ⟨(blk_cell BK1016.out 0).trans rfl, (blk_cell BK1016.out 1).trans rfl, (blk_cell BK1016.out 2).trans rfl, (blk_cell BK996.out 0).trans rfl, (blk_cell BK996.out 1).trans rfl, (blk_cell BK996.out 2).trans rfl⟩ (fun hHeld => ?_)
      clear hK K
      refine norm_ (a' := ?_) ?_ ?_
      rotate_left
      ·show Act.put _ (some 47) _ = _
       simp only [Act.put, ls, lz, ln, i64_w, i32_w]
       rfl
      refine one_ (i := 3) (N := some 48) #[true, true, true, true, false] rfl rfl (by kernel_rfl) (by decide) (fun K hK => ?_)
      refine goes_ Try.func19 (by kernel_rfl) rfl #[.agg #[.int .i64 t1009, .slice Ao26 t1010.length co26, .slice Ao27 t1013.length co27], .agg #[.int .i64 t1022, .slice Ao43 t1023.length co43, .slice Ao44 t1026.length co44]] (by rfl) rfl rfl (by (try simp only [la, lb, lc]); first | done | rfl | (simp only [ld, le]; rfl)) ?_
      with_reducible refine (laws_eqJacobi.calls kj11 t1009 _ _ t1010 _ _ t1013 t1022 _ _ t1023 _ _ t1026 true _ ?side1 ?side2 ?side3 ?side4 ?side5 ?side6 ?side7 ?side8 A37.out).mono ?_
      (case side1 => exact uC ((Kd.R_reads' HO_1017001.out).2.2))
      (case side2 => exact (Kd.R_reads' HO_1017001.out).2.1)
      (case side3 => exact uC ((Kd.R_reads' HO_1017002.out).2.2))
      (case side4 => exact (Kd.R_reads' HO_1017002.out).2.1)
      (case side5 => exact uC ((Kd.R_reads' HO1025.out).2.2))
      (case side6 => exact (Kd.R_reads' HO1025.out).2.1)
      (case side7 => exact uC ((Kd.R_reads' HO1028.out).2.2))
      (case side8 => exact (Kd.R_reads' HO1028.out).2.1)
      rintro e w45 ⟨rfl, hb⟩
      refine ⟨_, rfl, ?_⟩
      have n0_ := xR HO_6 hb
      have n1_ := xR HO_9 hb
      have n2_ := xR HO_1017001 hb
      have n3_ := xR HO_1017002 hb
      have n4_ := xR HO1025 hb
      have n5_ := xR HO1028 hb
      have n6_ := xB BK996 hb
      have n7_ := xB BK1016 hb
      have n8_ := xH HB hb
      clear HO_6 HO_9 HO_1017001 HO_1017002 HO1025 HO1028 BK996 BK1016 HB
      have HO_6 := n0_; have HO_9 := n1_; have HO_1017001 := n2_; have HO_1017002 := n3_; have HO1025 := n4_; have HO1028 := n5_; have BK996 := n6_; have BK1016 := n7_; have HB := n8_
      clear n0_ n1_ n2_ n3_ n4_ n5_ n6_ n7_ n8_
      (try clear hb); (try clear hb2); (try clear hk); (try clear hi)
      refine hK.out _ _ ⟨(blk_cell BK1016.out 0).trans rfl, (blk_cell BK1016.out 1).trans rfl, (blk_cell BK1016.out 2).trans rfl, (blk_cell BK996.out 0).trans rfl, (blk_cell BK996.out 1).trans rfl, (blk_cell BK996.out 2).trans rfl⟩ (fun hHeld => ?_)
      clear hK K
      refine norm_ (a' := ?_) ?_ ?_
      rotate_left
      ·show Act.put _ (some 48) _ = _
       simp only [Act.put, ls, lz, ln, i64_w, i32_w]
       rfl
      refine pure_ (i := 4) (N := some 49) (v := ?_) (a' := ?_) #[true, true, true, true, true] rfl rfl (by kernel_rfl) (fun _ _ _ h => h) (Or.inl ⟨by rfl, ?_⟩) ?_ ?_
      rotate_left
      ·intro w'
       go_simp
       with_reducible rfl
      rotate_left
      ·simp only [Act.put, ls, lz, ln, i64_w, i32_w]
       rfl
      refine done_ (by kernel_rfl) ?_
      have hnb46 := NB1016_996.out; have hnc46 := NB996_1016.out
      have hcz47_0 : w45.cell? ⟨gb1016, 0, none⟩ = some (.int .i64 t1009) := (blk_cell BK1016.out 0).trans rfl
      have hcz47_1 : w45.cell? ⟨gb1016, 1, none⟩ = some (.slice Ao26 t1010.length co26) := (blk_cell BK1016.out 1).trans rfl
      have hcz47_2 : w45.cell? ⟨gb1016, 2, none⟩ = some (.slice Ao27 t1013.length co27) := (blk_cell BK1016.out 2).trans rfl
      have hfz47_0 := blk_frozen BK1016.out 0
      have hfz47_1 := blk_frozen BK1016.out 1
      have hfz47_2 := blk_frozen BK1016.out 2
      go_upto_region 14 with (first | ((with_reducible refine gate_callee (f := 20) rfl ?_); refine goesL_ (some 52) rfl rfl Try.func20 (by kernel_rfl) rfl #[.agg #[.int .i64 t1009, .slice Ao26 t1010.length co26, .slice Ao27 t1013.length co27], .int .i64 1] rfl (by (try simp only [la, lb, lc]); first | done | rfl | (simp only [ld, le]; rfl)) ?_; (with_reducible refine (laws_markJacobi.calls kj11 t1009 (fun k_ => some k_ = (.slice Ao26 t1010.length co26 : Value).ownBlock) (.slice Ao26 t1010.length co26) t1010 (fun k_ => some k_ = (.slice Ao27 t1013.length co27 : Value).ownBlock) (.slice Ao27 t1013.length co27) t1013 1 t1030 t1031 t1032 w _ ?side1 ?side2 ?side3 ?side4 ?side5 A39.out).mono ?_); (case side1 => repeat (first | (with_reducible first | exact HB.out | apply below_alloc | apply pw_below_drewN | apply below_drew1 | refine below_set ?_ GE996.out | refine below_set ?_ GE1016.out) | exact HB.out)); (case side2 => exact Kd.R_tight rfl HO_1017001.out); (case side3 => exact fun k_ e_ => (HO_1017001.out.1 k_ e_.symm).1.1.2.2); (case side4 => exact Kd.R_tight rfl HO_1017002.out); (case side5 => exact fun k_ e_ => (HO_1017002.out.1 k_ e_.symm).1.1.2.2); rintro e w48 ⟨rfl, hy0, hy1, hb, hkp⟩; refine ⟨_, rfl, ?_⟩; have n0_ := zA (Kd.R_mono (ok' := fun k_ => some k_ ≠ (v1018 : Value).ownBlock ∧ some k_ ≠ (.slice Ao26 t1010.length co26 : Value).ownBlock ∧ some k_ ≠ (.slice Ao27 t1013.length co27 : Value).ownBlock ∧ some k_ ≠ (.slice Ao43 t1023.length co43 : Value).ownBlock ∧ some k_ ≠ (.slice Ao44 t1026.length co44 : Value).ownBlock) (Kd.R_keptB (HO_6.out) hkp (fun k_ hk_ hs_ => Or.elim hs_ (fun e_ => (hk_.1.1.2.1) e_) (fun e_ => (hk_.1.1.2.2) e_))) (fun k_ hk_ => ⟨hk_.1.1.1.1, hk_.1.1.1.2.1, hk_.1.1.1.2.2, hk_.1.1.2, hk_.1.2⟩)); have n1_ := zA (Kd.R_mono (ok' := fun k_ => some k_ ≠ (v1006 : Value).ownBlock ∧ some k_ ≠ (.slice Ao26 t1010.length co26 : Value).ownBlock ∧ some k_ ≠ (.slice Ao27 t1013.length co27 : Value).ownBlock ∧ some k_ ≠ (.slice Ao43 t1023.length co43 : Value).ownBlock ∧ some k_ ≠ (.slice Ao44 t1026.length co44 : Value).ownBlock) (Kd.R_keptB (HO_9.out) hkp (fun k_ hk_ hs_ => Or.elim hs_ (fun e_ => (hk_.1.1.2.1) e_) (fun e_ => (hk_.1.1.2.2) e_))) (fun k_ hk_ => ⟨hk_.1.1.1.1, hk_.1.1.1.2.1, hk_.1.1.1.2.2, hk_.1.1.2, hk_.1.2⟩)); have n2_ := zA (Kd.R_reok rfl hy0 (fun k_ e_ => HO_1017001.out.1 k_ e_)); have n3_ := zA (Kd.R_reok rfl hy1 (fun k_ e_ => HO_1017002.out.1 k_ e_)); have n4_ := zA (blk_kept (uB BK996.out) hkp (fun hs_ => Or.elim hs_ (fun e_ => (fun e_ => (Kd.R_ne HO_1017001.out BK996.out (by decide)) e_) e_) (fun e_ => (fun e_ => (Kd.R_ne HO_1017002.out BK996.out (by decide)) e_) e_))); have n5_ := zA (blk_kept (uB BK1016.out) hkp (fun hs_ => Or.elim hs_ (fun e_ => (fun e_ => (Kd.R_ne HO_1017001.out BK1016.out (by decide)) e_) e_) (fun e_ => (fun e_ => (Kd.R_ne HO_1017002.out BK1016.out (by decide)) e_) e_))); have n6_ := zA (Kd.R_mono (ok' := fun k_ => some k_ ≠ (v1006 : Value).ownBlock ∧ some k_ ≠ (v1018 : Value).ownBlock ∧ some k_ ≠ (.slice Ao26 t1010.length co26 : Value).ownBlock ∧ some k_ ≠ (.slice Ao27 t1013.length co27 : Value).ownBlock ∧ some k_ ≠ (.slice Ao44 t1026.length co44 : Value).ownBlock) (Kd.R_keptB (HO1025.out) hkp (fun k_ hk_ hs_ => Or.elim hs_ (fun e_ => (hk_.1.2) e_) (fun e_ => (hk_.2) e_))) (fun k_ hk_ => ⟨hk_.1.1.1.1.2, hk_.1.1.1.2, hk_.1.1.2, hk_.1.2, hk_.1.1.1.1.1⟩)); have n7_ := zA (Kd.R_mono (ok' := fun k_ => some k_ ≠ (v1006 : Value).ownBlock ∧ some k_ ≠ (v1018 : Value).ownBlock ∧ some k_ ≠ (.slice Ao26 t1010.length co26 : Value).ownBlock ∧ some k_ ≠ (.slice Ao27 t1013.length co27 : Value).ownBlock ∧ some k_ ≠ (.slice Ao43 t1023.length co43 : Value).ownBlock) (Kd.R_keptB (HO1028.out) hkp (fun k_ hk_ hs_ => Or.elim hs_ (fun e_ => (hk_.1.2) e_) (fun e_ => (hk_.2) e_))) (fun k_ hk_ => ⟨hk_.1.1.1.1.2, hk_.1.1.1.2, hk_.1.1.2, hk_.1.2, hk_.1.1.1.1.1⟩)); have n8_ := zA (hb); clear HO_6 HO_9 HO_1017001 HO_1017002 BK996 BK1016 HO1025 HO1028 HB; have HO_6 := n0_; have HO_9 := n1_; have HO_1017001 := n2_; have HO_1017002 := n3_; have BK996 := n4_; have BK1016 := n5_; have HO1025 := n6_; have HO1028 := n7_; have HB := n8_; clear n0_ n1_ n2_ n3_ n4_ n5_ n6_ n7_ n8_; (try clear hb); (try clear hkp); (try clear hy0); (try clear hy1)))
      (try simp only [Act.put, ls, lz, ln])
      go_cut [65] (fun v65 wc => ∃ (kq : Nat) (x65_39 : Bool), v65 = .bool x65_39 ∧ Aside0 (laws_FnExactWronskiAt.j1 kq a1 t1005 t1008 t1017 x65_39 a0_0 l0_1 l0_2 = some r) ∧ Aside0 (kq ≤ kj11) ∧ Aside0 (Kd.R (Kd.int .i64) 2 wc w.heap.size (fun k_ => some k_ ≠ (v1018 : Value).ownBlock ∧ some k_ ≠ ((.slice Ao26 t1010.length co26) : Value).ownBlock ∧ some k_ ≠ ((.slice Ao27 t1013.length co27) : Value).ownBlock) v1006 t1005) ∧ Aside0 (Kd.R (Kd.int .i64) 2 wc w.heap.size (fun k_ => some k_ ≠ (v1006 : Value).ownBlock ∧ some k_ ≠ ((.slice Ao26 t1010.length co26) : Value).ownBlock ∧ some k_ ≠ ((.slice Ao27 t1013.length co27) : Value).ownBlock) v1018 t1017) ∧ Aside0 (Kd.R (Kd.int .i64) 2 wc w.heap.size (fun k_ => some k_ ≠ (v1006 : Value).ownBlock ∧ some k_ ≠ (v1018 : Value).ownBlock ∧ some k_ ≠ ((.slice Ao27 t1013.length co27) : Value).ownBlock) (.slice Ao26 t1010.length co26) t1031) ∧ Aside0 (Kd.R (Kd.int .i64) 2 wc w.heap.size (fun k_ => some k_ ≠ (v1006 : Value).ownBlock ∧ some k_ ≠ (v1018 : Value).ownBlock ∧ some k_ ≠ ((.slice Ao26 t1010.length co26) : Value).ownBlock) (.slice Ao27 t1013.length co27) t1032) ∧ Aside0 (wc.heap[gb996]? = some (.cells #[.int .i64 a0_0, (.slice A0_1 l0_1.length c0_1), (.slice A0_2 l0_2.length c0_2)] 24 (0, 0))) ∧ Aside0 (wc.heap[gb1016]? = some (.cells #[.int .i64 t1009, (.slice Ao26 t1010.length co26), (.slice Ao27 t1013.length co27)] 26 (0, 0))) ∧ Aside0 (Below w.heap.size w wc))
      case first =>
       have H := HC40.out
       clear HC40
       by_cases c49 : t1030 < 0
       ·rw [if_pos c49] at H
        have c49b0 : decide (t1030 < 0) = true := decide_eq_true c49
        clear c49
        (first | rw [c49b0] | (simp only [i64_w, i32_w]; rw [c49b0]) | skip)
        have H' := zA H
        clear H
        go_wp2
        go_meet
        case rel => exact ⟨_, (true), (by first | rfl | (simp; done) | (simp [*]; done)), H', ⟨by have := HJ11.out; first | omega | exact Nat.le_refl _⟩, ⟨uR (Kd.R_mono HO_6.out (fun _ hk => ⟨hk.1, ⟨hk.2.1, hk.2.2.1⟩⟩))⟩, ⟨uR (Kd.R_mono HO_9.out (fun _ hk => ⟨hk.1, ⟨hk.2.1, hk.2.2.1⟩⟩))⟩, ⟨uR (Kd.R_mono HO_1017001.out (fun _ hk => ⟨hk.1.1.1, ⟨hk.1.1.2.1, hk.1.1.2.2⟩⟩))⟩, ⟨uR (Kd.R_mono HO_1017002.out (fun _ hk => ⟨hk.1.1.1, ⟨hk.1.1.2.1, hk.1.1.2.2⟩⟩))⟩, ⟨uB BK996.out⟩, ⟨uB BK1016.out⟩, ⟨uH HB.out⟩⟩
       ·rw [if_neg c49] at H
        have c49b0 : decide (t1030 < 0) = false := decide_eq_false c49
        clear c49
        (first | rw [c49b0] | (simp only [i64_w, i32_w]; rw [c49b0]) | skip)
        replace H := Option.bind_eq_some_iff.mp H
        obtain ⟨t1033, A500, H⟩ := H
        replace H : (if t1033 = true then (laws_FnExactWronskiAt.j1 kj11 a1 t1005 t1008 t1017 (t1020 != t1008) a0_0 l0_1 l0_2) else (laws_FnExactWronskiAt.j1 kj11 a1 t1005 t1008 t1017 true a0_0 l0_1 l0_2)) = some r := H
        have A50 := zA A500
        clear A500
        by_cases c51 : t1033 = true
        ·subst c51
         have H1 : (laws_FnExactWronskiAt.j1 kj11 a1 t1005 t1008 t1017 (t1020 != t1008) a0_0 l0_1 l0_2) = some r := by rw [if_pos rfl] at H; exact H
         clear H
         have H := H1
         clear H1
         have H' := zA H
         clear H
         obtain ⟨Ao52, co52, eo52⟩ := Kd.R_slice HO_9.out
         subst eo52
         obtain ⟨Ao53, co53, eo53⟩ := Kd.R_slice HO_6.out
         subst eo53
         go_wp2_with (first | (go_at_call 35; (with_reducible refine (laws_eqInt64S.calls kj11 _ _ t1017 _ _ t1005 true _ ?side1 ?side2 ?side3 ?side4 A50.out).mono ?_); (case side1 => exact uC ((Kd.R_reads' HO_9.out).2.2)); (case side2 => exact (Kd.R_reads' HO_9.out).2.1); (case side3 => exact uC ((Kd.R_reads' HO_6.out).2.2)); (case side4 => exact (Kd.R_reads' HO_6.out).2.1); rintro e w' ⟨rfl, ⟨nd, rfl⟩⟩))
         go_meet
         case rel => exact ⟨_, ((t1020 != t1008)), (by first | rfl | (simp; done) | (simp [*]; done)), H', ⟨by have := HJ11.out; first | omega | exact Nat.le_refl _⟩, ⟨uR (Kd.R_mono HO_6.out (fun _ hk => ⟨hk.1, ⟨hk.2.1, hk.2.2.1⟩⟩))⟩, ⟨uR (Kd.R_mono HO_9.out (fun _ hk => ⟨hk.1, ⟨hk.2.1, hk.2.2.1⟩⟩))⟩, ⟨uR (Kd.R_mono HO_1017001.out (fun _ hk => ⟨hk.1.1.1, ⟨hk.1.1.2.1, hk.1.1.2.2⟩⟩))⟩, ⟨uR (Kd.R_mono HO_1017002.out (fun _ hk => ⟨hk.1.1.1, ⟨hk.1.1.2.1, hk.1.1.2.2⟩⟩))⟩, ⟨uB BK996.out⟩, ⟨uB BK1016.out⟩, ⟨uH HB.out⟩⟩
        ·replace c51 := Bool.eq_false_iff.mpr c51
         subst c51
         have H1 : (laws_FnExactWronskiAt.j1 kj11 a1 t1005 t1008 t1017 true a0_0 l0_1 l0_2) = some r := by rw [if_neg (show ¬ (false = true) by decide)] at H; exact H
         clear H
         have H := H1
         clear H1
         have H' := zA H
         clear H
         obtain ⟨Ao54, co54, eo54⟩ := Kd.R_slice HO_9.out
         subst eo54
         obtain ⟨Ao55, co55, eo55⟩ := Kd.R_slice HO_6.out
         subst eo55
         go_wp2_with (first | (go_at_call 35; (with_reducible refine (laws_eqInt64S.calls kj11 _ _ t1017 _ _ t1005 false _ ?side1 ?side2 ?side3 ?side4 A50.out).mono ?_); (case side1 => exact uC ((Kd.R_reads' HO_9.out).2.2)); (case side2 => exact (Kd.R_reads' HO_9.out).2.1); (case side3 => exact uC ((Kd.R_reads' HO_6.out).2.2)); (case side4 => exact (Kd.R_reads' HO_6.out).2.1); rintro e w' ⟨rfl, ⟨nd, rfl⟩⟩))
         go_meet
         case rel => exact ⟨_, (true), (by first | rfl | (simp; done) | (simp [*]; done)), H', ⟨by have := HJ11.out; first | omega | exact Nat.le_refl _⟩, ⟨uR (Kd.R_mono HO_6.out (fun _ hk => ⟨hk.1, ⟨hk.2.1, hk.2.2.1⟩⟩))⟩, ⟨uR (Kd.R_mono HO_9.out (fun _ hk => ⟨hk.1, ⟨hk.2.1, hk.2.2.1⟩⟩))⟩, ⟨uR (Kd.R_mono HO_1017001.out (fun _ hk => ⟨hk.1.1.1, ⟨hk.1.1.2.1, hk.1.1.2.2⟩⟩))⟩, ⟨uR (Kd.R_mono HO_1017002.out (fun _ hk => ⟨hk.1.1.1, ⟨hk.1.1.2.1, hk.1.1.2.2⟩⟩))⟩, ⟨uB BK996.out⟩, ⟨uB BK1016.out⟩, ⟨uH HB.out⟩⟩
      case rest =>
       clear HC40
       try clear c1
       try clear c2
       try clear p2
       try clear c3
       try clear c4
       try clear c4b0
       try clear c5
       try clear c11
       try clear c15
       try clear c17
       try clear c19
       try clear c20
       try clear c24
       try clear c30
       try clear c35
       try clear c38
       try clear c42
       try clear c43
       try clear c46
       try clear c49
       try clear c49b0
       try clear c51
       try clear hcz14_0
       try clear hcz14_1
       try clear hcz14_2
       try clear hcz16_0
       try clear hcz16_1
       try clear hcz16_2
       try clear hcz21_0
       try clear hcz21_1
       try clear hcz21_2
       try clear hcz25_0
       try clear hcz25_1
       try clear hcz25_2
       try clear hcz47_0
       try clear hcz47_1
       try clear hcz47_2
       try clear hcz6_0
       try clear hcz6_1
       try clear hcz6_2
       try clear hfz14_0
       try clear hfz14_1
       try clear hfz14_2
       try clear hfz16_0
       try clear hfz16_1
       try clear hfz16_2
       try clear hfz21_0
       try clear hfz21_1
       try clear hfz21_2
       try clear hfz25_0
       try clear hfz25_1
       try clear hfz25_2
       try clear hfz47_0
       try clear hfz47_1
       try clear hfz47_2
       try clear hfz6_0
       try clear hfz6_1
       try clear hfz6_2
       try clear p2
       obtain ⟨kq, x65_39, rfl, HA, HJ39, HO_6, HO_9, HO_1017001, HO_1017002, BK996, BK1016, HB⟩ := hcut
       have hl1017001_39 := (Kd.R_reads' HO_1017001.out).1
       rw [hl1017001_39] at HO_1017001
       (try simp only [hl1017001_39])
       (try simp only [hl1017001_39] at BK996)
       (try simp only [hl1017001_39] at BK1016)
       (try simp only [hl1017001_39] at HO_6)
       (try simp only [hl1017001_39] at HO_9)
       (try simp only [hl1017001_39] at HO_1017002)
       have hl1017002_39 := (Kd.R_reads' HO_1017002.out).1
       rw [hl1017002_39] at HO_1017002
       (try simp only [hl1017002_39])
       (try simp only [hl1017002_39] at BK996)
       (try simp only [hl1017002_39] at BK1016)
       (try simp only [hl1017002_39] at HO_6)
       (try simp only [hl1017002_39] at HO_9)
       (try simp only [hl1017002_39] at HO_1017001)
       cases kq with
       | zero => exact absurd HA.out (by simp [laws_FnExactWronskiAt.j1])
       | succ kj39 =>
        have H := HA.out
        clear HA
        simp only [laws_FnExactWronskiAt.j1] at H
        by_cases c56 : x65_39 = true
        ·subst c56
         have H1 : (some false) = some r := by rw [if_pos rfl] at H; exact H
         clear H
         have H := H1
         clear H1
         rw [HRT.out] at H
         exact absurd H (by simp)
        ·replace c56 := Bool.eq_false_iff.mpr c56
         subst c56
         have H1 : ((laws_markInt64S.f kj39 t1017 1).bind fun bt1034 => ((laws_heldInt64S.f kj39 bt1034.2 1).bind fun t1036 => (if t1036 < 0 then (some false) else (if t1036 = bt1034.1 then ((laws_toJacobi.f kj39 a0_0 l0_1 l0_2).bind fun bt1037 => ((impl_WronskiAt.f kj39 bt1037.1 bt1037.2.1 bt1037.2.2 a1).bind fun bt1044 => ((laws_eqInt64S.f kj39 bt1044.1 t1005).bind fun t1048 => (if t1048 = true then (laws_FnExactWronskiAt.j2 kj39 bt1034.2 bt1034.1 (bt1044.2 != t1008)) else (laws_FnExactWronskiAt.j2 kj39 bt1034.2 bt1034.1 true))))) else (some false))))) = some r := by rw [if_neg (show ¬ (false = true) by decide)] at H; exact H
         clear H
         have H := H1
         clear H1
         replace H := Option.bind_eq_some_iff.mp H
         obtain ⟨⟨t1034, t1035⟩, A570, H⟩ := H
         replace H : ((laws_heldInt64S.f kj39 t1035 1).bind fun t1036 => (if t1036 < 0 then (some false) else (if t1036 = t1034 then ((laws_toJacobi.f kj39 a0_0 l0_1 l0_2).bind fun bt1037 => ((impl_WronskiAt.f kj39 bt1037.1 bt1037.2.1 bt1037.2.2 a1).bind fun bt1044 => ((laws_eqInt64S.f kj39 bt1044.1 t1005).bind fun t1048 => (if t1048 = true then (laws_FnExactWronskiAt.j2 kj39 t1035 t1034 (bt1044.2 != t1008)) else (laws_FnExactWronskiAt.j2 kj39 t1035 t1034 true))))) else (some false)))) = some r := H
         have A57 := zA A570
         clear A570
         replace H := Option.bind_eq_some_iff.mp H
         obtain ⟨t1036, A580, H⟩ := H
         replace H : (if t1036 < 0 then (some false) else (if t1036 = t1034 then ((laws_toJacobi.f kj39 a0_0 l0_1 l0_2).bind fun bt1037 => ((impl_WronskiAt.f kj39 bt1037.1 bt1037.2.1 bt1037.2.2 a1).bind fun bt1044 => ((laws_eqInt64S.f kj39 bt1044.1 t1005).bind fun t1048 => (if t1048 = true then (laws_FnExactWronskiAt.j2 kj39 t1035 t1034 (bt1044.2 != t1008)) else (laws_FnExactWronskiAt.j2 kj39 t1035 t1034 true))))) else (some false))) = some r := H
         have A58 := zA A580
         clear A580
         by_cases c59 : t1036 < 0
         ·rw [if_pos c59] at H
          have c59b0 : decide (t1036 < 0) = true := decide_eq_true c59
          clear c59
          rw [HRT.out] at H
          exact absurd H (by simp)
         ·rw [if_neg c59] at H
          have c59b0 : decide (t1036 < 0) = false := decide_eq_false c59
          clear c59
          by_cases c60 : t1036 = t1034
          ·rw [if_pos c60] at H
           have c60b0 : (t1036 == t1034) = true := beq_iff_eq.mpr c60
           have c60b1 : (t1036 != t1034) = false := bne_eq_false_iff_eq.mpr c60
           clear c60
           replace H := Option.bind_eq_some_iff.mp H
           obtain ⟨⟨t1037, t1038, t1041⟩, A610, H⟩ := H
           replace H : ((impl_WronskiAt.f kj39 t1037 t1038 t1041 a1).bind fun bt1044 => ((laws_eqInt64S.f kj39 bt1044.1 t1005).bind fun t1048 => (if t1048 = true then (laws_FnExactWronskiAt.j2 kj39 t1035 t1034 (bt1044.2 != t1008)) else (laws_FnExactWronskiAt.j2 kj39 t1035 t1034 true)))) = some r := H
           have A61 := zA A610
           clear A610
           replace H := Option.bind_eq_some_iff.mp H
           obtain ⟨⟨t1044, t1047⟩, A620, H⟩ := H
           replace H : ((laws_eqInt64S.f kj39 t1044 t1005).bind fun t1048 => (if t1048 = true then (laws_FnExactWronskiAt.j2 kj39 t1035 t1034 (t1047 != t1008)) else (laws_FnExactWronskiAt.j2 kj39 t1035 t1034 true))) = some r := H
           have A62 := zA A620
           clear A620
           have HC63 := zA H
           clear H
           obtain ⟨Ao64, co64, eo64⟩ := Kd.R_slice HO_9.out
           subst eo64
           go_upto_region 25 with (first | ((with_reducible refine gate_callee (f := 36) rfl ?_); refine goesL_ (some 68) rfl rfl Try.func36 (by kernel_rfl) rfl #[.slice Ao64 t1017.length co64, .int .i64 1] rfl (by (try simp only [la, lb, lc]); first | done | rfl | (simp only [ld, le]; rfl)) ?_; (with_reducible refine (laws_markInt64S.calls kj39 (fun k_ => some k_ = (.slice Ao64 t1017.length co64 : Value).ownBlock) (.slice Ao64 t1017.length co64) t1017 1 t1034 t1035 w _ ?side1 ?side2 A57.out).mono ?_); (case side1 => repeat (first | (with_reducible first | exact HB.out | apply below_alloc | apply pw_below_drewN | apply below_drew1 | refine below_set ?_ GE996.out | refine below_set ?_ GE1016.out) | exact HB.out)); (case side2 => exact Kd.R_tight rfl HO_9.out); rintro e w65 ⟨rfl, hy0, hb, hkp⟩; refine ⟨_, rfl, ?_⟩; have n0_ := zA (Kd.R_mono (ok' := fun k_ => some k_ ≠ (.slice Ao64 t1017.length co64 : Value).ownBlock ∧ some k_ ≠ (.slice Ao26 t1031.length co26 : Value).ownBlock ∧ some k_ ≠ (.slice Ao27 t1032.length co27 : Value).ownBlock) (Kd.R_keptB (HO_6.out) hkp (fun k_ hk_ hs_ => (hk_.1) hs_)) (fun k_ hk_ => ⟨hk_.1.1, hk_.1.2.1, hk_.1.2.2⟩)); have n1_ := zA (Kd.R_reok rfl hy0 (fun k_ e_ => HO_9.out.1 k_ e_)); have n2_ := zA (Kd.R_mono (ok' := fun k_ => some k_ ≠ (v1006 : Value).ownBlock ∧ some k_ ≠ (.slice Ao64 t1017.length co64 : Value).ownBlock ∧ some k_ ≠ (.slice Ao27 t1032.length co27 : Value).ownBlock) (Kd.R_keptB (HO_1017001.out) hkp (fun k_ hk_ hs_ => (hk_.2.1) hs_)) (fun k_ hk_ => ⟨hk_.1.1, hk_.1.2.1, hk_.1.2.2⟩)); have n3_ := zA (Kd.R_mono (ok' := fun k_ => some k_ ≠ (v1006 : Value).ownBlock ∧ some k_ ≠ (.slice Ao64 t1017.length co64 : Value).ownBlock ∧ some k_ ≠ (.slice Ao26 t1031.length co26 : Value).ownBlock) (Kd.R_keptB (HO_1017002.out) hkp (fun k_ hk_ hs_ => (hk_.2.1) hs_)) (fun k_ hk_ => ⟨hk_.1.1, hk_.1.2.1, hk_.1.2.2⟩)); have n4_ := zA (blk_kept (uB BK996.out) hkp (fun hs_ => (fun e_ => (Kd.R_ne HO_9.out BK996.out (by decide)) e_) hs_)); have n5_ := zA (blk_kept (uB BK1016.out) hkp (fun hs_ => (fun e_ => (Kd.R_ne HO_9.out BK1016.out (by decide)) e_) hs_)); have n6_ := zA (hb); clear HO_6 HO_9 HO_1017001 HO_1017002 BK996 BK1016 HB; have HO_6 := n0_; have HO_9 := n1_; have HO_1017001 := n2_; have HO_1017002 := n3_; have BK996 := n4_; have BK1016 := n5_; have HB := n6_; clear n0_ n1_ n2_ n3_ n4_ n5_ n6_; (try clear hb); (try clear hkp); (try clear hy0)) | ((with_reducible refine gate_callee (f := 37) rfl ?_); refine goesL_ (some 71) rfl rfl Try.func37 (by kernel_rfl) rfl #[.slice Ao64 t1035.length co64, .int .i64 1] rfl (by (try simp only [la, lb, lc]); first | done | (rw [show t1035.length = t1017.length from (Kd.R_reads' HO_9.out).1.symm] <;> rfl) | rfl | (simp only [ld, le]; rfl)) ?_; (with_reducible refine (laws_heldInt64S.calls kj39 _ _ t1035 1 t1036 _ ?side1 ?side2 A58.out).mono ?_); (case side1 => exact uC ((Kd.R_reads' HO_9.out).2.2)); (case side2 => rw [show t1035.length = t1017.length from (Kd.R_reads' HO_9.out).1.symm]; exact (Kd.R_reads' HO_9.out).2.1); rintro e w' ⟨rfl, ⟨nd, rfl⟩⟩; refine ⟨_, rfl, ?_⟩; have hnb66 := NB996_1016.out; have hnc66 := NB1016_996.out; have hcz67_0 : w65.cell? ⟨gb996, 0, none⟩ = some (.int .i64 a0_0) := (blk_cell BK996.out 0).trans rfl; have hcz67_1 : w65.cell? ⟨gb996, 1, none⟩ = some (.slice A0_1 l0_1.length c0_1) := (blk_cell BK996.out 1).trans rfl; have hcz67_2 : w65.cell? ⟨gb996, 2, none⟩ = some (.slice A0_2 l0_2.length c0_2) := (blk_cell BK996.out 2).trans rfl; have hfz67_0 := blk_frozen BK996.out 0; have hfz67_1 := blk_frozen BK996.out 1; have hfz67_2 := blk_frozen BK996.out 2) | ((with_reducible refine gate_callee (f := 17) rfl ?_); refine goesL_ (some 79) rfl rfl Try.func17 (by kernel_rfl) rfl #[.agg #[.int .i64 a0_0, .slice A0_1 l0_1.length c0_1, .slice A0_2 l0_2.length c0_2]] rfl (by (try simp only [la, lb, lc]); first | done | rfl | (simp only [ld, le]; rfl)) ?_; (with_reducible refine (laws_toJacobi.calls kj39 a0_0 _ _ l0_1 _ _ l0_2 t1037 t1038 t1041 _ ?side1 ?side2 ?side3 ?side4 A61.out).mono ?_); (case side1 => repeat (first | exact (Kd.C_below HR0_1.out (uH HB.out)) | (with_reducible refine Kd.C_alloc ?_ _) | (with_reducible refine Kd.C_drewN ?_ _) | (with_reducible refine Kd.C_drew ?_))); (case side2 => exact HC0_1.out); (case side3 => repeat (first | exact (Kd.C_below HR0_2.out (uH HB.out)) | (with_reducible refine Kd.C_alloc ?_ _) | (with_reducible refine Kd.C_drewN ?_ _) | (with_reducible refine Kd.C_drew ?_))); (case side4 => exact HC0_2.out); rintro e w68 ⟨v1039, v1042, rfl, ho0, ho1, hb⟩; refine ⟨_, rfl, ?_⟩; have n0_ := zA (Kd.R_mono (Kd.R_told (Kd.R_told (Kd.R_old (uR HO_6.out) hb) (Kd.R_base ho0)) (Kd.R_base ho1)) (fun _ h_ => h_.1)); have n1_ := zA (Kd.R_mono (Kd.R_told (Kd.R_told (Kd.R_old (uR HO_9.out) hb) (Kd.R_base ho0)) (Kd.R_base ho1)) (fun _ h_ => h_.1)); have n2_ := zA (Kd.R_mono (Kd.R_told (Kd.R_told (Kd.R_old (uR HO_1017001.out) hb) (Kd.R_base ho0)) (Kd.R_base ho1)) (fun _ h_ => h_.1)); have n3_ := zA (Kd.R_mono (Kd.R_told (Kd.R_told (Kd.R_old (uR HO_1017002.out) hb) (Kd.R_base ho0)) (Kd.R_base ho1)) (fun _ h_ => h_.1)); have n4_ := zA (Kd.R_lower (Kd.R_new' (Kd.R_new' (Kd.R_new' (Kd.R_new' ho0 (Kd.R_lt (uR HO_6.out))) (Kd.R_lt (uR HO_9.out))) (Kd.R_lt (uR HO_1017001.out))) (Kd.R_lt (uR HO_1017002.out))) (below_size (uH HB.out))); have n5_ := zA (Kd.R_lower (Kd.R_new' (Kd.R_new' (Kd.R_new' (Kd.R_new' ho1 (Kd.R_lt (uR HO_6.out))) (Kd.R_lt (uR HO_9.out))) (Kd.R_lt (uR HO_1017001.out))) (Kd.R_lt (uR HO_1017002.out))) (below_size (uH HB.out))); have n6_ := xB BK996 hb; have n7_ := xB BK1016 hb; have n8_ := xH HB hb; clear HO_6 HO_9 HO_1017001 HO_1017002 BK996 BK1016 HB; have HO_6 := n0_; have HO_9 := n1_; have HO_1017001 := n2_; have HO_1017002 := n3_; have HO1040 := n4_; have HO1043 := n5_; have BK996 := n6_; have BK1016 := n7_; have HB := n8_; clear n0_ n1_ n2_ n3_ n4_ n5_ n6_ n7_ n8_; (try clear hb); (try clear hb2); (try clear hk); (try clear hi); (try clear ho0); (try clear ho1); obtain ⟨Ao69, co69, eo69⟩ := Kd.R_slice HO1040.out; subst eo69; obtain ⟨Ao70, co70, eo70⟩ := Kd.R_slice HO1043.out; subst eo70) | ((with_reducible refine gate_callee (f := 43) rfl ?_); refine goesL_ (some 81) rfl rfl Try.func43 (by kernel_rfl) rfl #[.agg #[.int .i64 t1037, .slice Ao69 t1038.length co69, .slice Ao70 t1041.length co70], .int .i64 a1] rfl (by (try simp only [la, lb, lc]); first | done | rfl | (simp only [ld, le]; rfl)) ?_; (with_reducible refine (impl_WronskiAt.calls kj39 t1037 _ _ t1038 _ _ t1041 a1 t1044 t1047 _ ?side1 ?side2 ?side3 ?side4 A62.out).mono ?_); (case side1 => exact uC ((Kd.R_reads' HO1040.out).2.2)); (case side2 => exact (Kd.R_reads' HO1040.out).2.1); (case side3 => exact uC ((Kd.R_reads' HO1043.out).2.2)); (case side4 => exact (Kd.R_reads' HO1043.out).2.1); rintro e w71 ⟨v1045, rfl, ho0, hb⟩; refine ⟨_, rfl, ?_⟩; have n0_ := zA (Kd.R_elder' (uR HO_6.out) (Kd.R_base ho0) hb); have n1_ := zA (Kd.R_elder' (uR HO_9.out) (Kd.R_base ho0) hb); have n2_ := zA (Kd.R_elder' (uR HO_1017001.out) (Kd.R_base ho0) hb); have n3_ := zA (Kd.R_elder' (uR HO_1017002.out) (Kd.R_base ho0) hb); have n4_ := zA (Kd.R_elder' (uR HO1040.out) (Kd.R_base ho0) hb); have n5_ := zA (Kd.R_elder' (uR HO1043.out) (Kd.R_base ho0) hb); have n6_ := zA (Kd.R_lower (Kd.R_new' (Kd.R_new' (Kd.R_new' (Kd.R_new' (Kd.R_new' (Kd.R_new' ho0 (Kd.R_lt (uR HO_6.out))) (Kd.R_lt (uR HO_9.out))) (Kd.R_lt (uR HO_1017001.out))) (Kd.R_lt (uR HO_1017002.out))) (Kd.R_lt (uR HO1040.out))) (Kd.R_lt (uR HO1043.out))) (below_size (uH HB.out))); have n7_ := xB BK996 hb; have n8_ := xB BK1016 hb; have n9_ := xH HB hb; clear HO_6 HO_9 HO_1017001 HO_1017002 HO1040 HO1043 BK996 BK1016 HB; have HO_6 := n0_; have HO_9 := n1_; have HO_1017001 := n2_; have HO_1017002 := n3_; have HO1040 := n4_; have HO1043 := n5_; have HO1046 := n6_; have BK996 := n7_; have BK1016 := n8_; have HB := n9_; clear n0_ n1_ n2_ n3_ n4_ n5_ n6_ n7_ n8_ n9_; (try clear hb); (try clear hb2); (try clear hk); (try clear hi); (try clear ho0)))
           (try simp only [Act.put, ls, lz, ln])
           go_cut [92] (fun v92 wc => ∃ (kq : Nat) (x92_62 : Bool), v92 = .bool x92_62 ∧ Aside0 (laws_FnExactWronskiAt.j2 kq t1035 t1034 x92_62 = some r) ∧ Aside0 (kq ≤ kj39) ∧ Aside0 (Kd.R (Kd.int .i64) 2 wc w.heap.size (fun k_ => some k_ ≠ ((.slice Ao26 t1031.length co26) : Value).ownBlock ∧ some k_ ≠ ((.slice Ao27 t1032.length co27) : Value).ownBlock) (.slice Ao64 t1017.length co64) t1035) ∧ Aside0 (Kd.R (Kd.int .i64) 2 wc w.heap.size (fun k_ => some k_ ≠ ((.slice Ao64 t1017.length co64) : Value).ownBlock ∧ some k_ ≠ ((.slice Ao27 t1032.length co27) : Value).ownBlock) (.slice Ao26 t1031.length co26) t1031) ∧ Aside0 (Kd.R (Kd.int .i64) 2 wc w.heap.size (fun k_ => some k_ ≠ ((.slice Ao64 t1017.length co64) : Value).ownBlock ∧ some k_ ≠ ((.slice Ao26 t1031.length co26) : Value).ownBlock) (.slice Ao27 t1032.length co27) t1032) ∧ Aside0 (wc.heap[gb996]? = some (.cells #[.int .i64 a0_0, (.slice A0_1 l0_1.length c0_1), (.slice A0_2 l0_2.length c0_2)] 24 (0, 0))) ∧ Aside0 (wc.heap[gb1016]? = some (.cells #[.int .i64 t1009, (.slice Ao26 t1031.length co26), (.slice Ao27 t1032.length co27)] 26 (0, 0))) ∧ Aside0 (Below w.heap.size w wc))
           case first =>
            have H := HC63.out
            clear HC63
            replace H := Option.bind_eq_some_iff.mp H
            obtain ⟨t1048, A720, H⟩ := H
            replace H : (if t1048 = true then (laws_FnExactWronskiAt.j2 kj39 t1035 t1034 (t1047 != t1008)) else (laws_FnExactWronskiAt.j2 kj39 t1035 t1034 true)) = some r := H
            have A72 := zA A720
            clear A720
            by_cases c73 : t1048 = true
            ·subst c73
             have H1 : (laws_FnExactWronskiAt.j2 kj39 t1035 t1034 (t1047 != t1008)) = some r := by rw [if_pos rfl] at H; exact H
             clear H
             have H := H1
             clear H1
             have H' := zA H
             clear H
             obtain ⟨Ao74, co74, eo74⟩ := Kd.R_slice HO1046.out
             subst eo74
             obtain ⟨Ao75, co75, eo75⟩ := Kd.R_slice HO_6.out
             subst eo75
             go_wp2_with (first | ((with_reducible refine gate_callee (f := 35) rfl ?_); refine goesL_ (some 86) rfl rfl Try.func35 (by kernel_rfl) rfl #[.slice Ao74 t1044.length co74, .slice Ao75 t1005.length co75] rfl (by (try simp only [la, lb, lc]); first | done | rfl | (simp only [ld, le]; rfl)) ?_; (with_reducible refine (laws_eqInt64S.calls kj39 _ _ t1044 _ _ t1005 true _ ?side1 ?side2 ?side3 ?side4 A72.out).mono ?_); (case side1 => exact uC ((Kd.R_reads' HO1046.out).2.2)); (case side2 => exact (Kd.R_reads' HO1046.out).2.1); (case side3 => exact uC ((Kd.R_reads' HO_6.out).2.2)); (case side4 => exact (Kd.R_reads' HO_6.out).2.1); rintro e w' ⟨rfl, ⟨nd, rfl⟩⟩; refine ⟨_, rfl, ?_⟩))
             go_meet
             case rel => exact ⟨_, ((t1047 != t1008)), (by first | rfl | (simp; done) | (simp [*]; done)), H', ⟨by have := HJ11.out; have := HJ39.out; first | omega | exact Nat.le_refl _⟩, ⟨by (try simp only [hl1017001_39]); (try simp only [hl1017002_39]); (with_reducible repeat (first | apply Kd.R_alloc | apply Kd.R_drewN | apply Kd.R_drew)); exact Kd.R_mono HO_9.out (fun _ hk => ⟨hk.1.1.1.2.1, hk.1.1.1.2.2⟩)⟩, ⟨by (try simp only [hl1017001_39]); (try simp only [hl1017002_39]); (with_reducible repeat (first | apply Kd.R_alloc | apply Kd.R_drewN | apply Kd.R_drew)); exact Kd.R_mono HO_1017001.out (fun _ hk => ⟨hk.1.1.1.2.1, hk.1.1.1.2.2⟩)⟩, ⟨by (try simp only [hl1017001_39]); (try simp only [hl1017002_39]); (with_reducible repeat (first | apply Kd.R_alloc | apply Kd.R_drewN | apply Kd.R_drew)); exact Kd.R_mono HO_1017002.out (fun _ hk => ⟨hk.1.1.1.2.1, hk.1.1.1.2.2⟩)⟩, ⟨by (try simp only [hl1017001_39]); (try simp only [hl1017002_39]); (with_reducible repeat (first | refine blk_drewN ?_ _ | refine blk_drew ?_ | refine blk_alloc ?_ _)); exact BK996.out⟩, ⟨by (try simp only [hl1017001_39]); (try simp only [hl1017002_39]); (with_reducible repeat (first | refine blk_drewN ?_ _ | refine blk_drew ?_ | refine blk_alloc ?_ _)); exact BK1016.out⟩, ⟨uH HB.out⟩⟩
            ·replace c73 := Bool.eq_false_iff.mpr c73
             subst c73
             have H1 : (laws_FnExactWronskiAt.j2 kj39 t1035 t1034 true) = some r := by rw [if_neg (show ¬ (false = true) by decide)] at H; exact H
             clear H
             have H := H1
             clear H1
             have H' := zA H
             clear H
             obtain ⟨Ao76, co76, eo76⟩ := Kd.R_slice HO1046.out
             subst eo76
             obtain ⟨Ao77, co77, eo77⟩ := Kd.R_slice HO_6.out
             subst eo77
             go_wp2_with (first | ((with_reducible refine gate_callee (f := 35) rfl ?_); refine goesL_ (some 86) rfl rfl Try.func35 (by kernel_rfl) rfl #[.slice Ao76 t1044.length co76, .slice Ao77 t1005.length co77] rfl (by (try simp only [la, lb, lc]); first | done | rfl | (simp only [ld, le]; rfl)) ?_; (with_reducible refine (laws_eqInt64S.calls kj39 _ _ t1044 _ _ t1005 false _ ?side1 ?side2 ?side3 ?side4 A72.out).mono ?_); (case side1 => exact uC ((Kd.R_reads' HO1046.out).2.2)); (case side2 => exact (Kd.R_reads' HO1046.out).2.1); (case side3 => exact uC ((Kd.R_reads' HO_6.out).2.2)); (case side4 => exact (Kd.R_reads' HO_6.out).2.1); rintro e w' ⟨rfl, ⟨nd, rfl⟩⟩; refine ⟨_, rfl, ?_⟩))
             go_meet
             case rel => exact ⟨_, (true), (by first | rfl | (simp; done) | (simp [*]; done)), H', ⟨by have := HJ11.out; have := HJ39.out; first | omega | exact Nat.le_refl _⟩, ⟨by (try simp only [hl1017001_39]); (try simp only [hl1017002_39]); (with_reducible repeat (first | apply Kd.R_alloc | apply Kd.R_drewN | apply Kd.R_drew)); exact Kd.R_mono HO_9.out (fun _ hk => ⟨hk.1.1.1.2.1, hk.1.1.1.2.2⟩)⟩, ⟨by (try simp only [hl1017001_39]); (try simp only [hl1017002_39]); (with_reducible repeat (first | apply Kd.R_alloc | apply Kd.R_drewN | apply Kd.R_drew)); exact Kd.R_mono HO_1017001.out (fun _ hk => ⟨hk.1.1.1.2.1, hk.1.1.1.2.2⟩)⟩, ⟨by (try simp only [hl1017001_39]); (try simp only [hl1017002_39]); (with_reducible repeat (first | apply Kd.R_alloc | apply Kd.R_drewN | apply Kd.R_drew)); exact Kd.R_mono HO_1017002.out (fun _ hk => ⟨hk.1.1.1.2.1, hk.1.1.1.2.2⟩)⟩, ⟨by (try simp only [hl1017001_39]); (try simp only [hl1017002_39]); (with_reducible repeat (first | refine blk_drewN ?_ _ | refine blk_drew ?_ | refine blk_alloc ?_ _)); exact BK996.out⟩, ⟨by (try simp only [hl1017001_39]); (try simp only [hl1017002_39]); (with_reducible repeat (first | refine blk_drewN ?_ _ | refine blk_drew ?_ | refine blk_alloc ?_ _)); exact BK1016.out⟩, ⟨uH HB.out⟩⟩
           case rest =>
            clear HC63
            try clear c1
            try clear c2
            try clear p2
            try clear c3
            try clear c4
            try clear c4b0
            try clear c5
            try clear c6
            try clear c7
            try clear c11
            try clear c15
            try clear c17
            try clear c19
            try clear c20
            try clear c24
            try clear c30
            try clear c35
            try clear c36
            try clear c37
            try clear c38
            try clear c42
            try clear c43
            try clear c46
            try clear c49
            try clear c49b0
            try clear c51
            try clear c56
            try clear c59
            try clear c59b0
            try clear c60
            try clear c60b0
            try clear c60b1
            try clear c66
            try clear c73
            try clear hcz14_0
            try clear hcz14_1
            try clear hcz14_2
            try clear hcz16_0
            try clear hcz16_1
            try clear hcz16_2
            try clear hcz21_0
            try clear hcz21_1
            try clear hcz21_2
            try clear hcz25_0
            try clear hcz25_1
            try clear hcz25_2
            try clear hcz47_0
            try clear hcz47_1
            try clear hcz47_2
            try clear hcz67_0
            try clear hcz67_1
            try clear hcz67_2
            try clear hcz6_0
            try clear hcz6_1
            try clear hcz6_2
            try clear hfz14_0
            try clear hfz14_1
            try clear hfz14_2
            try clear hfz16_0
            try clear hfz16_1
            try clear hfz16_2
            try clear hfz21_0
            try clear hfz21_1
            try clear hfz21_2
            try clear hfz25_0
            try clear hfz25_1
            try clear hfz25_2
            try clear hfz47_0
            try clear hfz47_1
            try clear hfz47_2
            try clear hfz67_0
            try clear hfz67_1
            try clear hfz67_2
            try clear hfz6_0
            try clear hfz6_1
            try clear hfz6_2
            try clear p2
            obtain ⟨kq, x92_62, rfl, HA, HJ62, HO_9, HO_1017001, HO_1017002, BK996, BK1016, HB⟩ := hcut
            have hl9_62 := (Kd.R_reads' HO_9.out).1
            rw [hl9_62] at HO_9
            (try simp only [hl9_62])
            (try simp only [hl9_62] at BK996)
            (try simp only [hl9_62] at BK1016)
            (try simp only [hl9_62] at HO_1017001)
            (try simp only [hl9_62] at HO_1017002)
            cases kq with
            | zero => exact absurd HA.out (by simp [laws_FnExactWronskiAt.j2])
            | succ kj62 =>
             have H := HA.out
             clear HA
             simp only [laws_FnExactWronskiAt.j2] at H
             by_cases c78 : x92_62 = true
             ·subst c78
              have H1 : (some false) = some r := by rw [if_pos rfl] at H; exact H
              clear H
              have H := H1
              clear H1
              rw [HRT.out] at H
              exact absurd H (by simp)
             ·replace c78 := Bool.eq_false_iff.mpr c78
              subst c78
              have H1 : ((laws_heldInt64S.f kj62 t1035 1).bind fun t1049 => (if t1049 < 0 then (some false) else (if t1049 = t1034 then (some true) else (some false)))) = some r := by rw [if_neg (show ¬ (false = true) by decide)] at H; exact H
              clear H
              have H := H1
              clear H1
              replace H := Option.bind_eq_some_iff.mp H
              obtain ⟨t1049, A790, H⟩ := H
              replace H : (if t1049 < 0 then (some false) else (if t1049 = t1034 then (some true) else (some false))) = some r := H
              have A79 := zA A790
              clear A790
              by_cases c80 : t1049 < 0
              ·rw [if_pos c80] at H
               have c80b0 : decide (t1049 < 0) = true := decide_eq_true c80
               clear c80
               rw [HRT.out] at H
               exact absurd H (by simp)
              ·rw [if_neg c80] at H
               have c80b0 : decide (t1049 < 0) = false := decide_eq_false c80
               clear c80
               by_cases c81 : t1049 = t1034
               ·rw [if_pos c81] at H
                have c81b0 : (t1049 == t1034) = true := beq_iff_eq.mpr c81
                have c81b1 : (t1049 != t1034) = false := bne_eq_false_iff_eq.mpr c81
                clear c81
                obtain rfl := Option.some.inj H
                go_wp2_with (first | ((with_reducible refine gate_callee (f := 37) rfl ?_); refine goesL_ (some 95) rfl rfl Try.func37 (by kernel_rfl) rfl #[.slice Ao64 t1035.length co64, .int .i64 1] rfl (by (try simp only [la, lb, lc]); first | done | rfl | (simp only [ld, le]; rfl)) ?_; (with_reducible refine (laws_heldInt64S.calls kj62 _ _ t1035 1 t1049 _ ?side1 ?side2 A79.out).mono ?_); (case side1 => exact uC ((Kd.R_reads' HO_9.out).2.2)); (case side2 => exact (Kd.R_reads' HO_9.out).2.1); rintro e w' ⟨rfl, ⟨nd, rfl⟩⟩; refine ⟨_, rfl, ?_⟩))
                go_ret
                exact ⟨by first | rfl | (simp [errW_none, errW_some] <;> rfl) | (simp [*, errW_none, errW_some] <;> rfl), uH HB.out⟩
               ·rw [if_neg c81] at H
                have c81b0 : (t1049 == t1034) = false := beq_eq_false_iff_ne.mpr c81
                have c81b1 : (t1049 != t1034) = true := bne_iff_ne.mpr c81
                rw [HRT.out] at H
                exact absurd H (by simp)
          ·rw [if_neg c60] at H
           have c60b0 : (t1036 == t1034) = false := beq_eq_false_iff_ne.mpr c60
           have c60b1 : (t1036 != t1034) = true := bne_iff_ne.mpr c60
           rw [HRT.out] at H
           exact absurd H (by simp)
     ·replace c38 := Bool.eq_false_iff.mpr c38
      subst c38
      have H1 : (some false) = some r := by rw [if_neg (show ¬ (false = true) by decide)] at H; exact H
      clear H
      have H := H1
      clear H1
      rw [HRT.out] at H
      exact absurd H (by simp)

/-- THE ONE PURE STATEMENT of laws_FnExactWronskiAt: yours. -/
def laws_FnExactWronskiAt.Pure : Prop := ∀ (a0_0 : Int) (l0_1 : List Int) (l0_2 : List Int) (a1 : Int), (Lit.int .i64 a0_0).wf = true → l0_1.length ≤ maxLen → (∀ x ∈ l0_1, (Lit.int .i64 x).wf = true) → l0_2.length ≤ maxLen → (∀ x ∈ l0_2, (Lit.int .i64 x).wf = true) → (Lit.int .i64 a1).wf = true → ∃ k, laws_FnExactWronskiAt.f k a0_0 l0_1 l0_2 a1 = some true
theorem laws_FnExactWronskiAt.walk (P : laws_FnExactWronskiAt.Pure) (a0_0 : Int) (a0_1 : Option Addr) (len0_1 cap0_1 : Nat) (z0_1 : List Int) (a0_2 : Option Addr) (len0_2 cap0_2 : Nat) (z0_2 : List Int) (a1 : Int) (w : World) (w0_0 : (Lit.int .i64 a0_0).wf = true) (w0_1 : (a0_1 = none ∧ len0_1 = 0 ∧ cap0_1 = 0 ∧ z0_1 = []) ∨ ∃ x, a0_1 = some x ∧ len0_1 ≤ cap0_1 ∧ cap0_1 ≤ maxLen ∧ z0_1.length = cap0_1 ∧ (∀ i, i < z0_1.length → w.cell? (x.add i) = some (.int .i64 (z0_1.getD i 0))) ∧ ∀ n ∈ z0_1, (Lit.int .i64 n).wf = true) (w0_2 : (a0_2 = none ∧ len0_2 = 0 ∧ cap0_2 = 0 ∧ z0_2 = []) ∨ ∃ x, a0_2 = some x ∧ len0_2 ≤ cap0_2 ∧ cap0_2 ≤ maxLen ∧ z0_2.length = cap0_2 ∧ (∀ i, i < z0_2.length → w.cell? (x.add i) = some (.int .i64 (z0_2.getD i 0))) ∧ ∀ n ∈ z0_2, (Lit.int .i64 n).wf = true) (w1 : (Lit.int .i64 a1).wf = true) :
  Calls Try.prog 11 #[.agg #[.int .i64 a0_0, .slice a0_1 len0_1 cap0_1, .slice a0_2 len0_2 cap0_2], .int .i64 a1] w fun e w' => e = .returned (.bool true) ∧ Below w.heap.size w w' := by
 obtain ⟨l0_1, rfl, hr0_1, hm0_1, hw0_1, hc0_1⟩ := ReadsInt.ofRowC w0_1
 obtain ⟨l0_2, rfl, hr0_2, hm0_2, hw0_2, hc0_2⟩ := ReadsInt.ofRowC w0_2
 obtain ⟨k, h⟩ := P a0_0 l0_1 l0_2 a1 w0_0 hm0_1 hw0_1 hm0_2 hw0_2 w1
 refine (laws_FnExactWronskiAt.calls k a0_0 _ _ l0_1 _ _ l0_2 a1 true rfl w (Kd.C_of_reads (d := (0 : Int)) (h1 := fun _ => rfl) hr0_1) hc0_1 (Kd.C_of_reads (d := (0 : Int)) (h1 := fun _ => rfl) hr0_2) hc0_2 h).mono ?_
 rintro e w' ⟨rfl, hd⟩
 exact ⟨rfl, hd⟩

end Go.Proofs.Ytgneldhhlfjjaaa.Pr
