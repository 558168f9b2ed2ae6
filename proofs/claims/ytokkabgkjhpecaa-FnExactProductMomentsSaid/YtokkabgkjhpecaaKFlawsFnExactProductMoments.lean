/- Printed by a program of this session out of the translation: what these functions of the program compute, under the conditions that each theorem names. -/
import Derived.Test.YtokkabgkjhpecaaKC01
import Derived.Test.YtokkabgkjhpecaaKC02
import Derived.Test.YtokkabgkjhpecaaKProductMoments2
import Derived.Test.YtokkabgkjhpecaaKProductMoments1
namespace Go.Proofs.Ytokkabgkjhpecaa.Pr
open Go.RowKit Go.Proofs.YtokkabgkjhpecaaW.PrintWords Go.Proofs.YtokkabgkjhpecaaW.PrintLast Go.Proofs.YtokkabgkjhpecaaW.PrintMore
attribute [local go_sem] max2_int min2_int max_two min_two max_three min_three max_four min_four   -- for this text's walks alone
set_option linter.unusedVariables false
set_option linter.unusedSimpArgs false

/-! ### laws_FnExactProductMoments: function 8 -/
mutual
def laws_FnExactProductMoments.j0 : Nat → List Int → Int → List Int → Int → Bool → Int → List Int → Int → List Int → Int → List Int → Int → List Int → Option (Bool)
 | 0, _, _, _, _, _, _, _, _, _, _, _, _, _ => none
 | k + 1, x1, x7, x9, x11, x51, x939000, x939001, x953000, x953001, x958000, x958001, x967000, x967001 => if x51 = true then (some false) else ((laws_toMoments.f k x939000 x939001).bind fun bt968 => ((laws_eqMoments.f k x958000 x958001 bt968.1 bt968.2).bind fun t972 => (if t972 = true then ((laws_toInt64S.f k x1).bind fun t973 => ((laws_eqInt64S.f k x9 t973).bind fun t976 => (if t976 = true then ((laws_markMoments.f k x958000 x958001 1).bind fun bt977 => ((laws_markInt64S.f k x9 bt977.1).bind fun bt979 => (if bt979.1 < 0 then (laws_FnExactProductMoments.j1 k x1 x7 true x939000 x939001 x953000 x953001 x967000 x967001) else ((laws_eqMoments.f k x967000 x967001 x953000 x953001).bind fun t981 => (if t981 = true then (laws_FnExactProductMoments.j1 k x1 x7 (x11 != x7) x939000 x939001 x953000 x953001 x967000 x967001) else (laws_FnExactProductMoments.j1 k x1 x7 true x939000 x939001 x953000 x953001 x967000 x967001)))))) else (some false)))) else (some false))))
def laws_FnExactProductMoments.j1 : Nat → List Int → Int → Bool → Int → List Int → Int → List Int → Int → List Int → Option (Bool)
 | 0, _, _, _, _, _, _, _, _, _ => none
 | k + 1, x1, x7, x80, x939000, x939001, x953000, x953001, x967000, x967001 => if x80 = true then (some false) else ((laws_markMoments.f k x967000 x967001 1).bind fun bt982 => ((laws_heldMoments.f k x967000 bt982.2 1).bind fun t984 => (if t984 < 0 then (some false) else (if t984 = bt982.1 then ((laws_toMoments.f k x939000 x939001).bind fun bt985 => ((laws_toInt64S.f k x1).bind fun t989 => ((impl_ProductMoments.f k bt985.1 bt985.2 t989).bind fun bt992 => ((laws_eqMoments.f k bt992.1 bt992.2.1 x953000 x953001).bind fun t998 => (if t998 = true then (laws_FnExactProductMoments.j2 k bt982.1 (bt992.2.2 != x7) x967000 bt982.2) else (laws_FnExactProductMoments.j2 k bt982.1 true x967000 bt982.2)))))) else (some false)))))
def laws_FnExactProductMoments.j2 : Nat → Int → Bool → Int → List Int → Option (Bool)
 | 0, _, _, _, _ => none
 | k + 1, x13, x108, x967000, x967001 => if x108 = true then (some false) else ((laws_heldMoments.f k x967000 x967001 1).bind fun t999 => (if t999 < 0 then (some false) else (if t999 = x13 then (some true) else (some false))))
end
def laws_FnExactProductMoments.f (k : Nat) (a0_0 : Int) (l0_1 : List Int) (l1 : List Int) : Option (Bool) := if (l1.length : Int) > 1048576 then (some true) else ((laws_szMoments.f a0_0 l0_1 1048576).bind fun t939 => (if t939 < 0 then (some true) else ((laws_toMoments.f k a0_0 l0_1).bind fun bt940 => ((laws_toInt64S.f k l1).bind fun t944 => ((spec_ProductMoments.f k bt940.1 bt940.2 t944).bind fun bt947 => ((laws_toMoments.f k a0_0 l0_1).bind fun bt953 => ((laws_toInt64S.f k l1).bind fun t958 => ((impl_ProductMoments.f k bt953.1 bt953.2 t958).bind fun bt961 => ((laws_eqMoments.f k bt961.1 bt961.2.1 bt947.1 bt947.2.1).bind fun t967 => (if t967 = true then (laws_FnExactProductMoments.j0 k l1 bt947.2.2 t958 bt961.2.2 (bt961.2.2 != bt947.2.2) a0_0 l0_1 bt947.1 bt947.2.1 bt953.1 bt953.2 bt961.1 bt961.2.1) else (laws_FnExactProductMoments.j0 k l1 bt947.2.2 t958 bt961.2.2 true a0_0 l0_1 bt947.1 bt947.2.1 bt953.1 bt953.2 bt961.1 bt961.2.1)))))))))))
theorem laws_FnExactProductMoments.mono_l : ∀ k, (∀ y0 y1 y2 y3 y4 y5 y6 y7 y8 y9 y10 y11 y12, LeO (laws_FnExactProductMoments.j0 k y0 y1 y2 y3 y4 y5 y6 y7 y8 y9 y10 y11 y12) (laws_FnExactProductMoments.j0 (k + 1) y0 y1 y2 y3 y4 y5 y6 y7 y8 y9 y10 y11 y12)) ∧ (∀ y0 y1 y2 y3 y4 y5 y6 y7 y8, LeO (laws_FnExactProductMoments.j1 k y0 y1 y2 y3 y4 y5 y6 y7 y8) (laws_FnExactProductMoments.j1 (k + 1) y0 y1 y2 y3 y4 y5 y6 y7 y8)) ∧ (∀ y0 y1 y2 y3, LeO (laws_FnExactProductMoments.j2 k y0 y1 y2 y3) (laws_FnExactProductMoments.j2 (k + 1) y0 y1 y2 y3))
 | 0 => ⟨fun _ _ _ _ _ _ _ _ _ _ _ _ _ r h => by simp [laws_FnExactProductMoments.j0] at h, fun _ _ _ _ _ _ _ _ _ r h => by simp [laws_FnExactProductMoments.j1] at h, fun _ _ _ _ r h => by simp [laws_FnExactProductMoments.j2] at h⟩
 | k + 1 => by
  obtain ⟨ih0, ih1, ih2⟩ := laws_FnExactProductMoments.mono_l k
  refine ⟨?_, ?_, ?_⟩
  ·intro y0 y1 y2 y3 y4 y5 y6 y7 y8 y9 y10 y11 y12
   unfold laws_FnExactProductMoments.j0
   repeat' first
   | (with_reducible exact ih0 _ _ _ _ _ _ _ _ _ _ _ _ _)
   | (with_reducible exact ih1 _ _ _ _ _ _ _ _ _)
   | (with_reducible exact ih2 _ _ _ _)
   | (with_reducible exact impl_ProductMoments.mono _ _ _ _)
   | (with_reducible exact laws_eqInt64S.mono _ _ _)
   | (with_reducible exact laws_eqMoments.mono _ _ _ _ _)
   | (with_reducible exact laws_heldMoments.mono _ _ _ _)
   | (with_reducible exact laws_markInt64S.mono _ _ _)
   | (with_reducible exact laws_markMoments.mono _ _ _ _)
   | (with_reducible exact laws_toInt64S.mono _ _)
   | (with_reducible exact laws_toMoments.mono _ _ _)
   | (with_reducible exact spec_ProductMoments.mono _ _ _ _)
   | (with_reducible exact LeO.refl _)
   | (with_reducible exact LeO.none _)
   | (with_reducible refine LeO.ite ?_ ?_)
   | (with_reducible refine LeO.bind ?_ (fun _ => ?_))
   | exact ih0 _ _ _ _ _ _ _ _ _ _ _ _ _
   | exact ih1 _ _ _ _ _ _ _ _ _
   | exact ih2 _ _ _ _
   | exact impl_ProductMoments.mono _ _ _ _
   | exact laws_eqInt64S.mono _ _ _
   | exact laws_eqMoments.mono _ _ _ _ _
   | exact laws_heldMoments.mono _ _ _ _
   | exact laws_markInt64S.mono _ _ _
   | exact laws_markMoments.mono _ _ _ _
   | exact laws_toInt64S.mono _ _
   | exact laws_toMoments.mono _ _ _
   | exact spec_ProductMoments.mono _ _ _ _
   | exact LeO.none _
   | refine LeO.ite ?_ ?_
   | refine LeO.bind ?_ (fun _ => ?_)
  ·intro y0 y1 y2 y3 y4 y5 y6 y7 y8
   unfold laws_FnExactProductMoments.j1
   repeat' first
   | (with_reducible exact ih0 _ _ _ _ _ _ _ _ _ _ _ _ _)
   | (with_reducible exact ih1 _ _ _ _ _ _ _ _ _)
   | (with_reducible exact ih2 _ _ _ _)
   | (with_reducible exact impl_ProductMoments.mono _ _ _ _)
   | (with_reducible exact laws_eqInt64S.mono _ _ _)
   | (with_reducible exact laws_eqMoments.mono _ _ _ _ _)
   | (with_reducible exact laws_heldMoments.mono _ _ _ _)
   | (with_reducible exact laws_markInt64S.mono _ _ _)
   | (with_reducible exact laws_markMoments.mono _ _ _ _)
   | (with_reducible exact laws_toInt64S.mono _ _)
   | (with_reducible exact laws_toMoments.mono _ _ _)
   | (with_reducible exact spec_ProductMoments.mono _ _ _ _)
   | (with_reducible exact LeO.refl _)
   | (with_reducible exact LeO.none _)
   | (with_reducible refine LeO.ite ?_ ?_)
   | (with_reducible refine LeO.bind ?_ (fun _ => ?_))
   | exact ih0 _ _ _ _ _ _ _ _ _ _ _ _ _
   | exact ih1 _ _ _ _ _ _ _ _ _
   | exact ih2 _ _ _ _
   | exact impl_ProductMoments.mono _ _ _ _
   | exact laws_eqInt64S.mono _ _ _
   | exact laws_eqMoments.mono _ _ _ _ _
   | exact laws_heldMoments.mono _ _ _ _
   | exact laws_markInt64S.mono _ _ _
   | exact laws_markMoments.mono _ _ _ _
   | exact laws_toInt64S.mono _ _
   | exact laws_toMoments.mono _ _ _
   | exact spec_ProductMoments.mono _ _ _ _
   | exact LeO.none _
   | refine LeO.ite ?_ ?_
   | refine LeO.bind ?_ (fun _ => ?_)
  ·intro y0 y1 y2 y3
   unfold laws_FnExactProductMoments.j2
   repeat' first
   | (with_reducible exact ih0 _ _ _ _ _ _ _ _ _ _ _ _ _)
   | (with_reducible exact ih1 _ _ _ _ _ _ _ _ _)
   | (with_reducible exact ih2 _ _ _ _)
   | (with_reducible exact impl_ProductMoments.mono _ _ _ _)
   | (with_reducible exact laws_eqInt64S.mono _ _ _)
   | (with_reducible exact laws_eqMoments.mono _ _ _ _ _)
   | (with_reducible exact laws_heldMoments.mono _ _ _ _)
   | (with_reducible exact laws_markInt64S.mono _ _ _)
   | (with_reducible exact laws_markMoments.mono _ _ _ _)
   | (with_reducible exact laws_toInt64S.mono _ _)
   | (with_reducible exact laws_toMoments.mono _ _ _)
   | (with_reducible exact spec_ProductMoments.mono _ _ _ _)
   | (with_reducible exact LeO.refl _)
   | (with_reducible exact LeO.none _)
   | (with_reducible refine LeO.ite ?_ ?_)
   | (with_reducible refine LeO.bind ?_ (fun _ => ?_))
   | exact ih0 _ _ _ _ _ _ _ _ _ _ _ _ _
   | exact ih1 _ _ _ _ _ _ _ _ _
   | exact ih2 _ _ _ _
   | exact impl_ProductMoments.mono _ _ _ _
   | exact laws_eqInt64S.mono _ _ _
   | exact laws_eqMoments.mono _ _ _ _ _
   | exact laws_heldMoments.mono _ _ _ _
   | exact laws_markInt64S.mono _ _ _
   | exact laws_markMoments.mono _ _ _ _
   | exact laws_toInt64S.mono _ _
   | exact laws_toMoments.mono _ _ _
   | exact spec_ProductMoments.mono _ _ _ _
   | exact LeO.none _
   | refine LeO.ite ?_ ?_
   | refine LeO.bind ?_ (fun _ => ?_)
theorem laws_FnExactProductMoments.mono : ∀ a0 a1 a2 k, LeO (laws_FnExactProductMoments.f k a0 a1 a2) (laws_FnExactProductMoments.f (k + 1) a0 a1 a2) := by
 intro a0 a1 a2 k
 obtain ⟨ih0, ih1, ih2⟩ := laws_FnExactProductMoments.mono_l k
 unfold laws_FnExactProductMoments.f
 repeat' first
   | (with_reducible exact ih0 _ _ _ _ _ _ _ _ _ _ _ _ _)
   | (with_reducible exact ih1 _ _ _ _ _ _ _ _ _)
   | (with_reducible exact ih2 _ _ _ _)
   | (with_reducible exact impl_ProductMoments.mono _ _ _ _)
   | (with_reducible exact laws_eqInt64S.mono _ _ _)
   | (with_reducible exact laws_eqMoments.mono _ _ _ _ _)
   | (with_reducible exact laws_heldMoments.mono _ _ _ _)
   | (with_reducible exact laws_markInt64S.mono _ _ _)
   | (with_reducible exact laws_markMoments.mono _ _ _ _)
   | (with_reducible exact laws_toInt64S.mono _ _)
   | (with_reducible exact laws_toMoments.mono _ _ _)
   | (with_reducible exact spec_ProductMoments.mono _ _ _ _)
   | (with_reducible exact LeO.refl _)
   | (with_reducible exact LeO.none _)
   | (with_reducible refine LeO.ite ?_ ?_)
   | (with_reducible refine LeO.bind ?_ (fun _ => ?_))
   | exact ih0 _ _ _ _ _ _ _ _ _ _ _ _ _
   | exact ih1 _ _ _ _ _ _ _ _ _
   | exact ih2 _ _ _ _
   | exact impl_ProductMoments.mono _ _ _ _
   | exact laws_eqInt64S.mono _ _ _
   | exact laws_eqMoments.mono _ _ _ _ _
   | exact laws_heldMoments.mono _ _ _ _
   | exact laws_markInt64S.mono _ _ _
   | exact laws_markMoments.mono _ _ _ _
   | exact laws_toInt64S.mono _ _
   | exact laws_toMoments.mono _ _ _
   | exact spec_ProductMoments.mono _ _ _ _
   | exact LeO.none _
   | refine LeO.ite ?_ ?_
   | refine LeO.bind ?_ (fun _ => ?_)
set_option maxHeartbeats 8000000 in
set_option maxRecDepth 100000 in
theorem laws_FnExactProductMoments.calls (k : Nat) (a0_0 : Int) (A0_1 : Option Addr) (c0_1 : Nat) (l0_1 : List Int) (A1 : Option Addr) (c1 : Nat) (l1 : List Int) (r : Bool) (hr_ : r = true) (w : World) (hr0_1 : Kd.C (Kd.int .i64) w A0_1 l0_1.length l0_1) (hc0_1 : l0_1.length ≤ c0_1) (hr1 : Kd.C (Kd.int .i64) w A1 l1.length l1) (hc1 : l1.length ≤ c1) (h : laws_FnExactProductMoments.f k a0_0 l0_1 l1 = some r) :
  Calls Try.prog 8 #[.agg #[.int .i64 a0_0, .slice A0_1 l0_1.length c0_1], .slice A1 l1.length c1] w fun e w' => e = .returned (.bool r) ∧ Below w.heap.size w w' := by
 have hu24 := Try.underlying24
 have hu31 := Try.underlying31
 have HRT := zA hr_
 clear hr_
 have HR0_1 := zA hr0_1
 have HC0_1 := zA hc0_1
 clear hr0_1 hc0_1
 have HR1 := zA hr1
 have HC1 := zA hc1
 clear hr1 hc1
 have HB := zA (Below.refl w.heap.size w)
 have H : (if (l1.length : Int) > 1048576 then (some true) else ((laws_szMoments.f a0_0 l0_1 1048576).bind fun t939 => (if t939 < 0 then (some true) else ((laws_toMoments.f k a0_0 l0_1).bind fun bt940 => ((laws_toInt64S.f k l1).bind fun t944 => ((spec_ProductMoments.f k bt940.1 bt940.2 t944).bind fun bt947 => ((laws_toMoments.f k a0_0 l0_1).bind fun bt953 => ((laws_toInt64S.f k l1).bind fun t958 => ((impl_ProductMoments.f k bt953.1 bt953.2 t958).bind fun bt961 => ((laws_eqMoments.f k bt961.1 bt961.2.1 bt947.1 bt947.2.1).bind fun t967 => (if t967 = true then (laws_FnExactProductMoments.j0 k l1 bt947.2.2 t958 bt961.2.2 (bt961.2.2 != bt947.2.2) a0_0 l0_1 bt947.1 bt947.2.1 bt953.1 bt953.2 bt961.1 bt961.2.1) else (laws_FnExactProductMoments.j0 k l1 bt947.2.2 t958 bt961.2.2 true a0_0 l0_1 bt947.1 bt947.2.1 bt953.1 bt953.2 bt961.1 bt961.2.1)))))))))))) = some r := h
 clear h
 by_cases c3 : (l1.length : Int) > 1048576
 ·rw [if_pos c3] at H
  have c3b0 : decide (1048576 < (l1.length : Int)) = true := decide_eq_true c3
  have c3b1 : decide (1048576 < l1.length) = true := decide_eq_true (by omega)
  clear c3
  obtain rfl := Option.some.inj H
  go_enter Try.func8, Try.ntmps8
  go_wp2_with (first | ((with_reducible refine gate_dst (N := 2) rfl ?_); refine box_event ?hg (N := 2) ?hd (cs := #[.int .i64 a0_0, .slice A0_1 l0_1.length c0_1]) (t := 24) ?hr ?_; (case hd => rfl); (case hg => rfl); (case hr => first | (go_simp; done) | (go_simp; rfl)); intro gb938 hg w4 hbox hb; have n0_ := xH HB hb; have n1_ := zA (hbox); have n2_ := zA ((by rw [hg]; exact (below_size (uH HB.out)) : w.heap.size ≤ gb938)); have n3_ := zA ((by rw [hg]; exact (below_size (uH HB.out)) : w.heap.size ≤ gb938)); clear HB; have HB := n0_; have BK938 := n1_; have GW938 := n2_; have GE938 := n3_; have := geI GE938; clear n0_ n1_ n2_ n3_ hb hbox hg))
  go_ret
  exact ⟨by first | rfl | (simp [errW_none, errW_some] <;> rfl) | (simp [*, errW_none, errW_some] <;> rfl), uH HB.out⟩
 ·rw [if_neg c3] at H
  have c3b0 : decide (1048576 < (l1.length : Int)) = false := decide_eq_false c3
  have c3b1 : decide (1048576 < l1.length) = false := decide_eq_false (by omega)
  clear c3
  replace H := Option.bind_eq_some_iff.mp H
  obtain ⟨t939, A50, H⟩ := H
  replace H : (if t939 < 0 then (some true) else ((laws_toMoments.f k a0_0 l0_1).bind fun bt940 => ((laws_toInt64S.f k l1).bind fun t944 => ((spec_ProductMoments.f k bt940.1 bt940.2 t944).bind fun bt947 => ((laws_toMoments.f k a0_0 l0_1).bind fun bt953 => ((laws_toInt64S.f k l1).bind fun t958 => ((impl_ProductMoments.f k bt953.1 bt953.2 t958).bind fun bt961 => ((laws_eqMoments.f k bt961.1 bt961.2.1 bt947.1 bt947.2.1).bind fun t967 => (if t967 = true then (laws_FnExactProductMoments.j0 k l1 bt947.2.2 t958 bt961.2.2 (bt961.2.2 != bt947.2.2) a0_0 l0_1 bt947.1 bt947.2.1 bt953.1 bt953.2 bt961.1 bt961.2.1) else (laws_FnExactProductMoments.j0 k l1 bt947.2.2 t958 bt961.2.2 true a0_0 l0_1 bt947.1 bt947.2.1 bt953.1 bt953.2 bt961.1 bt961.2.1)))))))))) = some r := H
  have A5 := zA A50
  clear A50
  by_cases c6 : t939 < 0
  ·rw [if_pos c6] at H
   have c6b0 : decide (t939 < 0) = true := decide_eq_true c6
   clear c6
   obtain rfl := Option.some.inj H
   go_enter Try.func8, Try.ntmps8
   go_wp2_with (first | ((with_reducible refine gate_dst (N := 2) rfl ?_); refine box_event ?hg (N := 2) ?hd (cs := #[.int .i64 a0_0, .slice A0_1 l0_1.length c0_1]) (t := 24) ?hr ?_; (case hd => rfl); (case hg => rfl); (case hr => first | (go_simp; done) | (go_simp; rfl)); intro gb938 hg w7 hbox hb; have n0_ := xH HB hb; have n1_ := zA (hbox); have n2_ := zA ((by rw [hg]; exact (below_size (uH HB.out)) : w.heap.size ≤ gb938)); have n3_ := zA ((by rw [hg]; exact (below_size (uH HB.out)) : w.heap.size ≤ gb938)); clear HB; have HB := n0_; have BK938 := n1_; have GW938 := n2_; have GE938 := n3_; have := geI GE938; clear n0_ n1_ n2_ n3_ hb hbox hg; have hcz8_0 : w7.cell? ⟨gb938, 0, none⟩ = some (.int .i64 a0_0) := (blk_cell BK938.out 0).trans rfl; have hcz8_1 : w7.cell? ⟨gb938, 1, none⟩ = some (.slice A0_1 l0_1.length c0_1) := (blk_cell BK938.out 1).trans rfl; have hfz8_0 := blk_frozen BK938.out 0; have hfz8_1 := blk_frozen BK938.out 1) | ((with_reducible refine gate_callee (f := 15) rfl ?_); refine goesL_ (some 22) rfl rfl Try.func15 (by kernel_rfl) rfl #[.agg #[.int .i64 a0_0, .slice A0_1 l0_1.length c0_1], .int .i64 1048576] rfl (by (try simp only [la, lb, lc]); first | done | rfl | (simp only [ld, le]; rfl)) ?_; (with_reducible refine (laws_szMoments.calls a0_0 _ _ l0_1 1048576 t939 _ ?side1 ?side2 A5.out).mono ?_); (case side1 => exact uC ((Kd.C_below HR0_1.out HB.out))); (case side2 => exact HC0_1.out); rintro e w9 ⟨rfl, hb⟩; refine ⟨_, rfl, ?_⟩; have n0_ := xB BK938 hb; have n1_ := xH HB hb; clear BK938 HB; have BK938 := n0_; have HB := n1_; clear n0_ n1_; (try clear hb); (try clear hb2); (try clear hk); (try clear hi)))
   go_ret
   exact ⟨by first | rfl | (simp [errW_none, errW_some] <;> rfl) | (simp [*, errW_none, errW_some] <;> rfl), uH HB.out⟩
  ·rw [if_neg c6] at H
   have c6b0 : decide (t939 < 0) = false := decide_eq_false c6
   clear c6
   replace H := Option.bind_eq_some_iff.mp H
   obtain ⟨⟨t940, t941⟩, A100, H⟩ := H
   replace H : ((laws_toInt64S.f k l1).bind fun t944 => ((spec_ProductMoments.f k t940 t941 t944).bind fun bt947 => ((laws_toMoments.f k a0_0 l0_1).bind fun bt953 => ((laws_toInt64S.f k l1).bind fun t958 => ((impl_ProductMoments.f k bt953.1 bt953.2 t958).bind fun bt961 => ((laws_eqMoments.f k bt961.1 bt961.2.1 bt947.1 bt947.2.1).bind fun t967 => (if t967 = true then (laws_FnExactProductMoments.j0 k l1 bt947.2.2 t958 bt961.2.2 (bt961.2.2 != bt947.2.2) a0_0 l0_1 bt947.1 bt947.2.1 bt953.1 bt953.2 bt961.1 bt961.2.1) else (laws_FnExactProductMoments.j0 k l1 bt947.2.2 t958 bt961.2.2 true a0_0 l0_1 bt947.1 bt947.2.1 bt953.1 bt953.2 bt961.1 bt961.2.1)))))))) = some r := H
   have A10 := zA A100
   clear A100
   replace H := Option.bind_eq_some_iff.mp H
   obtain ⟨t944, A110, H⟩ := H
   replace H : ((spec_ProductMoments.f k t940 t941 t944).bind fun bt947 => ((laws_toMoments.f k a0_0 l0_1).bind fun bt953 => ((laws_toInt64S.f k l1).bind fun t958 => ((impl_ProductMoments.f k bt953.1 bt953.2 t958).bind fun bt961 => ((laws_eqMoments.f k bt961.1 bt961.2.1 bt947.1 bt947.2.1).bind fun t967 => (if t967 = true then (laws_FnExactProductMoments.j0 k l1 bt947.2.2 t958 bt961.2.2 (bt961.2.2 != bt947.2.2) a0_0 l0_1 bt947.1 bt947.2.1 bt953.1 bt953.2 bt961.1 bt961.2.1) else (laws_FnExactProductMoments.j0 k l1 bt947.2.2 t958 bt961.2.2 true a0_0 l0_1 bt947.1 bt947.2.1 bt953.1 bt953.2 bt961.1 bt961.2.1))))))) = some r := H
   have A11 := zA A110
   clear A110
   replace H := Option.bind_eq_some_iff.mp H
   obtain ⟨⟨t947, t948, t951⟩, A120, H⟩ := H
   replace H : ((laws_toMoments.f k a0_0 l0_1).bind fun bt953 => ((laws_toInt64S.f k l1).bind fun t958 => ((impl_ProductMoments.f k bt953.1 bt953.2 t958).bind fun bt961 => ((laws_eqMoments.f k bt961.1 bt961.2.1 t947 t948).bind fun t967 => (if t967 = true then (laws_FnExactProductMoments.j0 k l1 t951 t958 bt961.2.2 (bt961.2.2 != t951) a0_0 l0_1 t947 t948 bt953.1 bt953.2 bt961.1 bt961.2.1) else (laws_FnExactProductMoments.j0 k l1 t951 t958 bt961.2.2 true a0_0 l0_1 t947 t948 bt953.1 bt953.2 bt961.1 bt961.2.1)))))) = some r := H
   have A12 := zA A120
   clear A120
   replace H := Option.bind_eq_some_iff.mp H
   obtain ⟨⟨t953, t954⟩, A130, H⟩ := H
   replace H : ((laws_toInt64S.f k l1).bind fun t958 => ((impl_ProductMoments.f k t953 t954 t958).bind fun bt961 => ((laws_eqMoments.f k bt961.1 bt961.2.1 t947 t948).bind fun t967 => (if t967 = true then (laws_FnExactProductMoments.j0 k l1 t951 t958 bt961.2.2 (bt961.2.2 != t951) a0_0 l0_1 t947 t948 t953 t954 bt961.1 bt961.2.1) else (laws_FnExactProductMoments.j0 k l1 t951 t958 bt961.2.2 true a0_0 l0_1 t947 t948 t953 t954 bt961.1 bt961.2.1))))) = some r := H
   have A13 := zA A130
   clear A130
   replace H := Option.bind_eq_some_iff.mp H
   obtain ⟨t958, A140, H⟩ := H
   replace H : ((impl_ProductMoments.f k t953 t954 t958).bind fun bt961 => ((laws_eqMoments.f k bt961.1 bt961.2.1 t947 t948).bind fun t967 => (if t967 = true then (laws_FnExactProductMoments.j0 k l1 t951 t958 bt961.2.2 (bt961.2.2 != t951) a0_0 l0_1 t947 t948 t953 t954 bt961.1 bt961.2.1) else (laws_FnExactProductMoments.j0 k l1 t951 t958 bt961.2.2 true a0_0 l0_1 t947 t948 t953 t954 bt961.1 bt961.2.1)))) = some r := H
   have A14 := zA A140
   clear A140
   replace H := Option.bind_eq_some_iff.mp H
   obtain ⟨⟨t961, t962, t965⟩, A150, H⟩ := H
   replace H : ((laws_eqMoments.f k t961 t962 t947 t948).bind fun t967 => (if t967 = true then (laws_FnExactProductMoments.j0 k l1 t951 t958 t965 (t965 != t951) a0_0 l0_1 t947 t948 t953 t954 t961 t962) else (laws_FnExactProductMoments.j0 k l1 t951 t958 t965 true a0_0 l0_1 t947 t948 t953 t954 t961 t962))) = some r := H
   have A15 := zA A150
   clear A150
   have HC16 := zA H
   clear H
   go_enter Try.func8, Try.ntmps8
   go_upto_region 11 with (first | ((with_reducible refine gate_dst (N := 2) rfl ?_); refine box_event ?hg (N := 2) ?hd (cs := #[.int .i64 a0_0, .slice A0_1 l0_1.length c0_1]) (t := 24) ?hr ?_; (case hd => rfl); (case hg => rfl); (case hr => first | (go_simp; done) | (go_simp; rfl)); intro gb938 hg w17 hbox hb; have n0_ := xH HB hb; have n1_ := zA (hbox); have n2_ := zA ((by rw [hg]; exact (below_size (uH HB.out)) : w.heap.size ≤ gb938)); have n3_ := zA ((by rw [hg]; exact (below_size (uH HB.out)) : w.heap.size ≤ gb938)); clear HB; have HB := n0_; have BK938 := n1_; have GW938 := n2_; have GE938 := n3_; have := geI GE938; clear n0_ n1_ n2_ n3_ hb hbox hg; have hcz18_0 : w17.cell? ⟨gb938, 0, none⟩ = some (.int .i64 a0_0) := (blk_cell BK938.out 0).trans rfl; have hcz18_1 : w17.cell? ⟨gb938, 1, none⟩ = some (.slice A0_1 l0_1.length c0_1) := (blk_cell BK938.out 1).trans rfl; have hfz18_0 := blk_frozen BK938.out 0; have hfz18_1 := blk_frozen BK938.out 1) | ((with_reducible refine gate_callee (f := 15) rfl ?_); refine goesL_ (some 22) rfl rfl Try.func15 (by kernel_rfl) rfl #[.agg #[.int .i64 a0_0, .slice A0_1 l0_1.length c0_1], .int .i64 1048576] rfl (by (try simp only [la, lb, lc]); first | done | rfl | (simp only [ld, le]; rfl)) ?_; (with_reducible refine (laws_szMoments.calls a0_0 _ _ l0_1 1048576 t939 _ ?side1 ?side2 A5.out).mono ?_); (case side1 => exact uC ((Kd.C_below HR0_1.out HB.out))); (case side2 => exact HC0_1.out); rintro e w19 ⟨rfl, hb⟩; refine ⟨_, rfl, ?_⟩; have n0_ := xB BK938 hb; have n1_ := xH HB hb; clear BK938 HB; have BK938 := n0_; have HB := n1_; clear n0_ n1_; (try clear hb); (try clear hb2); (try clear hk); (try clear hi); have hcz20_0 : w19.cell? ⟨gb938, 0, none⟩ = some (.int .i64 a0_0) := (blk_cell BK938.out 0).trans rfl; have hcz20_1 : w19.cell? ⟨gb938, 1, none⟩ = some (.slice A0_1 l0_1.length c0_1) := (blk_cell BK938.out 1).trans rfl; have hfz20_0 := blk_frozen BK938.out 0; have hfz20_1 := blk_frozen BK938.out 1) | ((with_reducible refine gate_callee (f := 18) rfl ?_); refine goesL_ (some 27) rfl rfl Try.func18 (by kernel_rfl) rfl #[.agg #[.int .i64 a0_0, .slice A0_1 l0_1.length c0_1]] rfl (by (try simp only [la, lb, lc]); first | done | rfl | (simp only [ld, le]; rfl)) ?_; (with_reducible refine (laws_toMoments.calls k a0_0 _ _ l0_1 t940 t941 _ ?side1 ?side2 A10.out).mono ?_); (case side1 => exact uC ((Kd.C_below HR0_1.out HB.out))); (case side2 => exact HC0_1.out); rintro e w21 ⟨v942, rfl, ho0, hb⟩; refine ⟨_, rfl, ?_⟩; have n0_ := zA (Kd.R_lower ho0 (below_size (uH HB.out))); have n1_ := xB BK938 hb; have n2_ := xH HB hb; clear BK938 HB; have HO943 := n0_; have BK938 := n1_; have HB := n2_; clear n0_ n1_ n2_; (try clear hb); (try clear hb2); (try clear hk); (try clear hi); (try clear ho0)) | ((with_reducible refine gate_callee (f := 20) rfl ?_); refine goesL_ (some 29) rfl rfl Try.func20 (by kernel_rfl) rfl #[.slice A1 l1.length c1] rfl (by (try simp only [la, lb, lc]); first | done | rfl | (simp only [ld, le]; rfl)) ?_; (with_reducible refine (laws_toInt64S.calls k _ _ l1 t944 _ ?side1 ?side2 A11.out).mono ?_); (case side1 => exact uC ((Kd.C_below HR1.out HB.out))); (case side2 => exact HC1.out); rintro e w22 ⟨v945, rfl, ho0, hb⟩; refine ⟨_, rfl, ?_⟩; have n0_ := zA (Kd.R_elder' (uR HO943.out) (Kd.R_base ho0) hb); have n1_ := zA (Kd.R_lower (Kd.R_new' ho0 (Kd.R_lt (uR HO943.out))) (below_size (uH HB.out))); have n2_ := xB BK938 hb; have n3_ := xH HB hb; clear HO943 BK938 HB; have HO943 := n0_; have HO946 := n1_; have BK938 := n2_; have HB := n3_; clear n0_ n1_ n2_ n3_; (try clear hb); (try clear hb2); (try clear hk); (try clear hi); (try clear ho0); obtain ⟨Ao23, co23, eo23⟩ := Kd.R_slice HO943.out; subst eo23; obtain ⟨Ao24, co24, eo24⟩ := Kd.R_slice HO946.out; subst eo24) | ((with_reducible refine gate_callee (f := 38) rfl ?_); refine goesL_ (some 30) rfl rfl Try.func38 (by kernel_rfl) rfl #[.agg #[.int .i64 t940, .slice Ao23 t941.length co23], .slice Ao24 t944.length co24] rfl (by (try simp only [la, lb, lc]); first | done | rfl | (simp only [ld, le]; rfl)) ?_; (with_reducible refine (spec_ProductMoments.calls k t940 _ _ t941 _ _ t944 t947 t948 t951 _ ?side1 ?side2 ?side3 ?side4 A12.out).mono ?_); (case side1 => exact uC ((Kd.R_reads' HO943.out).2.2)); (case side2 => exact (Kd.R_reads' HO943.out).2.1); (case side3 => exact uC ((Kd.R_reads' HO946.out).2.2)); (case side4 => exact (Kd.R_reads' HO946.out).2.1); rintro e w25 ⟨v949, rfl, ho0, hb⟩; refine ⟨_, rfl, ?_⟩; have n0_ := zA (Kd.R_elder' (uR HO943.out) (Kd.R_base ho0) hb); have n1_ := zA (Kd.R_elder' (uR HO946.out) (Kd.R_base ho0) hb); have n2_ := zA (Kd.R_lower (Kd.R_new' (Kd.R_new' ho0 (Kd.R_lt (uR HO943.out))) (Kd.R_lt (uR HO946.out))) (below_size (uH HB.out))); have n3_ := xB BK938 hb; have n4_ := xH HB hb; clear HO943 HO946 BK938 HB; have HO943 := n0_; have HO946 := n1_; have HO950 := n2_; have BK938 := n3_; have HB := n4_; clear n0_ n1_ n2_ n3_ n4_; (try clear hb); (try clear hb2); (try clear hk); (try clear hi); (try clear ho0)) | ((with_reducible refine gate_dst (N := 6) rfl ?_); refine box_event ?hg (N := 6) ?hd (cs := #[.int .i64 0, .slice none 0 0]) (t := 31) ?hr ?_; (case hd => rfl); (case hg => rfl); (case hr => first | (go_simp; done) | (go_simp; rfl)); intro gb952 hg w26 hbox hb; have n0_ := xR HO943 hb; have n1_ := xR HO946 hb; have n2_ := xR HO950 hb; have n3_ := xB BK938 hb; have n4_ := xH HB hb; have n5_ := zA (hbox); have n6_ := zA ((by rw [hg]; exact (below_size (uH HB.out)) : w.heap.size ≤ gb952)); have n7_ := zA ((by rw [hg]; exact (below_size (uH HB.out)) : w.heap.size ≤ gb952)); have n8_ := zA ((by rw [hg]; exact neL BK938 : gb938 ≠ gb952)); have n9_ := zA ((by rw [hg]; exact neG BK938 : gb952 ≠ gb938)); clear HO943 HO946 HO950 BK938 HB; have HO943 := n0_; have HO946 := n1_; have HO950 := n2_; have BK938 := n3_; have HB := n4_; have BK952 := n5_; have GW952 := n6_; have GE952 := n7_; have := geI GE952; have NB938_952 := n8_; have NB952_938 := n9_; clear n0_ n1_ n2_ n3_ n4_ n5_ n6_ n7_ n8_ n9_ hb hbox hg; have hnb27 := NB952_938.out; have hnc27 := NB938_952.out; have hcz28_0 : w26.cell? ⟨gb952, 0, none⟩ = some (.int .i64 0) := (blk_cell BK952.out 0).trans rfl; have hcz28_1 : w26.cell? ⟨gb952, 1, none⟩ = some (.slice none 0 0) := (blk_cell BK952.out 1).trans rfl; have hfz28_0 := blk_frozen BK952.out 0; have hfz28_1 := blk_frozen BK952.out 1; obtain ⟨Ao29, co29, eo29⟩ := Kd.R_slice HO950.out; subst eo29; have hcz30_0 : w26.cell? ⟨gb938, 0, none⟩ = some (.int .i64 a0_0) := (blk_cell BK938.out 0).trans rfl; have hcz30_1 : w26.cell? ⟨gb938, 1, none⟩ = some (.slice A0_1 l0_1.length c0_1) := (blk_cell BK938.out 1).trans rfl; have hfz30_0 := blk_frozen BK938.out 0; have hfz30_1 := blk_frozen BK938.out 1) | ((with_reducible refine gate_callee (f := 18) rfl ?_); refine goesL_ (some 34) rfl rfl Try.func18 (by kernel_rfl) rfl #[.agg #[.int .i64 a0_0, .slice A0_1 l0_1.length c0_1]] rfl (by (try simp only [la, lb, lc]); first | done | rfl | (simp only [ld, le]; rfl)) ?_; (with_reducible refine (laws_toMoments.calls k a0_0 _ _ l0_1 t953 t954 _ ?side1 ?side2 A13.out).mono ?_); (case side1 => exact Kd.C_below HR0_1.out (uH HB.out)); (case side2 => exact HC0_1.out); rintro e w31 ⟨v955, rfl, ho0, hb⟩; refine ⟨_, rfl, ?_⟩; have n0_ := zA (Kd.R_elder' (uR ((Kd.R_mono (Kd.R_far (p := ⟨gb952, 1, none⟩) (Kd.R_far (p := ⟨gb952, 0, none⟩) (Kd.R_types HO943.out BK952.out (by decide)) (fun _ hk => hk.2) (.int .i64 t947)) (fun _ hk => hk.2) (.slice Ao29 t948.length co29)) (fun _ h_ => h_.1)))) (Kd.R_base ho0) hb); have n1_ := zA (Kd.R_elder' (uR ((Kd.R_mono (Kd.R_far (p := ⟨gb952, 1, none⟩) (Kd.R_far (p := ⟨gb952, 0, none⟩) (Kd.R_types HO946.out BK952.out (by decide)) (fun _ hk => hk.2) (.int .i64 t947)) (fun _ hk => hk.2) (.slice Ao29 t948.length co29)) (fun _ h_ => h_.1)))) (Kd.R_base ho0) hb); have n2_ := zA (Kd.R_elder' (uR ((Kd.R_mono (Kd.R_far (p := ⟨gb952, 1, none⟩) (Kd.R_far (p := ⟨gb952, 0, none⟩) (Kd.R_types HO950.out BK952.out (by decide)) (fun _ hk => hk.2) (.int .i64 t947)) (fun _ hk => hk.2) (.slice Ao29 t948.length co29)) (fun _ h_ => h_.1)))) (Kd.R_base ho0) hb); have n3_ := zA (Kd.R_lower (Kd.R_new' (Kd.R_new' (Kd.R_new' ho0 (Kd.R_lt (uR ((Kd.R_mono (Kd.R_far (p := ⟨gb952, 1, none⟩) (Kd.R_far (p := ⟨gb952, 0, none⟩) (Kd.R_types HO943.out BK952.out (by decide)) (fun _ hk => hk.2) (.int .i64 t947)) (fun _ hk => hk.2) (.slice Ao29 t948.length co29)) (fun _ h_ => h_.1)))))) (Kd.R_lt (uR ((Kd.R_mono (Kd.R_far (p := ⟨gb952, 1, none⟩) (Kd.R_far (p := ⟨gb952, 0, none⟩) (Kd.R_types HO946.out BK952.out (by decide)) (fun _ hk => hk.2) (.int .i64 t947)) (fun _ hk => hk.2) (.slice Ao29 t948.length co29)) (fun _ h_ => h_.1)))))) (Kd.R_lt (uR ((Kd.R_mono (Kd.R_far (p := ⟨gb952, 1, none⟩) (Kd.R_far (p := ⟨gb952, 0, none⟩) (Kd.R_types HO950.out BK952.out (by decide)) (fun _ hk => hk.2) (.int .i64 t947)) (fun _ hk => hk.2) (.slice Ao29 t948.length co29)) (fun _ h_ => h_.1)))))) (below_size (uH HB.out))); have n4_ := zA (blk_below (g := gb938) (o := .cells #[.int .i64 a0_0, .slice A0_1 l0_1.length c0_1] 24 (0, 0)) (by (with_reducible repeat (first | refine blk_drewN ?_ _ | refine blk_drew ?_ | refine blk_alloc ?_ _)); refine blk_far ?_ NB938_952.out _; (with_reducible repeat (first | refine blk_drewN ?_ _ | refine blk_drew ?_ | refine blk_alloc ?_ _)); refine blk_far ?_ NB938_952.out _; (with_reducible repeat (first | refine blk_drewN ?_ _ | refine blk_drew ?_ | refine blk_alloc ?_ _)); exact BK938.out) hb); have n5_ := zA (blk_below (g := gb952) (o := .cells #[.int .i64 t947, .slice Ao29 t948.length co29] 31 (0, 0)) (by (with_reducible repeat (first | refine blk_drewN ?_ _ | refine blk_drew ?_ | refine blk_alloc ?_ _)); refine blk_put (cs := #[.int .i64 t947, .slice none 0 0]) ?_ 1 _ rfl; (with_reducible repeat (first | refine blk_drewN ?_ _ | refine blk_drew ?_ | refine blk_alloc ?_ _)); refine blk_put (cs := #[.int .i64 0, .slice none 0 0]) ?_ 0 _ rfl; (with_reducible repeat (first | refine blk_drewN ?_ _ | refine blk_drew ?_ | refine blk_alloc ?_ _)); exact BK952.out) hb); have n6_ := xH HB hb; clear HO943 HO946 HO950 BK938 BK952 HB; have HO943 := n0_; have HO946 := n1_; have HO950 := n2_; have HO956 := n3_; have BK938 := n4_; have BK952 := n5_; have HB := n6_; clear n0_ n1_ n2_ n3_ n4_ n5_ n6_; (try clear hb); (try clear hb2); (try clear hk); (try clear hi); (try clear ho0)) | ((with_reducible refine gate_dst (N := 8) rfl ?_); refine box_event ?hg (N := 8) ?hd (cs := #[.int .i64 0, .slice none 0 0]) (t := 31) ?hr ?_; (case hd => rfl); (case hg => rfl); (case hr => first | (go_simp; done) | (go_simp; rfl)); intro gb957 hg w32 hbox hb; have n0_ := xR HO943 hb; have n1_ := xR HO946 hb; have n2_ := xR HO950 hb; have n3_ := xR HO956 hb; have n4_ := xB BK938 hb; have n5_ := xB BK952 hb; have n6_ := xH HB hb; have n7_ := zA (hbox); have n8_ := zA ((by rw [hg]; exact (below_size (uH HB.out)) : w.heap.size ≤ gb957)); have n9_ := zA ((by rw [hg]; exact (below_size (uH HB.out)) : w.heap.size ≤ gb957)); have n10_ := zA ((by rw [hg]; exact neL BK938 : gb938 ≠ gb957)); have n11_ := zA ((by rw [hg]; exact neG BK938 : gb957 ≠ gb938)); have n12_ := zA ((by rw [hg]; exact neL BK952 : gb952 ≠ gb957)); have n13_ := zA ((by rw [hg]; exact neG BK952 : gb957 ≠ gb952)); clear HO943 HO946 HO950 HO956 BK938 BK952 HB; have HO943 := n0_; have HO946 := n1_; have HO950 := n2_; have HO956 := n3_; have BK938 := n4_; have BK952 := n5_; have HB := n6_; have BK957 := n7_; have GW957 := n8_; have GE957 := n9_; have := geI GE957; have NB938_957 := n10_; have NB957_938 := n11_; have NB952_957 := n12_; have NB957_952 := n13_; clear n0_ n1_ n2_ n3_ n4_ n5_ n6_ n7_ n8_ n9_ n10_ n11_ n12_ n13_ hb hbox hg; have hnb33 := NB957_938.out; have hnc33 := NB938_957.out; have hnb34 := NB957_952.out; have hnc34 := NB952_957.out; have hcz35_0 : w32.cell? ⟨gb957, 0, none⟩ = some (.int .i64 0) := (blk_cell BK957.out 0).trans rfl; have hcz35_1 : w32.cell? ⟨gb957, 1, none⟩ = some (.slice none 0 0) := (blk_cell BK957.out 1).trans rfl; have hfz35_0 := blk_frozen BK957.out 0; have hfz35_1 := blk_frozen BK957.out 1; obtain ⟨Ao36, co36, eo36⟩ := Kd.R_slice HO956.out; subst eo36) | ((with_reducible refine gate_callee (f := 20) rfl ?_); refine goesL_ (some 36) rfl rfl Try.func20 (by kernel_rfl) rfl #[.slice A1 l1.length c1] rfl (by (try simp only [la, lb, lc]); first | done | rfl | (simp only [ld, le]; rfl)) ?_; (with_reducible refine (laws_toInt64S.calls k _ _ l1 t958 _ ?side1 ?side2 A14.out).mono ?_); (case side1 => exact Kd.C_below HR1.out (uH HB.out)); (case side2 => exact HC1.out); rintro e w37 ⟨v959, rfl, ho0, hb⟩; refine ⟨_, rfl, ?_⟩; have n0_ := zA (Kd.R_elder' (uR ((Kd.R_mono (Kd.R_far (p := ⟨gb957, 1, none⟩) (Kd.R_far (p := ⟨gb957, 0, none⟩) (Kd.R_types HO943.out BK957.out (by decide)) (fun _ hk => hk.2) (.int .i64 t953)) (fun _ hk => hk.2) (.slice Ao36 t954.length co36)) (fun _ h_ => h_.1)))) (Kd.R_base ho0) hb); have n1_ := zA (Kd.R_elder' (uR ((Kd.R_mono (Kd.R_far (p := ⟨gb957, 1, none⟩) (Kd.R_far (p := ⟨gb957, 0, none⟩) (Kd.R_types HO946.out BK957.out (by decide)) (fun _ hk => hk.2) (.int .i64 t953)) (fun _ hk => hk.2) (.slice Ao36 t954.length co36)) (fun _ h_ => h_.1)))) (Kd.R_base ho0) hb); have n2_ := zA (Kd.R_elder' (uR ((Kd.R_mono (Kd.R_far (p := ⟨gb957, 1, none⟩) (Kd.R_far (p := ⟨gb957, 0, none⟩) (Kd.R_types HO950.out BK957.out (by decide)) (fun _ hk => hk.2) (.int .i64 t953)) (fun _ hk => hk.2) (.slice Ao36 t954.length co36)) (fun _ h_ => h_.1)))) (Kd.R_base ho0) hb); have n3_ := zA (Kd.R_elder' (uR ((Kd.R_mono (Kd.R_far (p := ⟨gb957, 1, none⟩) (Kd.R_far (p := ⟨gb957, 0, none⟩) (Kd.R_types HO956.out BK957.out (by decide)) (fun _ hk => hk.2) (.int .i64 t953)) (fun _ hk => hk.2) (.slice Ao36 t954.length co36)) (fun _ h_ => h_.1)))) (Kd.R_base ho0) hb); have n4_ := zA (Kd.R_lower (Kd.R_new' (Kd.R_new' (Kd.R_new' (Kd.R_new' ho0 (Kd.R_lt (uR ((Kd.R_mono (Kd.R_far (p := ⟨gb957, 1, none⟩) (Kd.R_far (p := ⟨gb957, 0, none⟩) (Kd.R_types HO943.out BK957.out (by decide)) (fun _ hk => hk.2) (.int .i64 t953)) (fun _ hk => hk.2) (.slice Ao36 t954.length co36)) (fun _ h_ => h_.1)))))) (Kd.R_lt (uR ((Kd.R_mono (Kd.R_far (p := ⟨gb957, 1, none⟩) (Kd.R_far (p := ⟨gb957, 0, none⟩) (Kd.R_types HO946.out BK957.out (by decide)) (fun _ hk => hk.2) (.int .i64 t953)) (fun _ hk => hk.2) (.slice Ao36 t954.length co36)) (fun _ h_ => h_.1)))))) (Kd.R_lt (uR ((Kd.R_mono (Kd.R_far (p := ⟨gb957, 1, none⟩) (Kd.R_far (p := ⟨gb957, 0, none⟩) (Kd.R_types HO950.out BK957.out (by decide)) (fun _ hk => hk.2) (.int .i64 t953)) (fun _ hk => hk.2) (.slice Ao36 t954.length co36)) (fun _ h_ => h_.1)))))) (Kd.R_lt (uR ((Kd.R_mono (Kd.R_far (p := ⟨gb957, 1, none⟩) (Kd.R_far (p := ⟨gb957, 0, none⟩) (Kd.R_types HO956.out BK957.out (by decide)) (fun _ hk => hk.2) (.int .i64 t953)) (fun _ hk => hk.2) (.slice Ao36 t954.length co36)) (fun _ h_ => h_.1)))))) (below_size (uH HB.out))); have n5_ := zA (blk_below (g := gb938) (o := .cells #[.int .i64 a0_0, .slice A0_1 l0_1.length c0_1] 24 (0, 0)) (by (with_reducible repeat (first | refine blk_drewN ?_ _ | refine blk_drew ?_ | refine blk_alloc ?_ _)); refine blk_far ?_ NB938_957.out _; (with_reducible repeat (first | refine blk_drewN ?_ _ | refine blk_drew ?_ | refine blk_alloc ?_ _)); refine blk_far ?_ NB938_957.out _; (with_reducible repeat (first | refine blk_drewN ?_ _ | refine blk_drew ?_ | refine blk_alloc ?_ _)); exact BK938.out) hb); have n6_ := zA (blk_below (g := gb952) (o := .cells #[.int .i64 t947, .slice Ao29 t948.length co29] 31 (0, 0)) (by (with_reducible repeat (first | refine blk_drewN ?_ _ | refine blk_drew ?_ | refine blk_alloc ?_ _)); refine blk_far ?_ NB952_957.out _; (with_reducible repeat (first | refine blk_drewN ?_ _ | refine blk_drew ?_ | refine blk_alloc ?_ _)); refine blk_far ?_ NB952_957.out _; (with_reducible repeat (first | refine blk_drewN ?_ _ | refine blk_drew ?_ | refine blk_alloc ?_ _)); exact BK952.out) hb); have n7_ := zA (blk_below (g := gb957) (o := .cells #[.int .i64 t953, .slice Ao36 t954.length co36] 31 (0, 0)) (by (with_reducible repeat (first | refine blk_drewN ?_ _ | refine blk_drew ?_ | refine blk_alloc ?_ _)); refine blk_put (cs := #[.int .i64 t953, .slice none 0 0]) ?_ 1 _ rfl; (with_reducible repeat (first | refine blk_drewN ?_ _ | refine blk_drew ?_ | refine blk_alloc ?_ _)); refine blk_put (cs := #[.int .i64 0, .slice none 0 0]) ?_ 0 _ rfl; (with_reducible repeat (first | refine blk_drewN ?_ _ | refine blk_drew ?_ | refine blk_alloc ?_ _)); exact BK957.out) hb); have n8_ := xH HB hb; clear HO943 HO946 HO950 HO956 BK938 BK952 BK957 HB; have HO943 := n0_; have HO946 := n1_; have HO950 := n2_; have HO956 := n3_; have HO960 := n4_; have BK938 := n5_; have BK952 := n6_; have BK957 := n7_; have HB := n8_; clear n0_ n1_ n2_ n3_ n4_ n5_ n6_ n7_ n8_; (try clear hb); (try clear hb2); (try clear hk); (try clear hi); (try clear ho0); have hcz38_0 : w37.cell? ⟨gb957, 0, none⟩ = some (.int .i64 t953) := (blk_cell BK957.out 0).trans rfl; have hcz38_1 : w37.cell? ⟨gb957, 1, none⟩ = some (.slice Ao36 t954.length co36) := (blk_cell BK957.out 1).trans rfl; have hfz38_0 := blk_frozen BK957.out 0; have hfz38_1 := blk_frozen BK957.out 1; obtain ⟨Ao39, co39, eo39⟩ := Kd.R_slice HO960.out; subst eo39) | ((with_reducible refine gate_callee (f := 39) rfl ?_); refine goesL_ (some 40) rfl rfl Try.func39 (by kernel_rfl) rfl #[.agg #[.int .i64 t953, .slice Ao36 t954.length co36], .slice Ao39 t958.length co39] rfl (by (try simp only [la, lb, lc]); first | done | rfl | (simp only [ld, le]; rfl)) ?_; (with_reducible refine (impl_ProductMoments.calls k t953 _ _ t954 (fun k_ => some k_ = (.slice Ao39 t958.length co39 : Value).ownBlock) _ _ t958 t961 t962 t965 _ ?side1 ?side2 ?side3 A15.out).mono ?_); (case side1 => exact uC ((Kd.R_reads' HO956.out).2.2)); (case side2 => exact (Kd.R_reads' HO956.out).2.1); (case side3 => exact Kd.R_V (Kd.R_tight rfl (Kd.R_types (Kd.R_types (Kd.R_types (HO960.out) BK938.out (by decide)) BK952.out (by decide)) BK957.out (by decide)))); rintro e w40 ⟨v963, rfl, ho0, hb⟩; refine ⟨_, rfl, ?_⟩; have n0_ := zA (Kd.R_elder' (uR HO943.out) (Kd.R_base ho0) hb); have n1_ := zA (Kd.R_elder' (uR HO946.out) (Kd.R_base ho0) hb); have n2_ := zA (Kd.R_elder' (uR HO950.out) (Kd.R_base ho0) hb); have n3_ := zA (Kd.R_elder' (uR HO956.out) (Kd.R_base ho0) hb); have n4_ := zA (Kd.R_elder' (uR HO960.out) (Kd.R_base ho0) hb); have n5_ := zA (Kd.R_lower (Kd.R_new' (Kd.R_new' (Kd.R_new' (Kd.R_new' (Kd.R_new' (Kd.R_mono (ok' := fun k_ => True) ho0 (fun _ hk_ => trivial)) (Kd.R_lt (uR HO943.out))) (Kd.R_lt (uR HO946.out))) (Kd.R_lt (uR HO950.out))) (Kd.R_lt (uR HO956.out))) (Kd.R_lt (uR HO960.out))) (below_size (uH HB.out))); have n6_ := xB BK938 hb; have n7_ := xB BK952 hb; have n8_ := xB BK957 hb; have n9_ := xH HB hb; clear HO943 HO946 HO950 HO956 HO960 BK938 BK952 BK957 HB; have HO943 := n0_; have HO946 := n1_; have HO950 := n2_; have HO956 := n3_; have HO960 := n4_; have HO964 := n5_; have BK938 := n6_; have BK952 := n7_; have BK957 := n8_; have HB := n9_; clear n0_ n1_ n2_ n3_ n4_ n5_ n6_ n7_ n8_ n9_; (try clear hb); (try clear hb2); (try clear hk); (try clear hi); (try clear ho0)) | ((with_reducible refine gate_dst (N := 10) rfl ?_); refine box_event ?hg (N := 10) ?hd (cs := #[.int .i64 0, .slice none 0 0]) (t := 31) ?hr ?_; (case hd => rfl); (case hg => rfl); (case hr => first | (go_simp; done) | (go_simp; rfl)); intro gb966 hg w41 hbox hb; have n0_ := xR HO943 hb; have n1_ := xR HO946 hb; have n2_ := xR HO950 hb; have n3_ := xR HO956 hb; have n4_ := xR HO960 hb; have n5_ := xR HO964 hb; have n6_ := xB BK938 hb; have n7_ := xB BK952 hb; have n8_ := xB BK957 hb; have n9_ := xH HB hb; have n10_ := zA (hbox); have n11_ := zA ((by rw [hg]; exact (below_size (uH HB.out)) : w.heap.size ≤ gb966)); have n12_ := zA ((by rw [hg]; exact (below_size (uH HB.out)) : w.heap.size ≤ gb966)); have n13_ := zA ((by rw [hg]; exact neL BK938 : gb938 ≠ gb966)); have n14_ := zA ((by rw [hg]; exact neG BK938 : gb966 ≠ gb938)); have n15_ := zA ((by rw [hg]; exact neL BK952 : gb952 ≠ gb966)); have n16_ := zA ((by rw [hg]; exact neG BK952 : gb966 ≠ gb952)); have n17_ := zA ((by rw [hg]; exact neL BK957 : gb957 ≠ gb966)); have n18_ := zA ((by rw [hg]; exact neG BK957 : gb966 ≠ gb957)); clear HO943 HO946 HO950 HO956 HO960 HO964 BK938 BK952 BK957 HB; have HO943 := n0_; have HO946 := n1_; have HO950 := n2_; have HO956 := n3_; have HO960 := n4_; have HO964 := n5_; have BK938 := n6_; have BK952 := n7_; have BK957 := n8_; have HB := n9_; have BK966 := n10_; have GW966 := n11_; have GE966 := n12_; have := geI GE966; have NB938_966 := n13_; have NB966_938 := n14_; have NB952_966 := n15_; have NB966_952 := n16_; have NB957_966 := n17_; have NB966_957 := n18_; clear n0_ n1_ n2_ n3_ n4_ n5_ n6_ n7_ n8_ n9_ n10_ n11_ n12_ n13_ n14_ n15_ n16_ n17_ n18_ hb hbox hg; have hnb42 := NB966_938.out; have hnc42 := NB938_966.out; have hnb43 := NB966_952.out; have hnc43 := NB952_966.out; have hnb44 := NB966_957.out; have hnc44 := NB957_966.out; have hcz45_0 : w41.cell? ⟨gb966, 0, none⟩ = some (.int .i64 0) := (blk_cell BK966.out 0).trans rfl; have hcz45_1 : w41.cell? ⟨gb966, 1, none⟩ = some (.slice none 0 0) := (blk_cell BK966.out 1).trans rfl; have hfz45_0 := blk_frozen BK966.out 0; have hfz45_1 := blk_frozen BK966.out 1; obtain ⟨Ao46, co46, eo46⟩ := Kd.R_slice HO964.out; subst eo46))
   (try simp only [Act.put, ls, lz, ln])
   go_cut [51] (fun v51 wc => ∃ (kq : Nat) (x51_15 : Bool), v51 = .bool x51_15 ∧ Aside0 (laws_FnExactProductMoments.j0 kq l1 t951 t958 t965 x51_15 a0_0 l0_1 t947 t948 t953 t954 t961 t962 = some r) ∧ Aside0 (kq ≤ k) ∧ Aside0 (Kd.R (Kd.int .i64) 2 wc w.heap.size (fun k_ => some k_ ≠ ((.slice Ao29 t948.length co29) : Value).ownBlock ∧ some k_ ≠ ((.slice Ao36 t954.length co36) : Value).ownBlock ∧ some k_ ≠ ((.slice Ao46 t962.length co46) : Value).ownBlock) (.slice Ao39 t958.length co39) t958) ∧ Aside0 (Kd.R (Kd.int .i64) 2 wc w.heap.size (fun k_ => some k_ ≠ ((.slice Ao39 t958.length co39) : Value).ownBlock ∧ some k_ ≠ ((.slice Ao36 t954.length co36) : Value).ownBlock ∧ some k_ ≠ ((.slice Ao46 t962.length co46) : Value).ownBlock) (.slice Ao29 t948.length co29) t948) ∧ Aside0 (Kd.R (Kd.int .i64) 2 wc w.heap.size (fun k_ => some k_ ≠ ((.slice Ao39 t958.length co39) : Value).ownBlock ∧ some k_ ≠ ((.slice Ao29 t948.length co29) : Value).ownBlock ∧ some k_ ≠ ((.slice Ao46 t962.length co46) : Value).ownBlock) (.slice Ao36 t954.length co36) t954) ∧ Aside0 (Kd.R (Kd.int .i64) 2 wc w.heap.size (fun k_ => some k_ ≠ ((.slice Ao39 t958.length co39) : Value).ownBlock ∧ some k_ ≠ ((.slice Ao29 t948.length co29) : Value).ownBlock ∧ some k_ ≠ ((.slice Ao36 t954.length co36) : Value).ownBlock) (.slice Ao46 t962.length co46) t962) ∧ Aside0 (wc.heap[gb938]? = some (.cells #[.int .i64 a0_0, (.slice A0_1 l0_1.length c0_1)] 24 (0, 0))) ∧ Aside0 (wc.heap[gb952]? = some (.cells #[.int .i64 t947, (.slice Ao29 t948.length co29)] 31 (0, 0))) ∧ Aside0 (wc.heap[gb957]? = some (.cells #[.int .i64 t953, (.slice Ao36 t954.length co36)] 31 (0, 0))) ∧ Aside0 (wc.heap[gb966]? = some (.cells #[.int .i64 t961, (.slice Ao46 t962.length co46)] 31 (0, 0))) ∧ Aside0 (Below w.heap.size w wc))
   case first =>
    have H := HC16.out
    clear HC16
    replace H := Option.bind_eq_some_iff.mp H
    obtain ⟨t967, A470, H⟩ := H
    replace H : (if t967 = true then (laws_FnExactProductMoments.j0 k l1 t951 t958 t965 (t965 != t951) a0_0 l0_1 t947 t948 t953 t954 t961 t962) else (laws_FnExactProductMoments.j0 k l1 t951 t958 t965 true a0_0 l0_1 t947 t948 t953 t954 t961 t962)) = some r := H
    have A47 := zA A470
    clear A470
    by_cases c48 : t967 = true
    ·subst c48
     have H1 : (laws_FnExactProductMoments.j0 k l1 t951 t958 t965 (t965 != t951) a0_0 l0_1 t947 t948 t953 t954 t961 t962) = some r := by rw [if_pos rfl] at H; exact H
     clear H
     have H := H1
     clear H1
     have H' := zA H
     clear H
     have hnb49 := NB966_938.out; have hnc49 := NB938_966.out; have hnb50 := NB966_952.out; have hnc50 := NB952_966.out; have hnb51 := NB966_957.out; have hnc51 := NB957_966.out
     have hcz52_0 : w41.cell? ⟨gb966, 0, none⟩ = some (.int .i64 0) := (blk_cell BK966.out 0).trans rfl
     have hcz52_1 : w41.cell? ⟨gb966, 1, none⟩ = some (.slice none 0 0) := (blk_cell BK966.out 1).trans rfl
     have hfz52_0 := blk_frozen BK966.out 0
     have hfz52_1 := blk_frozen BK966.out 1
     have hnb53 := NB952_938.out; have hnc53 := NB938_952.out; have hnb54 := NB952_957.out; have hnc54 := NB957_952.out
     have hcz55_0 : w41.cell? ⟨gb952, 0, none⟩ = some (.int .i64 t947) := (blk_cell BK952.out 0).trans rfl
     have hcz55_1 : w41.cell? ⟨gb952, 1, none⟩ = some (.slice Ao29 t948.length co29) := (blk_cell BK952.out 1).trans rfl
     have hfz55_0 := blk_frozen BK952.out 0
     have hfz55_1 := blk_frozen BK952.out 1
     go_wp2_with (first | ((with_reducible refine gate_callee (f := 22) rfl ?_); refine goesL_ (some 45) rfl rfl Try.func22 (by kernel_rfl) rfl #[.agg #[.int .i64 t961, .slice Ao46 t962.length co46], .agg #[.int .i64 t947, .slice Ao29 t948.length co29]] rfl (by (try simp only [la, lb, lc]); first | done | rfl | (simp only [ld, le]; rfl)) ?_; (with_reducible refine (laws_eqMoments.calls k t961 _ _ t962 t947 _ _ t948 true _ ?side1 ?side2 ?side3 ?side4 A47.out).mono ?_); (case side1 => refine (Kd.R_reads' (e := 2) (base := w.heap.size) (ok := fun k_ => (((((True ∧ some k_ ≠ (.slice Ao23 t941.length co23 : Value).ownBlock) ∧ some k_ ≠ (.slice Ao24 t944.length co24 : Value).ownBlock) ∧ some k_ ≠ (.slice Ao29 t948.length co29 : Value).ownBlock) ∧ some k_ ≠ (.slice Ao36 t954.length co36 : Value).ownBlock) ∧ some k_ ≠ (.slice Ao39 t958.length co39 : Value).ownBlock)) (n := t962.length) (c := co46) ?_).2.2; exact (uR ((Kd.R_mono (Kd.R_far (p := ⟨gb966, 1, none⟩) (Kd.R_far (p := ⟨gb966, 0, none⟩) (Kd.R_types HO964.out BK966.out (by decide)) (fun _ hk => hk.2) (.int .i64 t961)) (fun _ hk => hk.2) (.slice Ao46 t962.length co46)) (fun _ h_ => h_.1))))); (case side2 => exact (Kd.R_reads' HO964.out).2.1); (case side3 => refine (Kd.R_reads' (e := 2) (base := w.heap.size) (ok := fun k_ => (((((True ∧ some k_ ≠ (.slice Ao23 t941.length co23 : Value).ownBlock) ∧ some k_ ≠ (.slice Ao24 t944.length co24 : Value).ownBlock) ∧ some k_ ≠ (.slice Ao36 t954.length co36 : Value).ownBlock) ∧ some k_ ≠ (.slice Ao39 t958.length co39 : Value).ownBlock) ∧ some k_ ≠ (.slice Ao46 t962.length co46 : Value).ownBlock)) (n := t948.length) (c := co29) ?_).2.2; exact (uR ((Kd.R_mono (Kd.R_far (p := ⟨gb966, 1, none⟩) (Kd.R_far (p := ⟨gb966, 0, none⟩) (Kd.R_types HO950.out BK966.out (by decide)) (fun _ hk => hk.2) (.int .i64 t961)) (fun _ hk => hk.2) (.slice Ao46 t962.length co46)) (fun _ h_ => h_.1))))); (case side4 => exact (Kd.R_reads' HO950.out).2.1); rintro e w56 ⟨rfl, hb⟩; refine ⟨_, rfl, ?_⟩; have n0_ := zA (Kd.R_below (uR ((Kd.R_mono (Kd.R_far (p := ⟨gb966, 1, none⟩) (Kd.R_far (p := ⟨gb966, 0, none⟩) (Kd.R_types HO943.out BK966.out (by decide)) (fun _ hk => hk.2) (.int .i64 t961)) (fun _ hk => hk.2) (.slice Ao46 t962.length co46)) (fun _ h_ => h_.1)))) hb); have n1_ := zA (Kd.R_below (uR ((Kd.R_mono (Kd.R_far (p := ⟨gb966, 1, none⟩) (Kd.R_far (p := ⟨gb966, 0, none⟩) (Kd.R_types HO946.out BK966.out (by decide)) (fun _ hk => hk.2) (.int .i64 t961)) (fun _ hk => hk.2) (.slice Ao46 t962.length co46)) (fun _ h_ => h_.1)))) hb); have n2_ := zA (Kd.R_below (uR ((Kd.R_mono (Kd.R_far (p := ⟨gb966, 1, none⟩) (Kd.R_far (p := ⟨gb966, 0, none⟩) (Kd.R_types HO950.out BK966.out (by decide)) (fun _ hk => hk.2) (.int .i64 t961)) (fun _ hk => hk.2) (.slice Ao46 t962.length co46)) (fun _ h_ => h_.1)))) hb); have n3_ := zA (Kd.R_below (uR ((Kd.R_mono (Kd.R_far (p := ⟨gb966, 1, none⟩) (Kd.R_far (p := ⟨gb966, 0, none⟩) (Kd.R_types HO956.out BK966.out (by decide)) (fun _ hk => hk.2) (.int .i64 t961)) (fun _ hk => hk.2) (.slice Ao46 t962.length co46)) (fun _ h_ => h_.1)))) hb); have n4_ := zA (Kd.R_below (uR ((Kd.R_mono (Kd.R_far (p := ⟨gb966, 1, none⟩) (Kd.R_far (p := ⟨gb966, 0, none⟩) (Kd.R_types HO960.out BK966.out (by decide)) (fun _ hk => hk.2) (.int .i64 t961)) (fun _ hk => hk.2) (.slice Ao46 t962.length co46)) (fun _ h_ => h_.1)))) hb); have n5_ := zA (Kd.R_below (uR ((Kd.R_mono (Kd.R_far (p := ⟨gb966, 1, none⟩) (Kd.R_far (p := ⟨gb966, 0, none⟩) (Kd.R_types HO964.out BK966.out (by decide)) (fun _ hk => hk.2) (.int .i64 t961)) (fun _ hk => hk.2) (.slice Ao46 t962.length co46)) (fun _ h_ => h_.1)))) hb); have n6_ := zA (blk_below (g := gb938) (o := .cells #[.int .i64 a0_0, .slice A0_1 l0_1.length c0_1] 24 (0, 0)) (by (with_reducible repeat (first | refine blk_drewN ?_ _ | refine blk_drew ?_ | refine blk_alloc ?_ _)); refine blk_far ?_ NB938_966.out _; (with_reducible repeat (first | refine blk_drewN ?_ _ | refine blk_drew ?_ | refine blk_alloc ?_ _)); refine blk_far ?_ NB938_966.out _; (with_reducible repeat (first | refine blk_drewN ?_ _ | refine blk_drew ?_ | refine blk_alloc ?_ _)); exact BK938.out) hb); have n7_ := zA (blk_below (g := gb952) (o := .cells #[.int .i64 t947, .slice Ao29 t948.length co29] 31 (0, 0)) (by (with_reducible repeat (first | refine blk_drewN ?_ _ | refine blk_drew ?_ | refine blk_alloc ?_ _)); refine blk_far ?_ NB952_966.out _; (with_reducible repeat (first | refine blk_drewN ?_ _ | refine blk_drew ?_ | refine blk_alloc ?_ _)); refine blk_far ?_ NB952_966.out _; (with_reducible repeat (first | refine blk_drewN ?_ _ | refine blk_drew ?_ | refine blk_alloc ?_ _)); exact BK952.out) hb); have n8_ := zA (blk_below (g := gb957) (o := .cells #[.int .i64 t953, .slice Ao36 t954.length co36] 31 (0, 0)) (by (with_reducible repeat (first | refine blk_drewN ?_ _ | refine blk_drew ?_ | refine blk_alloc ?_ _)); refine blk_far ?_ NB957_966.out _; (with_reducible repeat (first | refine blk_drewN ?_ _ | refine blk_drew ?_ | refine blk_alloc ?_ _)); refine blk_far ?_ NB957_966.out _; (with_reducible repeat (first | refine blk_drewN ?_ _ | refine blk_drew ?_ | refine blk_alloc ?_ _)); exact BK957.out) hb); have n9_ := zA (blk_below (g := gb966) (o := .cells #[.int .i64 t961, .slice Ao46 t962.length co46] 31 (0, 0)) (by (with_reducible repeat (first | refine blk_drewN ?_ _ | refine blk_drew ?_ | refine blk_alloc ?_ _)); refine blk_put (cs := #[.int .i64 t961, .slice none 0 0]) ?_ 1 _ rfl; (with_reducible repeat (first | refine blk_drewN ?_ _ | refine blk_drew ?_ | refine blk_alloc ?_ _)); refine blk_put (cs := #[.int .i64 0, .slice none 0 0]) ?_ 0 _ rfl; (with_reducible repeat (first | refine blk_drewN ?_ _ | refine blk_drew ?_ | refine blk_alloc ?_ _)); exact BK966.out) hb); have n10_ := xH HB hb; clear HO943 HO946 HO950 HO956 HO960 HO964 BK938 BK952 BK957 BK966 HB; have HO943 := n0_; have HO946 := n1_; have HO950 := n2_; have HO956 := n3_; have HO960 := n4_; have HO964 := n5_; have BK938 := n6_; have BK952 := n7_; have BK957 := n8_; have BK966 := n9_; have HB := n10_; clear n0_ n1_ n2_ n3_ n4_ n5_ n6_ n7_ n8_ n9_ n10_; (try clear hb); (try clear hb2); (try clear hk); (try clear hi)))
     go_meet
     case rel => exact ⟨_, ((t965 != t951)), (by first | rfl | (simp; done) | (simp [*]; done)), H', ⟨by first | omega | exact Nat.le_refl _⟩, ⟨uR (Kd.R_mono HO960.out (fun _ hk => ⟨hk.1.1.2, ⟨hk.1.2, hk.2⟩⟩))⟩, ⟨uR (Kd.R_mono HO950.out (fun _ hk => ⟨hk.1.2, ⟨hk.1.1.2, hk.2⟩⟩))⟩, ⟨uR (Kd.R_mono HO956.out (fun _ hk => ⟨hk.1.2, ⟨hk.1.1.2, hk.2⟩⟩))⟩, ⟨uR (Kd.R_mono HO964.out (fun _ hk => ⟨hk.2, ⟨hk.1.1.2, hk.1.2⟩⟩))⟩, ⟨uB BK938.out⟩, ⟨uB BK952.out⟩, ⟨uB BK957.out⟩, ⟨uB BK966.out⟩, ⟨uH HB.out⟩⟩
    ·replace c48 := Bool.eq_false_iff.mpr c48
     subst c48
     have H1 : (laws_FnExactProductMoments.j0 k l1 t951 t958 t965 true a0_0 l0_1 t947 t948 t953 t954 t961 t962) = some r := by rw [if_neg (show ¬ (false = true) by decide)] at H; exact H
     clear H
     have H := H1
     clear H1
     have H' := zA H
     clear H
     have hnb57 := NB966_938.out; have hnc57 := NB938_966.out; have hnb58 := NB966_952.out; have hnc58 := NB952_966.out; have hnb59 := NB966_957.out; have hnc59 := NB957_966.out
     have hcz60_0 : w41.cell? ⟨gb966, 0, none⟩ = some (.int .i64 0) := (blk_cell BK966.out 0).trans rfl
     have hcz60_1 : w41.cell? ⟨gb966, 1, none⟩ = some (.slice none 0 0) := (blk_cell BK966.out 1).trans rfl
     have hfz60_0 := blk_frozen BK966.out 0
     have hfz60_1 := blk_frozen BK966.out 1
     have hnb61 := NB952_938.out; have hnc61 := NB938_952.out; have hnb62 := NB952_957.out; have hnc62 := NB957_952.out
     have hcz63_0 : w41.cell? ⟨gb952, 0, none⟩ = some (.int .i64 t947) := (blk_cell BK952.out 0).trans rfl
     have hcz63_1 : w41.cell? ⟨gb952, 1, none⟩ = some (.slice Ao29 t948.length co29) := (blk_cell BK952.out 1).trans rfl
     have hfz63_0 := blk_frozen BK952.out 0
     have hfz63_1 := blk_frozen BK952.out 1
     go_wp2_with (first | ((with_reducible refine gate_callee (f := 22) rfl ?_); refine goesL_ (some 45) rfl rfl Try.func22 (by kernel_rfl) rfl #[.agg #[.int .i64 t961, .slice Ao46 t962.length co46], .agg #[.int .i64 t947, .slice Ao29 t948.length co29]] rfl (by (try simp only [la, lb, lc]); first | done | rfl | (simp only [ld, le]; rfl)) ?_; (with_reducible refine (laws_eqMoments.calls k t961 _ _ t962 t947 _ _ t948 false _ ?side1 ?side2 ?side3 ?side4 A47.out).mono ?_); (case side1 => refine (Kd.R_reads' (e := 2) (base := w.heap.size) (ok := fun k_ => (((((True ∧ some k_ ≠ (.slice Ao23 t941.length co23 : Value).ownBlock) ∧ some k_ ≠ (.slice Ao24 t944.length co24 : Value).ownBlock) ∧ some k_ ≠ (.slice Ao29 t948.length co29 : Value).ownBlock) ∧ some k_ ≠ (.slice Ao36 t954.length co36 : Value).ownBlock) ∧ some k_ ≠ (.slice Ao39 t958.length co39 : Value).ownBlock)) (n := t962.length) (c := co46) ?_).2.2; exact (uR ((Kd.R_mono (Kd.R_far (p := ⟨gb966, 1, none⟩) (Kd.R_far (p := ⟨gb966, 0, none⟩) (Kd.R_types HO964.out BK966.out (by decide)) (fun _ hk => hk.2) (.int .i64 t961)) (fun _ hk => hk.2) (.slice Ao46 t962.length co46)) (fun _ h_ => h_.1))))); (case side2 => exact (Kd.R_reads' HO964.out).2.1); (case side3 => refine (Kd.R_reads' (e := 2) (base := w.heap.size) (ok := fun k_ => (((((True ∧ some k_ ≠ (.slice Ao23 t941.length co23 : Value).ownBlock) ∧ some k_ ≠ (.slice Ao24 t944.length co24 : Value).ownBlock) ∧ some k_ ≠ (.slice Ao36 t954.length co36 : Value).ownBlock) ∧ some k_ ≠ (.slice Ao39 t958.length co39 : Value).ownBlock) ∧ some k_ ≠ (.slice Ao46 t962.length co46 : Value).ownBlock)) (n := t948.length) (c := co29) ?_).2.2; exact (uR ((Kd.R_mono (Kd.R_far (p := ⟨gb966, 1, none⟩) (Kd.R_far (p := ⟨gb966, 0, none⟩) (Kd.R_types HO950.out BK966.out (by decide)) (fun _ hk => hk.2) (.int .i64 t961)) (fun _ hk => hk.2) (.slice Ao46 t962.length co46)) (fun _ h_ => h_.1))))); (case side4 => exact (Kd.R_reads' HO950.out).2.1); rintro e w64 ⟨rfl, hb⟩; refine ⟨_, rfl, ?_⟩; have n0_ := zA (Kd.R_below (uR ((Kd.R_mono (Kd.R_far (p := ⟨gb966, 1, none⟩) (Kd.R_far (p := ⟨gb966, 0, none⟩) (Kd.R_types HO943.out BK966.out (by decide)) (fun _ hk => hk.2) (.int .i64 t961)) (fun _ hk => hk.2) (.slice Ao46 t962.length co46)) (fun _ h_ => h_.1)))) hb); have n1_ := zA (Kd.R_below (uR ((Kd.R_mono (Kd.R_far (p := ⟨gb966, 1, none⟩) (Kd.R_far (p := ⟨gb966, 0, none⟩) (Kd.R_types HO946.out BK966.out (by decide)) (fun _ hk => hk.2) (.int .i64 t961)) (fun _ hk => hk.2) (.slice Ao46 t962.length co46)) (fun _ h_ => h_.1)))) hb); have n2_ := zA (Kd.R_below (uR ((Kd.R_mono (Kd.R_far (p := ⟨gb966, 1, none⟩) (Kd.R_far (p := ⟨gb966, 0, none⟩) (Kd.R_types HO950.out BK966.out (by decide)) (fun _ hk => hk.2) (.int .i64 t961)) (fun _ hk => hk.2) (.slice Ao46 t962.length co46)) (fun _ h_ => h_.1)))) hb); have n3_ := zA (Kd.R_below (uR ((Kd.R_mono (Kd.R_far (p := ⟨gb966, 1, none⟩) (Kd.R_far (p := ⟨gb966, 0, none⟩) (Kd.R_types HO956.out BK966.out (by decide)) (fun _ hk => hk.2) (.int .i64 t961)) (fun _ hk => hk.2) (.slice Ao46 t962.length co46)) (fun _ h_ => h_.1)))) hb); have n4_ := zA (Kd.R_below (uR ((Kd.R_mono (Kd.R_far (p := ⟨gb966, 1, none⟩) (Kd.R_far (p := ⟨gb966, 0, none⟩) (Kd.R_types HO960.out BK966.out (by decide)) (fun _ hk => hk.2) (.int .i64 t961)) (fun _ hk => hk.2) (.slice Ao46 t962.length co46)) (fun _ h_ => h_.1)))) hb); have n5_ := zA (Kd.R_below (uR ((Kd.R_mono (Kd.R_far (p := ⟨gb966, 1, none⟩) (Kd.R_far (p := ⟨gb966, 0, none⟩) (Kd.R_types HO964.out BK966.out (by decide)) (fun _ hk => hk.2) (.int .i64 t961)) (fun _ hk => hk.2) (.slice Ao46 t962.length co46)) (fun _ h_ => h_.1)))) hb); have n6_ := zA (blk_below (g := gb938) (o := .cells #[.int .i64 a0_0, .slice A0_1 l0_1.length c0_1] 24 (0, 0)) (by (with_reducible repeat (first | refine blk_drewN ?_ _ | refine blk_drew ?_ | refine blk_alloc ?_ _)); refine blk_far ?_ NB938_966.out _; (with_reducible repeat (first | refine blk_drewN ?_ _ | refine blk_drew ?_ | refine blk_alloc ?_ _)); refine blk_far ?_ NB938_966.out _; (with_reducible repeat (first | refine blk_drewN ?_ _ | refine blk_drew ?_ | refine blk_alloc ?_ _)); exact BK938.out) hb); have n7_ := zA (blk_below (g := gb952) (o := .cells #[.int .i64 t947, .slice Ao29 t948.length co29] 31 (0, 0)) (by (with_reducible repeat (first | refine blk_drewN ?_ _ | refine blk_drew ?_ | refine blk_alloc ?_ _)); refine blk_far ?_ NB952_966.out _; (with_reducible repeat (first | refine blk_drewN ?_ _ | refine blk_drew ?_ | refine blk_alloc ?_ _)); refine blk_far ?_ NB952_966.out _; (with_reducible repeat (first | refine blk_drewN ?_ _ | refine blk_drew ?_ | refine blk_alloc ?_ _)); exact BK952.out) hb); have n8_ := zA (blk_below (g := gb957) (o := .cells #[.int .i64 t953, .slice Ao36 t954.length co36] 31 (0, 0)) (by (with_reducible repeat (first | refine blk_drewN ?_ _ | refine blk_drew ?_ | refine blk_alloc ?_ _)); refine blk_far ?_ NB957_966.out _; (with_reducible repeat (first | refine blk_drewN ?_ _ | refine blk_drew ?_ | refine blk_alloc ?_ _)); refine blk_far ?_ NB957_966.out _; (with_reducible repeat (first | refine blk_drewN ?_ _ | refine blk_drew ?_ | refine blk_alloc ?_ _)); exact BK957.out) hb); have n9_ := zA (blk_below (g := gb966) (o := .cells #[.int .i64 t961, .slice Ao46 t962.length co46] 31 (0, 0)) (by (with_reducible repeat (first | refine blk_drewN ?_ _ | refine blk_drew ?_ | refine blk_alloc ?_ _)); refine blk_put (cs := #[.int .i64 t961, .slice none 0 0]) ?_ 1 _ rfl; (with_reducible repeat (first | refine blk_drewN ?_ _ | refine blk_drew ?_ | refine blk_alloc ?_ _)); refine blk_put (cs := #[.int .i64 0, .slice none 0 0]) ?_ 0 _ rfl; (with_reducible repeat (first | refine blk_drewN ?_ _ | refine blk_drew ?_ | refine blk_alloc ?_ _)); exact BK966.out) hb); have n10_ := xH HB hb; clear HO943 HO946 HO950 HO956 HO960 HO964 BK938 BK952 BK957 BK966 HB; have HO943 := n0_; have HO946 := n1_; have HO950 := n2_; have HO956 := n3_; have HO960 := n4_; have HO964 := n5_; have BK938 := n6_; have BK952 := n7_; have BK957 := n8_; have BK966 := n9_; have HB := n10_; clear n0_ n1_ n2_ n3_ n4_ n5_ n6_ n7_ n8_ n9_ n10_; (try clear hb); (try clear hb2); (try clear hk); (try clear hi)))
     go_meet
     case rel => exact ⟨_, (true), (by first | rfl | (simp; done) | (simp [*]; done)), H', ⟨by first | omega | exact Nat.le_refl _⟩, ⟨uR (Kd.R_mono HO960.out (fun _ hk => ⟨hk.1.1.2, ⟨hk.1.2, hk.2⟩⟩))⟩, ⟨uR (Kd.R_mono HO950.out (fun _ hk => ⟨hk.1.2, ⟨hk.1.1.2, hk.2⟩⟩))⟩, ⟨uR (Kd.R_mono HO956.out (fun _ hk => ⟨hk.1.2, ⟨hk.1.1.2, hk.2⟩⟩))⟩, ⟨uR (Kd.R_mono HO964.out (fun _ hk => ⟨hk.2, ⟨hk.1.1.2, hk.1.2⟩⟩))⟩, ⟨uB BK938.out⟩, ⟨uB BK952.out⟩, ⟨uB BK957.out⟩, ⟨uB BK966.out⟩, ⟨uH HB.out⟩⟩
   case rest =>
    clear HC16
    try clear c1
    try clear c2
    try clear p2
    try clear c3
    try clear c3b0
    try clear c3b1
    try clear c4
    try clear c5
    try clear c6
    try clear c6b0
    try clear c8
    try clear c15
    try clear c18
    try clear c20
    try clear c22
    try clear c27
    try clear c33
    try clear c34
    try clear c38
    try clear c39
    try clear c42
    try clear c43
    try clear c44
    try clear c48
    try clear c49
    try clear c50
    try clear c51
    try clear c53
    try clear c54
    try clear c57
    try clear c58
    try clear c59
    try clear c61
    try clear c62
    try clear hcz18_0
    try clear hcz18_1
    try clear hcz20_0
    try clear hcz20_1
    try clear hcz28_0
    try clear hcz28_1
    try clear hcz30_0
    try clear hcz30_1
    try clear hcz35_0
    try clear hcz35_1
    try clear hcz38_0
    try clear hcz38_1
    try clear hcz45_0
    try clear hcz45_1
    try clear hcz52_0
    try clear hcz52_1
    try clear hcz55_0
    try clear hcz55_1
    try clear hcz60_0
    try clear hcz60_1
    try clear hcz63_0
    try clear hcz63_1
    try clear hcz8_0
    try clear hcz8_1
    try clear hfz18_0
    try clear hfz18_1
    try clear hfz20_0
    try clear hfz20_1
    try clear hfz28_0
    try clear hfz28_1
    try clear hfz30_0
    try clear hfz30_1
    try clear hfz35_0
    try clear hfz35_1
    try clear hfz38_0
    try clear hfz38_1
    try clear hfz45_0
    try clear hfz45_1
    try clear hfz52_0
    try clear hfz52_1
    try clear hfz55_0
    try clear hfz55_1
    try clear hfz60_0
    try clear hfz60_1
    try clear hfz63_0
    try clear hfz63_1
    try clear hfz8_0
    try clear hfz8_1
    obtain ⟨kq, x51_15, rfl, HA, HJ15, HO_9, HO_953001, HO_958001, HO_967001, BK938, BK952, BK957, BK966, HB⟩ := hcut
    cases kq with
    | zero => exact absurd HA.out (by simp [laws_FnExactProductMoments.j0])
    | succ kj15 =>
     have H := HA.out
     clear HA
     simp only [laws_FnExactProductMoments.j0] at H
     by_cases c65 : x51_15 = true
     ·subst c65
      have H1 : (some false) = some r := by rw [if_pos rfl] at H; exact H
      clear H
      have H := H1
      clear H1
      rw [HRT.out] at H
      exact absurd H (by simp)
     ·replace c65 := Bool.eq_false_iff.mpr c65
      subst c65
      have H1 : ((laws_toMoments.f kj15 a0_0 l0_1).bind fun bt968 => ((laws_eqMoments.f kj15 t953 t954 bt968.1 bt968.2).bind fun t972 => (if t972 = true then ((laws_toInt64S.f kj15 l1).bind fun t973 => ((laws_eqInt64S.f kj15 t958 t973).bind fun t976 => (if t976 = true then ((laws_markMoments.f kj15 t953 t954 1).bind fun bt977 => ((laws_markInt64S.f kj15 t958 bt977.1).bind fun bt979 => (if bt979.1 < 0 then (laws_FnExactProductMoments.j1 kj15 l1 t951 true a0_0 l0_1 t947 t948 t961 t962) else ((laws_eqMoments.f kj15 t961 t962 t947 t948).bind fun t981 => (if t981 = true then (laws_FnExactProductMoments.j1 kj15 l1 t951 (t965 != t951) a0_0 l0_1 t947 t948 t961 t962) else (laws_FnExactProductMoments.j1 kj15 l1 t951 true a0_0 l0_1 t947 t948 t961 t962)))))) else (some false)))) else (some false)))) = some r := by rw [if_neg (show ¬ (false = true) by decide)] at H; exact H
      clear H
      have H := H1
      clear H1
      replace H := Option.bind_eq_some_iff.mp H
      obtain ⟨⟨t968, t969⟩, A660, H⟩ := H
      replace H : ((laws_eqMoments.f kj15 t953 t954 t968 t969).bind fun t972 => (if t972 = true then ((laws_toInt64S.f kj15 l1).bind fun t973 => ((laws_eqInt64S.f kj15 t958 t973).bind fun t976 => (if t976 = true then ((laws_markMoments.f kj15 t953 t954 1).bind fun bt977 => ((laws_markInt64S.f kj15 t958 bt977.1).bind fun bt979 => (if bt979.1 < 0 then (laws_FnExactProductMoments.j1 kj15 l1 t951 true a0_0 l0_1 t947 t948 t961 t962) else ((laws_eqMoments.f kj15 t961 t962 t947 t948).bind fun t981 => (if t981 = true then (laws_FnExactProductMoments.j1 kj15 l1 t951 (t965 != t951) a0_0 l0_1 t947 t948 t961 t962) else (laws_FnExactProductMoments.j1 kj15 l1 t951 true a0_0 l0_1 t947 t948 t961 t962)))))) else (some false)))) else (some false))) = some r := H
      have A66 := zA A660
      clear A660
      replace H := Option.bind_eq_some_iff.mp H
      obtain ⟨t972, A670, H⟩ := H
      replace H : (if t972 = true then ((laws_toInt64S.f kj15 l1).bind fun t973 => ((laws_eqInt64S.f kj15 t958 t973).bind fun t976 => (if t976 = true then ((laws_markMoments.f kj15 t953 t954 1).bind fun bt977 => ((laws_markInt64S.f kj15 t958 bt977.1).bind fun bt979 => (if bt979.1 < 0 then (laws_FnExactProductMoments.j1 kj15 l1 t951 true a0_0 l0_1 t947 t948 t961 t962) else ((laws_eqMoments.f kj15 t961 t962 t947 t948).bind fun t981 => (if t981 = true then (laws_FnExactProductMoments.j1 kj15 l1 t951 (t965 != t951) a0_0 l0_1 t947 t948 t961 t962) else (laws_FnExactProductMoments.j1 kj15 l1 t951 true a0_0 l0_1 t947 t948 t961 t962)))))) else (some false)))) else (some false)) = some r := H
      have A67 := zA A670
      clear A670
      by_cases c68 : t972 = true
      ·subst c68
       have H1 : ((laws_toInt64S.f kj15 l1).bind fun t973 => ((laws_eqInt64S.f kj15 t958 t973).bind fun t976 => (if t976 = true then ((laws_markMoments.f kj15 t953 t954 1).bind fun bt977 => ((laws_markInt64S.f kj15 t958 bt977.1).bind fun bt979 => (if bt979.1 < 0 then (laws_FnExactProductMoments.j1 kj15 l1 t951 true a0_0 l0_1 t947 t948 t961 t962) else ((laws_eqMoments.f kj15 t961 t962 t947 t948).bind fun t981 => (if t981 = true then (laws_FnExactProductMoments.j1 kj15 l1 t951 (t965 != t951) a0_0 l0_1 t947 t948 t961 t962) else (laws_FnExactProductMoments.j1 kj15 l1 t951 true a0_0 l0_1 t947 t948 t961 t962)))))) else (some false)))) = some r := by rw [if_pos rfl] at H; exact H
       clear H
       have H := H1
       clear H1
       replace H := Option.bind_eq_some_iff.mp H
       obtain ⟨t973, A690, H⟩ := H
       replace H : ((laws_eqInt64S.f kj15 t958 t973).bind fun t976 => (if t976 = true then ((laws_markMoments.f kj15 t953 t954 1).bind fun bt977 => ((laws_markInt64S.f kj15 t958 bt977.1).bind fun bt979 => (if bt979.1 < 0 then (laws_FnExactProductMoments.j1 kj15 l1 t951 true a0_0 l0_1 t947 t948 t961 t962) else ((laws_eqMoments.f kj15 t961 t962 t947 t948).bind fun t981 => (if t981 = true then (laws_FnExactProductMoments.j1 kj15 l1 t951 (t965 != t951) a0_0 l0_1 t947 t948 t961 t962) else (laws_FnExactProductMoments.j1 kj15 l1 t951 true a0_0 l0_1 t947 t948 t961 t962)))))) else (some false))) = some r := H
       have A69 := zA A690
       clear A690
       replace H := Option.bind_eq_some_iff.mp H
       obtain ⟨t976, A700, H⟩ := H
       replace H : (if t976 = true then ((laws_markMoments.f kj15 t953 t954 1).bind fun bt977 => ((laws_markInt64S.f kj15 t958 bt977.1).bind fun bt979 => (if bt979.1 < 0 then (laws_FnExactProductMoments.j1 kj15 l1 t951 true a0_0 l0_1 t947 t948 t961 t962) else ((laws_eqMoments.f kj15 t961 t962 t947 t948).bind fun t981 => (if t981 = true then (laws_FnExactProductMoments.j1 kj15 l1 t951 (t965 != t951) a0_0 l0_1 t947 t948 t961 t962) else (laws_FnExactProductMoments.j1 kj15 l1 t951 true a0_0 l0_1 t947 t948 t961 t962)))))) else (some false)) = some r := H
       have A70 := zA A700
       clear A700
       by_cases c71 : t976 = true
       ·subst c71
        have H1 : ((laws_markMoments.f kj15 t953 t954 1).bind fun bt977 => ((laws_markInt64S.f kj15 t958 bt977.1).bind fun bt979 => (if bt979.1 < 0 then (laws_FnExactProductMoments.j1 kj15 l1 t951 true a0_0 l0_1 t947 t948 t961 t962) else ((laws_eqMoments.f kj15 t961 t962 t947 t948).bind fun t981 => (if t981 = true then (laws_FnExactProductMoments.j1 kj15 l1 t951 (t965 != t951) a0_0 l0_1 t947 t948 t961 t962) else (laws_FnExactProductMoments.j1 kj15 l1 t951 true a0_0 l0_1 t947 t948 t961 t962)))))) = some r := by rw [if_pos rfl] at H; exact H
        clear H
        have H := H1
        clear H1
        replace H := Option.bind_eq_some_iff.mp H
        obtain ⟨⟨t977, t978⟩, A720, H⟩ := H
        replace H : ((laws_markInt64S.f kj15 t958 t977).bind fun bt979 => (if bt979.1 < 0 then (laws_FnExactProductMoments.j1 kj15 l1 t951 true a0_0 l0_1 t947 t948 t961 t962) else ((laws_eqMoments.f kj15 t961 t962 t947 t948).bind fun t981 => (if t981 = true then (laws_FnExactProductMoments.j1 kj15 l1 t951 (t965 != t951) a0_0 l0_1 t947 t948 t961 t962) else (laws_FnExactProductMoments.j1 kj15 l1 t951 true a0_0 l0_1 t947 t948 t961 t962))))) = some r := H
        have A72 := zA A720
        clear A720
        replace H := Option.bind_eq_some_iff.mp H
        obtain ⟨⟨t979, t980⟩, A730, H⟩ := H
        replace H : (if t979 < 0 then (laws_FnExactProductMoments.j1 kj15 l1 t951 true a0_0 l0_1 t947 t948 t961 t962) else ((laws_eqMoments.f kj15 t961 t962 t947 t948).bind fun t981 => (if t981 = true then (laws_FnExactProductMoments.j1 kj15 l1 t951 (t965 != t951) a0_0 l0_1 t947 t948 t961 t962) else (laws_FnExactProductMoments.j1 kj15 l1 t951 true a0_0 l0_1 t947 t948 t961 t962)))) = some r := H
        have A73 := zA A730
        clear A730
        have HC74 := zA H
        clear H
        try go_wp2
        have n0_ := zA (Kd.R_drew HO_9.out)
        have n1_ := zA (Kd.R_drew HO_953001.out)
        have n2_ := zA (Kd.R_drew HO_958001.out)
        have n3_ := zA (Kd.R_drew HO_967001.out)
        have n4_ := zA (blk_drew BK938.out)
        have n5_ := zA (blk_drew BK952.out)
        have n6_ := zA (blk_drew BK957.out)
        have n7_ := zA (blk_drew BK966.out)
        have n8_ := zA (below_drew1 HB.out)
        clear HO_9 HO_953001 HO_958001 HO_967001 BK938 BK952 BK957 BK966 HB
        have HO_9 := n0_; have HO_953001 := n1_; have HO_958001 := n2_; have HO_967001 := n3_; have BK938 := n4_; have BK952 := n5_; have BK957 := n6_; have BK966 := n7_; have HB := n8_
        clear n0_ n1_ n2_ n3_ n4_ n5_ n6_ n7_ n8_
        refine start_ (n := 5) (S := fun w' => w'.cell? ⟨gb957, 0, none⟩ = some (.int .i64 t953) ∧ w'.cell? ⟨gb957, 1, none⟩ = some (.slice Ao36 t954.length co36) ∧ w'.cell? ⟨gb938, 0, none⟩ = some (.int .i64 a0_0) ∧ w'.cell? ⟨gb938, 1, none⟩ = some (.slice A0_1 l0_1.length c0_1)) (ds := []) #[false, false, false, false, false] (by kernel_rfl) rfl rfl ⟨(blk_cell BK957.out 0).trans rfl, (blk_cell BK957.out 1).trans rfl, (blk_cell BK938.out 0).trans rfl, (blk_cell BK938.out 1).trans rfl⟩ (fun hHeld => ?_)
        generalize wc.drew = w75 at HO_9 HO_953001 HO_958001 HO_967001 BK938 BK952 BK957 BK966 HB hHeld ⊢
        refine take_ (i := 0) (N := some 52) (v := ?_) (a' := ?_) #[true, false, false, false, false] rfl rfl (by kernel_rfl) (fun _ _ _ h => h) (Or.inl ⟨by rfl, ?_⟩) hHeld ?_ ?_
        rotate_left
        ·rintro w' ⟨s0, s1, s2, s3⟩
         go_simp
         with_reducible rfl
        rotate_left
        ·simp only [Act.put, ls, lz, ln, i64_w, i32_w]
         rfl
        refine take_ (i := 1) (N := some 53) (v := ?_) (a' := ?_) #[true, true, false, false, false] rfl rfl (by kernel_rfl) (fun _ _ _ h => h) (Or.inl ⟨by rfl, ?_⟩) hHeld ?_ ?_
        rotate_left
        ·rintro w' ⟨s0, s1, s2, s3⟩
         go_simp
         with_reducible rfl
        rotate_left
        ·simp only [Act.put, ls, lz, ln, i64_w, i32_w]
         rfl
        refine one_ (i := 2) (N := some 54) #[true, true, true, false, false] rfl rfl (by kernel_rfl) (by decide) (fun K hK => ?_)
        refine goes_ Try.func18 (by kernel_rfl) rfl #[.agg #[.int .i64 a0_0, .slice A0_1 l0_1.length c0_1]] (by rfl) rfl rfl (by (try simp only [la, lb, lc]); first | done | rfl | (simp only [ld, le]; rfl)) ?_
        with_reducible refine (laws_toMoments.calls kj15 a0_0 _ _ l0_1 t968 t969 _ ?side1 ?side2 A66.out).mono ?_
        (case side1 => exact uC ((Kd.C_below HR0_1.out HB.out)))
        (case side2 => exact HC0_1.out)
        rintro e w76 ⟨v970, rfl, ho0, hb⟩
        refine ⟨_, rfl, ?_⟩
        have n0_ := zA (Kd.R_elder' (uR HO_9.out) (Kd.R_base ho0) hb)
        have n1_ := zA (Kd.R_elder' (uR HO_953001.out) (Kd.R_base ho0) hb)
        have n2_ := zA (Kd.R_elder' (uR HO_958001.out) (Kd.R_base ho0) hb)
        have n3_ := zA (Kd.R_elder' (uR HO_967001.out) (Kd.R_base ho0) hb)
        have n4_ := zA (Kd.R_lower (Kd.R_new' (Kd.R_new' (Kd.R_new' (Kd.R_new' ho0 (Kd.R_lt (uR HO_9.out))) (Kd.R_lt (uR HO_953001.out))) (Kd.R_lt (uR HO_958001.out))) (Kd.R_lt (uR HO_967001.out))) (below_size (uH HB.out)))
        have n5_ := xB BK938 hb
        have n6_ := xB BK952 hb
        have n7_ := xB BK957 hb
        have n8_ := xB BK966 hb
        have n9_ := xH HB hb
        clear HO_9 HO_953001 HO_958001 HO_967001 BK938 BK952 BK957 BK966 HB
        have HO_9 := n0_; have HO_953001 := n1_; have HO_958001 := n2_; have HO_967001 := n3_; have HO971 := n4_; have BK938 := n5_; have BK952 := n6_; have BK957 := n7_; have BK966 := n8_; have HB := n9_
        clear n0_ n1_ n2_ n3_ n4_ n5_ n6_ n7_ n8_ n9_
        (try clear hb); (try clear hb2); (try clear hk); (try clear hi); (try clear ho0)
        obtain ⟨Ao77, co77, eo77⟩ := Kd.R_slice HO971.out
        (first | subst eo77 | (injection eo77 with f1_ f2_ f3_; have f4_ := f1_.symm; have f5_ := f3_.symm; clear f1_ f2_ f3_; subst f4_; subst f5_))
        refine hK.out _ _ ⟨(blk_cell BK957.out 0).trans rfl, (blk_cell BK957.out 1).trans rfl, (blk_cell BK938.out 0).trans rfl, (blk_cell BK938.out 1).trans rfl⟩ (fun hHeld => ?_)
        clear hK K
        refine norm_ (a' := ?_) ?_ ?_
        rotate_left
        ·show Act.put _ (some 54) _ = _
         simp only [Act.put, ls, lz, ln, i64_w, i32_w]
         rfl
        refine one_ (i := 3) (N := some 55) #[true, true, true, true, false] rfl rfl (by kernel_rfl) (by decide) (fun K hK => ?_)
        refine goes_ Try.func22 (by kernel_rfl) rfl #[.agg #[.int .i64 t953, .slice Ao36 t954.length co36], .agg #[.int .i64 t968, .slice Ao77 t969.length co77]] (by rfl) rfl rfl (by (try simp only [la, lb, lc]); first | done | rfl | (simp only [ld, le]; rfl)) ?_
        with_reducible refine (laws_eqMoments.calls kj15 t953 _ _ t954 t968 _ _ t969 true _ ?side1 ?side2 ?side3 ?side4 A67.out).mono ?_
        (case side1 => exact uC ((Kd.R_reads' HO_958001.out).2.2))
        (case side2 => exact (Kd.R_reads' HO_958001.out).2.1)
        (case side3 => exact uC ((Kd.R_reads' HO971.out).2.2))
        (case side4 => exact (Kd.R_reads' HO971.out).2.1)
        rintro e w78 ⟨rfl, hb⟩
        refine ⟨_, rfl, ?_⟩
        have n0_ := xR HO_9 hb
        have n1_ := xR HO_953001 hb
        have n2_ := xR HO_958001 hb
        have n3_ := xR HO_967001 hb
        have n4_ := xR HO971 hb
        have n5_ := xB BK938 hb
        have n6_ := xB BK952 hb
        have n7_ := xB BK957 hb
        have n8_ := xB BK966 hb
        have n9_ := xH HB hb
        clear HO_9 HO_953001 HO_958001 HO_967001 HO971 BK938 BK952 BK957 BK966 HB
        have HO_9 := n0_; have HO_953001 := n1_; have HO_958001 := n2_; have HO_967001 := n3_; have HO971 := n4_; have BK938 := n5_; have BK952 := n6_; have BK957 := n7_; have BK966 := n8_; have HB := n9_
        clear n0_ n1_ n2_ n3_ n4_ n5_ n6_ n7_ n8_ n9_
        (try clear hb); (try clear hb2); (try clear hk); (try clear hi)
        refine hK.out _ _ ⟨(blk_cell BK957.out 0).trans rfl, (blk_cell BK957.out 1).trans rfl, (blk_cell BK938.out 0).trans rfl, (blk_cell BK938.out 1).trans rfl⟩ (fun hHeld => ?_)
        clear hK K
        refine norm_ (a' := ?_) ?_ ?_
        rotate_left
        ·show Act.put _ (some 55) _ = _
         simp only [Act.put, ls, lz, ln, i64_w, i32_w]
         rfl
        refine pure_ (i := 4) (N := some 56) (v := ?_) (a' := ?_) #[true, true, true, true, true] rfl rfl (by kernel_rfl) (fun _ _ _ h => h) (Or.inl ⟨by rfl, ?_⟩) ?_ ?_
        rotate_left
        ·intro w'
         go_simp
         with_reducible rfl
        rotate_left
        ·simp only [Act.put, ls, lz, ln, i64_w, i32_w]
         rfl
        refine done_ (by kernel_rfl) ?_
        go_upto_region 20 with (first | ((with_reducible refine gate_callee (f := 20) rfl ?_); refine goesL_ (some 59) rfl rfl Try.func20 (by kernel_rfl) rfl #[.slice A1 l1.length c1] rfl (by (try simp only [la, lb, lc]); first | done | rfl | (simp only [ld, le]; rfl)) ?_; (with_reducible refine (laws_toInt64S.calls kj15 _ _ l1 t973 _ ?side1 ?side2 A69.out).mono ?_); (case side1 => exact uC ((Kd.C_below HR1.out HB.out))); (case side2 => exact HC1.out); rintro e w79 ⟨v974, rfl, ho0, hb⟩; refine ⟨_, rfl, ?_⟩; have n0_ := zA (Kd.R_elder' (uR HO_9.out) (Kd.R_base ho0) hb); have n1_ := zA (Kd.R_elder' (uR HO_953001.out) (Kd.R_base ho0) hb); have n2_ := zA (Kd.R_elder' (uR HO_958001.out) (Kd.R_base ho0) hb); have n3_ := zA (Kd.R_elder' (uR HO_967001.out) (Kd.R_base ho0) hb); have n4_ := zA (Kd.R_elder' (uR HO971.out) (Kd.R_base ho0) hb); have n5_ := zA (Kd.R_lower (Kd.R_new' (Kd.R_new' (Kd.R_new' (Kd.R_new' (Kd.R_new' ho0 (Kd.R_lt (uR HO_9.out))) (Kd.R_lt (uR HO_953001.out))) (Kd.R_lt (uR HO_958001.out))) (Kd.R_lt (uR HO_967001.out))) (Kd.R_lt (uR HO971.out))) (below_size (uH HB.out))); have n6_ := xB BK938 hb; have n7_ := xB BK952 hb; have n8_ := xB BK957 hb; have n9_ := xB BK966 hb; have n10_ := xH HB hb; clear HO_9 HO_953001 HO_958001 HO_967001 HO971 BK938 BK952 BK957 BK966 HB; have HO_9 := n0_; have HO_953001 := n1_; have HO_958001 := n2_; have HO_967001 := n3_; have HO971 := n4_; have HO975 := n5_; have BK938 := n6_; have BK952 := n7_; have BK957 := n8_; have BK966 := n9_; have HB := n10_; clear n0_ n1_ n2_ n3_ n4_ n5_ n6_ n7_ n8_ n9_ n10_; (try clear hb); (try clear hb2); (try clear hk); (try clear hi); (try clear ho0); obtain ⟨Ao80, co80, eo80⟩ := Kd.R_slice HO975.out; subst eo80) | ((with_reducible refine gate_callee (f := 24) rfl ?_); refine goesL_ (some 60) rfl rfl Try.func24 (by kernel_rfl) rfl #[.slice Ao39 t958.length co39, .slice Ao80 t973.length co80] rfl (by (try simp only [la, lb, lc]); first | done | rfl | (simp only [ld, le]; rfl)) ?_; (with_reducible refine (laws_eqInt64S.calls kj15 _ _ t958 _ _ t973 true _ ?side1 ?side2 ?side3 ?side4 A70.out).mono ?_); (case side1 => exact uC ((Kd.R_reads' HO_9.out).2.2)); (case side2 => exact (Kd.R_reads' HO_9.out).2.1); (case side3 => exact uC ((Kd.R_reads' HO975.out).2.2)); (case side4 => exact (Kd.R_reads' HO975.out).2.1); rintro e w' ⟨rfl, ⟨nd, rfl⟩⟩; refine ⟨_, rfl, ?_⟩; have hnb81 := NB957_938.out; have hnc81 := NB938_957.out; have hnb82 := NB957_952.out; have hnc82 := NB952_957.out; have hnb83 := NB957_966.out; have hnc83 := NB966_957.out; have hcz84_0 : w79.cell? ⟨gb957, 0, none⟩ = some (.int .i64 t953) := (blk_cell BK957.out 0).trans rfl; have hcz84_1 : w79.cell? ⟨gb957, 1, none⟩ = some (.slice Ao36 t954.length co36) := (blk_cell BK957.out 1).trans rfl; have hfz84_0 := blk_frozen BK957.out 0; have hfz84_1 := blk_frozen BK957.out 1) | ((with_reducible refine gate_callee (f := 40) rfl ?_); refine goesL_ (some 64) rfl rfl Try.func40 (by kernel_rfl) rfl #[.agg #[.int .i64 t953, .slice Ao36 t954.length co36], .int .i64 1] rfl (by (try simp only [la, lb, lc]); first | done | rfl | (simp only [ld, le]; rfl)) ?_; (with_reducible refine (laws_markMoments.calls kj15 t953 (fun k_ => some k_ = (.slice Ao36 t954.length co36 : Value).ownBlock) (.slice Ao36 t954.length co36) t954 1 t977 t978 w _ ?side1 ?side2 A72.out).mono ?_); (case side1 => repeat (first | (with_reducible first | exact HB.out | apply below_alloc | apply pw_below_drewN | apply below_drew1 | refine below_set ?_ GE938.out | refine below_set ?_ GE952.out | refine below_set ?_ GE957.out | refine below_set ?_ GE966.out) | exact HB.out)); (case side2 => exact Kd.R_tight rfl HO_958001.out); rintro e w85 ⟨rfl, hy0, hb, hkp⟩; refine ⟨_, rfl, ?_⟩; have n0_ := zA (Kd.R_mono (ok' := fun k_ => some k_ ≠ (.slice Ao29 t948.length co29 : Value).ownBlock ∧ some k_ ≠ (.slice Ao36 t954.length co36 : Value).ownBlock ∧ some k_ ≠ (.slice Ao46 t962.length co46 : Value).ownBlock ∧ some k_ ≠ (.slice Ao77 t969.length co77 : Value).ownBlock ∧ some k_ ≠ (.slice Ao80 t973.length co80 : Value).ownBlock) (Kd.R_keptB (HO_9.out) hkp (fun k_ hk_ hs_ => (hk_.1.1.2.1) hs_)) (fun k_ hk_ => ⟨hk_.1.1.1.1, hk_.1.1.1.2.1, hk_.1.1.1.2.2, hk_.1.1.2, hk_.1.2⟩)); have n1_ := zA (Kd.R_mono (ok' := fun k_ => some k_ ≠ (.slice Ao39 t958.length co39 : Value).ownBlock ∧ some k_ ≠ (.slice Ao36 t954.length co36 : Value).ownBlock ∧ some k_ ≠ (.slice Ao46 t962.length co46 : Value).ownBlock ∧ some k_ ≠ (.slice Ao77 t969.length co77 : Value).ownBlock ∧ some k_ ≠ (.slice Ao80 t973.length co80 : Value).ownBlock) (Kd.R_keptB (HO_953001.out) hkp (fun k_ hk_ hs_ => (hk_.1.1.2.1) hs_)) (fun k_ hk_ => ⟨hk_.1.1.1.1, hk_.1.1.1.2.1, hk_.1.1.1.2.2, hk_.1.1.2, hk_.1.2⟩)); have n2_ := zA (Kd.R_reok rfl hy0 (fun k_ e_ => HO_958001.out.1 k_ e_)); have n3_ := zA (Kd.R_mono (ok' := fun k_ => some k_ ≠ (.slice Ao39 t958.length co39 : Value).ownBlock ∧ some k_ ≠ (.slice Ao29 t948.length co29 : Value).ownBlock ∧ some k_ ≠ (.slice Ao36 t954.length co36 : Value).ownBlock ∧ some k_ ≠ (.slice Ao77 t969.length co77 : Value).ownBlock ∧ some k_ ≠ (.slice Ao80 t973.length co80 : Value).ownBlock) (Kd.R_keptB (HO_967001.out) hkp (fun k_ hk_ hs_ => (hk_.1.1.2.2) hs_)) (fun k_ hk_ => ⟨hk_.1.1.1.1, hk_.1.1.1.2.1, hk_.1.1.1.2.2, hk_.1.1.2, hk_.1.2⟩)); have n4_ := zA (blk_kept (uB BK938.out) hkp (fun hs_ => (fun e_ => (Kd.R_ne HO_958001.out BK938.out (by decide)) e_) hs_)); have n5_ := zA (blk_kept (uB BK952.out) hkp (fun hs_ => (fun e_ => (Kd.R_ne HO_958001.out BK952.out (by decide)) e_) hs_)); have n6_ := zA (blk_kept (uB BK957.out) hkp (fun hs_ => (fun e_ => (Kd.R_ne HO_958001.out BK957.out (by decide)) e_) hs_)); have n7_ := zA (blk_kept (uB BK966.out) hkp (fun hs_ => (fun e_ => (Kd.R_ne HO_958001.out BK966.out (by decide)) e_) hs_)); have n8_ := zA (Kd.R_mono (ok' := fun k_ => some k_ ≠ (.slice Ao39 t958.length co39 : Value).ownBlock ∧ some k_ ≠ (.slice Ao29 t948.length co29 : Value).ownBlock ∧ some k_ ≠ (.slice Ao36 t954.length co36 : Value).ownBlock ∧ some k_ ≠ (.slice Ao46 t962.length co46 : Value).ownBlock ∧ some k_ ≠ (.slice Ao80 t973.length co80 : Value).ownBlock) (Kd.R_keptB (HO971.out) hkp (fun k_ hk_ hs_ => (hk_.1.1.2) hs_)) (fun k_ hk_ => ⟨hk_.1.1.1.1.1.2, hk_.1.1.1.1.2, hk_.1.1.1.2, hk_.1.1.2, hk_.1.2⟩)); have n9_ := zA (Kd.R_mono (ok' := fun k_ => some k_ ≠ (.slice Ao39 t958.length co39 : Value).ownBlock ∧ some k_ ≠ (.slice Ao29 t948.length co29 : Value).ownBlock ∧ some k_ ≠ (.slice Ao36 t954.length co36 : Value).ownBlock ∧ some k_ ≠ (.slice Ao46 t962.length co46 : Value).ownBlock ∧ some k_ ≠ (.slice Ao77 t969.length co77 : Value).ownBlock) (Kd.R_keptB (HO975.out) hkp (fun k_ hk_ hs_ => (hk_.1.1.2) hs_)) (fun k_ hk_ => ⟨hk_.1.1.1.1.1.2, hk_.1.1.1.1.2, hk_.1.1.1.2, hk_.1.1.2, hk_.1.2⟩)); have n10_ := zA (hb); clear HO_9 HO_953001 HO_958001 HO_967001 BK938 BK952 BK957 BK966 HO971 HO975 HB; have HO_9 := n0_; have HO_953001 := n1_; have HO_958001 := n2_; have HO_967001 := n3_; have BK938 := n4_; have BK952 := n5_; have BK957 := n6_; have BK966 := n7_; have HO971 := n8_; have HO975 := n9_; have HB := n10_; clear n0_ n1_ n2_ n3_ n4_ n5_ n6_ n7_ n8_ n9_ n10_; (try clear hb); (try clear hkp); (try clear hy0)) | ((with_reducible refine gate_callee (f := 41) rfl ?_); refine goesL_ (some 67) rfl rfl Try.func41 (by kernel_rfl) rfl #[.slice Ao39 t958.length co39, .int .i64 t977] rfl (by (try simp only [la, lb, lc]); first | done | rfl | (simp only [ld, le]; rfl)) ?_; (with_reducible refine (laws_markInt64S.calls kj15 (fun k_ => some k_ = (.slice Ao39 t958.length co39 : Value).ownBlock) (.slice Ao39 t958.length co39) t958 t977 t979 t980 w _ ?side1 ?side2 A73.out).mono ?_); (case side1 => repeat (first | (with_reducible first | exact HB.out | apply below_alloc | apply pw_below_drewN | apply below_drew1 | refine below_set ?_ GE938.out | refine below_set ?_ GE952.out | refine below_set ?_ GE957.out | refine below_set ?_ GE966.out) | exact HB.out)); (case side2 => exact Kd.R_tight rfl HO_9.out); rintro e w86 ⟨rfl, hy0, hb, hkp⟩; refine ⟨_, rfl, ?_⟩; have n0_ := zA (Kd.R_reok rfl hy0 (fun k_ e_ => HO_9.out.1 k_ e_)); have n1_ := zA (Kd.R_mono (ok' := fun k_ => some k_ ≠ (.slice Ao39 t958.length co39 : Value).ownBlock ∧ some k_ ≠ (.slice Ao36 t954.length co36 : Value).ownBlock ∧ some k_ ≠ (.slice Ao46 t962.length co46 : Value).ownBlock ∧ some k_ ≠ (.slice Ao77 t969.length co77 : Value).ownBlock ∧ some k_ ≠ (.slice Ao80 t973.length co80 : Value).ownBlock) (Kd.R_keptB (HO_953001.out) hkp (fun k_ hk_ hs_ => (hk_.1) hs_)) (fun k_ hk_ => ⟨hk_.1.1, hk_.1.2.1, hk_.1.2.2.1, hk_.1.2.2.2.1, hk_.1.2.2.2.2⟩)); have n2_ := zA (Kd.R_mono (ok' := fun k_ => some k_ ≠ (.slice Ao39 t958.length co39 : Value).ownBlock ∧ some k_ ≠ (.slice Ao29 t948.length co29 : Value).ownBlock ∧ some k_ ≠ (.slice Ao46 t962.length co46 : Value).ownBlock ∧ some k_ ≠ (.slice Ao77 t969.length co77 : Value).ownBlock ∧ some k_ ≠ (.slice Ao80 t973.length co80 : Value).ownBlock) (Kd.R_keptB (HO_958001.out) hkp (fun k_ hk_ hs_ => (hk_.1.1.1) hs_)) (fun k_ hk_ => ⟨hk_.1.1.1.1, hk_.1.1.1.2.1, hk_.1.1.1.2.2, hk_.1.1.2, hk_.1.2⟩)); have n3_ := zA (Kd.R_mono (ok' := fun k_ => some k_ ≠ (.slice Ao39 t958.length co39 : Value).ownBlock ∧ some k_ ≠ (.slice Ao29 t948.length co29 : Value).ownBlock ∧ some k_ ≠ (.slice Ao36 t954.length co36 : Value).ownBlock ∧ some k_ ≠ (.slice Ao77 t969.length co77 : Value).ownBlock ∧ some k_ ≠ (.slice Ao80 t973.length co80 : Value).ownBlock) (Kd.R_keptB (HO_967001.out) hkp (fun k_ hk_ hs_ => (hk_.1) hs_)) (fun k_ hk_ => ⟨hk_.1.1, hk_.1.2.1, hk_.1.2.2.1, hk_.1.2.2.2.1, hk_.1.2.2.2.2⟩)); have n4_ := zA (blk_kept (uB BK938.out) hkp (fun hs_ => (fun e_ => (Kd.R_ne HO_9.out BK938.out (by decide)) e_) hs_)); have n5_ := zA (blk_kept (uB BK952.out) hkp (fun hs_ => (fun e_ => (Kd.R_ne HO_9.out BK952.out (by decide)) e_) hs_)); have n6_ := zA (blk_kept (uB BK957.out) hkp (fun hs_ => (fun e_ => (Kd.R_ne HO_9.out BK957.out (by decide)) e_) hs_)); have n7_ := zA (blk_kept (uB BK966.out) hkp (fun hs_ => (fun e_ => (Kd.R_ne HO_9.out BK966.out (by decide)) e_) hs_)); have n8_ := zA (Kd.R_mono (ok' := fun k_ => some k_ ≠ (.slice Ao39 t958.length co39 : Value).ownBlock ∧ some k_ ≠ (.slice Ao29 t948.length co29 : Value).ownBlock ∧ some k_ ≠ (.slice Ao36 t954.length co36 : Value).ownBlock ∧ some k_ ≠ (.slice Ao46 t962.length co46 : Value).ownBlock ∧ some k_ ≠ (.slice Ao80 t973.length co80 : Value).ownBlock) (Kd.R_keptB (HO971.out) hkp (fun k_ hk_ hs_ => (hk_.1) hs_)) (fun k_ hk_ => ⟨hk_.1.1, hk_.1.2.1, hk_.1.2.2.1, hk_.1.2.2.2.1, hk_.1.2.2.2.2⟩)); have n9_ := zA (Kd.R_mono (ok' := fun k_ => some k_ ≠ (.slice Ao39 t958.length co39 : Value).ownBlock ∧ some k_ ≠ (.slice Ao29 t948.length co29 : Value).ownBlock ∧ some k_ ≠ (.slice Ao36 t954.length co36 : Value).ownBlock ∧ some k_ ≠ (.slice Ao46 t962.length co46 : Value).ownBlock ∧ some k_ ≠ (.slice Ao77 t969.length co77 : Value).ownBlock) (Kd.R_keptB (HO975.out) hkp (fun k_ hk_ hs_ => (hk_.1) hs_)) (fun k_ hk_ => ⟨hk_.1.1, hk_.1.2.1, hk_.1.2.2.1, hk_.1.2.2.2.1, hk_.1.2.2.2.2⟩)); have n10_ := zA (hb); clear HO_9 HO_953001 HO_958001 HO_967001 BK938 BK952 BK957 BK966 HO971 HO975 HB; have HO_9 := n0_; have HO_953001 := n1_; have HO_958001 := n2_; have HO_967001 := n3_; have BK938 := n4_; have BK952 := n5_; have BK957 := n6_; have BK966 := n7_; have HO971 := n8_; have HO975 := n9_; have HB := n10_; clear n0_ n1_ n2_ n3_ n4_ n5_ n6_ n7_ n8_ n9_ n10_; (try clear hb); (try clear hkp); (try clear hy0)))
        (try simp only [Act.put, ls, lz, ln])
        go_cut [80] (fun v80 wc => ∃ (kq : Nat) (x80_73 : Bool), v80 = .bool x80_73 ∧ Aside0 (laws_FnExactProductMoments.j1 kq l1 t951 x80_73 a0_0 l0_1 t947 t948 t961 t962 = some r) ∧ Aside0 (kq ≤ kj15) ∧ Aside0 (Kd.R (Kd.int .i64) 2 wc w.heap.size (fun k_ => some k_ ≠ ((.slice Ao36 t954.length co36) : Value).ownBlock ∧ some k_ ≠ ((.slice Ao46 t962.length co46) : Value).ownBlock) (.slice Ao29 t948.length co29) t948) ∧ Aside0 (Kd.R (Kd.int .i64) 2 wc w.heap.size (fun k_ => some k_ ≠ ((.slice Ao29 t948.length co29) : Value).ownBlock ∧ some k_ ≠ ((.slice Ao46 t962.length co46) : Value).ownBlock) (.slice Ao36 t954.length co36) t978) ∧ Aside0 (Kd.R (Kd.int .i64) 2 wc w.heap.size (fun k_ => some k_ ≠ ((.slice Ao29 t948.length co29) : Value).ownBlock ∧ some k_ ≠ ((.slice Ao36 t954.length co36) : Value).ownBlock) (.slice Ao46 t962.length co46) t962) ∧ Aside0 (wc.heap[gb938]? = some (.cells #[.int .i64 a0_0, (.slice A0_1 l0_1.length c0_1)] 24 (0, 0))) ∧ Aside0 (wc.heap[gb952]? = some (.cells #[.int .i64 t947, (.slice Ao29 t948.length co29)] 31 (0, 0))) ∧ Aside0 (wc.heap[gb957]? = some (.cells #[.int .i64 t953, (.slice Ao36 t954.length co36)] 31 (0, 0))) ∧ Aside0 (wc.heap[gb966]? = some (.cells #[.int .i64 t961, (.slice Ao46 t962.length co46)] 31 (0, 0))) ∧ Aside0 (Below w.heap.size w wc))
        case first =>
         have H := HC74.out
         clear HC74
         by_cases c87 : t979 < 0
         ·rw [if_pos c87] at H
          have c87b0 : decide (t979 < 0) = true := decide_eq_true c87
          clear c87
          (first | rw [c87b0] | (simp only [i64_w, i32_w]; rw [c87b0]) | skip)
          have H' := zA H
          clear H
          go_wp2
          go_meet
          case rel => exact ⟨_, (true), (by first | rfl | (simp; done) | (simp [*]; done)), H', ⟨by have := HJ15.out; first | omega | exact Nat.le_refl _⟩, ⟨uR (Kd.R_mono HO_953001.out (fun _ hk => ⟨hk.2.1, hk.2.2.1⟩))⟩, ⟨uR (Kd.R_mono HO_958001.out (fun _ hk => ⟨hk.2.1, hk.2.2.1⟩))⟩, ⟨uR (Kd.R_mono HO_967001.out (fun _ hk => ⟨hk.2.1, hk.2.2.1⟩))⟩, ⟨uB BK938.out⟩, ⟨uB BK952.out⟩, ⟨uB BK957.out⟩, ⟨uB BK966.out⟩, ⟨uH HB.out⟩⟩
         ·rw [if_neg c87] at H
          have c87b0 : decide (t979 < 0) = false := decide_eq_false c87
          clear c87
          (first | rw [c87b0] | (simp only [i64_w, i32_w]; rw [c87b0]) | skip)
          replace H := Option.bind_eq_some_iff.mp H
          obtain ⟨t981, A880, H⟩ := H
          replace H : (if t981 = true then (laws_FnExactProductMoments.j1 kj15 l1 t951 (t965 != t951) a0_0 l0_1 t947 t948 t961 t962) else (laws_FnExactProductMoments.j1 kj15 l1 t951 true a0_0 l0_1 t947 t948 t961 t962)) = some r := H
          have A88 := zA A880
          clear A880
          by_cases c89 : t981 = true
          ·subst c89
           have H1 : (laws_FnExactProductMoments.j1 kj15 l1 t951 (t965 != t951) a0_0 l0_1 t947 t948 t961 t962) = some r := by rw [if_pos rfl] at H; exact H
           clear H
           have H := H1
           clear H1
           have H' := zA H
           clear H
           have hnb90 := NB966_938.out; have hnc90 := NB938_966.out; have hnb91 := NB966_952.out; have hnc91 := NB952_966.out; have hnb92 := NB966_957.out; have hnc92 := NB957_966.out
           have hcz93_0 : w86.cell? ⟨gb966, 0, none⟩ = some (.int .i64 t961) := (blk_cell BK966.out 0).trans rfl
           have hcz93_1 : w86.cell? ⟨gb966, 1, none⟩ = some (.slice Ao46 t962.length co46) := (blk_cell BK966.out 1).trans rfl
           have hfz93_0 := blk_frozen BK966.out 0
           have hfz93_1 := blk_frozen BK966.out 1
           have hnb94 := NB952_938.out; have hnc94 := NB938_952.out; have hnb95 := NB952_957.out; have hnc95 := NB957_952.out
           have hcz96_0 : w86.cell? ⟨gb952, 0, none⟩ = some (.int .i64 t947) := (blk_cell BK952.out 0).trans rfl
           have hcz96_1 : w86.cell? ⟨gb952, 1, none⟩ = some (.slice Ao29 t948.length co29) := (blk_cell BK952.out 1).trans rfl
           have hfz96_0 := blk_frozen BK952.out 0
           have hfz96_1 := blk_frozen BK952.out 1
           go_wp2_with (first | (go_at_call 22; (with_reducible refine (laws_eqMoments.calls kj15 t961 _ _ t962 t947 _ _ t948 true _ ?side1 ?side2 ?side3 ?side4 A88.out).mono ?_); (case side1 => exact uC ((Kd.R_reads' HO_967001.out).2.2)); (case side2 => exact (Kd.R_reads' HO_967001.out).2.1); (case side3 => exact uC ((Kd.R_reads' HO_953001.out).2.2)); (case side4 => exact (Kd.R_reads' HO_953001.out).2.1); rintro e w97 ⟨rfl, hb⟩; have n0_ := xR HO_9 hb; have n1_ := xR HO_953001 hb; have n2_ := xR HO_958001 hb; have n3_ := xR HO_967001 hb; have n4_ := xR HO971 hb; have n5_ := xR HO975 hb; have n6_ := xB BK938 hb; have n7_ := xB BK952 hb; have n8_ := xB BK957 hb; have n9_ := xB BK966 hb; have n10_ := xH HB hb; clear HO_9 HO_953001 HO_958001 HO_967001 HO971 HO975 BK938 BK952 BK957 BK966 HB; have HO_9 := n0_; have HO_953001 := n1_; have HO_958001 := n2_; have HO_967001 := n3_; have HO971 := n4_; have HO975 := n5_; have BK938 := n6_; have BK952 := n7_; have BK957 := n8_; have BK966 := n9_; have HB := n10_; clear n0_ n1_ n2_ n3_ n4_ n5_ n6_ n7_ n8_ n9_ n10_; (try clear hb); (try clear hb2); (try clear hk); (try clear hi)))
           go_meet
           case rel => exact ⟨_, ((t965 != t951)), (by first | rfl | (simp; done) | (simp [*]; done)), H', ⟨by have := HJ15.out; first | omega | exact Nat.le_refl _⟩, ⟨uR (Kd.R_mono HO_953001.out (fun _ hk => ⟨hk.2.1, hk.2.2.1⟩))⟩, ⟨uR (Kd.R_mono HO_958001.out (fun _ hk => ⟨hk.2.1, hk.2.2.1⟩))⟩, ⟨uR (Kd.R_mono HO_967001.out (fun _ hk => ⟨hk.2.1, hk.2.2.1⟩))⟩, ⟨uB BK938.out⟩, ⟨uB BK952.out⟩, ⟨uB BK957.out⟩, ⟨uB BK966.out⟩, ⟨uH HB.out⟩⟩
          ·replace c89 := Bool.eq_false_iff.mpr c89
           subst c89
           have H1 : (laws_FnExactProductMoments.j1 kj15 l1 t951 true a0_0 l0_1 t947 t948 t961 t962) = some r := by rw [if_neg (show ¬ (false = true) by decide)] at H; exact H
           clear H
           have H := H1
           clear H1
           have H' := zA H
           clear H
           have hnb98 := NB966_938.out; have hnc98 := NB938_966.out; have hnb99 := NB966_952.out; have hnc99 := NB952_966.out; have hnb100 := NB966_957.out; have hnc100 := NB957_966.out
           have hcz101_0 : w86.cell? ⟨gb966, 0, none⟩ = some (.int .i64 t961) := (blk_cell BK966.out 0).trans rfl
           have hcz101_1 : w86.cell? ⟨gb966, 1, none⟩ = some (.slice Ao46 t962.length co46) := (blk_cell BK966.out 1).trans rfl
           have hfz101_0 := blk_frozen BK966.out 0
           have hfz101_1 := blk_frozen BK966.out 1
           have hnb102 := NB952_938.out; have hnc102 := NB938_952.out; have hnb103 := NB952_957.out; have hnc103 := NB957_952.out
           have hcz104_0 : w86.cell? ⟨gb952, 0, none⟩ = some (.int .i64 t947) := (blk_cell BK952.out 0).trans rfl
           have hcz104_1 : w86.cell? ⟨gb952, 1, none⟩ = some (.slice Ao29 t948.length co29) := (blk_cell BK952.out 1).trans rfl
           have hfz104_0 := blk_frozen BK952.out 0
           have hfz104_1 := blk_frozen BK952.out 1
           go_wp2_with (first | (go_at_call 22; (with_reducible refine (laws_eqMoments.calls kj15 t961 _ _ t962 t947 _ _ t948 false _ ?side1 ?side2 ?side3 ?side4 A88.out).mono ?_); (case side1 => exact uC ((Kd.R_reads' HO_967001.out).2.2)); (case side2 => exact (Kd.R_reads' HO_967001.out).2.1); (case side3 => exact uC ((Kd.R_reads' HO_953001.out).2.2)); (case side4 => exact (Kd.R_reads' HO_953001.out).2.1); rintro e w105 ⟨rfl, hb⟩; have n0_ := xR HO_9 hb; have n1_ := xR HO_953001 hb; have n2_ := xR HO_958001 hb; have n3_ := xR HO_967001 hb; have n4_ := xR HO971 hb; have n5_ := xR HO975 hb; have n6_ := xB BK938 hb; have n7_ := xB BK952 hb; have n8_ := xB BK957 hb; have n9_ := xB BK966 hb; have n10_ := xH HB hb; clear HO_9 HO_953001 HO_958001 HO_967001 HO971 HO975 BK938 BK952 BK957 BK966 HB; have HO_9 := n0_; have HO_953001 := n1_; have HO_958001 := n2_; have HO_967001 := n3_; have HO971 := n4_; have HO975 := n5_; have BK938 := n6_; have BK952 := n7_; have BK957 := n8_; have BK966 := n9_; have HB := n10_; clear n0_ n1_ n2_ n3_ n4_ n5_ n6_ n7_ n8_ n9_ n10_; (try clear hb); (try clear hb2); (try clear hk); (try clear hi)))
           go_meet
           case rel => exact ⟨_, (true), (by first | rfl | (simp; done) | (simp [*]; done)), H', ⟨by have := HJ15.out; first | omega | exact Nat.le_refl _⟩, ⟨uR (Kd.R_mono HO_953001.out (fun _ hk => ⟨hk.2.1, hk.2.2.1⟩))⟩, ⟨uR (Kd.R_mono HO_958001.out (fun _ hk => ⟨hk.2.1, hk.2.2.1⟩))⟩, ⟨uR (Kd.R_mono HO_967001.out (fun _ hk => ⟨hk.2.1, hk.2.2.1⟩))⟩, ⟨uB BK938.out⟩, ⟨uB BK952.out⟩, ⟨uB BK957.out⟩, ⟨uB BK966.out⟩, ⟨uH HB.out⟩⟩
        case rest =>
         clear HC74
         try clear c1
         try clear c2
         try clear p2
         try clear c3
         try clear c3b0
         try clear c3b1
         try clear c4
         try clear c5
         try clear c6
         try clear c6b0
         try clear c7
         try clear c8
         try clear c9
         try clear c10
         try clear c15
         try clear c18
         try clear c20
         try clear c22
         try clear c24
         try clear c27
         try clear c33
         try clear c34
         try clear c38
         try clear c39
         try clear c40
         try clear c41
         try clear c42
         try clear c43
         try clear c44
         try clear c48
         try clear c49
         try clear c50
         try clear c51
         try clear c53
         try clear c54
         try clear c57
         try clear c58
         try clear c59
         try clear c61
         try clear c62
         try clear c65
         try clear c68
         try clear c71
         try clear c81
         try clear c82
         try clear c83
         try clear c87
         try clear c87b0
         try clear c89
         try clear c90
         try clear c91
         try clear c92
         try clear c94
         try clear c95
         try clear c98
         try clear c99
         try clear c100
         try clear c102
         try clear c103
         try clear hcz101_0
         try clear hcz101_1
         try clear hcz104_0
         try clear hcz104_1
         try clear hcz18_0
         try clear hcz18_1
         try clear hcz20_0
         try clear hcz20_1
         try clear hcz28_0
         try clear hcz28_1
         try clear hcz30_0
         try clear hcz30_1
         try clear hcz35_0
         try clear hcz35_1
         try clear hcz38_0
         try clear hcz38_1
         try clear hcz45_0
         try clear hcz45_1
         try clear hcz52_0
         try clear hcz52_1
         try clear hcz55_0
         try clear hcz55_1
         try clear hcz60_0
         try clear hcz60_1
         try clear hcz63_0
         try clear hcz63_1
         try clear hcz84_0
         try clear hcz84_1
         try clear hcz8_0
         try clear hcz8_1
         try clear hcz93_0
         try clear hcz93_1
         try clear hcz96_0
         try clear hcz96_1
         try clear hfz101_0
         try clear hfz101_1
         try clear hfz104_0
         try clear hfz104_1
         try clear hfz18_0
         try clear hfz18_1
         try clear hfz20_0
         try clear hfz20_1
         try clear hfz28_0
         try clear hfz28_1
         try clear hfz30_0
         try clear hfz30_1
         try clear hfz35_0
         try clear hfz35_1
         try clear hfz38_0
         try clear hfz38_1
         try clear hfz45_0
         try clear hfz45_1
         try clear hfz52_0
         try clear hfz52_1
         try clear hfz55_0
         try clear hfz55_1
         try clear hfz60_0
         try clear hfz60_1
         try clear hfz63_0
         try clear hfz63_1
         try clear hfz84_0
         try clear hfz84_1
         try clear hfz8_0
         try clear hfz8_1
         try clear hfz93_0
         try clear hfz93_1
         try clear hfz96_0
         try clear hfz96_1
         try clear p2
         obtain ⟨kq, x80_73, rfl, HA, HJ73, HO_953001, HO_958001, HO_967001, BK938, BK952, BK957, BK966, HB⟩ := hcut
         have hl958001_73 := (Kd.R_reads' HO_958001.out).1
         rw [hl958001_73] at HO_958001
         (try simp only [hl958001_73])
         (try simp only [hl958001_73] at BK938)
         (try simp only [hl958001_73] at BK952)
         (try simp only [hl958001_73] at BK957)
         (try simp only [hl958001_73] at BK966)
         (try simp only [hl958001_73] at HO_953001)
         (try simp only [hl958001_73] at HO_967001)
         cases kq with
         | zero => exact absurd HA.out (by simp [laws_FnExactProductMoments.j1])
         | succ kj73 =>
          have H := HA.out
          clear HA
          simp only [laws_FnExactProductMoments.j1] at H
          by_cases c106 : x80_73 = true
          ·subst c106
           have H1 : (some false) = some r := by rw [if_pos rfl] at H; exact H
           clear H
           have H := H1
           clear H1
           rw [HRT.out] at H
           exact absurd H (by simp)
          ·replace c106 := Bool.eq_false_iff.mpr c106
           subst c106
           have H1 : ((laws_markMoments.f kj73 t961 t962 1).bind fun bt982 => ((laws_heldMoments.f kj73 t961 bt982.2 1).bind fun t984 => (if t984 < 0 then (some false) else (if t984 = bt982.1 then ((laws_toMoments.f kj73 a0_0 l0_1).bind fun bt985 => ((laws_toInt64S.f kj73 l1).bind fun t989 => ((impl_ProductMoments.f kj73 bt985.1 bt985.2 t989).bind fun bt992 => ((laws_eqMoments.f kj73 bt992.1 bt992.2.1 t947 t948).bind fun t998 => (if t998 = true then (laws_FnExactProductMoments.j2 kj73 bt982.1 (bt992.2.2 != t951) t961 bt982.2) else (laws_FnExactProductMoments.j2 kj73 bt982.1 true t961 bt982.2)))))) else (some false))))) = some r := by rw [if_neg (show ¬ (false = true) by decide)] at H; exact H
           clear H
           have H := H1
           clear H1
           replace H := Option.bind_eq_some_iff.mp H
           obtain ⟨⟨t982, t983⟩, A1070, H⟩ := H
           replace H : ((laws_heldMoments.f kj73 t961 t983 1).bind fun t984 => (if t984 < 0 then (some false) else (if t984 = t982 then ((laws_toMoments.f kj73 a0_0 l0_1).bind fun bt985 => ((laws_toInt64S.f kj73 l1).bind fun t989 => ((impl_ProductMoments.f kj73 bt985.1 bt985.2 t989).bind fun bt992 => ((laws_eqMoments.f kj73 bt992.1 bt992.2.1 t947 t948).bind fun t998 => (if t998 = true then (laws_FnExactProductMoments.j2 kj73 t982 (bt992.2.2 != t951) t961 t983) else (laws_FnExactProductMoments.j2 kj73 t982 true t961 t983)))))) else (some false)))) = some r := H
           have A107 := zA A1070
           clear A1070
           replace H := Option.bind_eq_some_iff.mp H
           obtain ⟨t984, A1080, H⟩ := H
           replace H : (if t984 < 0 then (some false) else (if t984 = t982 then ((laws_toMoments.f kj73 a0_0 l0_1).bind fun bt985 => ((laws_toInt64S.f kj73 l1).bind fun t989 => ((impl_ProductMoments.f kj73 bt985.1 bt985.2 t989).bind fun bt992 => ((laws_eqMoments.f kj73 bt992.1 bt992.2.1 t947 t948).bind fun t998 => (if t998 = true then (laws_FnExactProductMoments.j2 kj73 t982 (bt992.2.2 != t951) t961 t983) else (laws_FnExactProductMoments.j2 kj73 t982 true t961 t983)))))) else (some false))) = some r := H
           have A108 := zA A1080
           clear A1080
           by_cases c109 : t984 < 0
           ·rw [if_pos c109] at H
            have c109b0 : decide (t984 < 0) = true := decide_eq_true c109
            clear c109
            rw [HRT.out] at H
            exact absurd H (by simp)
           ·rw [if_neg c109] at H
            have c109b0 : decide (t984 < 0) = false := decide_eq_false c109
            clear c109
            by_cases c110 : t984 = t982
            ·rw [if_pos c110] at H
             have c110b0 : (t984 == t982) = true := beq_iff_eq.mpr c110
             have c110b1 : (t984 != t982) = false := bne_eq_false_iff_eq.mpr c110
             clear c110
             replace H := Option.bind_eq_some_iff.mp H
             obtain ⟨⟨t985, t986⟩, A1110, H⟩ := H
             replace H : ((laws_toInt64S.f kj73 l1).bind fun t989 => ((impl_ProductMoments.f kj73 t985 t986 t989).bind fun bt992 => ((laws_eqMoments.f kj73 bt992.1 bt992.2.1 t947 t948).bind fun t998 => (if t998 = true then (laws_FnExactProductMoments.j2 kj73 t982 (bt992.2.2 != t951) t961 t983) else (laws_FnExactProductMoments.j2 kj73 t982 true t961 t983))))) = some r := H
             have A111 := zA A1110
             clear A1110
             replace H := Option.bind_eq_some_iff.mp H
             obtain ⟨t989, A1120, H⟩ := H
             replace H : ((impl_ProductMoments.f kj73 t985 t986 t989).bind fun bt992 => ((laws_eqMoments.f kj73 bt992.1 bt992.2.1 t947 t948).bind fun t998 => (if t998 = true then (laws_FnExactProductMoments.j2 kj73 t982 (bt992.2.2 != t951) t961 t983) else (laws_FnExactProductMoments.j2 kj73 t982 true t961 t983)))) = some r := H
             have A112 := zA A1120
             clear A1120
             replace H := Option.bind_eq_some_iff.mp H
             obtain ⟨⟨t992, t993, t996⟩, A1130, H⟩ := H
             replace H : ((laws_eqMoments.f kj73 t992 t993 t947 t948).bind fun t998 => (if t998 = true then (laws_FnExactProductMoments.j2 kj73 t982 (t996 != t951) t961 t983) else (laws_FnExactProductMoments.j2 kj73 t982 true t961 t983))) = some r := H
             have A113 := zA A1130
             clear A1130
             have HC114 := zA H
             clear H
             have hnb115 := NB966_938.out; have hnc115 := NB938_966.out; have hnb116 := NB966_952.out; have hnc116 := NB952_966.out; have hnb117 := NB966_957.out; have hnc117 := NB957_966.out
             have hcz118_0 : wc.cell? ⟨gb966, 0, none⟩ = some (.int .i64 t961) := (blk_cell BK966.out 0).trans rfl
             have hcz118_1 : wc.cell? ⟨gb966, 1, none⟩ = some (.slice Ao46 t962.length co46) := (blk_cell BK966.out 1).trans rfl
             have hfz118_0 := blk_frozen BK966.out 0
             have hfz118_1 := blk_frozen BK966.out 1
             go_upto_region 31 with (first | ((with_reducible refine gate_callee (f := 40) rfl ?_); refine goesL_ (some 83) rfl rfl Try.func40 (by kernel_rfl) rfl #[.agg #[.int .i64 t961, .slice Ao46 t962.length co46], .int .i64 1] rfl (by (try simp only [la, lb, lc]); first | done | rfl | (simp only [ld, le]; rfl)) ?_; (with_reducible refine (laws_markMoments.calls kj73 t961 (fun k_ => some k_ = (.slice Ao46 t962.length co46 : Value).ownBlock) (.slice Ao46 t962.length co46) t962 1 t982 t983 w _ ?side1 ?side2 A107.out).mono ?_); (case side1 => repeat (first | (with_reducible first | exact HB.out | apply below_alloc | apply pw_below_drewN | apply below_drew1 | refine below_set ?_ GE938.out | refine below_set ?_ GE952.out | refine below_set ?_ GE957.out | refine below_set ?_ GE966.out) | exact HB.out)); (case side2 => exact Kd.R_tight rfl HO_967001.out); rintro e w119 ⟨rfl, hy0, hb, hkp⟩; refine ⟨_, rfl, ?_⟩; have n0_ := zA (Kd.R_mono (ok' := fun k_ => some k_ ≠ (.slice Ao36 t978.length co36 : Value).ownBlock ∧ some k_ ≠ (.slice Ao46 t962.length co46 : Value).ownBlock) (Kd.R_keptB (HO_953001.out) hkp (fun k_ hk_ hs_ => (hk_.2) hs_)) (fun k_ hk_ => ⟨hk_.1.1, hk_.1.2⟩)); have n1_ := zA (Kd.R_mono (ok' := fun k_ => some k_ ≠ (.slice Ao29 t948.length co29 : Value).ownBlock ∧ some k_ ≠ (.slice Ao46 t962.length co46 : Value).ownBlock) (Kd.R_keptB (HO_958001.out) hkp (fun k_ hk_ hs_ => (hk_.2) hs_)) (fun k_ hk_ => ⟨hk_.1.1, hk_.1.2⟩)); have n2_ := zA (Kd.R_reok rfl hy0 (fun k_ e_ => HO_967001.out.1 k_ e_)); have n3_ := zA (blk_kept (uB BK938.out) hkp (fun hs_ => (fun e_ => (Kd.R_ne HO_967001.out BK938.out (by decide)) e_) hs_)); have n4_ := zA (blk_kept (uB BK952.out) hkp (fun hs_ => (fun e_ => (Kd.R_ne HO_967001.out BK952.out (by decide)) e_) hs_)); have n5_ := zA (blk_kept (uB BK957.out) hkp (fun hs_ => (fun e_ => (Kd.R_ne HO_967001.out BK957.out (by decide)) e_) hs_)); have n6_ := zA (blk_kept (uB BK966.out) hkp (fun hs_ => (fun e_ => (Kd.R_ne HO_967001.out BK966.out (by decide)) e_) hs_)); have n7_ := zA (hb); clear HO_953001 HO_958001 HO_967001 BK938 BK952 BK957 BK966 HB; have HO_953001 := n0_; have HO_958001 := n1_; have HO_967001 := n2_; have BK938 := n3_; have BK952 := n4_; have BK957 := n5_; have BK966 := n6_; have HB := n7_; clear n0_ n1_ n2_ n3_ n4_ n5_ n6_ n7_; (try clear hb); (try clear hkp); (try clear hy0); have hcz120_0 : w119.cell? ⟨gb966, 0, none⟩ = some (.int .i64 t961) := (blk_cell BK966.out 0).trans rfl; have hcz120_1 : w119.cell? ⟨gb966, 1, none⟩ = some (.slice Ao46 t962.length co46) := (blk_cell BK966.out 1).trans rfl; have hfz120_0 := blk_frozen BK966.out 0; have hfz120_1 := blk_frozen BK966.out 1) | ((with_reducible refine gate_callee (f := 42) rfl ?_); refine goesL_ (some 86) rfl rfl Try.func42 (by kernel_rfl) rfl #[.agg #[.int .i64 t961, .slice Ao46 t983.length co46], .int .i64 1] rfl (by (try simp only [la, lb, lc]); first | done | (rw [show t983.length = t962.length from (Kd.R_reads' HO_967001.out).1.symm] <;> rfl) | rfl | (simp only [ld, le]; rfl)) ?_; (with_reducible refine (laws_heldMoments.calls kj73 t961 _ _ t983 1 t984 _ ?side1 ?side2 A108.out).mono ?_); (case side1 => exact uC ((Kd.R_reads' HO_967001.out).2.2)); (case side2 => rw [show t983.length = t962.length from (Kd.R_reads' HO_967001.out).1.symm]; exact (Kd.R_reads' HO_967001.out).2.1); rintro e w121 ⟨rfl, hb⟩; refine ⟨_, rfl, ?_⟩; have n0_ := xR HO_953001 hb; have n1_ := xR HO_958001 hb; have n2_ := xR HO_967001 hb; have n3_ := xB BK938 hb; have n4_ := xB BK952 hb; have n5_ := xB BK957 hb; have n6_ := xB BK966 hb; have n7_ := xH HB hb; clear HO_953001 HO_958001 HO_967001 BK938 BK952 BK957 BK966 HB; have HO_953001 := n0_; have HO_958001 := n1_; have HO_967001 := n2_; have BK938 := n3_; have BK952 := n4_; have BK957 := n5_; have BK966 := n6_; have HB := n7_; clear n0_ n1_ n2_ n3_ n4_ n5_ n6_ n7_; (try clear hb); (try clear hb2); (try clear hk); (try clear hi); have hnb122 := NB938_952.out; have hnc122 := NB952_938.out; have hnb123 := NB938_957.out; have hnc123 := NB957_938.out; have hcz124_0 : w121.cell? ⟨gb938, 0, none⟩ = some (.int .i64 a0_0) := (blk_cell BK938.out 0).trans rfl; have hcz124_1 : w121.cell? ⟨gb938, 1, none⟩ = some (.slice A0_1 l0_1.length c0_1) := (blk_cell BK938.out 1).trans rfl; have hfz124_0 := blk_frozen BK938.out 0; have hfz124_1 := blk_frozen BK938.out 1) | ((with_reducible refine gate_callee (f := 18) rfl ?_); refine goesL_ (some 94) rfl rfl Try.func18 (by kernel_rfl) rfl #[.agg #[.int .i64 a0_0, .slice A0_1 l0_1.length c0_1]] rfl (by (try simp only [la, lb, lc]); first | done | rfl | (simp only [ld, le]; rfl)) ?_; (with_reducible refine (laws_toMoments.calls kj73 a0_0 _ _ l0_1 t985 t986 _ ?side1 ?side2 A111.out).mono ?_); (case side1 => exact uC ((Kd.C_below HR0_1.out HB.out))); (case side2 => exact HC0_1.out); rintro e w125 ⟨v987, rfl, ho0, hb⟩; refine ⟨_, rfl, ?_⟩; have n0_ := zA (Kd.R_elder' (uR HO_953001.out) (Kd.R_base ho0) hb); have n1_ := zA (Kd.R_elder' (uR HO_958001.out) (Kd.R_base ho0) hb); have n2_ := zA (Kd.R_elder' (uR HO_967001.out) (Kd.R_base ho0) hb); have n3_ := zA (Kd.R_lower (Kd.R_new' (Kd.R_new' (Kd.R_new' ho0 (Kd.R_lt (uR HO_953001.out))) (Kd.R_lt (uR HO_958001.out))) (Kd.R_lt (uR HO_967001.out))) (below_size (uH HB.out))); have n4_ := xB BK938 hb; have n5_ := xB BK952 hb; have n6_ := xB BK957 hb; have n7_ := xB BK966 hb; have n8_ := xH HB hb; clear HO_953001 HO_958001 HO_967001 BK938 BK952 BK957 BK966 HB; have HO_953001 := n0_; have HO_958001 := n1_; have HO_967001 := n2_; have HO988 := n3_; have BK938 := n4_; have BK952 := n5_; have BK957 := n6_; have BK966 := n7_; have HB := n8_; clear n0_ n1_ n2_ n3_ n4_ n5_ n6_ n7_ n8_; (try clear hb); (try clear hb2); (try clear hk); (try clear hi); (try clear ho0)) | ((with_reducible refine gate_callee (f := 20) rfl ?_); refine goesL_ (some 96) rfl rfl Try.func20 (by kernel_rfl) rfl #[.slice A1 l1.length c1] rfl (by (try simp only [la, lb, lc]); first | done | rfl | (simp only [ld, le]; rfl)) ?_; (with_reducible refine (laws_toInt64S.calls kj73 _ _ l1 t989 _ ?side1 ?side2 A112.out).mono ?_); (case side1 => exact uC ((Kd.C_below HR1.out HB.out))); (case side2 => exact HC1.out); rintro e w126 ⟨v990, rfl, ho0, hb⟩; refine ⟨_, rfl, ?_⟩; have n0_ := zA (Kd.R_elder' (uR HO_953001.out) (Kd.R_base ho0) hb); have n1_ := zA (Kd.R_elder' (uR HO_958001.out) (Kd.R_base ho0) hb); have n2_ := zA (Kd.R_elder' (uR HO_967001.out) (Kd.R_base ho0) hb); have n3_ := zA (Kd.R_elder' (uR HO988.out) (Kd.R_base ho0) hb); have n4_ := zA (Kd.R_lower (Kd.R_new' (Kd.R_new' (Kd.R_new' (Kd.R_new' ho0 (Kd.R_lt (uR HO_953001.out))) (Kd.R_lt (uR HO_958001.out))) (Kd.R_lt (uR HO_967001.out))) (Kd.R_lt (uR HO988.out))) (below_size (uH HB.out))); have n5_ := xB BK938 hb; have n6_ := xB BK952 hb; have n7_ := xB BK957 hb; have n8_ := xB BK966 hb; have n9_ := xH HB hb; clear HO_953001 HO_958001 HO_967001 HO988 BK938 BK952 BK957 BK966 HB; have HO_953001 := n0_; have HO_958001 := n1_; have HO_967001 := n2_; have HO988 := n3_; have HO991 := n4_; have BK938 := n5_; have BK952 := n6_; have BK957 := n7_; have BK966 := n8_; have HB := n9_; clear n0_ n1_ n2_ n3_ n4_ n5_ n6_ n7_ n8_ n9_; (try clear hb); (try clear hb2); (try clear hk); (try clear hi); (try clear ho0); obtain ⟨Ao127, co127, eo127⟩ := Kd.R_slice HO988.out; subst eo127; obtain ⟨Ao128, co128, eo128⟩ := Kd.R_slice HO991.out; subst eo128) | ((with_reducible refine gate_callee (f := 39) rfl ?_); refine goesL_ (some 97) rfl rfl Try.func39 (by kernel_rfl) rfl #[.agg #[.int .i64 t985, .slice Ao127 t986.length co127], .slice Ao128 t989.length co128] rfl (by (try simp only [la, lb, lc]); first | done | rfl | (simp only [ld, le]; rfl)) ?_; (with_reducible refine (impl_ProductMoments.calls kj73 t985 _ _ t986 (fun k_ => some k_ = (.slice Ao128 t989.length co128 : Value).ownBlock) _ _ t989 t992 t993 t996 _ ?side1 ?side2 ?side3 A113.out).mono ?_); (case side1 => exact uC ((Kd.R_reads' HO988.out).2.2)); (case side2 => exact (Kd.R_reads' HO988.out).2.1); (case side3 => exact Kd.R_V (Kd.R_tight rfl (Kd.R_types (Kd.R_types (Kd.R_types (Kd.R_types (HO991.out) BK938.out (by decide)) BK952.out (by decide)) BK957.out (by decide)) BK966.out (by decide)))); rintro e w129 ⟨v994, rfl, ho0, hb⟩; refine ⟨_, rfl, ?_⟩; have n0_ := zA (Kd.R_elder' (uR HO_953001.out) (Kd.R_base ho0) hb); have n1_ := zA (Kd.R_elder' (uR HO_958001.out) (Kd.R_base ho0) hb); have n2_ := zA (Kd.R_elder' (uR HO_967001.out) (Kd.R_base ho0) hb); have n3_ := zA (Kd.R_elder' (uR HO988.out) (Kd.R_base ho0) hb); have n4_ := zA (Kd.R_elder' (uR HO991.out) (Kd.R_base ho0) hb); have n5_ := zA (Kd.R_lower (Kd.R_new' (Kd.R_new' (Kd.R_new' (Kd.R_new' (Kd.R_new' (Kd.R_mono (ok' := fun k_ => True) ho0 (fun _ hk_ => trivial)) (Kd.R_lt (uR HO_953001.out))) (Kd.R_lt (uR HO_958001.out))) (Kd.R_lt (uR HO_967001.out))) (Kd.R_lt (uR HO988.out))) (Kd.R_lt (uR HO991.out))) (below_size (uH HB.out))); have n6_ := xB BK938 hb; have n7_ := xB BK952 hb; have n8_ := xB BK957 hb; have n9_ := xB BK966 hb; have n10_ := xH HB hb; clear HO_953001 HO_958001 HO_967001 HO988 HO991 BK938 BK952 BK957 BK966 HB; have HO_953001 := n0_; have HO_958001 := n1_; have HO_967001 := n2_; have HO988 := n3_; have HO991 := n4_; have HO995 := n5_; have BK938 := n6_; have BK952 := n7_; have BK957 := n8_; have BK966 := n9_; have HB := n10_; clear n0_ n1_ n2_ n3_ n4_ n5_ n6_ n7_ n8_ n9_ n10_; (try clear hb); (try clear hb2); (try clear hk); (try clear hi); (try clear ho0)) | ((with_reducible refine gate_dst (N := 15) rfl ?_); refine box_event ?hg (N := 15) ?hd (cs := #[.int .i64 0, .slice none 0 0]) (t := 31) ?hr ?_; (case hd => rfl); (case hg => rfl); (case hr => first | (go_simp; done) | (go_simp; rfl)); intro gb997 hg w130 hbox hb; have n0_ := xR HO_953001 hb; have n1_ := xR HO_958001 hb; have n2_ := xR HO_967001 hb; have n3_ := xR HO988 hb; have n4_ := xR HO991 hb; have n5_ := xR HO995 hb; have n6_ := xB BK938 hb; have n7_ := xB BK952 hb; have n8_ := xB BK957 hb; have n9_ := xB BK966 hb; have n10_ := xH HB hb; have n11_ := zA (hbox); have n12_ := zA ((by rw [hg]; exact (below_size (uH HB.out)) : w.heap.size ≤ gb997)); have n13_ := zA ((by rw [hg]; exact (below_size (uH HB.out)) : w.heap.size ≤ gb997)); have n14_ := zA ((by rw [hg]; exact neL BK938 : gb938 ≠ gb997)); have n15_ := zA ((by rw [hg]; exact neG BK938 : gb997 ≠ gb938)); have n16_ := zA ((by rw [hg]; exact neL BK952 : gb952 ≠ gb997)); have n17_ := zA ((by rw [hg]; exact neG BK952 : gb997 ≠ gb952)); have n18_ := zA ((by rw [hg]; exact neL BK957 : gb957 ≠ gb997)); have n19_ := zA ((by rw [hg]; exact neG BK957 : gb997 ≠ gb957)); have n20_ := zA ((by rw [hg]; exact neL BK966 : gb966 ≠ gb997)); have n21_ := zA ((by rw [hg]; exact neG BK966 : gb997 ≠ gb966)); clear HO_953001 HO_958001 HO_967001 HO988 HO991 HO995 BK938 BK952 BK957 BK966 HB; have HO_953001 := n0_; have HO_958001 := n1_; have HO_967001 := n2_; have HO988 := n3_; have HO991 := n4_; have HO995 := n5_; have BK938 := n6_; have BK952 := n7_; have BK957 := n8_; have BK966 := n9_; have HB := n10_; have BK997 := n11_; have GW997 := n12_; have GE997 := n13_; have := geI GE997; have NB938_997 := n14_; have NB997_938 := n15_; have NB952_997 := n16_; have NB997_952 := n17_; have NB957_997 := n18_; have NB997_957 := n19_; have NB966_997 := n20_; have NB997_966 := n21_; clear n0_ n1_ n2_ n3_ n4_ n5_ n6_ n7_ n8_ n9_ n10_ n11_ n12_ n13_ n14_ n15_ n16_ n17_ n18_ n19_ n20_ n21_ hb hbox hg; have hnb131 := NB997_938.out; have hnc131 := NB938_997.out; have hnb132 := NB997_952.out; have hnc132 := NB952_997.out; have hnb133 := NB997_957.out; have hnc133 := NB957_997.out; have hnb134 := NB997_966.out; have hnc134 := NB966_997.out; have hcz135_0 : w130.cell? ⟨gb997, 0, none⟩ = some (.int .i64 0) := (blk_cell BK997.out 0).trans rfl; have hcz135_1 : w130.cell? ⟨gb997, 1, none⟩ = some (.slice none 0 0) := (blk_cell BK997.out 1).trans rfl; have hfz135_0 := blk_frozen BK997.out 0; have hfz135_1 := blk_frozen BK997.out 1; obtain ⟨Ao136, co136, eo136⟩ := Kd.R_slice HO995.out; subst eo136))
             (try simp only [Act.put, ls, lz, ln])
             go_cut [108] (fun v108 wc => ∃ (kq : Nat) (x108_113 : Bool), v108 = .bool x108_113 ∧ Aside0 (laws_FnExactProductMoments.j2 kq t982 x108_113 t961 t983 = some r) ∧ Aside0 (kq ≤ kj73) ∧ Aside0 (Kd.R (Kd.int .i64) 2 wc w.heap.size (fun k_ => some k_ ≠ ((.slice Ao36 t978.length co36) : Value).ownBlock ∧ some k_ ≠ ((.slice Ao46 t962.length co46) : Value).ownBlock ∧ some k_ ≠ ((.slice Ao136 t993.length co136) : Value).ownBlock) (.slice Ao29 t948.length co29) t948) ∧ Aside0 (Kd.R (Kd.int .i64) 2 wc w.heap.size (fun k_ => some k_ ≠ ((.slice Ao29 t948.length co29) : Value).ownBlock ∧ some k_ ≠ ((.slice Ao46 t962.length co46) : Value).ownBlock ∧ some k_ ≠ ((.slice Ao136 t993.length co136) : Value).ownBlock) (.slice Ao36 t978.length co36) t978) ∧ Aside0 (Kd.R (Kd.int .i64) 2 wc w.heap.size (fun k_ => some k_ ≠ ((.slice Ao29 t948.length co29) : Value).ownBlock ∧ some k_ ≠ ((.slice Ao36 t978.length co36) : Value).ownBlock ∧ some k_ ≠ ((.slice Ao136 t993.length co136) : Value).ownBlock) (.slice Ao46 t962.length co46) t983) ∧ Aside0 (Kd.R (Kd.int .i64) 2 wc w.heap.size (fun k_ => some k_ ≠ ((.slice Ao29 t948.length co29) : Value).ownBlock ∧ some k_ ≠ ((.slice Ao36 t978.length co36) : Value).ownBlock ∧ some k_ ≠ ((.slice Ao46 t962.length co46) : Value).ownBlock) (.slice Ao136 t993.length co136) t993) ∧ Aside0 (wc.heap[gb938]? = some (.cells #[.int .i64 a0_0, (.slice A0_1 l0_1.length c0_1)] 24 (0, 0))) ∧ Aside0 (wc.heap[gb952]? = some (.cells #[.int .i64 t947, (.slice Ao29 t948.length co29)] 31 (0, 0))) ∧ Aside0 (wc.heap[gb957]? = some (.cells #[.int .i64 t953, (.slice Ao36 t978.length co36)] 31 (0, 0))) ∧ Aside0 (wc.heap[gb966]? = some (.cells #[.int .i64 t961, (.slice Ao46 t962.length co46)] 31 (0, 0))) ∧ Aside0 (wc.heap[gb997]? = some (.cells #[.int .i64 t992, (.slice Ao136 t993.length co136)] 31 (0, 0))) ∧ Aside0 (Below w.heap.size w wc))
             case first =>
              have H := HC114.out
              clear HC114
              replace H := Option.bind_eq_some_iff.mp H
              obtain ⟨t998, A1370, H⟩ := H
              replace H : (if t998 = true then (laws_FnExactProductMoments.j2 kj73 t982 (t996 != t951) t961 t983) else (laws_FnExactProductMoments.j2 kj73 t982 true t961 t983)) = some r := H
              have A137 := zA A1370
              clear A1370
              by_cases c138 : t998 = true
              ·subst c138
               have H1 : (laws_FnExactProductMoments.j2 kj73 t982 (t996 != t951) t961 t983) = some r := by rw [if_pos rfl] at H; exact H
               clear H
               have H := H1
               clear H1
               have H' := zA H
               clear H
               have hnb139 := NB997_938.out; have hnc139 := NB938_997.out; have hnb140 := NB997_952.out; have hnc140 := NB952_997.out; have hnb141 := NB997_957.out; have hnc141 := NB957_997.out; have hnb142 := NB997_966.out; have hnc142 := NB966_997.out
               have hcz143_0 : w130.cell? ⟨gb997, 0, none⟩ = some (.int .i64 0) := (blk_cell BK997.out 0).trans rfl
               have hcz143_1 : w130.cell? ⟨gb997, 1, none⟩ = some (.slice none 0 0) := (blk_cell BK997.out 1).trans rfl
               have hfz143_0 := blk_frozen BK997.out 0
               have hfz143_1 := blk_frozen BK997.out 1
               have hnb144 := NB952_938.out; have hnc144 := NB938_952.out; have hnb145 := NB952_957.out; have hnc145 := NB957_952.out; have hnb146 := NB952_966.out; have hnc146 := NB966_952.out
               have hcz147_0 : w130.cell? ⟨gb952, 0, none⟩ = some (.int .i64 t947) := (blk_cell BK952.out 0).trans rfl
               have hcz147_1 : w130.cell? ⟨gb952, 1, none⟩ = some (.slice Ao29 t948.length co29) := (blk_cell BK952.out 1).trans rfl
               have hfz147_0 := blk_frozen BK952.out 0
               have hfz147_1 := blk_frozen BK952.out 1
               go_wp2_with (first | ((with_reducible refine gate_callee (f := 22) rfl ?_); refine goesL_ (some 102) rfl rfl Try.func22 (by kernel_rfl) rfl #[.agg #[.int .i64 t992, .slice Ao136 t993.length co136], .agg #[.int .i64 t947, .slice Ao29 t948.length co29]] rfl (by (try simp only [la, lb, lc]); first | done | rfl | (simp only [ld, le]; rfl)) ?_; (with_reducible refine (laws_eqMoments.calls kj73 t992 _ _ t993 t947 _ _ t948 true _ ?side1 ?side2 ?side3 ?side4 A137.out).mono ?_); (case side1 => refine (Kd.R_reads' (e := 2) (base := w.heap.size) (ok := fun k_ => (((((True ∧ some k_ ≠ (.slice Ao29 t948.length co29 : Value).ownBlock) ∧ some k_ ≠ (.slice Ao36 t978.length co36 : Value).ownBlock) ∧ some k_ ≠ (.slice Ao46 t962.length co46 : Value).ownBlock) ∧ some k_ ≠ (.slice Ao127 t986.length co127 : Value).ownBlock) ∧ some k_ ≠ (.slice Ao128 t989.length co128 : Value).ownBlock)) (n := t993.length) (c := co136) ?_).2.2; exact (uR ((Kd.R_mono (Kd.R_far (p := ⟨gb997, 1, none⟩) (Kd.R_far (p := ⟨gb997, 0, none⟩) (Kd.R_types HO995.out BK997.out (by decide)) (fun _ hk => hk.2) (.int .i64 t992)) (fun _ hk => hk.2) (.slice Ao136 t993.length co136)) (fun _ h_ => h_.1))))); (case side2 => exact (Kd.R_reads' HO995.out).2.1); (case side3 => refine (Kd.R_reads' (e := 2) (base := w.heap.size) (ok := fun k_ => ((((some k_ ≠ (.slice Ao36 t978.length co36 : Value).ownBlock ∧ some k_ ≠ (.slice Ao46 t962.length co46 : Value).ownBlock) ∧ some k_ ≠ (.slice Ao127 t986.length co127 : Value).ownBlock) ∧ some k_ ≠ (.slice Ao128 t989.length co128 : Value).ownBlock) ∧ some k_ ≠ (.slice Ao136 t993.length co136 : Value).ownBlock)) (n := t948.length) (c := co29) ?_).2.2; exact (uR ((Kd.R_mono (Kd.R_far (p := ⟨gb997, 1, none⟩) (Kd.R_far (p := ⟨gb997, 0, none⟩) (Kd.R_types HO_953001.out BK997.out (by decide)) (fun _ hk => hk.2) (.int .i64 t992)) (fun _ hk => hk.2) (.slice Ao136 t993.length co136)) (fun _ h_ => h_.1))))); (case side4 => exact (Kd.R_reads' HO_953001.out).2.1); rintro e w148 ⟨rfl, hb⟩; refine ⟨_, rfl, ?_⟩; have n0_ := zA (Kd.R_below (uR ((Kd.R_mono (Kd.R_far (p := ⟨gb997, 1, none⟩) (Kd.R_far (p := ⟨gb997, 0, none⟩) (Kd.R_types HO_953001.out BK997.out (by decide)) (fun _ hk => hk.2) (.int .i64 t992)) (fun _ hk => hk.2) (.slice Ao136 t993.length co136)) (fun _ h_ => h_.1)))) hb); have n1_ := zA (Kd.R_below (uR ((Kd.R_mono (Kd.R_far (p := ⟨gb997, 1, none⟩) (Kd.R_far (p := ⟨gb997, 0, none⟩) (Kd.R_types HO_958001.out BK997.out (by decide)) (fun _ hk => hk.2) (.int .i64 t992)) (fun _ hk => hk.2) (.slice Ao136 t993.length co136)) (fun _ h_ => h_.1)))) hb); have n2_ := zA (Kd.R_below (uR ((Kd.R_mono (Kd.R_far (p := ⟨gb997, 1, none⟩) (Kd.R_far (p := ⟨gb997, 0, none⟩) (Kd.R_types HO_967001.out BK997.out (by decide)) (fun _ hk => hk.2) (.int .i64 t992)) (fun _ hk => hk.2) (.slice Ao136 t993.length co136)) (fun _ h_ => h_.1)))) hb); have n3_ := zA (Kd.R_below (uR ((Kd.R_mono (Kd.R_far (p := ⟨gb997, 1, none⟩) (Kd.R_far (p := ⟨gb997, 0, none⟩) (Kd.R_types HO988.out BK997.out (by decide)) (fun _ hk => hk.2) (.int .i64 t992)) (fun _ hk => hk.2) (.slice Ao136 t993.length co136)) (fun _ h_ => h_.1)))) hb); have n4_ := zA (Kd.R_below (uR ((Kd.R_mono (Kd.R_far (p := ⟨gb997, 1, none⟩) (Kd.R_far (p := ⟨gb997, 0, none⟩) (Kd.R_types HO991.out BK997.out (by decide)) (fun _ hk => hk.2) (.int .i64 t992)) (fun _ hk => hk.2) (.slice Ao136 t993.length co136)) (fun _ h_ => h_.1)))) hb); have n5_ := zA (Kd.R_below (uR ((Kd.R_mono (Kd.R_far (p := ⟨gb997, 1, none⟩) (Kd.R_far (p := ⟨gb997, 0, none⟩) (Kd.R_types HO995.out BK997.out (by decide)) (fun _ hk => hk.2) (.int .i64 t992)) (fun _ hk => hk.2) (.slice Ao136 t993.length co136)) (fun _ h_ => h_.1)))) hb); have n6_ := zA (blk_below (g := gb938) (o := .cells #[.int .i64 a0_0, .slice A0_1 l0_1.length c0_1] 24 (0, 0)) (by (with_reducible repeat (first | refine blk_drewN ?_ _ | refine blk_drew ?_ | refine blk_alloc ?_ _)); refine blk_far ?_ NB938_997.out _; (with_reducible repeat (first | refine blk_drewN ?_ _ | refine blk_drew ?_ | refine blk_alloc ?_ _)); refine blk_far ?_ NB938_997.out _; (with_reducible repeat (first | refine blk_drewN ?_ _ | refine blk_drew ?_ | refine blk_alloc ?_ _)); exact BK938.out) hb); have n7_ := zA (blk_below (g := gb952) (o := .cells #[.int .i64 t947, .slice Ao29 t948.length co29] 31 (0, 0)) (by (with_reducible repeat (first | refine blk_drewN ?_ _ | refine blk_drew ?_ | refine blk_alloc ?_ _)); refine blk_far ?_ NB952_997.out _; (with_reducible repeat (first | refine blk_drewN ?_ _ | refine blk_drew ?_ | refine blk_alloc ?_ _)); refine blk_far ?_ NB952_997.out _; (with_reducible repeat (first | refine blk_drewN ?_ _ | refine blk_drew ?_ | refine blk_alloc ?_ _)); exact BK952.out) hb); have n8_ := zA (blk_below (g := gb957) (o := .cells #[.int .i64 t953, .slice Ao36 t978.length co36] 31 (0, 0)) (by (with_reducible repeat (first | refine blk_drewN ?_ _ | refine blk_drew ?_ | refine blk_alloc ?_ _)); refine blk_far ?_ NB957_997.out _; (with_reducible repeat (first | refine blk_drewN ?_ _ | refine blk_drew ?_ | refine blk_alloc ?_ _)); refine blk_far ?_ NB957_997.out _; (with_reducible repeat (first | refine blk_drewN ?_ _ | refine blk_drew ?_ | refine blk_alloc ?_ _)); exact BK957.out) hb); have n9_ := zA (blk_below (g := gb966) (o := .cells #[.int .i64 t961, .slice Ao46 t962.length co46] 31 (0, 0)) (by (with_reducible repeat (first | refine blk_drewN ?_ _ | refine blk_drew ?_ | refine blk_alloc ?_ _)); refine blk_far ?_ NB966_997.out _; (with_reducible repeat (first | refine blk_drewN ?_ _ | refine blk_drew ?_ | refine blk_alloc ?_ _)); refine blk_far ?_ NB966_997.out _; (with_reducible repeat (first | refine blk_drewN ?_ _ | refine blk_drew ?_ | refine blk_alloc ?_ _)); exact BK966.out) hb); have n10_ := zA (blk_below (g := gb997) (o := .cells #[.int .i64 t992, .slice Ao136 t993.length co136] 31 (0, 0)) (by (with_reducible repeat (first | refine blk_drewN ?_ _ | refine blk_drew ?_ | refine blk_alloc ?_ _)); refine blk_put (cs := #[.int .i64 t992, .slice none 0 0]) ?_ 1 _ rfl; (with_reducible repeat (first | refine blk_drewN ?_ _ | refine blk_drew ?_ | refine blk_alloc ?_ _)); refine blk_put (cs := #[.int .i64 0, .slice none 0 0]) ?_ 0 _ rfl; (with_reducible repeat (first | refine blk_drewN ?_ _ | refine blk_drew ?_ | refine blk_alloc ?_ _)); exact BK997.out) hb); have n11_ := xH HB hb; clear HO_953001 HO_958001 HO_967001 HO988 HO991 HO995 BK938 BK952 BK957 BK966 BK997 HB; have HO_953001 := n0_; have HO_958001 := n1_; have HO_967001 := n2_; have HO988 := n3_; have HO991 := n4_; have HO995 := n5_; have BK938 := n6_; have BK952 := n7_; have BK957 := n8_; have BK966 := n9_; have BK997 := n10_; have HB := n11_; clear n0_ n1_ n2_ n3_ n4_ n5_ n6_ n7_ n8_ n9_ n10_ n11_; (try clear hb); (try clear hb2); (try clear hk); (try clear hi)))
               go_meet
               case rel => exact ⟨_, ((t996 != t951)), (by first | rfl | (simp; done) | (simp [*]; done)), H', ⟨by have := HJ15.out; have := HJ73.out; first | omega | exact Nat.le_refl _⟩, ⟨by (try simp only [hl958001_73]); (with_reducible repeat (first | apply Kd.R_alloc | apply Kd.R_drewN | apply Kd.R_drew)); exact Kd.R_mono HO_953001.out (fun _ hk => ⟨hk.1.1.1.1, ⟨hk.1.1.1.2, hk.2⟩⟩)⟩, ⟨by (try simp only [hl958001_73]); (with_reducible repeat (first | apply Kd.R_alloc | apply Kd.R_drewN | apply Kd.R_drew)); exact Kd.R_mono HO_958001.out (fun _ hk => ⟨hk.1.1.1.1, ⟨hk.1.1.1.2, hk.2⟩⟩)⟩, ⟨by (try simp only [hl958001_73]); (with_reducible repeat (first | apply Kd.R_alloc | apply Kd.R_drewN | apply Kd.R_drew)); exact Kd.R_mono HO_967001.out (fun _ hk => ⟨hk.1.1.1.1, ⟨hk.1.1.1.2, hk.2⟩⟩)⟩, ⟨by (try simp only [hl958001_73]); (with_reducible repeat (first | apply Kd.R_alloc | apply Kd.R_drewN | apply Kd.R_drew)); exact Kd.R_mono HO995.out (fun _ hk => ⟨hk.1.1.1.1.2, ⟨hk.1.1.1.2, hk.1.1.2⟩⟩)⟩, ⟨by (try simp only [hl958001_73]); (with_reducible repeat (first | refine blk_drewN ?_ _ | refine blk_drew ?_ | refine blk_alloc ?_ _)); exact BK938.out⟩, ⟨by (try simp only [hl958001_73]); (with_reducible repeat (first | refine blk_drewN ?_ _ | refine blk_drew ?_ | refine blk_alloc ?_ _)); exact BK952.out⟩, ⟨by (try simp only [hl958001_73]); (with_reducible repeat (first | refine blk_drewN ?_ _ | refine blk_drew ?_ | refine blk_alloc ?_ _)); exact BK957.out⟩, ⟨by (try simp only [hl958001_73]); (with_reducible repeat (first | refine blk_drewN ?_ _ | refine blk_drew ?_ | refine blk_alloc ?_ _)); exact BK966.out⟩, ⟨by (try simp only [hl958001_73]); (with_reducible repeat (first | refine blk_drewN ?_ _ | refine blk_drew ?_ | refine blk_alloc ?_ _)); exact BK997.out⟩, ⟨uH HB.out⟩⟩
              ·replace c138 := Bool.eq_false_iff.mpr c138
               subst c138
               have H1 : (laws_FnExactProductMoments.j2 kj73 t982 true t961 t983) = some r := by rw [if_neg (show ¬ (false = true) by decide)] at H; exact H
               clear H
               have H := H1
               clear H1
               have H' := zA H
               clear H
               have hnb149 := NB997_938.out; have hnc149 := NB938_997.out; have hnb150 := NB997_952.out; have hnc150 := NB952_997.out; have hnb151 := NB997_957.out; have hnc151 := NB957_997.out; have hnb152 := NB997_966.out; have hnc152 := NB966_997.out
               have hcz153_0 : w130.cell? ⟨gb997, 0, none⟩ = some (.int .i64 0) := (blk_cell BK997.out 0).trans rfl
               have hcz153_1 : w130.cell? ⟨gb997, 1, none⟩ = some (.slice none 0 0) := (blk_cell BK997.out 1).trans rfl
               have hfz153_0 := blk_frozen BK997.out 0
               have hfz153_1 := blk_frozen BK997.out 1
               have hnb154 := NB952_938.out; have hnc154 := NB938_952.out; have hnb155 := NB952_957.out; have hnc155 := NB957_952.out; have hnb156 := NB952_966.out; have hnc156 := NB966_952.out
               have hcz157_0 : w130.cell? ⟨gb952, 0, none⟩ = some (.int .i64 t947) := (blk_cell BK952.out 0).trans rfl
               have hcz157_1 : w130.cell? ⟨gb952, 1, none⟩ = some (.slice Ao29 t948.length co29) := (blk_cell BK952.out 1).trans rfl
               have hfz157_0 := blk_frozen BK952.out 0
               have hfz157_1 := blk_frozen BK952.out 1
               go_wp2_with (first | ((with_reducible refine gate_callee (f := 22) rfl ?_); refine goesL_ (some 102) rfl rfl Try.func22 (by kernel_rfl) rfl #[.agg #[.int .i64 t992, .slice Ao136 t993.length co136], .agg #[.int .i64 t947, .slice Ao29 t948.length co29]] rfl (by (try simp only [la, lb, lc]); first | done | rfl | (simp only [ld, le]; rfl)) ?_; (with_reducible refine (laws_eqMoments.calls kj73 t992 _ _ t993 t947 _ _ t948 false _ ?side1 ?side2 ?side3 ?side4 A137.out).mono ?_); (case side1 => refine (Kd.R_reads' (e := 2) (base := w.heap.size) (ok := fun k_ => (((((True ∧ some k_ ≠ (.slice Ao29 t948.length co29 : Value).ownBlock) ∧ some k_ ≠ (.slice Ao36 t978.length co36 : Value).ownBlock) ∧ some k_ ≠ (.slice Ao46 t962.length co46 : Value).ownBlock) ∧ some k_ ≠ (.slice Ao127 t986.length co127 : Value).ownBlock) ∧ some k_ ≠ (.slice Ao128 t989.length co128 : Value).ownBlock)) (n := t993.length) (c := co136) ?_).2.2; exact (uR ((Kd.R_mono (Kd.R_far (p := ⟨gb997, 1, none⟩) (Kd.R_far (p := ⟨gb997, 0, none⟩) (Kd.R_types HO995.out BK997.out (by decide)) (fun _ hk => hk.2) (.int .i64 t992)) (fun _ hk => hk.2) (.slice Ao136 t993.length co136)) (fun _ h_ => h_.1))))); (case side2 => exact (Kd.R_reads' HO995.out).2.1); (case side3 => refine (Kd.R_reads' (e := 2) (base := w.heap.size) (ok := fun k_ => ((((some k_ ≠ (.slice Ao36 t978.length co36 : Value).ownBlock ∧ some k_ ≠ (.slice Ao46 t962.length co46 : Value).ownBlock) ∧ some k_ ≠ (.slice Ao127 t986.length co127 : Value).ownBlock) ∧ some k_ ≠ (.slice Ao128 t989.length co128 : Value).ownBlock) ∧ some k_ ≠ (.slice Ao136 t993.length co136 : Value).ownBlock)) (n := t948.length) (c := co29) ?_).2.2; exact (uR ((Kd.R_mono (Kd.R_far (p := ⟨gb997, 1, none⟩) (Kd.R_far (p := ⟨gb997, 0, none⟩) (Kd.R_types HO_953001.out BK997.out (by decide)) (fun _ hk => hk.2) (.int .i64 t992)) (fun _ hk => hk.2) (.slice Ao136 t993.length co136)) (fun _ h_ => h_.1))))); (case side4 => exact (Kd.R_reads' HO_953001.out).2.1); rintro e w158 ⟨rfl, hb⟩; refine ⟨_, rfl, ?_⟩; have n0_ := zA (Kd.R_below (uR ((Kd.R_mono (Kd.R_far (p := ⟨gb997, 1, none⟩) (Kd.R_far (p := ⟨gb997, 0, none⟩) (Kd.R_types HO_953001.out BK997.out (by decide)) (fun _ hk => hk.2) (.int .i64 t992)) (fun _ hk => hk.2) (.slice Ao136 t993.length co136)) (fun _ h_ => h_.1)))) hb); have n1_ := zA (Kd.R_below (uR ((Kd.R_mono (Kd.R_far (p := ⟨gb997, 1, none⟩) (Kd.R_far (p := ⟨gb997, 0, none⟩) (Kd.R_types HO_958001.out BK997.out (by decide)) (fun _ hk => hk.2) (.int .i64 t992)) (fun _ hk => hk.2) (.slice Ao136 t993.length co136)) (fun _ h_ => h_.1)))) hb); have n2_ := zA (Kd.R_below (uR ((Kd.R_mono (Kd.R_far (p := ⟨gb997, 1, none⟩) (Kd.R_far (p := ⟨gb997, 0, none⟩) (Kd.R_types HO_967001.out BK997.out (by decide)) (fun _ hk => hk.2) (.int .i64 t992)) (fun _ hk => hk.2) (.slice Ao136 t993.length co136)) (fun _ h_ => h_.1)))) hb); have n3_ := zA (Kd.R_below (uR ((Kd.R_mono (Kd.R_far (p := ⟨gb997, 1, none⟩) (Kd.R_far (p := ⟨gb997, 0, none⟩) (Kd.R_types HO988.out BK997.out (by decide)) (fun _ hk => hk.2) (.int .i64 t992)) (fun _ hk => hk.2) (.slice Ao136 t993.length co136)) (fun _ h_ => h_.1)))) hb); have n4_ := zA (Kd.R_below (uR ((Kd.R_mono (Kd.R_far (p := ⟨gb997, 1, none⟩) (Kd.R_far (p := ⟨gb997, 0, none⟩) (Kd.R_types HO991.out BK997.out (by decide)) (fun _ hk => hk.2) (.int .i64 t992)) (fun _ hk => hk.2) (.slice Ao136 t993.length co136)) (fun _ h_ => h_.1)))) hb); have n5_ := zA (Kd.R_below (uR ((Kd.R_mono (Kd.R_far (p := ⟨gb997, 1, none⟩) (Kd.R_far (p := ⟨gb997, 0, none⟩) (Kd.R_types HO995.out BK997.out (by decide)) (fun _ hk => hk.2) (.int .i64 t992)) (fun _ hk => hk.2) (.slice Ao136 t993.length co136)) (fun _ h_ => h_.1)))) hb); have n6_ := zA (blk_below (g := gb938) (o := .cells #[.int .i64 a0_0, .slice A0_1 l0_1.length c0_1] 24 (0, 0)) (by (with_reducible repeat (first | refine blk_drewN ?_ _ | refine blk_drew ?_ | refine blk_alloc ?_ _)); refine blk_far ?_ NB938_997.out _; (with_reducible repeat (first | refine blk_drewN ?_ _ | refine blk_drew ?_ | refine blk_alloc ?_ _)); refine blk_far ?_ NB938_997.out _; (with_reducible repeat (first | refine blk_drewN ?_ _ | refine blk_drew ?_ | refine blk_alloc ?_ _)); exact BK938.out) hb); have n7_ := zA (blk_below (g := gb952) (o := .cells #[.int .i64 t947, .slice Ao29 t948.length co29] 31 (0, 0)) (by (with_reducible repeat (first | refine blk_drewN ?_ _ | refine blk_drew ?_ | refine blk_alloc ?_ _)); refine blk_far ?_ NB952_997.out _; (with_reducible repeat (first | refine blk_drewN ?_ _ | refine blk_drew ?_ | refine blk_alloc ?_ _)); refine blk_far ?_ NB952_997.out _; (with_reducible repeat (first | refine blk_drewN ?_ _ | refine blk_drew ?_ | refine blk_alloc ?_ _)); exact BK952.out) hb); have n8_ := zA (blk_below (g := gb957) (o := .cells #[.int .i64 t953, .slice Ao36 t978.length co36] 31 (0, 0)) (by (with_reducible repeat (first | refine blk_drewN ?_ _ | refine blk_drew ?_ | refine blk_alloc ?_ _)); refine blk_far ?_ NB957_997.out _; (with_reducible repeat (first | refine blk_drewN ?_ _ | refine blk_drew ?_ | refine blk_alloc ?_ _)); refine blk_far ?_ NB957_997.out _; (with_reducible repeat (first | refine blk_drewN ?_ _ | refine blk_drew ?_ | refine blk_alloc ?_ _)); exact BK957.out) hb); have n9_ := zA (blk_below (g := gb966) (o := .cells #[.int .i64 t961, .slice Ao46 t962.length co46] 31 (0, 0)) (by (with_reducible repeat (first | refine blk_drewN ?_ _ | refine blk_drew ?_ | refine blk_alloc ?_ _)); refine blk_far ?_ NB966_997.out _; (with_reducible repeat (first | refine blk_drewN ?_ _ | refine blk_drew ?_ | refine blk_alloc ?_ _)); refine blk_far ?_ NB966_997.out _; (with_reducible repeat (first | refine blk_drewN ?_ _ | refine blk_drew ?_ | refine blk_alloc ?_ _)); exact BK966.out) hb); have n10_ := zA (blk_below (g := gb997) (o := .cells #[.int .i64 t992, .slice Ao136 t993.length co136] 31 (0, 0)) (by (with_reducible repeat (first | refine blk_drewN ?_ _ | refine blk_drew ?_ | refine blk_alloc ?_ _)); refine blk_put (cs := #[.int .i64 t992, .slice none 0 0]) ?_ 1 _ rfl; (with_reducible repeat (first | refine blk_drewN ?_ _ | refine blk_drew ?_ | refine blk_alloc ?_ _)); refine blk_put (cs := #[.int .i64 0, .slice none 0 0]) ?_ 0 _ rfl; (with_reducible repeat (first | refine blk_drewN ?_ _ | refine blk_drew ?_ | refine blk_alloc ?_ _)); exact BK997.out) hb); have n11_ := xH HB hb; clear HO_953001 HO_958001 HO_967001 HO988 HO991 HO995 BK938 BK952 BK957 BK966 BK997 HB; have HO_953001 := n0_; have HO_958001 := n1_; have HO_967001 := n2_; have HO988 := n3_; have HO991 := n4_; have HO995 := n5_; have BK938 := n6_; have BK952 := n7_; have BK957 := n8_; have BK966 := n9_; have BK997 := n10_; have HB := n11_; clear n0_ n1_ n2_ n3_ n4_ n5_ n6_ n7_ n8_ n9_ n10_ n11_; (try clear hb); (try clear hb2); (try clear hk); (try clear hi)))
               go_meet
               case rel => exact ⟨_, (true), (by first | rfl | (simp; done) | (simp [*]; done)), H', ⟨by have := HJ15.out; have := HJ73.out; first | omega | exact Nat.le_refl _⟩, ⟨by (try simp only [hl958001_73]); (with_reducible repeat (first | apply Kd.R_alloc | apply Kd.R_drewN | apply Kd.R_drew)); exact Kd.R_mono HO_953001.out (fun _ hk => ⟨hk.1.1.1.1, ⟨hk.1.1.1.2, hk.2⟩⟩)⟩, ⟨by (try simp only [hl958001_73]); (with_reducible repeat (first | apply Kd.R_alloc | apply Kd.R_drewN | apply Kd.R_drew)); exact Kd.R_mono HO_958001.out (fun _ hk => ⟨hk.1.1.1.1, ⟨hk.1.1.1.2, hk.2⟩⟩)⟩, ⟨by (try simp only [hl958001_73]); (with_reducible repeat (first | apply Kd.R_alloc | apply Kd.R_drewN | apply Kd.R_drew)); exact Kd.R_mono HO_967001.out (fun _ hk => ⟨hk.1.1.1.1, ⟨hk.1.1.1.2, hk.2⟩⟩)⟩, ⟨by (try simp only [hl958001_73]); (with_reducible repeat (first | apply Kd.R_alloc | apply Kd.R_drewN | apply Kd.R_drew)); exact Kd.R_mono HO995.out (fun _ hk => ⟨hk.1.1.1.1.2, ⟨hk.1.1.1.2, hk.1.1.2⟩⟩)⟩, ⟨by (try simp only [hl958001_73]); (with_reducible repeat (first | refine blk_drewN ?_ _ | refine blk_drew ?_ | refine blk_alloc ?_ _)); exact BK938.out⟩, ⟨by (try simp only [hl958001_73]); (with_reducible repeat (first | refine blk_drewN ?_ _ | refine blk_drew ?_ | refine blk_alloc ?_ _)); exact BK952.out⟩, ⟨by (try simp only [hl958001_73]); (with_reducible repeat (first | refine blk_drewN ?_ _ | refine blk_drew ?_ | refine blk_alloc ?_ _)); exact BK957.out⟩, ⟨by (try simp only [hl958001_73]); (with_reducible repeat (first | refine blk_drewN ?_ _ | refine blk_drew ?_ | refine blk_alloc ?_ _)); exact BK966.out⟩, ⟨by (try simp only [hl958001_73]); (with_reducible repeat (first | refine blk_drewN ?_ _ | refine blk_drew ?_ | refine blk_alloc ?_ _)); exact BK997.out⟩, ⟨uH HB.out⟩⟩
             case rest =>
              clear HC114
              try clear c1
              try clear c2
              try clear p2
              try clear c3
              try clear c3b0
              try clear c3b1
              try clear c4
              try clear c5
              try clear c6
              try clear c6b0
              try clear c7
              try clear c8
              try clear c9
              try clear c10
              try clear c11
              try clear c12
              try clear c13
              try clear c14
              try clear c15
              try clear c18
              try clear c20
              try clear c22
              try clear c24
              try clear c27
              try clear c33
              try clear c34
              try clear c38
              try clear c39
              try clear c40
              try clear c41
              try clear c42
              try clear c43
              try clear c44
              try clear c48
              try clear c49
              try clear c50
              try clear c51
              try clear c53
              try clear c54
              try clear c57
              try clear c58
              try clear c59
              try clear c61
              try clear c62
              try clear c65
              try clear c68
              try clear c71
              try clear c81
              try clear c82
              try clear c83
              try clear c87
              try clear c87b0
              try clear c89
              try clear c90
              try clear c91
              try clear c92
              try clear c94
              try clear c95
              try clear c98
              try clear c99
              try clear c100
              try clear c102
              try clear c103
              try clear c106
              try clear c109
              try clear c109b0
              try clear c110
              try clear c110b0
              try clear c110b1
              try clear c115
              try clear c116
              try clear c117
              try clear c122
              try clear c123
              try clear c131
              try clear c132
              try clear c133
              try clear c134
              try clear c138
              try clear c139
              try clear c140
              try clear c141
              try clear c142
              try clear c144
              try clear c145
              try clear c146
              try clear c149
              try clear c150
              try clear c151
              try clear c152
              try clear c154
              try clear c155
              try clear c156
              try clear hcz101_0
              try clear hcz101_1
              try clear hcz104_0
              try clear hcz104_1
              try clear hcz118_0
              try clear hcz118_1
              try clear hcz120_0
              try clear hcz120_1
              try clear hcz124_0
              try clear hcz124_1
              try clear hcz135_0
              try clear hcz135_1
              try clear hcz143_0
              try clear hcz143_1
              try clear hcz147_0
              try clear hcz147_1
              try clear hcz153_0
              try clear hcz153_1
              try clear hcz157_0
              try clear hcz157_1
              try clear hcz18_0
              try clear hcz18_1
              try clear hcz20_0
              try clear hcz20_1
              try clear hcz28_0
              try clear hcz28_1
              try clear hcz30_0
              try clear hcz30_1
              try clear hcz35_0
              try clear hcz35_1
              try clear hcz38_0
              try clear hcz38_1
              try clear hcz45_0
              try clear hcz45_1
              try clear hcz52_0
              try clear hcz52_1
              try clear hcz55_0
              try clear hcz55_1
              try clear hcz60_0
              try clear hcz60_1
              try clear hcz63_0
              try clear hcz63_1
              try clear hcz84_0
              try clear hcz84_1
              try clear hcz8_0
              try clear hcz8_1
              try clear hcz93_0
              try clear hcz93_1
              try clear hcz96_0
              try clear hcz96_1
              try clear hfz101_0
              try clear hfz101_1
              try clear hfz104_0
              try clear hfz104_1
              try clear hfz118_0
              try clear hfz118_1
              try clear hfz120_0
              try clear hfz120_1
              try clear hfz124_0
              try clear hfz124_1
              try clear hfz135_0
              try clear hfz135_1
              try clear hfz143_0
              try clear hfz143_1
              try clear hfz147_0
              try clear hfz147_1
              try clear hfz153_0
              try clear hfz153_1
              try clear hfz157_0
              try clear hfz157_1
              try clear hfz18_0
              try clear hfz18_1
              try clear hfz20_0
              try clear hfz20_1
              try clear hfz28_0
              try clear hfz28_1
              try clear hfz30_0
              try clear hfz30_1
              try clear hfz35_0
              try clear hfz35_1
              try clear hfz38_0
              try clear hfz38_1
              try clear hfz45_0
              try clear hfz45_1
              try clear hfz52_0
              try clear hfz52_1
              try clear hfz55_0
              try clear hfz55_1
              try clear hfz60_0
              try clear hfz60_1
              try clear hfz63_0
              try clear hfz63_1
              try clear hfz84_0
              try clear hfz84_1
              try clear hfz8_0
              try clear hfz8_1
              try clear hfz93_0
              try clear hfz93_1
              try clear hfz96_0
              try clear hfz96_1
              try clear p2
              obtain ⟨kq, x108_113, rfl, HA, HJ113, HO_953001, HO_958001, HO_967001, HO_998001, BK938, BK952, BK957, BK966, BK997, HB⟩ := hcut
              have hl967001_113 := (Kd.R_reads' HO_967001.out).1
              rw [hl967001_113] at HO_967001
              (try simp only [hl967001_113])
              (try simp only [hl967001_113] at BK938)
              (try simp only [hl967001_113] at BK952)
              (try simp only [hl967001_113] at BK957)
              (try simp only [hl967001_113] at BK966)
              (try simp only [hl967001_113] at BK997)
              (try simp only [hl967001_113] at HO_953001)
              (try simp only [hl967001_113] at HO_958001)
              (try simp only [hl967001_113] at HO_998001)
              cases kq with
              | zero => exact absurd HA.out (by simp [laws_FnExactProductMoments.j2])
              | succ kj113 =>
               have H := HA.out
               clear HA
               simp only [laws_FnExactProductMoments.j2] at H
               by_cases c159 : x108_113 = true
               ·subst c159
                have H1 : (some false) = some r := by rw [if_pos rfl] at H; exact H
                clear H
                have H := H1
                clear H1
                rw [HRT.out] at H
                exact absurd H (by simp)
               ·replace c159 := Bool.eq_false_iff.mpr c159
                subst c159
                have H1 : ((laws_heldMoments.f kj113 t961 t983 1).bind fun t999 => (if t999 < 0 then (some false) else (if t999 = t982 then (some true) else (some false)))) = some r := by rw [if_neg (show ¬ (false = true) by decide)] at H; exact H
                clear H
                have H := H1
                clear H1
                replace H := Option.bind_eq_some_iff.mp H
                obtain ⟨t999, A1600, H⟩ := H
                replace H : (if t999 < 0 then (some false) else (if t999 = t982 then (some true) else (some false))) = some r := H
                have A160 := zA A1600
                clear A1600
                by_cases c161 : t999 < 0
                ·rw [if_pos c161] at H
                 have c161b0 : decide (t999 < 0) = true := decide_eq_true c161
                 clear c161
                 rw [HRT.out] at H
                 exact absurd H (by simp)
                ·rw [if_neg c161] at H
                 have c161b0 : decide (t999 < 0) = false := decide_eq_false c161
                 clear c161
                 by_cases c162 : t999 = t982
                 ·rw [if_pos c162] at H
                  have c162b0 : (t999 == t982) = true := beq_iff_eq.mpr c162
                  have c162b1 : (t999 != t982) = false := bne_eq_false_iff_eq.mpr c162
                  clear c162
                  obtain rfl := Option.some.inj H
                  have hnb163 := NB966_938.out; have hnc163 := NB938_966.out; have hnb164 := NB966_952.out; have hnc164 := NB952_966.out; have hnb165 := NB966_957.out; have hnc165 := NB957_966.out; have hnb166 := NB966_997.out; have hnc166 := NB997_966.out
                  have hcz167_0 : wc.cell? ⟨gb966, 0, none⟩ = some (.int .i64 t961) := (blk_cell BK966.out 0).trans rfl
                  have hcz167_1 : wc.cell? ⟨gb966, 1, none⟩ = some (.slice Ao46 t983.length co46) := (blk_cell BK966.out 1).trans rfl
                  have hfz167_0 := blk_frozen BK966.out 0
                  have hfz167_1 := blk_frozen BK966.out 1
                  go_wp2_with (first | ((with_reducible refine gate_callee (f := 42) rfl ?_); refine goesL_ (some 111) rfl rfl Try.func42 (by kernel_rfl) rfl #[.agg #[.int .i64 t961, .slice Ao46 t983.length co46], .int .i64 1] rfl (by (try simp only [la, lb, lc]); first | done | rfl | (simp only [ld, le]; rfl)) ?_; (with_reducible refine (laws_heldMoments.calls kj113 t961 _ _ t983 1 t999 _ ?side1 ?side2 A160.out).mono ?_); (case side1 => exact uC ((Kd.R_reads' HO_967001.out).2.2)); (case side2 => exact (Kd.R_reads' HO_967001.out).2.1); rintro e w168 ⟨rfl, hb⟩; refine ⟨_, rfl, ?_⟩; have n0_ := xR HO_953001 hb; have n1_ := xR HO_958001 hb; have n2_ := xR HO_967001 hb; have n3_ := xR HO_998001 hb; have n4_ := xB BK938 hb; have n5_ := xB BK952 hb; have n6_ := xB BK957 hb; have n7_ := xB BK966 hb; have n8_ := xB BK997 hb; have n9_ := xH HB hb; clear HO_953001 HO_958001 HO_967001 HO_998001 BK938 BK952 BK957 BK966 BK997 HB; have HO_953001 := n0_; have HO_958001 := n1_; have HO_967001 := n2_; have HO_998001 := n3_; have BK938 := n4_; have BK952 := n5_; have BK957 := n6_; have BK966 := n7_; have BK997 := n8_; have HB := n9_; clear n0_ n1_ n2_ n3_ n4_ n5_ n6_ n7_ n8_ n9_; (try clear hb); (try clear hb2); (try clear hk); (try clear hi)))
                  go_ret
                  exact ⟨by first | rfl | (simp [errW_none, errW_some] <;> rfl) | (simp [*, errW_none, errW_some] <;> rfl), uH HB.out⟩
                 ·rw [if_neg c162] at H
                  have c162b0 : (t999 == t982) = false := beq_eq_false_iff_ne.mpr c162
                  have c162b1 : (t999 != t982) = true := bne_iff_ne.mpr c162
                  rw [HRT.out] at H
                  exact absurd H (by simp)
            ·rw [if_neg c110] at H
             have c110b0 : (t984 == t982) = false := beq_eq_false_iff_ne.mpr c110
             have c110b1 : (t984 != t982) = true := bne_iff_ne.mpr c110
             rw [HRT.out] at H
             exact absurd H (by simp)
       ·replace c71 := Bool.eq_false_iff.mpr c71
        subst c71
        have H1 : (some false) = some r := by rw [if_neg (show ¬ (false = true) by decide)] at H; exact H
        clear H
        have H := H1
        clear H1
        rw [HRT.out] at H
        exact absurd H (by simp)
      ·replace c68 := Bool.eq_false_iff.mpr c68
       subst c68
       have H1 : (some false) = some r := by rw [if_neg (show ¬ (false = true) by decide)] at H; exact H
       clear H
       have H := H1
       clear H1
       rw [HRT.out] at H
       exact absurd H (by simp)

/-- THE ONE PURE STATEMENT of laws_FnExactProductMoments: yours. -/
def laws_FnExactProductMoments.Pure : Prop := ∀ (a0_0 : Int) (l0_1 : List Int) (l1 : List Int), (Lit.int .i64 a0_0).wf = true → l0_1.length ≤ maxLen → (∀ x ∈ l0_1, (Lit.int .i64 x).wf = true) → l1.length ≤ maxLen → l1.length * 8 ≤ 140737488351232 → (∀ x ∈ l1, (Lit.int .i64 x).wf = true) → ∃ k, laws_FnExactProductMoments.f k a0_0 l0_1 l1 = some true
theorem laws_FnExactProductMoments.walk (P : laws_FnExactProductMoments.Pure) (a0_0 : Int) (a0_1 : Option Addr) (len0_1 cap0_1 : Nat) (z0_1 : List Int) (a1 : Option Addr) (len1 cap1 : Nat) (z1 : List Int) (w : World) (w0_0 : (Lit.int .i64 a0_0).wf = true) (w0_1 : (a0_1 = none ∧ len0_1 = 0 ∧ cap0_1 = 0 ∧ z0_1 = []) ∨ ∃ x, a0_1 = some x ∧ len0_1 ≤ cap0_1 ∧ cap0_1 ≤ maxLen ∧ z0_1.length = cap0_1 ∧ (∀ i, i < z0_1.length → w.cell? (x.add i) = some (.int .i64 (z0_1.getD i 0))) ∧ ∀ n ∈ z0_1, (Lit.int .i64 n).wf = true) (w1 : (a1 = none ∧ len1 = 0 ∧ cap1 = 0 ∧ z1 = []) ∨ ∃ x, a1 = some x ∧ len1 ≤ cap1 ∧ cap1 ≤ maxLen ∧ z1.length = cap1 ∧ (∀ i, i < z1.length → w.cell? (x.add i) = some (.int .i64 (z1.getD i 0))) ∧ ∀ n ∈ z1, (Lit.int .i64 n).wf = true) (y1 : len1 * 8 ≤ 140737488351232) :
  Calls Try.prog 8 #[.agg #[.int .i64 a0_0, .slice a0_1 len0_1 cap0_1], .slice a1 len1 cap1] w fun e w' => e = .returned (.bool true) ∧ Below w.heap.size w w' := by
 obtain ⟨l0_1, rfl, hr0_1, hm0_1, hw0_1, hc0_1⟩ := ReadsInt.ofRowC w0_1
 obtain ⟨l1, rfl, hr1, hm1, hw1, hc1⟩ := ReadsInt.ofRowC w1
 obtain ⟨k, h⟩ := P a0_0 l0_1 l1 w0_0 hm0_1 hw0_1 hm1 y1 hw1
 refine (laws_FnExactProductMoments.calls k a0_0 _ _ l0_1 _ _ l1 true rfl w (Kd.C_of_reads (d := (0 : Int)) (h1 := fun _ => rfl) hr0_1) hc0_1 (Kd.C_of_reads (d := (0 : Int)) (h1 := fun _ => rfl) hr1) hc1 h).mono ?_
 rintro e w' ⟨rfl, hd⟩
 exact ⟨rfl, hd⟩

end Go.Proofs.Ytokkabgkjhpecaa.Pr
