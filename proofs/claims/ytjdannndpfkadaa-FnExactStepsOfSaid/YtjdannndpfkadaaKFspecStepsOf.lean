/- Printed by a program of this session out of the translation: what these functions of the program compute, under the conditions that each theorem names. -/
import Derived.Test.YtjdannndpfkadaaKStepsOf1
import Derived.Test.YtjdannndpfkadaaKStepsOf3
import Derived.Test.YtjdannndpfkadaaKStepsOf4
import Derived.Test.YtjdannndpfkadaaKStepsOf2
import Derived.Test.YtjdannndpfkadaaKStepsOf5
namespace Go.Proofs.Ytjdannndpfkadaa.Pr
open Go.RowKit Go.Proofs.YtjdannndpfkadaaW.PrintWords Go.Proofs.YtjdannndpfkadaaW.PrintLast Go.Proofs.YtjdannndpfkadaaW.PrintMore
attribute [local go_sem] max2_int min2_int max_two min_two max_three min_three max_four min_four   -- for this text's walks alone
set_option linter.unusedVariables false
set_option linter.unusedSimpArgs false

/-! ### spec_StepsOf: function 17 -/
mutual
def spec_StepsOf.l0 : Nat → List Int → List Int → Int → Option (List Int × Int)
 | 0, _, _, _ => none
 | k + 1, x4, x5, x6 => (spec_l05Rest.f k x4).bind fun t300 => (if t300 = true then (some (x5, 0)) else (if 0 < (x4.length : Int) then (if (rd x4 0) = 0 then (some (([] : List Int), 5)) else (if x5.length < 17592186044416 then ((spec_l05Series.f k x6 (([1] : List Int)) x4 (x4.length : Int)).bind fun t308 => (spec_StepsOf.l1 k (x5 ++ [rd x4 0]) x6 (rd x4 0) t308 (([] : List Int)) 1)) else (none))) else (none)))
def spec_StepsOf.l1 : Nat → List Int → Int → Int → List Int → List Int → Int → Option (List Int × Int)
 | 0, _, _, _, _, _, _ => none
 | k + 1, x5, x6, x7, x8, x9, x10 => if x10 < (x8.length : Int) then (if 0 ≤ x10 then ((spec_l01Mod.f x6 (wrap64 ((wrap64 (-x7)) * (rd x8 x10)))).bind fun t315 => (if x9.length < 17592186044416 then (spec_StepsOf.l1 k x5 x6 x7 x8 (x9 ++ [t315]) (wrap64 (x10 + 1))) else (none))) else (none)) else (spec_StepsOf.l0 k x9 x5 x6)
end
def spec_StepsOf.f (k : Nat) (a0_0 : Int) (l0_1 : List Int) : Option (List Int × Int) := (spec_l02Are.f k a0_0 l0_1).bind fun t293 => (if t293 = true then ((spec_l01Own.f l0_1).bind fun t294 => (spec_StepsOf.l0 k t294 (([] : List Int)) a0_0)) else (some (([] : List Int), 1)))
theorem spec_StepsOf.mono_l : ∀ k, (∀ y0 y1 y2, LeO (spec_StepsOf.l0 k y0 y1 y2) (spec_StepsOf.l0 (k + 1) y0 y1 y2)) ∧ (∀ y0 y1 y2 y3 y4 y5, LeO (spec_StepsOf.l1 k y0 y1 y2 y3 y4 y5) (spec_StepsOf.l1 (k + 1) y0 y1 y2 y3 y4 y5))
 | 0 => ⟨fun _ _ _ r h => by simp [spec_StepsOf.l0] at h, fun _ _ _ _ _ _ r h => by simp [spec_StepsOf.l1] at h⟩
 | k + 1 => by
  obtain ⟨ih0, ih1⟩ := spec_StepsOf.mono_l k
  refine ⟨?_, ?_⟩
  ·intro y0 y1 y2
   unfold spec_StepsOf.l0
   repeat' first
   | (with_reducible exact ih0 _ _ _)
   | (with_reducible exact ih1 _ _ _ _ _ _)
   | (with_reducible exact spec_l02Are.mono _ _ _)
   | (with_reducible exact spec_l05Rest.mono _ _)
   | (with_reducible exact spec_l05Series.mono _ _ _ _ _)
   | (with_reducible exact LeO.refl _)
   | (with_reducible exact LeO.none _)
   | (with_reducible refine LeO.ite ?_ ?_)
   | (with_reducible refine LeO.bind ?_ (fun _ => ?_))
   | exact ih0 _ _ _
   | exact ih1 _ _ _ _ _ _
   | exact spec_l02Are.mono _ _ _
   | exact spec_l05Rest.mono _ _
   | exact spec_l05Series.mono _ _ _ _ _
   | exact LeO.none _
   | refine LeO.ite ?_ ?_
   | refine LeO.bind ?_ (fun _ => ?_)
  ·intro y0 y1 y2 y3 y4 y5
   unfold spec_StepsOf.l1
   repeat' first
   | (with_reducible exact ih0 _ _ _)
   | (with_reducible exact ih1 _ _ _ _ _ _)
   | (with_reducible exact spec_l02Are.mono _ _ _)
   | (with_reducible exact spec_l05Rest.mono _ _)
   | (with_reducible exact spec_l05Series.mono _ _ _ _ _)
   | (with_reducible exact LeO.refl _)
   | (with_reducible exact LeO.none _)
   | (with_reducible refine LeO.ite ?_ ?_)
   | (with_reducible refine LeO.bind ?_ (fun _ => ?_))
   | exact ih0 _ _ _
   | exact ih1 _ _ _ _ _ _
   | exact spec_l02Are.mono _ _ _
   | exact spec_l05Rest.mono _ _
   | exact spec_l05Series.mono _ _ _ _ _
   | exact LeO.none _
   | refine LeO.ite ?_ ?_
   | refine LeO.bind ?_ (fun _ => ?_)
theorem spec_StepsOf.mono : ∀ a0 a1 k, LeO (spec_StepsOf.f k a0 a1) (spec_StepsOf.f (k + 1) a0 a1) := by
 intro a0 a1 k
 obtain ⟨ih0, ih1⟩ := spec_StepsOf.mono_l k
 unfold spec_StepsOf.f
 repeat' first
   | (with_reducible exact ih0 _ _ _)
   | (with_reducible exact ih1 _ _ _ _ _ _)
   | (with_reducible exact spec_l02Are.mono _ _ _)
   | (with_reducible exact spec_l05Rest.mono _ _)
   | (with_reducible exact spec_l05Series.mono _ _ _ _ _)
   | (with_reducible exact LeO.refl _)
   | (with_reducible exact LeO.none _)
   | (with_reducible refine LeO.ite ?_ ?_)
   | (with_reducible refine LeO.bind ?_ (fun _ => ?_))
   | exact ih0 _ _ _
   | exact ih1 _ _ _ _ _ _
   | exact spec_l02Are.mono _ _ _
   | exact spec_l05Rest.mono _ _
   | exact spec_l05Series.mono _ _ _ _ _
   | exact LeO.none _
   | refine LeO.ite ?_ ?_
   | refine LeO.bind ?_ (fun _ => ?_)
def spec_StepsOf.T3 : Bool × List (List Nat × List Nat) := (true, [([], []), ([0], [0]), ([1], [1]), ([], []), ([], []), ([4], [4]), ([2, 2, 0, 1, 2], [2]), ([3, 6, 0, 1, 2, 3, 6], [3]), ([5, 7, 0, 1, 2, 3, 4, 5, 6, 7], [5])])
def spec_StepsOf.B3 : List Nat := [0, 1, 3, 0, 0, 16, 7, 79, 255]
theorem spec_StepsOf.tab3 : rtab .any (opsOf Try.f17 3) = spec_StepsOf.T3 := by kernel_rfl
theorem spec_StepsOf.bits3 : waitsOk spec_StepsOf.T3.2 spec_StepsOf.B3 = true := by kernel_rfl
set_option maxHeartbeats 8000000 in
set_option maxRecDepth 100000 in
theorem spec_StepsOf.calls (k : Nat) (a0_0 : Int) (A0_1 : Option Addr) (c0_1 : Nat) (l0_1 : List Int) (r1 : List Int) (r2 : Int) (w : World) (hr0_1 : Kd.C (Kd.int .i64) w A0_1 l0_1.length l0_1) (hc0_1 : l0_1.length ≤ c0_1) (h : spec_StepsOf.f k a0_0 l0_1 = some (r1, r2)) :
  Calls Try.prog 17 #[.agg #[.int .i64 a0_0, .slice A0_1 l0_1.length c0_1]] w fun e w' => ∃ v0_ : Value, e = .returned (.tuple #[v0_, .int .i64 r2]) ∧ Kd.R (Kd.int .i64) 2 w' w.heap.size (fun _ => True) v0_ r1 ∧ Below w.heap.size w w' := by
 have hu41 := Try.underlying41
 have HR0_1 := zA hr0_1
 have HC0_1 := zA hc0_1
 clear hr0_1 hc0_1
 have HB := zA (Below.refl w.heap.size w)
 have H : ((spec_l02Are.f k a0_0 l0_1).bind fun t293 => (if t293 = true then ((spec_l01Own.f l0_1).bind fun t294 => (spec_StepsOf.l0 k t294 (([] : List Int)) a0_0)) else (some (([] : List Int), 1)))) = some (r1, r2) := h
 clear h
 replace H := Option.bind_eq_some_iff.mp H
 obtain ⟨t293, A20, H⟩ := H
 replace H : (if t293 = true then ((spec_l01Own.f l0_1).bind fun t294 => (spec_StepsOf.l0 k t294 (([] : List Int)) a0_0)) else (some (([] : List Int), 1))) = some (r1, r2) := H
 have A2 := zA A20
 clear A20
 by_cases c3 : t293 = true
 ·subst c3
  have H1 : ((spec_l01Own.f l0_1).bind fun t294 => (spec_StepsOf.l0 k t294 (([] : List Int)) a0_0)) = some (r1, r2) := by rw [if_pos rfl] at H; exact H
  clear H
  have H := H1
  clear H1
  replace H := Option.bind_eq_some_iff.mp H
  obtain ⟨t294, A40, H⟩ := H
  replace H : (spec_StepsOf.l0 k t294 (([] : List Int)) a0_0) = some (r1, r2) := H
  have A4 := zA A40
  clear A40
  obtain ⟨y297, hy297⟩ : ∃ y_ : List Int, y_ = (([] : List Int)) := ⟨_, rfl⟩
  replace H : (spec_StepsOf.l0 k t294 y297 a0_0) = some (r1, r2) := by first | (rw [hy297]; with_reducible exact H) | (have H2_ := (Option.bind_some _ _).symm.trans H; rw [hy297]; with_reducible exact H2_) | (have H2_ := (Option.bind_some _ _).symm.trans H; with_reducible exact H2_) | with_reducible exact H | (rw [hy297]; exact H) | exact H
  have Ny297 := zA hy297
  clear hy297
  have H' := zA H
  clear H
  go_enter Try.func17, Try.ntmps17
  try go_wp2_with (first | ((with_reducible refine gate_dst (N := 1) rfl ?_); refine box_event ?hg (N := 1) ?hd (cs := #[.int .i64 a0_0, .slice A0_1 l0_1.length c0_1]) (t := 41) ?hr ?_; (case hd => rfl); (case hg => rfl); (case hr => first | (go_simp; done) | (go_simp; rfl)); intro gb292 hg w5 hbox hb; have n0_ := xH HB hb; have n1_ := zA (hbox); have n2_ := zA ((by rw [hg]; exact (below_size (uH HB.out)) : w.heap.size ≤ gb292)); have n3_ := zA ((by rw [hg]; exact (below_size (uH HB.out)) : w.heap.size ≤ gb292)); clear HB; have HB := n0_; have BK292 := n1_; have GW292 := n2_; have GE292 := n3_; have := geI GE292; clear n0_ n1_ n2_ n3_ hb hbox hg; have hcz6_0 : w5.cell? ⟨gb292, 0, none⟩ = some (.int .i64 a0_0) := (blk_cell BK292.out 0).trans rfl; have hcz6_1 : w5.cell? ⟨gb292, 1, none⟩ = some (.slice A0_1 l0_1.length c0_1) := (blk_cell BK292.out 1).trans rfl; have hfz6_0 := blk_frozen BK292.out 0; have hfz6_1 := blk_frozen BK292.out 1) | ((with_reducible refine gate_callee (f := 40) rfl ?_); refine goesL_ (some 12) rfl rfl Try.func40 (by kernel_rfl) rfl #[.agg #[.int .i64 a0_0, .slice A0_1 l0_1.length c0_1]] rfl (by (try simp only [la, lb, lc]); first | done | rfl | (simp only [ld, le]; rfl)) ?_; (with_reducible refine (spec_l02Are.calls k a0_0 _ _ l0_1 true _ ?side1 ?side2 A2.out).mono ?_); (case side1 => exact uC ((Kd.C_below HR0_1.out HB.out))); (case side2 => exact HC0_1.out); rintro e w7 ⟨rfl, hb⟩; refine ⟨_, rfl, ?_⟩; have n0_ := xB BK292 hb; have n1_ := xH HB hb; clear BK292 HB; have BK292 := n0_; have HB := n1_; clear n0_ n1_; (try clear hb); (try clear hb2); (try clear hk); (try clear hi)))
  have n0_ := zA (blk_drew BK292.out)
  have n1_ := zA (below_drew1 HB.out)
  clear BK292 HB
  have BK292 := n0_; have HB := n1_
  clear n0_ n1_
  refine start_ (n := 9) (S := fun w' => True) (ds := []) #[false, false, false, false, false, false, false, false, false] (by kernel_rfl) rfl rfl trivial (fun hHeld => ?_); refine with_tabW spec_StepsOf.tab3 spec_StepsOf.bits3 (fun HT_ HW_ => ?_)
  generalize w7.drew = w8 at BK292 HB hHeld ⊢
  refine pu_ 0 14 (bl 9 1) HT_ ?_
  refine pu_ 4 18 (bl 9 17) HT_ ?_
  refine inv_at [1, 2, 3, 5, 6, 7, 8] (fun a0_ b a w' => ∃ (v295 : Value) (v298 : Value) (m6_ : Value) (m7_ : Value), a = putSel a0_ b [(1, 15, .slice A0_1 l0_1.length c0_1), (2, 16, v295), (3, 17, v298), (5, 19, .int .i64 a0_0), (6, 4, m6_), (7, 5, m7_), (8, 6, .int .i64 a0_0)] ∧ (w'.heap[gb292]? = some (.cells #[.int .i64 a0_0, .slice A0_1 l0_1.length c0_1] 41 (0, 0))) ∧ (Below w.heap.size w w') ∧ (b 2 = true → Kd.R (Kd.int .i64) 2 w' w.heap.size (fun k_ => b 3 = true → some k_ ≠ (v298 : Value).ownBlock) v295 t294) ∧ (b 3 = true → Kd.R (Kd.int .i64) 2 w' w.heap.size (fun k_ => b 2 = true → some k_ ≠ (v295 : Value).ownBlock) v298 y297) ∧ (b 6 = true → (m6_ : Value) = v295) ∧ (b 7 = true → (m7_ : Value) = v298)) HT_.out HW_.out (by kernel_rfl) (by kernel_rfl) ?_ ?_ ?_
  ·exact ⟨.bool false, .bool false, .bool false, .bool false, by simp only [putSel, Bool.false_eq_true, if_false], BK292.out, HB.out, fun h_ => absurd h_ (by decide), fun h_ => absurd h_ (by decide), fun h_ => absurd h_ (by decide), fun h_ => absurd h_ (by decide)⟩
  ·skip
   clear BK292 HB
   refine steps_cons ?_ ?_
   ·rintro b a w' ⟨v295, v298, m6_, m7_, ha, Q_BK292, Q_HB, Q_HO296, Q_HO299, Q_X6_, Q_X7_⟩ hb_ hon hoff
    refine ⟨_, rfl, fun K hK => ?_⟩
    have e14 : a.tmps[14]? = some (.pointer (some ⟨gb292, 1, none⟩)) := by rw [ha]; exact (putSel_off rfl).trans rfl
    replace ha := zA ha
    have BK292 := zA Q_BK292
    have HB := zA Q_HB
    have hc0_ : w'.cell? ⟨gb292, 0, none⟩ = some (.int .i64 a0_0) := (blk_cell BK292.out 0).trans rfl
    have hc1_ : w'.cell? ⟨gb292, 1, none⟩ = some (.slice A0_1 l0_1.length c0_1) := (blk_cell BK292.out 1).trans rfl
    refine value_ (w1 := w') (v := .slice A0_1 l0_1.length c0_1) (by rfl) rfl ?_ ?_
    ·go_simp
     (try simp only [i64_w])
     try rfl
    refine hK.out _ _ ⟨v295, v298, m6_, m7_, (by rw [ha.out]; exact putSel_upk 0 hb_ rfl rfl rfl), Q_BK292, Q_HB, fun h0_ => absurd ((hoff 2 (by kernel_rfl)).symm.trans h0_) (by decide), Q_HO299, fun h0_ => absurd ((hoff 6 (by kernel_rfl)).symm.trans h0_) (by decide), fun h0_ => absurd ((hoff 7 (by kernel_rfl)).symm.trans h0_) (by decide)⟩
   refine steps_cons ?_ ?_
   ·rintro b a w' ⟨v295, v298, m6_, m7_, ha, Q_BK292, Q_HB, Q_HO296, Q_HO299, Q_X6_, Q_X7_⟩ hb_ hon hoff
    refine ⟨_, rfl, fun K hK => ?_⟩
    have e15 : a.tmps[15]? = some (.slice A0_1 l0_1.length c0_1) := by rw [ha]; exact putSel_on (e := (1, 15, .slice A0_1 l0_1.length c0_1)) 0 rfl rfl (hon 1 (by kernel_rfl)) rfl
    replace ha := zA ha
    have BK292 := zA Q_BK292
    have HB := zA Q_HB
    refine goes_ Try.func41 (by kernel_rfl) rfl #[.slice A0_1 l0_1.length c0_1] (by rfl) rfl rfl (by first | (simp only [List.map_toArray, List.map_cons, List.map_nil, Act.eval, Array.getD_eq_getD_getElem?, Option.getD_some, e15]; done) | (simp only [List.map_toArray, List.map_cons, List.map_nil, Act.eval, Array.getD_eq_getD_getElem?, Option.getD_some, e15]; rfl)) ?_
    with_reducible refine (spec_l01Own.calls _ _ l0_1 t294 _ ?side1 ?side2 A4.out).mono ?_
    (case side1 => exact uC ((Kd.C_below HR0_1.out HB.out)))
    (case side2 => exact HC0_1.out)
    rintro e w9 ⟨v295, rfl, ho0, hb⟩
    refine ⟨_, rfl, ?_⟩
    have n0_ := zA (Kd.R_lower (newC (C := b 3 = true) ho0 (fun h0_ => Kd.R_lt (uR (Q_HO299 h0_)))) (below_size (uH HB.out)))
    have n1_ := xB BK292 hb
    have n2_ := xH HB hb
    have z_HO299 := fun (h0_ : b 3 = true) => Kd.R_mono (Kd.R_elder' (uR ((Q_HO299 h0_))) (Kd.R_base ho0) hb) (ok' := fun k_ => true = true → some k_ ≠ (v295 : Value).ownBlock) (fun _ h_ _ => h_.2)
    clear BK292 HB
    have HO296 := n0_; have BK292 := n1_; have HB := n2_
    clear n0_ n1_ n2_
    (try clear hb); (try clear hb2); (try clear hk); (try clear hi); (try clear ho0)
    refine hK.out _ _ ⟨v295, v298, m6_, m7_, (by rw [ha.out]; exact putSel_upk 1 hb_ rfl rfl rfl), (uB BK292.out), (uH HB.out), fun _ => (uR HO296.out), z_HO299, fun h0_ => absurd ((hoff 6 (by kernel_rfl)).symm.trans h0_) (by decide), fun h0_ => absurd ((hoff 7 (by kernel_rfl)).symm.trans h0_) (by decide)⟩
   refine steps_cons ?_ ?_
   ·rintro b a w' ⟨v295, v298, m6_, m7_, ha, Q_BK292, Q_HB, Q_HO296, Q_HO299, Q_X6_, Q_X7_⟩ hb_ hon hoff
    refine ⟨_, rfl, fun K hK => ?_⟩
    replace ha := zA ha
    have BK292 := zA Q_BK292
    have HB := zA Q_HB
    refine Kd.R_lit_step (Kd.int .i64) _ 2 ?hg (N := 17) ?hd (xs := ([] : List Int)) (inner := []) (ok := fun _ => True) (okp := fun _ => True) ?hr ?hp (fun _ hk => hk) trivial (Below.refl _ _) (Nat.le_refl _) (by simp) ?_; (case hd => rfl); (case hg => rfl); (case hr => first | (go_simp; done) | (go_simp; rfl)); (case hp => exact (Reps.none _ _))
    intro v298 w9 ho10 hb hg_ hnew_
    clear hg_ hnew_
    (first | rw [← Ny297.out] at ho10 | (simp only [Int.reduceToNat] at ho10; rw [← Ny297.out] at ho10))
    have n0_ := zA (Kd.R_lower (newC (C := b 2 = true) ho10 (fun h0_ => Kd.R_lt (uR (Q_HO296 h0_)))) (below_size (uH HB.out)))
    have n1_ := xB BK292 hb
    have n2_ := xH HB hb
    have z_HO296 := fun (h0_ : b 2 = true) => Kd.R_mono (Kd.R_elder' (uR ((Q_HO296 h0_))) (Kd.R_base ho10) hb) (ok' := fun k_ => true = true → some k_ ≠ (v298 : Value).ownBlock) (fun _ h_ _ => h_.2)
    clear BK292 HB
    have HO299 := n0_; have BK292 := n1_; have HB := n2_
    clear n0_ n1_ n2_
    clear hb ho10
    refine hK.out _ _ ⟨v295, v298, m6_, m7_, (by rw [ha.out]; exact putSel_upk 2 hb_ rfl rfl rfl), (uB BK292.out), (uH HB.out), z_HO296, fun _ => (uR HO299.out), Q_X6_, fun h0_ => absurd ((hoff 7 (by kernel_rfl)).symm.trans h0_) (by decide)⟩
   refine steps_cons ?_ ?_
   ·rintro b a w' ⟨v295, v298, m6_, m7_, ha, Q_BK292, Q_HB, Q_HO296, Q_HO299, Q_X6_, Q_X7_⟩ hb_ hon hoff
    refine ⟨_, rfl, fun K hK => ?_⟩
    have e18 : a.tmps[18]? = some (.pointer (some ⟨gb292, 0, none⟩)) := by rw [ha]; exact (putSel_off rfl).trans rfl
    replace ha := zA ha
    have BK292 := zA Q_BK292
    have HB := zA Q_HB
    have hc0_ : w'.cell? ⟨gb292, 0, none⟩ = some (.int .i64 a0_0) := (blk_cell BK292.out 0).trans rfl
    have hc1_ : w'.cell? ⟨gb292, 1, none⟩ = some (.slice A0_1 l0_1.length c0_1) := (blk_cell BK292.out 1).trans rfl
    refine value_ (w1 := w') (v := .int .i64 a0_0) (by rfl) rfl ?_ ?_
    ·go_simp
     (try simp only [i64_w])
     try rfl
    refine hK.out _ _ ⟨v295, v298, m6_, m7_, (by rw [ha.out]; exact putSel_upk 3 hb_ rfl rfl rfl), Q_BK292, Q_HB, Q_HO296, Q_HO299, Q_X6_, Q_X7_⟩
   refine steps_cons ?_ ?_
   ·rintro b a w' ⟨v295, v298, m6_, m7_, ha, Q_BK292, Q_HB, Q_HO296, Q_HO299, Q_X6_, Q_X7_⟩ hb_ hon hoff
    refine ⟨_, rfl, fun K hK => ?_⟩
    have e16 : a.tmps[16]? = some (v295) := by rw [ha]; exact putSel_on (e := (2, 16, v295)) 1 rfl rfl (hon 2 (by kernel_rfl)) rfl
    replace ha := zA ha
    have BK292 := zA Q_BK292
    have HB := zA Q_HB
    have HO296 := zA (Q_HO296 (hon 2 (by kernel_rfl)))
    refine value_ (w1 := w') (v := v295) (by rfl) rfl ?_ ?_
    ·go_simp
     (try simp only [i64_w])
     try rfl
    refine hK.out _ _ ⟨v295, v298, (v295), m7_, (by rw [ha.out]; exact putSel_upk 4 hb_ rfl rfl rfl), Q_BK292, Q_HB, Q_HO296, Q_HO299, fun _ => rfl, fun h0_ => absurd ((hoff 7 (by kernel_rfl)).symm.trans h0_) (by decide)⟩
   refine steps_cons ?_ ?_
   ·rintro b a w' ⟨v295, v298, m6_, m7_, ha, Q_BK292, Q_HB, Q_HO296, Q_HO299, Q_X6_, Q_X7_⟩ hb_ hon hoff
    refine ⟨_, rfl, fun K hK => ?_⟩
    have e17 : a.tmps[17]? = some (v298) := by rw [ha]; exact putSel_on (e := (3, 17, v298)) 2 rfl rfl (hon 3 (by kernel_rfl)) rfl
    replace ha := zA ha
    have BK292 := zA Q_BK292
    have HB := zA Q_HB
    have HO296 := zA (Q_HO296 (hon 2 (by kernel_rfl)))
    have HO299 := zA (Q_HO299 (hon 3 (by kernel_rfl)))
    refine value_ (w1 := w') (v := v298) (by rfl) rfl ?_ ?_
    ·go_simp
     (try simp only [i64_w])
     try rfl
    refine hK.out _ _ ⟨v295, v298, m6_, (v298), (by rw [ha.out]; exact putSel_upk 5 hb_ rfl rfl rfl), Q_BK292, Q_HB, Q_HO296, Q_HO299, Q_X6_, fun _ => rfl⟩
   refine steps_cons ?_ ?_
   ·rintro b a w' ⟨v295, v298, m6_, m7_, ha, Q_BK292, Q_HB, Q_HO296, Q_HO299, Q_X6_, Q_X7_⟩ hb_ hon hoff
    refine ⟨_, rfl, fun K hK => ?_⟩
    have e19 : a.tmps[19]? = some (.int .i64 a0_0) := by rw [ha]; exact putSel_on (e := (5, 19, .int .i64 a0_0)) 3 rfl rfl (hon 5 (by kernel_rfl)) rfl
    replace ha := zA ha
    have BK292 := zA Q_BK292
    have HB := zA Q_HB
    have HO296 := zA (Q_HO296 (hon 2 (by kernel_rfl)))
    have HO299 := zA (Q_HO299 (hon 3 (by kernel_rfl)))
    refine value_ (w1 := w') (v := .int .i64 a0_0) (by rfl) rfl ?_ ?_
    ·go_simp
     (try simp only [i64_w])
     try rfl
    refine hK.out _ _ ⟨v295, v298, m6_, m7_, (by rw [ha.out]; exact putSel_upk 6 hb_ rfl rfl rfl), Q_BK292, Q_HB, Q_HO296, Q_HO299, Q_X6_, Q_X7_⟩
   exact steps_nil
  rintro b a w12 hall ⟨v295, v298, m6_, m7_, ha, Q_BK292, Q_HB, Q_HO296, Q_HO299, Q_X6_, Q_X7_⟩
  clear BK292 HB
  have hb1_ := hall 1 (by kernel_rfl)
  have hb2_ := hall 2 (by kernel_rfl)
  have hb3_ := hall 3 (by kernel_rfl)
  have hb5_ := hall 5 (by kernel_rfl)
  have hb6_ := hall 6 (by kernel_rfl)
  have hb7_ := hall 7 (by kernel_rfl)
  have hb8_ := hall 8 (by kernel_rfl)
  subst ha
  obtain rfl := Q_X6_ hb6_
  obtain rfl := Q_X7_ hb7_
  simp only [putSel, hb1_, hb2_, hb3_, hb5_, hb6_, hb7_, hb8_, if_true, Act.put, ls, lz, ln]
  have BK292 := zA Q_BK292
  clear Q_BK292
  have HB := zA Q_HB
  clear Q_HB
  have HO296 := zA (Kd.R_mono (Q_HO296 hb2_) (fun _ h_ => h_ hb3_))
  clear Q_HO296
  have HO299 := zA (Kd.R_mono (Q_HO299 hb3_) (fun _ h_ => h_ hb2_))
  clear Q_HO299
  clear hall hb1_ hb2_ hb3_ hb5_ hb6_ hb7_ hb8_
  try go_wp2
  go_loopg [4, 5] k (fun kq v4 v5 w' => ∃ (x4_1 : List Int) (x5_1 : List Int), Aside0 (spec_StepsOf.l0 kq x4_1 x5_1 a0_0 = some (r1, r2)) ∧ Aside0 (kq ≤ k) ∧ Aside0 (Kd.R (Kd.int .i64) 2 w' w.heap.size (fun k_ => some k_ ≠ (v5 : Value).ownBlock) v4 x4_1) ∧ Aside0 (Kd.R (Kd.int .i64) 2 w' w.heap.size (fun k_ => some k_ ≠ (v4 : Value).ownBlock) v5 x5_1) ∧ Aside0 (w'.heap[gb292]? = some (.cells #[.int .i64 a0_0, (.slice A0_1 l0_1.length c0_1)] 41 (0, 0))) ∧ Aside0 (Below w.heap.size w w'))
  case atStart => exact ⟨(t294), (y297), H', ⟨Nat.le_refl _⟩, ⟨uR HO296.out⟩, ⟨uR HO299.out⟩, ⟨uB BK292.out⟩, ⟨uH HB.out⟩⟩
  case round =>
   clear H'
   try clear c1
   try clear p2
   try clear c3
   try clear c4
   try clear hcz6_0
   try clear hcz6_1
   try clear hfz6_0
   try clear hfz6_1
   obtain ⟨x4_1, x5_1, HA, HK1, HO_4, HO_5, BK292, HB⟩ := hrel
   cases gk with
   | zero => exact absurd HA.out (by simp [spec_StepsOf.l0])
   | succ k1 =>
    have H := HA.out
    clear HA
    simp only [spec_StepsOf.l0] at H
    replace H := Option.bind_eq_some_iff.mp H
    obtain ⟨t300, A130, H⟩ := H
    replace H : (if t300 = true then (some (x5_1, 0)) else (if 0 < (x4_1.length : Int) then (if (rd x4_1 0) = 0 then (some (([] : List Int), 5)) else (if x5_1.length < 17592186044416 then ((spec_l05Series.f k1 a0_0 (([1] : List Int)) x4_1 (x4_1.length : Int)).bind fun t308 => (spec_StepsOf.l1 k1 (x5_1 ++ [rd x4_1 0]) a0_0 (rd x4_1 0) t308 (([] : List Int)) 1)) else (none))) else (none))) = some (r1, r2) := H
    have A13 := zA A130
    clear A130
    by_cases c14 : t300 = true
    ·subst c14
     have H1 : (some (x5_1, 0)) = some (r1, r2) := by rw [if_pos rfl] at H; exact H
     clear H
     have H := H1
     clear H1
     simp only [Option.some.injEq, Prod.mk.injEq] at H
     obtain ⟨rfl, rfl⟩ := H
     obtain ⟨Ao15, co15, eo15⟩ := Kd.R_slice HO_4.out
     subst eo15
     go_wp2_with (first | ((with_reducible refine gate_callee (f := 42) rfl ?_); refine goesL_ (some 21) rfl rfl Try.func42 (by kernel_rfl) rfl #[.slice Ao15 x4_1.length co15] rfl (by (try simp only [la, lb, lc]); first | done | rfl | (simp only [ld, le]; rfl)) ?_; (with_reducible refine (spec_l05Rest.calls k1 _ _ x4_1 true _ ?side1 ?side2 A13.out).mono ?_); (case side1 => exact uC ((Kd.R_reads' HO_4.out).2.2)); (case side2 => exact (Kd.R_reads' HO_4.out).2.1); rintro e w' ⟨rfl, ⟨nd, rfl⟩⟩; refine ⟨_, rfl, ?_⟩))
     go_ret2
     exact ⟨_, by first | rfl | (simp [errW_none, errW_some] <;> rfl) | (simp [*, errW_none, errW_some] <;> rfl), uR (Kd.R_mono HO_5.out (fun _ hk => trivial)), uH HB.out⟩
    ·replace c14 := Bool.eq_false_iff.mpr c14
     subst c14
     have H1 : (if 0 < (x4_1.length : Int) then (if (rd x4_1 0) = 0 then (some (([] : List Int), 5)) else (if x5_1.length < 17592186044416 then ((spec_l05Series.f k1 a0_0 (([1] : List Int)) x4_1 (x4_1.length : Int)).bind fun t308 => (spec_StepsOf.l1 k1 (x5_1 ++ [rd x4_1 0]) a0_0 (rd x4_1 0) t308 (([] : List Int)) 1)) else (none))) else (none)) = some (r1, r2) := by rw [if_neg (show ¬ (false = true) by decide)] at H; exact H
     clear H
     have H := H1
     clear H1
     by_cases c16 : 0 < (x4_1.length : Int)
     ·rw [if_pos c16] at H
      have c16b0 : decide (0 < (x4_1.length : Int)) = true := decide_eq_true c16
      have c16b1 : decide (0 < x4_1.length) = true := decide_eq_true (by omega)
      clear c16
      by_cases c17 : (rd x4_1 0) = 0
      ·rw [if_pos c17] at H
       have c17b0 : ((rd x4_1 0) == 0) = true := beq_iff_eq.mpr c17
       have c17b1 : ((rd x4_1 0) != 0) = false := bne_eq_false_iff_eq.mpr c17
       clear c17
       simp only [Option.some.injEq, Prod.mk.injEq] at H
       obtain ⟨rfl, rfl⟩ := H
       obtain ⟨Ao18, co18, eo18⟩ := Kd.R_slice HO_4.out
       subst eo18
       go_wp2_with (first | ((with_reducible refine gate_callee (f := 42) rfl ?_); refine goesL_ (some 21) rfl rfl Try.func42 (by kernel_rfl) rfl #[.slice Ao18 x4_1.length co18] rfl (by (try simp only [la, lb, lc]); first | done | rfl | (simp only [ld, le]; rfl)) ?_; (with_reducible refine (spec_l05Rest.calls k1 _ _ x4_1 false _ ?side1 ?side2 A13.out).mono ?_); (case side1 => exact uC ((Kd.R_reads' HO_4.out).2.2)); (case side2 => exact (Kd.R_reads' HO_4.out).2.1); rintro e w' ⟨rfl, ⟨nd, rfl⟩⟩; refine ⟨_, rfl, ?_⟩; have p301 : 0 ≤ (0 : Int) := (by omega); have q301 : 0 < (x4_1.length : Int) := of_decide_eq_true (by first | (with_reducible assumption) | assumption); obtain ⟨ad301, e301, hx301_0⟩ := Kd.at_int (Kd.R_reads' HO_4.out).2.2 0 p301 q301; cases e301; have qi301 : (0 < x4_1.length) = True := eq_true (by omega); (try rw [show ((0 : Int)).toNat = 0 from rfl] at hx301_0); (try rw [Addr.add_zero'] at hx301_0); replace p301 := eq_true p301; replace q301 := eq_true q301))
       go_ret2
       exact ⟨_, by first | rfl | (simp [errW_none, errW_some] <;> rfl) | (simp [*, errW_none, errW_some] <;> rfl), by first | exact Kd.R_nil _ _ _ _ _ | exact Kd.N_nil _ _ _ _ _ | exact Kd.V_nil _ _ _ _ _ | exact Kd.Q_nil _ _ _ _ _ | exact Kd.S_nil _ _ _ _ _, uH HB.out⟩
      ·rw [if_neg c17] at H
       have c17b0 : ((rd x4_1 0) == 0) = false := beq_eq_false_iff_ne.mpr c17
       have c17b1 : ((rd x4_1 0) != 0) = true := bne_iff_ne.mpr c17
       by_cases c19 : x5_1.length < 17592186044416
       ·rw [if_pos c19] at H
        have LMc19 := zA c19
        clear c19
        obtain ⟨y302, hy302⟩ : ∃ y_ : List Int, y_ = (x5_1 ++ [rd x4_1 0]) := ⟨_, rfl⟩
        replace H : ((spec_l05Series.f k1 a0_0 (([1] : List Int)) x4_1 (x4_1.length : Int)).bind fun t308 => (spec_StepsOf.l1 k1 y302 a0_0 (rd x4_1 0) t308 (([] : List Int)) 1)) = some (r1, r2) := by first | (rw [hy302]; with_reducible exact H) | (have H2_ := (Option.bind_some _ _).symm.trans H; rw [hy302]; with_reducible exact H2_) | (have H2_ := (Option.bind_some _ _).symm.trans H; with_reducible exact H2_) | with_reducible exact H | (rw [hy302]; exact H) | exact H
        have Ny302 := zA hy302
        clear hy302
        obtain ⟨y305, hy305⟩ : ∃ y_ : List Int, y_ = (([1] : List Int)) := ⟨_, rfl⟩
        replace H : ((spec_l05Series.f k1 a0_0 y305 x4_1 (x4_1.length : Int)).bind fun t308 => (spec_StepsOf.l1 k1 y302 a0_0 (rd x4_1 0) t308 (([] : List Int)) 1)) = some (r1, r2) := by first | (rw [hy305]; with_reducible exact H) | (have H2_ := (Option.bind_some _ _).symm.trans H; rw [hy305]; with_reducible exact H2_) | (have H2_ := (Option.bind_some _ _).symm.trans H; with_reducible exact H2_) | with_reducible exact H | (rw [hy305]; exact H) | exact H
        have Ny305 := zA hy305
        clear hy305
        replace H := Option.bind_eq_some_iff.mp H
        obtain ⟨t308, A200, H⟩ := H
        replace H : (spec_StepsOf.l1 k1 y302 a0_0 (rd x4_1 0) t308 (([] : List Int)) 1) = some (r1, r2) := H
        have A20 := zA A200
        clear A200
        obtain ⟨y311, hy311⟩ : ∃ y_ : List Int, y_ = (([] : List Int)) := ⟨_, rfl⟩
        replace H : (spec_StepsOf.l1 k1 y302 a0_0 (rd x4_1 0) t308 y311 1) = some (r1, r2) := by first | (rw [hy311]; with_reducible exact H) | (have H2_ := (Option.bind_some _ _).symm.trans H; rw [hy311]; with_reducible exact H2_) | (have H2_ := (Option.bind_some _ _).symm.trans H; with_reducible exact H2_) | with_reducible exact H | (rw [hy311]; exact H) | exact H
        have Ny311 := zA hy311
        clear hy311
        have H' := zA H
        clear H
        obtain ⟨Ao21, co21, eo21⟩ := Kd.R_slice HO_4.out
        subst eo21
        go_wp2_with (first | ((with_reducible refine gate_callee (f := 42) rfl ?_); refine goesL_ (some 21) rfl rfl Try.func42 (by kernel_rfl) rfl #[.slice Ao21 x4_1.length co21] rfl (by (try simp only [la, lb, lc]); first | done | rfl | (simp only [ld, le]; rfl)) ?_; (with_reducible refine (spec_l05Rest.calls k1 _ _ x4_1 false _ ?side1 ?side2 A13.out).mono ?_); (case side1 => exact uC ((Kd.R_reads' HO_4.out).2.2)); (case side2 => exact (Kd.R_reads' HO_4.out).2.1); rintro e w' ⟨rfl, ⟨nd, rfl⟩⟩; refine ⟨_, rfl, ?_⟩; have p301 : 0 ≤ (0 : Int) := (by omega); have q301 : 0 < (x4_1.length : Int) := of_decide_eq_true (by first | (with_reducible assumption) | assumption); obtain ⟨ad301, e301, hx301_0⟩ := Kd.at_int (Kd.R_reads' HO_4.out).2.2 0 p301 q301; cases e301; have qi301 : (0 < x4_1.length) = True := eq_true (by omega); (try rw [show ((0 : Int)).toNat = 0 from rfl] at hx301_0); (try rw [Addr.add_zero'] at hx301_0); replace p301 := eq_true p301; replace q301 := eq_true q301) | ((with_reducible refine gate_builtin (b := .append) (xs := #[.tmp 28, .tmp 30]) rfl ?_); at_builtin; refine Kd.R_append (Kd.int .i64) (w0 := w) w.heap.size rfl (.tmp 28) (.tmp 30) 22 2 (.int .i64 0) 8 rfl Try.underlying22 info2 rfl (by decide) (by omega) u5 x5_1 (rd x4_1 0) [.int .i64 (rd x4_1 0)] (fun k_ => some k_ ≠ (.slice (some ad301) x4_1.length co21 : Value).ownBlock) (fun _ => False) rfl rfl ?aP (fun _ hk => hk.elim) ?aF ?aO ?aB ?aS ?aL ?_; (case aP => exact rfl); (case aB => exact (uH HB.out)); (case aF => exact (fun k_ hk => Kd.fresh' (Kd.R_lt (uR HO_4.out)) k_ hk)); (case aO => exact (uR HO_5.out)); (case aS => exact (below_size (uH HB.out))); (case aL => have := LMc19.out; omega); intro v303 w22 ho hb hg hat; rw [← Ny302.out] at ho; have n0_ := zA (Kd.R_after (ok := (fun _ => True)) (uR (Kd.R_mono HO_4.out (fun _ hk => ⟨trivial, hk⟩))) hg hat); have n1_ := zA (blk_grown (g := gb292) (o := .cells #[.int .i64 a0_0, .slice A0_1 l0_1.length c0_1] 41 (0, 0)) (uB BK292.out) hg (Kd.R_ne HO_5.out BK292.out (by decide))); have n2_ := zA (hb); have n3_ := zA (ho); clear HO_4 BK292 HB HO_5; have HO_4 := n0_; have BK292 := n1_; have HB := n2_; have HO304 := n3_; clear n0_ n1_ n2_ n3_ ho hb hg hat) | ((with_reducible refine gate_dst (N := 33) rfl ?_); refine Kd.R_lit (Kd.int .i64) _ 2 ?hg (N := 33) ?hd (xs := ([1] : List Int)) (inner := [.int .i64 1]) (ok := fun _ => True) (okp := fun _ => True) ?hr ?hp (fun _ hk => hk) trivial (Below.refl _ _) (Nat.le_refl _) (by simp) ?_; (case hd => rfl); (case hg => rfl); (case hr => first | (go_simp; done) | (go_simp; rfl)); (case hp => exact (Reps.one (show Kd.M (Kd.int .i64) _ _ _ 1 [.int .i64 1] from rfl) (Reps.none _ _))); intro v306 w23 ho24 hb hg_ hnew_; clear hg_ hnew_; (first | rw [← Ny305.out] at ho24 | (simp only [Int.reduceToNat] at ho24; rw [← Ny305.out] at ho24)); have n0_ := zA (Kd.R_elder' (uR HO_4.out) (Kd.R_base ho24) hb); have n1_ := zA (Kd.R_elder' (uR HO304.out) (Kd.R_base ho24) hb); have n2_ := zA (Kd.R_lower (Kd.R_new' (Kd.R_new' ho24 (Kd.R_lt (uR HO_4.out))) (Kd.R_lt (uR HO304.out))) (below_size (uH HB.out))); have n3_ := xB BK292 hb; have n4_ := xH HB hb; clear HO_4 HO304 BK292 HB; have HO_4 := n0_; have HO304 := n1_; have HO307 := n2_; have BK292 := n3_; have HB := n4_; clear n0_ n1_ n2_ n3_ n4_ hb ho24; obtain ⟨Ao25, co25, eo25⟩ := Kd.R_slice HO307.out; subst eo25) | ((with_reducible refine gate_callee (f := 43) rfl ?_); refine goesL_ (some 37) rfl rfl Try.func43 (by kernel_rfl) rfl #[.int .i64 a0_0, .slice Ao25 y305.length co25, .slice (some ad301) x4_1.length co21, .int .i64 (x4_1.length : Int)] rfl (by (try simp only [la, lb, lc]); first | done | rfl | (simp only [ld, le]; rfl)) ?_; (with_reducible refine (spec_l05Series.calls k1 a0_0 _ _ y305 _ _ x4_1 (x4_1.length : Int) t308 _ ?side1 ?side2 ?side3 ?side4 A20.out).mono ?_); (case side1 => exact uC ((Kd.R_reads' HO307.out).2.2)); (case side2 => exact (Kd.R_reads' HO307.out).2.1); (case side3 => exact uC ((Kd.R_reads' HO_4.out).2.2)); (case side4 => exact (Kd.R_reads' HO_4.out).2.1); rintro e w26 ⟨v309, rfl, ho0, hb⟩; refine ⟨_, rfl, ?_⟩; have n0_ := zA (Kd.R_elder' (uR HO_4.out) (Kd.R_base ho0) hb); have n1_ := zA (Kd.R_elder' (uR HO304.out) (Kd.R_base ho0) hb); have n2_ := zA (Kd.R_elder' (uR HO307.out) (Kd.R_base ho0) hb); have n3_ := zA (Kd.R_lower (Kd.R_new' (Kd.R_new' (Kd.R_new' ho0 (Kd.R_lt (uR HO_4.out))) (Kd.R_lt (uR HO304.out))) (Kd.R_lt (uR HO307.out))) (below_size (uH HB.out))); have n4_ := xB BK292 hb; have n5_ := xH HB hb; clear HO_4 HO304 HO307 BK292 HB; have HO_4 := n0_; have HO304 := n1_; have HO307 := n2_; have HO310 := n3_; have BK292 := n4_; have HB := n5_; clear n0_ n1_ n2_ n3_ n4_ n5_; (try clear hb); (try clear hb2); (try clear hk); (try clear hi); (try clear ho0)) | ((with_reducible refine gate_dst (N := 38) rfl ?_); refine Kd.R_lit (Kd.int .i64) _ 2 ?hg (N := 38) ?hd (xs := ([] : List Int)) (inner := []) (ok := fun _ => True) (okp := fun _ => True) ?hr ?hp (fun _ hk => hk) trivial (Below.refl _ _) (Nat.le_refl _) (by simp) ?_; (case hd => rfl); (case hg => rfl); (case hr => first | (go_simp; done) | (go_simp; rfl)); (case hp => exact (Reps.none _ _)); intro v312 w27 ho28 hb hg_ hnew_; clear hg_ hnew_; (first | rw [← Ny311.out] at ho28 | (simp only [Int.reduceToNat] at ho28; rw [← Ny311.out] at ho28)); have n0_ := zA (Kd.R_elder' (uR HO_4.out) (Kd.R_base ho28) hb); have n1_ := zA (Kd.R_elder' (uR HO304.out) (Kd.R_base ho28) hb); have n2_ := zA (Kd.R_elder' (uR HO307.out) (Kd.R_base ho28) hb); have n3_ := zA (Kd.R_elder' (uR HO310.out) (Kd.R_base ho28) hb); have n4_ := zA (Kd.R_lower (Kd.R_new' (Kd.R_new' (Kd.R_new' (Kd.R_new' ho28 (Kd.R_lt (uR HO_4.out))) (Kd.R_lt (uR HO304.out))) (Kd.R_lt (uR HO307.out))) (Kd.R_lt (uR HO310.out))) (below_size (uH HB.out))); have n5_ := xB BK292 hb; have n6_ := xH HB hb; clear HO_4 HO304 HO307 HO310 BK292 HB; have HO_4 := n0_; have HO304 := n1_; have HO307 := n2_; have HO310 := n3_; have HO313 := n4_; have BK292 := n5_; have HB := n6_; clear n0_ n1_ n2_ n3_ n4_ n5_ n6_ hb ho28))
        go_loopg [9, 10] k1 (fun kq v9 v10 w' => ∃ (x9_2 : List Int) (x10_2 : Int), v10 = .int .i64 x10_2 ∧ Aside0 (spec_StepsOf.l1 kq y302 a0_0 (rd x4_1 0) t308 x9_2 x10_2 = some (r1, r2)) ∧ Aside0 (kq ≤ k1) ∧ Aside0 (Kd.R (Kd.int .i64) 2 w' w.heap.size (fun k_ => some k_ ≠ (v309 : Value).ownBlock ∧ some k_ ≠ (v9 : Value).ownBlock) v303 y302) ∧ Aside0 (Kd.R (Kd.int .i64) 2 w' w.heap.size (fun k_ => some k_ ≠ (v303 : Value).ownBlock ∧ some k_ ≠ (v9 : Value).ownBlock) v309 t308) ∧ Aside0 (Kd.R (Kd.int .i64) 2 w' w.heap.size (fun k_ => some k_ ≠ (v303 : Value).ownBlock ∧ some k_ ≠ (v309 : Value).ownBlock) v9 x9_2) ∧ Aside0 (w'.heap[gb292]? = some (.cells #[.int .i64 a0_0, (.slice A0_1 l0_1.length c0_1)] 41 (0, 0))) ∧ Aside0 (Below w.heap.size w w'))
        case atStart => exact ⟨(y311), (1), (by first | rfl | (simp; done) | (simp [*]; done)), H', ⟨Nat.le_refl _⟩, ⟨uR (Kd.R_mono HO304.out (fun _ hk => ⟨hk.1.2, hk.2⟩))⟩, ⟨uR (Kd.R_mono HO310.out (fun _ hk => ⟨hk.1.1.2, hk.2⟩))⟩, ⟨uR (Kd.R_mono HO313.out (fun _ hk => ⟨hk.1.1.2, hk.2⟩))⟩, ⟨uB BK292.out⟩, ⟨uH HB.out⟩⟩
        case round =>
         clear H'
         try clear c1
         try clear p2
         try clear c3
         try clear p3
         try clear q3
         try clear hx3
         try clear qi3
         try clear c4
         try clear c14
         try clear c16
         try clear c16b0
         try clear c16b1
         try clear c17
         try clear c17b0
         try clear c17b1
         try clear c19
         try clear hcz6_0
         try clear hcz6_1
         try clear hfz6_0
         try clear hfz6_1
         try clear hx301_0
         try clear p2
         try clear p301
         try clear q301
         obtain ⟨x9_2, x10_2, rfl, HA, HK2, HO_5, HO_8, HO_9, BK292, HB⟩ := hrel
         cases gk with
         | zero => exact absurd HA.out (by simp [spec_StepsOf.l1])
         | succ k2 =>
          have H := HA.out
          clear HA
          simp only [spec_StepsOf.l1] at H
          by_cases c29 : x10_2 < (t308.length : Int)
          ·rw [if_pos c29] at H
           have c29b0 : decide (x10_2 < (t308.length : Int)) = true := decide_eq_true c29
           clear c29
           by_cases c30 : 0 ≤ x10_2
           ·rw [if_pos c30] at H
            have c30b0 : decide (0 ≤ x10_2) = true := decide_eq_true c30
            clear c30
            replace H := Option.bind_eq_some_iff.mp H
            obtain ⟨t315, A310, H⟩ := H
            replace H : (if x9_2.length < 17592186044416 then (spec_StepsOf.l1 k2 y302 a0_0 (rd x4_1 0) t308 (x9_2 ++ [t315]) (wrap64 (x10_2 + 1))) else (none)) = some (r1, r2) := H
            have A31 := zA A310
            clear A310
            by_cases c32 : x9_2.length < 17592186044416
            ·rw [if_pos c32] at H
             have LMc32 := zA c32
             clear c32
             obtain ⟨y316, hy316⟩ : ∃ y_ : List Int, y_ = (x9_2 ++ [t315]) := ⟨_, rfl⟩
             replace H : (spec_StepsOf.l1 k2 y302 a0_0 (rd x4_1 0) t308 y316 (wrap64 (x10_2 + 1))) = some (r1, r2) := by first | (rw [hy316]; with_reducible exact H) | (have H2_ := (Option.bind_some _ _).symm.trans H; rw [hy316]; with_reducible exact H2_) | (have H2_ := (Option.bind_some _ _).symm.trans H; with_reducible exact H2_) | with_reducible exact H | (rw [hy316]; exact H) | exact H
             have Ny316 := zA hy316
             clear hy316
             have H' := zA H
             clear H
             obtain ⟨Ao33, co33, eo33⟩ := Kd.R_slice HO_8.out
             subst eo33
             have p314 : 0 ≤ (x10_2 : Int) := of_decide_eq_true (by first | (with_reducible assumption) | assumption)
             have q314 : x10_2 < (t308.length : Int) := of_decide_eq_true (by first | (with_reducible assumption) | assumption)
             obtain ⟨ad314, e314, hx314_0⟩ := Kd.at_int (Kd.R_reads' HO_8.out).2.2 x10_2 p314 q314
             cases e314
             replace p314 := eq_true p314
             replace q314 := eq_true q314
             go_wp2_with (first | ((with_reducible refine gate_callee (f := 44) rfl ?_); refine goesL_ (some 54) rfl rfl Try.func44 (by kernel_rfl) rfl #[.int .i64 a0_0, .int .i64 (wrap64 ((wrap64 (-(rd x4_1 0))) * (rd t308 x10_2)))] rfl (by (try simp only [la, lb, lc]); first | done | rfl | (simp only [ld, le]; rfl)) ?_; (with_reducible refine (spec_l01Mod.calls a0_0 (wrap64 ((wrap64 (-(rd x4_1 0))) * (rd t308 x10_2))) t315 _ A31.out).mono ?_); rintro e w' ⟨rfl, ⟨nd, rfl⟩⟩; refine ⟨_, rfl, ?_⟩) | ((with_reducible refine gate_builtin (b := .append) (xs := #[.tmp 45, .tmp 55]) rfl ?_); at_builtin; refine Kd.R_append (Kd.int .i64) (w0 := w) w.heap.size rfl (.tmp 45) (.tmp 55) 22 2 (.int .i64 0) 8 rfl Try.underlying22 info2 rfl (by decide) (by omega) u9 x9_2 t315 [.int .i64 t315] (fun k_ => some k_ ≠ (v303 : Value).ownBlock ∧ some k_ ≠ (.slice (some ad314) t308.length co33 : Value).ownBlock) (fun _ => False) rfl rfl ?aP (fun _ hk => hk.elim) ?aF ?aO ?aB ?aS ?aL ?_; (case aP => exact rfl); (case aB => exact (uH HB.out)); (case aF => exact (fun k_ hk => ⟨Kd.fresh' (Kd.R_lt (uR HO_5.out)) k_ hk, Kd.fresh' (Kd.R_lt (uR HO_8.out)) k_ hk⟩)); (case aO => exact (uR HO_9.out)); (case aS => exact (below_size (uH HB.out))); (case aL => have := LMc32.out; omega); intro v317 w34 ho hb hg hat; rw [← Ny316.out] at ho; have n0_ := zA (Kd.R_after (ok := (fun k_ => some k_ ≠ (.slice (some ad314) t308.length co33 : Value).ownBlock)) (uR HO_5.out) hg hat); have n1_ := zA (Kd.R_after (ok := (fun k_ => some k_ ≠ (v303 : Value).ownBlock)) (uR HO_8.out) hg hat); have n2_ := zA (blk_grown (g := gb292) (o := .cells #[.int .i64 a0_0, .slice A0_1 l0_1.length c0_1] 41 (0, 0)) (uB BK292.out) hg (Kd.R_ne HO_9.out BK292.out (by decide))); have n3_ := zA (hb); have n4_ := zA (ho); clear HO_5 HO_8 BK292 HB HO_9; have HO_5 := n0_; have HO_8 := n1_; have BK292 := n2_; have HB := n3_; have HO318 := n4_; clear n0_ n1_ n2_ n3_ n4_ ho hb hg hat))
             go_roundg k2
             case measure => have := HK1.out; have := HK2.out; omega
             case rel => exact ⟨(y316), (wrap64 (x10_2 + 1)), (by first | rfl | (simp; done) | (simp [*]; done)), H', ⟨by have := HK1.out; have := HK2.out; omega⟩, ⟨uR HO_5.out⟩, ⟨uR HO_8.out⟩, ⟨uR HO318.out⟩, ⟨uB BK292.out⟩, ⟨uH HB.out⟩⟩
            ·rw [if_neg c32] at H
             exact absurd H (by simp)
           ·rw [if_neg c30] at H
            exact absurd H (by simp)
          ·rw [if_neg c29] at H
           have c29b0 : decide (x10_2 < (t308.length : Int)) = false := decide_eq_false c29
           clear c29
           have H' := zA H
           clear H
           obtain ⟨Ao35, co35, eo35⟩ := Kd.R_slice HO_8.out
           subst eo35
           go_wp2
           go_roundg k2
           case measure => have := HK1.out; have := HK2.out; omega
           case rel => exact ⟨(x9_2), (y302), H', ⟨by have := HK1.out; have := HK2.out; omega⟩, ⟨uR (Kd.R_mono HO_9.out (fun _ hk => hk.1))⟩, ⟨uR (Kd.R_mono HO_5.out (fun _ hk => hk.2))⟩, ⟨uB BK292.out⟩, ⟨uH HB.out⟩⟩
       ·rw [if_neg c19] at H
        exact absurd H (by simp)
     ·rw [if_neg c16] at H
      exact absurd H (by simp)
 ·replace c3 := Bool.eq_false_iff.mpr c3
  subst c3
  have H1 : (some (([] : List Int), 1)) = some (r1, r2) := by rw [if_neg (show ¬ (false = true) by decide)] at H; exact H
  clear H
  have H := H1
  clear H1
  simp only [Option.some.injEq, Prod.mk.injEq] at H
  obtain ⟨rfl, rfl⟩ := H
  go_enter Try.func17, Try.ntmps17
  go_wp2_with (first | ((with_reducible refine gate_dst (N := 1) rfl ?_); refine box_event ?hg (N := 1) ?hd (cs := #[.int .i64 a0_0, .slice A0_1 l0_1.length c0_1]) (t := 41) ?hr ?_; (case hd => rfl); (case hg => rfl); (case hr => first | (go_simp; done) | (go_simp; rfl)); intro gb292 hg w36 hbox hb; have n0_ := xH HB hb; have n1_ := zA (hbox); have n2_ := zA ((by rw [hg]; exact (below_size (uH HB.out)) : w.heap.size ≤ gb292)); have n3_ := zA ((by rw [hg]; exact (below_size (uH HB.out)) : w.heap.size ≤ gb292)); clear HB; have HB := n0_; have BK292 := n1_; have GW292 := n2_; have GE292 := n3_; have := geI GE292; clear n0_ n1_ n2_ n3_ hb hbox hg; have hcz37_0 : w36.cell? ⟨gb292, 0, none⟩ = some (.int .i64 a0_0) := (blk_cell BK292.out 0).trans rfl; have hcz37_1 : w36.cell? ⟨gb292, 1, none⟩ = some (.slice A0_1 l0_1.length c0_1) := (blk_cell BK292.out 1).trans rfl; have hfz37_0 := blk_frozen BK292.out 0; have hfz37_1 := blk_frozen BK292.out 1) | ((with_reducible refine gate_callee (f := 40) rfl ?_); refine goesL_ (some 12) rfl rfl Try.func40 (by kernel_rfl) rfl #[.agg #[.int .i64 a0_0, .slice A0_1 l0_1.length c0_1]] rfl (by (try simp only [la, lb, lc]); first | done | rfl | (simp only [ld, le]; rfl)) ?_; (with_reducible refine (spec_l02Are.calls k a0_0 _ _ l0_1 false _ ?side1 ?side2 A2.out).mono ?_); (case side1 => exact uC ((Kd.C_below HR0_1.out HB.out))); (case side2 => exact HC0_1.out); rintro e w38 ⟨rfl, hb⟩; refine ⟨_, rfl, ?_⟩; have n0_ := xB BK292 hb; have n1_ := xH HB hb; clear BK292 HB; have BK292 := n0_; have HB := n1_; clear n0_ n1_; (try clear hb); (try clear hb2); (try clear hk); (try clear hi)))
  go_ret2
  exact ⟨_, by first | rfl | (simp [errW_none, errW_some] <;> rfl) | (simp [*, errW_none, errW_some] <;> rfl), by first | exact Kd.R_nil _ _ _ _ _ | exact Kd.N_nil _ _ _ _ _ | exact Kd.V_nil _ _ _ _ _ | exact Kd.Q_nil _ _ _ _ _ | exact Kd.S_nil _ _ _ _ _, uH HB.out⟩

end Go.Proofs.Ytjdannndpfkadaa.Pr
