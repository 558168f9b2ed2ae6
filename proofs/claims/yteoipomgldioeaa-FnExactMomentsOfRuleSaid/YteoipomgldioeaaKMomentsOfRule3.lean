/- Texts of this session in one: what functions of the program compute, and plain facts of it, under the conditions that each theorem names. -/
import Derived.Test.YteoipomgldioeaaKFspecl07Is
import Derived.Test.YteoipomgldioeaaKC01
import Derived.Test.YteoipomgldioeaaKC03
import Derived.Test.YteoipomgldioeaaKC04
import Derived.Test.YteoipomgldioeaaKC05
import Derived.Test.YteoipomgldioeaaKMomentsOfRule1
import Derived.Test.YteoipomgldioeaaKMomentsOfRule2
/- Printed by a program of this session out of the translation: what these functions of the program compute, under the conditions that each theorem names. -/
namespace Go.Proofs.Yteoipomgldioeaa.Pr
open Go.RowKit Go.Proofs.YteoipomgldioeaaW.PrintWords Go.Proofs.YteoipomgldioeaaW.PrintLast Go.Proofs.YteoipomgldioeaaW.PrintMore
attribute [local go_sem] max2_int min2_int max_two min_two max_three min_three max_four min_four   -- for this text's walks alone
set_option linter.unusedVariables false
set_option linter.unusedSimpArgs false

/-! ### spec_MomentsOfRule: function 28 -/
def spec_MomentsOfRule.f (k : Nat) (a0_0 : Int) (l0_1 : List Int) (l0_2 : List Int) (a1 : Int) : Option (Int × List Int × Int) := (spec_l07Is.f k a0_0 l0_1 l0_2).bind fun t434 => (if t434 = true then ((spec_l01In.f a1 1 24).bind fun t435 => (if t435 = true then ((spec_l07Moments.f k a0_0 l0_1 l0_2 a1).bind fun t436 => (some (a0_0, t436, 0))) else (some (0, ([] : List Int), 2)))) else (some (0, ([] : List Int), 1)))
theorem spec_MomentsOfRule.mono : ∀ a0 a1 a2 a3 k, LeO (spec_MomentsOfRule.f k a0 a1 a2 a3) (spec_MomentsOfRule.f (k + 1) a0 a1 a2 a3) := by
 intro a0 a1 a2 a3 k
 unfold spec_MomentsOfRule.f
 repeat' first
   | (with_reducible exact spec_l07Is.mono _ _ _ _)
   | (with_reducible exact spec_l07Moments.mono _ _ _ _ _)
   | (with_reducible exact LeO.refl _)
   | (with_reducible exact LeO.none _)
   | (with_reducible refine LeO.ite ?_ ?_)
   | (with_reducible refine LeO.bind ?_ (fun _ => ?_))
   | exact spec_l07Is.mono _ _ _ _
   | exact spec_l07Moments.mono _ _ _ _ _
   | exact LeO.none _
   | refine LeO.ite ?_ ?_
   | refine LeO.bind ?_ (fun _ => ?_)
def spec_MomentsOfRule.T5 : Bool × List (List Nat × List Nat) := (true, [([], []), ([0], [0]), ([], []), ([], []), ([2, 3], [2, 3]), ([1, 4], [1, 4]), ([5, 4, 0, 1, 2, 3, 4, 5], [5]), ([6, 0, 1, 2, 3, 4, 5, 6], [])])
def spec_MomentsOfRule.B5 : List Nat := [0, 1, 0, 0, 12, 31, 63, 127]
theorem spec_MomentsOfRule.tab5 : rtab .any (opsOf Try.f28 5) = spec_MomentsOfRule.T5 := by kernel_rfl
theorem spec_MomentsOfRule.bits5 : waitsOk spec_MomentsOfRule.T5.2 spec_MomentsOfRule.B5 = true := by kernel_rfl
set_option maxHeartbeats 8000000 in
set_option maxRecDepth 100000 in
theorem spec_MomentsOfRule.calls (k : Nat) (a0_0 : Int) (A0_1 : Option Addr) (c0_1 : Nat) (l0_1 : List Int) (A0_2 : Option Addr) (c0_2 : Nat) (l0_2 : List Int) (a1 : Int) (r1 : Int) (r2 : List Int) (r3 : Int) (w : World) (hr0_1 : Kd.C (Kd.int .i64) w A0_1 l0_1.length l0_1) (hc0_1 : l0_1.length ≤ c0_1) (hr0_2 : Kd.C (Kd.int .i64) w A0_2 l0_2.length l0_2) (hc0_2 : l0_2.length ≤ c0_2) (h : spec_MomentsOfRule.f k a0_0 l0_1 l0_2 a1 = some (r1, r2, r3)) :
  Calls Try.prog 28 #[.agg #[.int .i64 a0_0, .slice A0_1 l0_1.length c0_1, .slice A0_2 l0_2.length c0_2], .int .i64 a1] w fun e w' => ∃ v1_ : Value, e = .returned (.tuple #[.agg #[.int .i64 r1, v1_], .int .i64 r3]) ∧ Kd.R (Kd.int .i64) 2 w' w.heap.size (fun _ => True) v1_ r2 ∧ Below w.heap.size w w' := by
 have hu26 := Try.underlying26
 have hu42 := Try.underlying42
 have HR0_1 := zA hr0_1
 have HC0_1 := zA hc0_1
 clear hr0_1 hc0_1
 have HR0_2 := zA hr0_2
 have HC0_2 := zA hc0_2
 clear hr0_2 hc0_2
 have HB := zA (Below.refl w.heap.size w)
 have H : ((spec_l07Is.f k a0_0 l0_1 l0_2).bind fun t434 => (if t434 = true then ((spec_l01In.f a1 1 24).bind fun t435 => (if t435 = true then ((spec_l07Moments.f k a0_0 l0_1 l0_2 a1).bind fun t436 => (some (a0_0, t436, 0))) else (some (0, ([] : List Int), 2)))) else (some (0, ([] : List Int), 1)))) = some (r1, r2, r3) := h
 clear h
 replace H := Option.bind_eq_some_iff.mp H
 obtain ⟨t434, A30, H⟩ := H
 replace H : (if t434 = true then ((spec_l01In.f a1 1 24).bind fun t435 => (if t435 = true then ((spec_l07Moments.f k a0_0 l0_1 l0_2 a1).bind fun t436 => (some (a0_0, t436, 0))) else (some (0, ([] : List Int), 2)))) else (some (0, ([] : List Int), 1))) = some (r1, r2, r3) := H
 have A3 := zA A30
 clear A30
 by_cases c4 : t434 = true
 ·subst c4
  have H1 : ((spec_l01In.f a1 1 24).bind fun t435 => (if t435 = true then ((spec_l07Moments.f k a0_0 l0_1 l0_2 a1).bind fun t436 => (some (a0_0, t436, 0))) else (some (0, ([] : List Int), 2)))) = some (r1, r2, r3) := by rw [if_pos rfl] at H; exact H
  clear H
  have H := H1
  clear H1
  replace H := Option.bind_eq_some_iff.mp H
  obtain ⟨t435, A50, H⟩ := H
  replace H : (if t435 = true then ((spec_l07Moments.f k a0_0 l0_1 l0_2 a1).bind fun t436 => (some (a0_0, t436, 0))) else (some (0, ([] : List Int), 2))) = some (r1, r2, r3) := H
  have A5 := zA A50
  clear A50
  by_cases c6 : t435 = true
  ·subst c6
   have H1 : ((spec_l07Moments.f k a0_0 l0_1 l0_2 a1).bind fun t436 => (some (a0_0, t436, 0))) = some (r1, r2, r3) := by rw [if_pos rfl] at H; exact H
   clear H
   have H := H1
   clear H1
   replace H := Option.bind_eq_some_iff.mp H
   obtain ⟨t436, A70, H⟩ := H
   replace H : (some (a0_0, t436, 0)) = some (r1, r2, r3) := H
   have A7 := zA A70
   clear A70
   simp only [Option.some.injEq, Prod.mk.injEq] at H
   obtain ⟨rfl, rfl, rfl⟩ := H
   go_enter Try.func28, Try.ntmps28
   try go_wp2_with (first | ((with_reducible refine gate_dst (N := 2) rfl ?_); refine box_event ?hg (N := 2) ?hd (cs := #[.int .i64 a0_0, .slice A0_1 l0_1.length c0_1, .slice A0_2 l0_2.length c0_2]) (t := 26) ?hr ?_; (case hd => rfl); (case hg => rfl); (case hr => first | (go_simp; done) | (go_simp; rfl)); intro gb432 hg w8 hbox hb; have n0_ := xH HB hb; have n1_ := zA (hbox); have n2_ := zA ((by rw [hg]; exact (below_size (uH HB.out)) : w.heap.size ≤ gb432)); have n3_ := zA ((by rw [hg]; exact (below_size (uH HB.out)) : w.heap.size ≤ gb432)); clear HB; have HB := n0_; have BK432 := n1_; have GW432 := n2_; have GE432 := n3_; have := geI GE432; clear n0_ n1_ n2_ n3_ hb hbox hg) | ((with_reducible refine gate_dst (N := 4) rfl ?_); refine box_event ?hg (N := 4) ?hd (cs := #[.int .i64 0, .slice none 0 0]) (t := 42) ?hr ?_; (case hd => rfl); (case hg => rfl); (case hr => first | (go_simp; done) | (go_simp; rfl)); intro gb433 hg w9 hbox hb; have n0_ := xB BK432 hb; have n1_ := xH HB hb; have n2_ := zA (hbox); have n3_ := zA ((by rw [hg]; exact (below_size (uH HB.out)) : w.heap.size ≤ gb433)); have n4_ := zA ((by rw [hg]; exact (below_size (uH HB.out)) : w.heap.size ≤ gb433)); have n5_ := zA ((by rw [hg]; exact neL BK432 : gb432 ≠ gb433)); have n6_ := zA ((by rw [hg]; exact neG BK432 : gb433 ≠ gb432)); clear BK432 HB; have BK432 := n0_; have HB := n1_; have BK433 := n2_; have GW433 := n3_; have GE433 := n4_; have := geI GE433; have NB432_433 := n5_; have NB433_432 := n6_; clear n0_ n1_ n2_ n3_ n4_ n5_ n6_ hb hbox hg; have hnb10 := NB432_433.out; have hnc10 := NB433_432.out; have hcz11_0 : w9.cell? ⟨gb432, 0, none⟩ = some (.int .i64 a0_0) := (blk_cell BK432.out 0).trans rfl; have hcz11_1 : w9.cell? ⟨gb432, 1, none⟩ = some (.slice A0_1 l0_1.length c0_1) := (blk_cell BK432.out 1).trans rfl; have hcz11_2 : w9.cell? ⟨gb432, 2, none⟩ = some (.slice A0_2 l0_2.length c0_2) := (blk_cell BK432.out 2).trans rfl; have hfz11_0 := blk_frozen BK432.out 0; have hfz11_1 := blk_frozen BK432.out 1; have hfz11_2 := blk_frozen BK432.out 2) | ((with_reducible refine gate_callee (f := 52) rfl ?_); refine goesL_ (some 8) rfl rfl Try.func52 (by kernel_rfl) rfl #[.agg #[.int .i64 a0_0, .slice A0_1 l0_1.length c0_1, .slice A0_2 l0_2.length c0_2]] rfl (by (try simp only [la, lb, lc]); first | done | rfl | (simp only [ld, le]; rfl)) ?_; (with_reducible refine (spec_l07Is.calls k a0_0 _ _ l0_1 _ _ l0_2 true _ ?side1 ?side2 ?side3 ?side4 A3.out).mono ?_); (case side1 => exact uC ((Kd.C_below HR0_1.out HB.out))); (case side2 => exact HC0_1.out); (case side3 => exact uC ((Kd.C_below HR0_2.out HB.out))); (case side4 => exact HC0_2.out); rintro e w12 ⟨rfl, hb⟩; refine ⟨_, rfl, ?_⟩; have n0_ := xB BK432 hb; have n1_ := xB BK433 hb; have n2_ := xH HB hb; clear BK432 BK433 HB; have BK432 := n0_; have BK433 := n1_; have HB := n2_; clear n0_ n1_ n2_; (try clear hb); (try clear hb2); (try clear hk); (try clear hi)) | ((with_reducible refine gate_callee (f := 61) rfl ?_); refine goesL_ (some 13) rfl rfl Try.func61 (by kernel_rfl) rfl #[.int .i64 a1, .int .i64 1, .int .i64 24] rfl (by (try simp only [la, lb, lc]); first | done | rfl | (simp only [ld, le]; rfl)) ?_; (with_reducible refine (spec_l01In.calls a1 1 24 true _ A5.out).mono ?_); rintro e w' ⟨rfl, ⟨nd, rfl⟩⟩; refine ⟨_, rfl, ?_⟩; (try (rw [drewN_self w12]; generalize hq_ : World.drewN w12 _ = w12; have n0_ : Aside0 (w12.heap[gb432]? = some (.cells #[.int .i64 a0_0, .slice A0_1 l0_1.length c0_1, .slice A0_2 l0_2.length c0_2] 26 (0, 0))) := ⟨by rw [← hq_]; exact (uB BK432.out)⟩; have n1_ : Aside0 (w12.heap[gb433]? = some (.cells #[.int .i64 0, .slice none 0 0] 42 (0, 0))) := ⟨by rw [← hq_]; exact (uB BK433.out)⟩; have n2_ : Aside0 (Below w.heap.size w w12) := ⟨by rw [← hq_]; exact (uH HB.out)⟩; clear BK432 BK433 HB hq_; have BK432 := n0_; have BK433 := n1_; have HB := n2_; clear n0_ n1_ n2_))))
   have n0_ := zA (blk_drew BK432.out)
   have n1_ := zA (blk_drew BK433.out)
   have n2_ := zA (below_drew1 HB.out)
   clear BK432 BK433 HB
   have BK432 := n0_; have BK433 := n1_; have HB := n2_
   clear n0_ n1_ n2_
   refine start_ (n := 8) (S := fun w' => w'.cell? ⟨gb432, 0, none⟩ = some (.int .i64 a0_0) ∧ w'.cell? ⟨gb432, 1, none⟩ = some (.slice A0_1 l0_1.length c0_1) ∧ w'.cell? ⟨gb432, 2, none⟩ = some (.slice A0_2 l0_2.length c0_2)) (ds := []) #[false, false, false, false, false, false, false, false] (by kernel_rfl) rfl rfl ⟨(blk_cell BK432.out 0).trans rfl, (blk_cell BK432.out 1).trans rfl, (blk_cell BK432.out 2).trans rfl⟩ (fun hHeld => ?_); refine with_tabW spec_MomentsOfRule.tab5 spec_MomentsOfRule.bits5 (fun HT_ HW_ => ?_)
   generalize w12.drew = w13 at BK432 BK433 HB hHeld ⊢
   refine pure_ (i := 0) (N := some 16) (v := ?_) (a' := ?_) #[true, false, false, false, false, false, false, false] rfl rfl (any_of HT_.out (by kernel_rfl)) (fun _ _ _ h => h) (Or.inl ⟨by rfl, ?_⟩) ?_ ?_
   rotate_left
   ·intro w'
    go_simp
    with_reducible rfl
   rotate_left
   ·simp only [Act.put, ls, lz, ln, i64_w, i32_w]
    rfl
   refine pure_ (i := 3) (N := some 19) (v := ?_) (a' := ?_) #[true, false, false, true, false, false, false, false] rfl rfl (any_of HT_.out (by kernel_rfl)) (fun _ _ _ h => h) (Or.inl ⟨by rfl, ?_⟩) ?_ ?_
   rotate_left
   ·intro w'
    go_simp
    with_reducible rfl
   rotate_left
   ·simp only [Act.put, ls, lz, ln, i64_w, i32_w]
    rfl
   refine take_ (i := 1) (N := some 17) (v := ?_) (a' := ?_) #[true, true, false, true, false, false, false, false] rfl rfl (take_ofW HT_.out HW_.out (by kernel_rfl)) (fun _ _ _ h => h) (Or.inl ⟨by rfl, ?_⟩) hHeld ?_ ?_
   rotate_left
   ·rintro w' ⟨s0, s1, s2⟩
    go_simp
    with_reducible rfl
   rotate_left
   ·simp only [Act.put, ls, lz, ln, i64_w, i32_w]
    rfl
   refine take_ (i := 2) (N := some 18) (v := ?_) (a' := ?_) #[true, true, true, true, false, false, false, false] rfl rfl (take_ofW HT_.out HW_.out (by kernel_rfl)) (fun _ _ _ h => h) (Or.inl ⟨by rfl, ?_⟩) hHeld ?_ ?_
   rotate_left
   ·rintro w' ⟨s0, s1, s2⟩
    go_simp
    with_reducible rfl
   rotate_left
   ·simp only [Act.put, ls, lz, ln, i64_w, i32_w]
    rfl
   refine one_ (i := 4) (N := some 20) #[true, true, true, true, true, false, false, false] rfl rfl (one_of HT_.out (by kernel_rfl)) (by decide) (fun K hK => ?_)
   refine goes_ Try.func62 (by kernel_rfl) rfl #[.agg #[.int .i64 a0_0, .slice A0_1 l0_1.length c0_1, .slice A0_2 l0_2.length c0_2], .int .i64 a1] (by rfl) rfl rfl (by (try simp only [la, lb, lc]); first | done | rfl | (simp only [ld, le]; rfl)) ?_
   with_reducible refine (spec_l07Moments.calls k a0_0 _ _ l0_1 _ _ l0_2 a1 t436 _ ?side1 ?side2 ?side3 ?side4 A7.out).mono ?_
   (case side1 => exact uC ((Kd.C_below HR0_1.out HB.out)))
   (case side2 => exact HC0_1.out)
   (case side3 => exact uC ((Kd.C_below HR0_2.out HB.out)))
   (case side4 => exact HC0_2.out)
   rintro e w14 ⟨v437, rfl, ho0, hb⟩
   refine ⟨_, rfl, ?_⟩
   have n0_ := zA (Kd.R_lower ho0 (below_size (uH HB.out)))
   have n1_ := xB BK432 hb
   have n2_ := xB BK433 hb
   have n3_ := xH HB hb
   clear BK432 BK433 HB
   have HO438 := n0_; have BK432 := n1_; have BK433 := n2_; have HB := n3_
   clear n0_ n1_ n2_ n3_
   (try clear hb); (try clear hb2); (try clear hk); (try clear hi); (try clear ho0)
   obtain ⟨Ao15, co15, eo15⟩ := Kd.R_slice HO438.out
   (first | subst eo15 | (injection eo15 with f1_ f2_ f3_; have f4_ := f1_.symm; have f5_ := f3_.symm; clear f1_ f2_ f3_; subst f4_; subst f5_))
   refine hK.out _ _ ⟨(blk_cell BK432.out 0).trans rfl, (blk_cell BK432.out 1).trans rfl, (blk_cell BK432.out 2).trans rfl⟩ (fun hHeld => ?_)
   clear hK K
   refine norm_ (a' := ?_) ?_ ?_
   rotate_left
   ·show Act.put _ (some 20) _ = _
    simp only [Act.put, ls, lz, ln, i64_w, i32_w]
    rfl
   refine pure_ (i := 5) (N := some 21) (v := ?_) (a' := ?_) #[true, true, true, true, true, true, false, false] rfl rfl (any_of HT_.out (by kernel_rfl)) (fun _ _ _ h => h) (Or.inl ⟨by rfl, ?_⟩) ?_ ?_
   rotate_left
   ·intro w'
    go_simp
    with_reducible rfl
   rotate_left
   ·simp only [Act.put, ls, lz, ln, i64_w, i32_w]
    rfl
   refine one_ (i := 6) (N := none) #[true, true, true, true, true, true, true, false] rfl rfl (one_of HT_.out (by kernel_rfl)) (by decide) (fun K hK => ?_)
   have hs16 : w14.cell? ⟨gb433, 0, none⟩ = some (.int .i64 0) := (blk_cell BK433.out 0).trans rfl
   have hfs16 := blk_frozen BK433.out 0
   have hns16_0 := NB432_433.out; have hms16_0 := NB433_432.out
   have hs17 : w14.cell? ⟨gb433, 1, none⟩ = some (.slice none 0 0) := (blk_cell BK433.out 1).trans rfl
   have hfs17 := blk_frozen BK433.out 1
   have hns17_0 := NB432_433.out; have hms17_0 := NB433_432.out
   refine skip_ (w1 := ?_) (by rfl) rfl ?_ ?_
   rotate_left
   ·go_simp
    rfl
   refine hK.out _ _ ⟨((cell_far (p := ⟨gb433, _, none⟩) NB432_433.out _).trans (((cell_far (p := ⟨gb433, _, none⟩) NB432_433.out _).trans (hHeld.1)))), ((cell_far (p := ⟨gb433, _, none⟩) NB432_433.out _).trans (((cell_far (p := ⟨gb433, _, none⟩) NB432_433.out _).trans (hHeld.2.1)))), ((cell_far (p := ⟨gb433, _, none⟩) NB432_433.out _).trans (((cell_far (p := ⟨gb433, _, none⟩) NB432_433.out _).trans (hHeld.2.2))))⟩ (fun hHeld => ?_)
   clear hK K
   refine pure_ (i := 7) (N := some 5) (v := ?_) (a' := ?_) #[true, true, true, true, true, true, true, true] rfl rfl (any_of HT_.out (by kernel_rfl)) (fun _ _ _ h => h) (Or.inl ⟨by rfl, ?_⟩) ?_ ?_
   rotate_left
   ·intro w'
    go_simp
    with_reducible rfl
   rotate_left
   ·simp only [Act.put, ls, lz, ln, i64_w, i32_w]
    rfl
   refine done_ (done_of HT_.out (by kernel_rfl)) ?_
   try go_wp2
   refine bodyPost_ret (results_ct rfl _ _ gb433 42 #[.int .i64 a0_0, .slice Ao15 t436.length co15] (0, 0) _ rfl (by (with_reducible repeat (first | refine blk_drewN ?_ _ | refine blk_drew ?_ | refine blk_alloc ?_ _)); refine blk_put (cs := #[.int .i64 a0_0, .slice none 0 0]) ?_ 1 _ rfl; (with_reducible repeat (first | refine blk_drewN ?_ _ | refine blk_drew ?_ | refine blk_alloc ?_ _)); refine blk_put (cs := #[.int .i64 0, .slice none 0 0]) ?_ 0 _ rfl; (with_reducible repeat (first | refine blk_drewN ?_ _ | refine blk_drew ?_ | refine blk_alloc ?_ _)); exact BK433.out) Try.underlying42 rfl (by kernel_rfl)) rfl ?_
   exact ⟨_, by first | rfl | (simp [errW_none, errW_some] <;> rfl) | (simp [*, errW_none, errW_some] <;> rfl), uR (Kd.R_mono (Kd.R_far (p := ⟨gb433, 1, none⟩) (Kd.R_far (p := ⟨gb433, 0, none⟩) (Kd.R_types HO438.out BK433.out (by decide)) (fun _ hk => hk.2) (.int .i64 a0_0)) (fun _ hk => hk.2) (.slice Ao15 t436.length co15)) (fun _ hk => trivial)), uH HB.out⟩
  ·replace c6 := Bool.eq_false_iff.mpr c6
   subst c6
   have H1 : (some (0, ([] : List Int), 2)) = some (r1, r2, r3) := by rw [if_neg (show ¬ (false = true) by decide)] at H; exact H
   clear H
   have H := H1
   clear H1
   simp only [Option.some.injEq, Prod.mk.injEq] at H
   obtain ⟨rfl, rfl, rfl⟩ := H
   go_enter Try.func28, Try.ntmps28
   go_wp2_with (first | ((with_reducible refine gate_dst (N := 2) rfl ?_); refine box_event ?hg (N := 2) ?hd (cs := #[.int .i64 a0_0, .slice A0_1 l0_1.length c0_1, .slice A0_2 l0_2.length c0_2]) (t := 26) ?hr ?_; (case hd => rfl); (case hg => rfl); (case hr => first | (go_simp; done) | (go_simp; rfl)); intro gb432 hg w18 hbox hb; have n0_ := xH HB hb; have n1_ := zA (hbox); have n2_ := zA ((by rw [hg]; exact (below_size (uH HB.out)) : w.heap.size ≤ gb432)); have n3_ := zA ((by rw [hg]; exact (below_size (uH HB.out)) : w.heap.size ≤ gb432)); clear HB; have HB := n0_; have BK432 := n1_; have GW432 := n2_; have GE432 := n3_; have := geI GE432; clear n0_ n1_ n2_ n3_ hb hbox hg) | ((with_reducible refine gate_dst (N := 4) rfl ?_); refine box_event ?hg (N := 4) ?hd (cs := #[.int .i64 0, .slice none 0 0]) (t := 42) ?hr ?_; (case hd => rfl); (case hg => rfl); (case hr => first | (go_simp; done) | (go_simp; rfl)); intro gb433 hg w19 hbox hb; have n0_ := xB BK432 hb; have n1_ := xH HB hb; have n2_ := zA (hbox); have n3_ := zA ((by rw [hg]; exact (below_size (uH HB.out)) : w.heap.size ≤ gb433)); have n4_ := zA ((by rw [hg]; exact (below_size (uH HB.out)) : w.heap.size ≤ gb433)); have n5_ := zA ((by rw [hg]; exact neL BK432 : gb432 ≠ gb433)); have n6_ := zA ((by rw [hg]; exact neG BK432 : gb433 ≠ gb432)); clear BK432 HB; have BK432 := n0_; have HB := n1_; have BK433 := n2_; have GW433 := n3_; have GE433 := n4_; have := geI GE433; have NB432_433 := n5_; have NB433_432 := n6_; clear n0_ n1_ n2_ n3_ n4_ n5_ n6_ hb hbox hg; have hnb20 := NB432_433.out; have hnc20 := NB433_432.out; have hcz21_0 : w19.cell? ⟨gb432, 0, none⟩ = some (.int .i64 a0_0) := (blk_cell BK432.out 0).trans rfl; have hcz21_1 : w19.cell? ⟨gb432, 1, none⟩ = some (.slice A0_1 l0_1.length c0_1) := (blk_cell BK432.out 1).trans rfl; have hcz21_2 : w19.cell? ⟨gb432, 2, none⟩ = some (.slice A0_2 l0_2.length c0_2) := (blk_cell BK432.out 2).trans rfl; have hfz21_0 := blk_frozen BK432.out 0; have hfz21_1 := blk_frozen BK432.out 1; have hfz21_2 := blk_frozen BK432.out 2) | ((with_reducible refine gate_callee (f := 52) rfl ?_); refine goesL_ (some 8) rfl rfl Try.func52 (by kernel_rfl) rfl #[.agg #[.int .i64 a0_0, .slice A0_1 l0_1.length c0_1, .slice A0_2 l0_2.length c0_2]] rfl (by (try simp only [la, lb, lc]); first | done | rfl | (simp only [ld, le]; rfl)) ?_; (with_reducible refine (spec_l07Is.calls k a0_0 _ _ l0_1 _ _ l0_2 true _ ?side1 ?side2 ?side3 ?side4 A3.out).mono ?_); (case side1 => exact uC ((Kd.C_below HR0_1.out HB.out))); (case side2 => exact HC0_1.out); (case side3 => exact uC ((Kd.C_below HR0_2.out HB.out))); (case side4 => exact HC0_2.out); rintro e w22 ⟨rfl, hb⟩; refine ⟨_, rfl, ?_⟩; have n0_ := xB BK432 hb; have n1_ := xB BK433 hb; have n2_ := xH HB hb; clear BK432 BK433 HB; have BK432 := n0_; have BK433 := n1_; have HB := n2_; clear n0_ n1_ n2_; (try clear hb); (try clear hb2); (try clear hk); (try clear hi)) | ((with_reducible refine gate_callee (f := 61) rfl ?_); refine goesL_ (some 13) rfl rfl Try.func61 (by kernel_rfl) rfl #[.int .i64 a1, .int .i64 1, .int .i64 24] rfl (by (try simp only [la, lb, lc]); first | done | rfl | (simp only [ld, le]; rfl)) ?_; (with_reducible refine (spec_l01In.calls a1 1 24 false _ A5.out).mono ?_); rintro e w' ⟨rfl, ⟨nd, rfl⟩⟩; refine ⟨_, rfl, ?_⟩; (try (rw [drewN_self w22]; generalize hq_ : World.drewN w22 _ = w22; have n0_ : Aside0 (w22.heap[gb432]? = some (.cells #[.int .i64 a0_0, .slice A0_1 l0_1.length c0_1, .slice A0_2 l0_2.length c0_2] 26 (0, 0))) := ⟨by rw [← hq_]; exact (uB BK432.out)⟩; have n1_ : Aside0 (w22.heap[gb433]? = some (.cells #[.int .i64 0, .slice none 0 0] 42 (0, 0))) := ⟨by rw [← hq_]; exact (uB BK433.out)⟩; have n2_ : Aside0 (Below w.heap.size w w22) := ⟨by rw [← hq_]; exact (uH HB.out)⟩; clear BK432 BK433 HB hq_; have BK432 := n0_; have BK433 := n1_; have HB := n2_; clear n0_ n1_ n2_)); have hcz23_0 : w22.cell? ⟨gb433, 0, none⟩ = some (.int .i64 0) := (blk_cell BK433.out 0).trans rfl; have hcz23_1 : w22.cell? ⟨gb433, 1, none⟩ = some (.slice none 0 0) := (blk_cell BK433.out 1).trans rfl; have hfz23_0 := blk_frozen BK433.out 0; have hfz23_1 := blk_frozen BK433.out 1))
   refine bodyPost_ret (results_ct rfl _ _ gb433 42 #[.int .i64 0, .slice none 0 0] (0, 0) _ rfl (by (with_reducible repeat (first | refine blk_drewN ?_ _ | refine blk_drew ?_ | refine blk_alloc ?_ _)); refine blk_put (cs := #[.int .i64 0, .slice none 0 0]) ?_ 1 _ rfl; (with_reducible repeat (first | refine blk_drewN ?_ _ | refine blk_drew ?_ | refine blk_alloc ?_ _)); refine blk_put (cs := #[.int .i64 0, .slice none 0 0]) ?_ 0 _ rfl; (with_reducible repeat (first | refine blk_drewN ?_ _ | refine blk_drew ?_ | refine blk_alloc ?_ _)); exact BK433.out) Try.underlying42 rfl (by kernel_rfl)) rfl ?_
   exact ⟨_, by first | rfl | (simp [errW_none, errW_some] <;> rfl) | (simp [*, errW_none, errW_some] <;> rfl), by first | exact Kd.R_nil _ _ _ _ _ | exact Kd.N_nil _ _ _ _ _ | exact Kd.V_nil _ _ _ _ _ | exact Kd.Q_nil _ _ _ _ _ | exact Kd.S_nil _ _ _ _ _, uH HB.out⟩
 ·replace c4 := Bool.eq_false_iff.mpr c4
  subst c4
  have H1 : (some (0, ([] : List Int), 1)) = some (r1, r2, r3) := by rw [if_neg (show ¬ (false = true) by decide)] at H; exact H
  clear H
  have H := H1
  clear H1
  simp only [Option.some.injEq, Prod.mk.injEq] at H
  obtain ⟨rfl, rfl, rfl⟩ := H
  go_enter Try.func28, Try.ntmps28
  go_wp2_with (first | ((with_reducible refine gate_dst (N := 2) rfl ?_); refine box_event ?hg (N := 2) ?hd (cs := #[.int .i64 a0_0, .slice A0_1 l0_1.length c0_1, .slice A0_2 l0_2.length c0_2]) (t := 26) ?hr ?_; (case hd => rfl); (case hg => rfl); (case hr => first | (go_simp; done) | (go_simp; rfl)); intro gb432 hg w24 hbox hb; have n0_ := xH HB hb; have n1_ := zA (hbox); have n2_ := zA ((by rw [hg]; exact (below_size (uH HB.out)) : w.heap.size ≤ gb432)); have n3_ := zA ((by rw [hg]; exact (below_size (uH HB.out)) : w.heap.size ≤ gb432)); clear HB; have HB := n0_; have BK432 := n1_; have GW432 := n2_; have GE432 := n3_; have := geI GE432; clear n0_ n1_ n2_ n3_ hb hbox hg) | ((with_reducible refine gate_dst (N := 4) rfl ?_); refine box_event ?hg (N := 4) ?hd (cs := #[.int .i64 0, .slice none 0 0]) (t := 42) ?hr ?_; (case hd => rfl); (case hg => rfl); (case hr => first | (go_simp; done) | (go_simp; rfl)); intro gb433 hg w25 hbox hb; have n0_ := xB BK432 hb; have n1_ := xH HB hb; have n2_ := zA (hbox); have n3_ := zA ((by rw [hg]; exact (below_size (uH HB.out)) : w.heap.size ≤ gb433)); have n4_ := zA ((by rw [hg]; exact (below_size (uH HB.out)) : w.heap.size ≤ gb433)); have n5_ := zA ((by rw [hg]; exact neL BK432 : gb432 ≠ gb433)); have n6_ := zA ((by rw [hg]; exact neG BK432 : gb433 ≠ gb432)); clear BK432 HB; have BK432 := n0_; have HB := n1_; have BK433 := n2_; have GW433 := n3_; have GE433 := n4_; have := geI GE433; have NB432_433 := n5_; have NB433_432 := n6_; clear n0_ n1_ n2_ n3_ n4_ n5_ n6_ hb hbox hg; have hnb26 := NB432_433.out; have hnc26 := NB433_432.out; have hcz27_0 : w25.cell? ⟨gb432, 0, none⟩ = some (.int .i64 a0_0) := (blk_cell BK432.out 0).trans rfl; have hcz27_1 : w25.cell? ⟨gb432, 1, none⟩ = some (.slice A0_1 l0_1.length c0_1) := (blk_cell BK432.out 1).trans rfl; have hcz27_2 : w25.cell? ⟨gb432, 2, none⟩ = some (.slice A0_2 l0_2.length c0_2) := (blk_cell BK432.out 2).trans rfl; have hfz27_0 := blk_frozen BK432.out 0; have hfz27_1 := blk_frozen BK432.out 1; have hfz27_2 := blk_frozen BK432.out 2) | ((with_reducible refine gate_callee (f := 52) rfl ?_); refine goesL_ (some 8) rfl rfl Try.func52 (by kernel_rfl) rfl #[.agg #[.int .i64 a0_0, .slice A0_1 l0_1.length c0_1, .slice A0_2 l0_2.length c0_2]] rfl (by (try simp only [la, lb, lc]); first | done | rfl | (simp only [ld, le]; rfl)) ?_; (with_reducible refine (spec_l07Is.calls k a0_0 _ _ l0_1 _ _ l0_2 false _ ?side1 ?side2 ?side3 ?side4 A3.out).mono ?_); (case side1 => exact uC ((Kd.C_below HR0_1.out HB.out))); (case side2 => exact HC0_1.out); (case side3 => exact uC ((Kd.C_below HR0_2.out HB.out))); (case side4 => exact HC0_2.out); rintro e w28 ⟨rfl, hb⟩; refine ⟨_, rfl, ?_⟩; have n0_ := xB BK432 hb; have n1_ := xB BK433 hb; have n2_ := xH HB hb; clear BK432 BK433 HB; have BK432 := n0_; have BK433 := n1_; have HB := n2_; clear n0_ n1_ n2_; (try clear hb); (try clear hb2); (try clear hk); (try clear hi); have hcz29_0 : w28.cell? ⟨gb433, 0, none⟩ = some (.int .i64 0) := (blk_cell BK433.out 0).trans rfl; have hcz29_1 : w28.cell? ⟨gb433, 1, none⟩ = some (.slice none 0 0) := (blk_cell BK433.out 1).trans rfl; have hfz29_0 := blk_frozen BK433.out 0; have hfz29_1 := blk_frozen BK433.out 1))
  refine bodyPost_ret (results_ct rfl _ _ gb433 42 #[.int .i64 0, .slice none 0 0] (0, 0) _ rfl (by (with_reducible repeat (first | refine blk_drewN ?_ _ | refine blk_drew ?_ | refine blk_alloc ?_ _)); refine blk_put (cs := #[.int .i64 0, .slice none 0 0]) ?_ 1 _ rfl; (with_reducible repeat (first | refine blk_drewN ?_ _ | refine blk_drew ?_ | refine blk_alloc ?_ _)); refine blk_put (cs := #[.int .i64 0, .slice none 0 0]) ?_ 0 _ rfl; (with_reducible repeat (first | refine blk_drewN ?_ _ | refine blk_drew ?_ | refine blk_alloc ?_ _)); exact BK433.out) Try.underlying42 rfl (by kernel_rfl)) rfl ?_
  exact ⟨_, by first | rfl | (simp [errW_none, errW_some] <;> rfl) | (simp [*, errW_none, errW_some] <;> rfl), by first | exact Kd.R_nil _ _ _ _ _ | exact Kd.N_nil _ _ _ _ _ | exact Kd.V_nil _ _ _ _ _ | exact Kd.Q_nil _ _ _ _ _ | exact Kd.S_nil _ _ _ _ _, uH HB.out⟩

end Go.Proofs.Yteoipomgldioeaa.Pr
/- The laws' helpers at Moments: copies, comparisons, marks. -/
namespace Go.Proofs.Yteoipomgldioeaa.Pr
open Go.RowKit Go.Proofs.YteoipomgldioeaaW.PrintWords Go.Proofs.YteoipomgldioeaaW.PrintLast Go.Proofs.YteoipomgldioeaaW.PrintMore

theorem toMoments_ev (p : Int) (l0 : List Int) (h0 : Sm l0.length) : Ev (fun k => laws_toMoments.f k p l0) (p, l0) := by
  unfold laws_toMoments.f
  exact Ev.bind (toInt64S_ev _ h0) (Ev.now _)
theorem eqMoments_ev (p : Int) (l0 : List Int) (h0 : Sm l0.length) : Ev (fun k => laws_eqMoments.f k p l0 p l0) true := by
  unfold laws_eqMoments.f
  exact Ev.pos rfl (Ev.bind (eqInt64S_ev _ h0) (Ev.pos rfl (Ev.now _)))
theorem markMoments_ev (p : Int) (l0 : List Int) (h0 : Sm l0.length) (m : Nat) (hm : m ≤ 4194304) : Ev (fun k => laws_markMoments.f k p l0 (m : Int)) (((m + l0.length : Nat) : Int), marks (m) l0.length) := by
  unfold laws_markMoments.f
  unfold Sm at h0
  exact Ev.bind (markInt64S_ev _ _ h0 (by omega)) (Ev.now _)
theorem heldMoments_ev (p : Int) (n0 : Nat) (h0 : Sm n0) (m : Nat) (hm : m ≤ 4194304) : Ev (fun k => laws_heldMoments.f k p (marks (m) n0) (m : Int)) ((m + n0 : Nat) : Int) := by
  unfold laws_heldMoments.f
  unfold Sm at h0
  exact Ev.bind (heldInt64S_ev _ _ h0 (by omega)) (Ev.neg (by omega) (Ev.now _))
theorem szMoments_yes (p : Int) (l0 : List Int) (a : Nat) (ha : a ≤ 1048576) (h : l0.length ≤ a) : laws_szMoments.f p l0 (a : Int) = some ((a - (l0.length) : Nat) : Int) := by
  unfold laws_szMoments.f
  rw [szInt64S_yes l0 (a) (by omega) (by omega), Option.bind_some, if_neg (by omega)]
theorem szMoments_no (p : Int) (l0 : List Int) (g0 : l0.length ≤ 9223372036854775807) (a : Nat) (ha : a ≤ 1048576) (h : a < l0.length) : laws_szMoments.f p l0 (a : Int) = some (-1) := by
  unfold laws_szMoments.f
  rw [szInt64S_no l0 (a) g0 (by omega) (by omega), Option.bind_some, if_pos (by omega)]
end Go.Proofs.Yteoipomgldioeaa.Pr
/- Powers modulo p: what the program and the reference compute; no condition. -/
namespace Go.Proofs.Yteoipomgldioeaa.Pr
open Go.RowKit Go.Proofs.YteoipomgldioeaaW.PrintWords Go.Proofs.YteoipomgldioeaaW.PrintLast Go.Proofs.YteoipomgldioeaaW.PrintMore

theorem fmul_eq {p : Int} (hp : Pm p) {x y : Int} (hx : 0 ≤ x ∧ x < p) (hy : 0 ≤ y ∧ y < p) : impl_field_mul.f p x y = some (x * y % p) := by
  unfold impl_field_mul.f
  have h := mulP hp hx.1 hx.2 hy.1 hy.2
  rw [wrap_id (by omega) (by omega), mod_eq hp]; rfl
def powGo (p : Int) : Nat → Int → Nat → Int → Int
  | 0, _, _, o => o
  | d + 1, x, k, o => if k = 0 then o else powGo p d (x * x % p) (k / 2) (if k % 2 = 1 then o * x % p else o)
theorem powGo_in {p : Int} (hp : 0 < p) (d : Nat) : ∀ (x : Int) (k : Nat) (o : Int), 0 ≤ o ∧ o < p → 0 ≤ powGo p d x k o ∧ powGo p d x k o < p := by
  induction d with
  | zero => intro x k o h; exact h
  | succ d ih =>
    intro x k o h
    rw [powGo]
    split
    · exact h
    · refine ih _ _ _ ?_
      split
      · exact emodB hp _
      · exact h
theorem half {k : Nat} (h : k < 4611686018427387904) : wrap64 (Int.tdiv (k : Int) 2) = ((k / 2 : Nat) : Int) := by
  rw [Int.tdiv_eq_ediv_of_nonneg (by omega), wrap_id (by omega) (by omega)]; omega
theorem odd (k : Nat) : Int.tmod (k : Int) 2 = ((k % 2 : Nat) : Int) := by rw [tmod_pos (by omega)]; omega
theorem implPow_l0 {p : Int} (hp : Pm p) (d : Nat) : ∀ (x : Int) (k : Nat) (o : Int), k ≤ d → k < 4611686018427387904 → 0 ≤ x ∧ x < p → 0 ≤ o ∧ o < p →
    Ev (fun n => impl_field_power.l0 n p x (k : Int) o) (powGo p d x k o) := by
  induction d with
  | zero =>
    intro x k o hk hk2 hx ho
    refine Ev.step (fun n => by rw [impl_field_power.l0]) ?_
    exact Ev.neg (by omega) (Ev.now _)
  | succ d ih =>
    intro x k o hk hk2 hx ho
    rw [powGo]
    by_cases h : k = 0
    · rw [if_pos h]
      refine Ev.step (fun n => by rw [impl_field_power.l0]) ?_
      exact Ev.neg (by omega) (Ev.now _)
    · rw [if_neg h]
      refine Ev.step (fun n => by rw [impl_field_power.l0]) ?_
      refine Ev.pos (by omega) ?_
      rw [odd, half hk2]
      by_cases g : k % 2 = 1
      · rw [if_pos g]
        refine Ev.pos (by omega) (Ev.bindE (fmul_eq hp ho hx) (Ev.bindE (fmul_eq hp hx hx) ?_))
        exact ih _ _ _ (by omega) (by omega) (emodB hp.pos _) (emodB hp.pos _)
      · rw [if_neg g]
        refine Ev.neg (by omega) (Ev.bindE (fmul_eq hp hx hx) ?_)
        exact ih _ _ _ (by omega) (by omega) (emodB hp.pos _) ho
theorem specPow_l0 {p : Int} (hp : Pm p) (d : Nat) : ∀ (x : Int) (k : Nat) (o : Int), k ≤ d → k < 4611686018427387904 → 0 ≤ x ∧ x < p → 0 ≤ o ∧ o < p →
    Ev (fun n => spec_l01Power.l0 n p (k : Int) o x) (powGo p d x k o) := by
  induction d with
  | zero =>
    intro x k o hk hk2 hx ho
    refine Ev.step (fun n => by rw [spec_l01Power.l0]) ?_
    refine Ev.neg (by omega) (Ev.neg hp.ne (Ev.some' ?_))
    rw [tmod_pos ho.1, Int.emod_eq_of_lt ho.1 ho.2]; rfl
  | succ d ih =>
    intro x k o hk hk2 hx ho
    have h1 := mulP hp hx.1 hx.2 hx.1 hx.2
    have h2 := mulP hp ho.1 ho.2 hx.1 hx.2
    rw [powGo]
    by_cases h : k = 0
    · rw [if_pos h]
      refine Ev.step (fun n => by rw [spec_l01Power.l0]) ?_
      refine Ev.neg (by omega) (Ev.neg hp.ne (Ev.some' ?_))
      rw [tmod_pos ho.1, Int.emod_eq_of_lt ho.1 ho.2]
    · rw [if_neg h]
      refine Ev.step (fun n => by rw [spec_l01Power.l0]) ?_
      refine Ev.pos (by omega) ?_
      rw [odd, half hk2, wrap_id (x := x * x) (by omega) (by omega), wrap_id (x := o * x) (by omega) (by omega), tmod_pos (a := x * x) (by omega), tmod_pos (a := o * x) (by omega)]
      by_cases g : k % 2 = 1
      · rw [if_pos g]
        refine Ev.pos (by omega) (Ev.neg hp.ne ?_)
        exact ih _ _ _ (by omega) (by omega) (emodB hp.pos _) (emodB hp.pos _)
      · rw [if_neg g]
        refine Ev.neg (by omega) (Ev.neg hp.ne ?_)
        exact ih _ _ _ (by omega) (by omega) (emodB hp.pos _) ho
/-- x to the k-th power modulo p. -/
def powF (p x : Int) (k : Nat) : Int := powGo p k x k 1
theorem powF_in {p : Int} (hp : Pm p) (x : Int) (k : Nat) : 0 ≤ powF p x k ∧ powF p x k < p := powGo_in hp.pos _ _ _ _ (by have := hp.two; omega)
theorem implPow_ev {p : Int} (hp : Pm p) {x : Int} (hx : 0 ≤ x ∧ x < p) (k : Nat) (hk : k < 4611686018427387904) : Ev (fun n => impl_field_power.f n p x (k : Int)) (powF p x k) := by
  have h2 := hp.two
  unfold impl_field_power.f powF
  refine Ev.bindE (mod_eq hp _) ?_
  rw [Int.emod_eq_of_lt (by omega) (by omega)]
  exact implPow_l0 hp k x k 1 (Nat.le_refl _) hk hx (by omega)
theorem specPow_ev {p : Int} (hp : Pm p) {x : Int} (hx : 0 ≤ x ∧ x < p) (k : Nat) (hk : k < 4611686018427387904) : Ev (fun n => spec_l01Power.f n p x (k : Int)) (powF p x k) := by
  have h2 := hp.two
  unfold spec_l01Power.f powF
  refine Ev.bindE (a := x) ?_ (specPow_l0 hp k x k 1 (Nat.le_refl _) hk hx (by omega))
  unfold spec_l01Mod.f
  rw [if_neg hp.ne, go_mod hp, Int.emod_eq_of_lt hx.1 hx.2]
end Go.Proofs.Yteoipomgldioeaa.Pr
/- MomentsOfRule: for all arguments the program and the reference come to one value; no condition. -/
namespace Go.Proofs.Yteoipomgldioeaa.Pr
open Go.RowKit Go.Proofs.YteoipomgldioeaaW.PrintWords Go.Proofs.YteoipomgldioeaaW.PrintLast Go.Proofs.YteoipomgldioeaaW.PrintMore

def sumGo (p : Int) (n w : List Int) (k : Nat) : Nat → Nat → Int → Int
  | 0, _, s => s
  | d + 1, i, s => sumGo p n w k d (i + 1) ((s + w.getD i 0 * powF p (n.getD i 0) k) % p)
def momsR (p : Int) (n w : List Int) (m : Nat) : List Int := (List.range m).map fun k => sumGo p n w k n.length 0 0
theorem momsR_len (p : Int) (n w : List Int) (m : Nat) : (momsR p n w m).length = m := by simp [momsR]
theorem momsR_succ (p : Int) (n w : List Int) (m : Nat) : momsR p n w (m + 1) = momsR p n w m ++ [sumGo p n w m n.length 0 0] := by simp [momsR, List.range_succ]
theorem specMomR_l1 {p : Int} (hp : Pm p) (n w : List Int) (hn : Nm p n) (hw : Nm p w) (hl : n.length ≤ 24) (hwl : w.length = n.length) (m : Int) (l : List Int) (k : Nat) (hk : k < 1000) (r : List Int) (d : Nat) : ∀ (i : Nat) (s : Int), i + d = n.length → 0 ≤ s ∧ s < p → l.length < 17592186044416 →
    Ev (fun q => spec_l07Moments.l0 q m (l ++ [sumGo p n w k d i s]) (wrap64 ((k : Int) + 1)) p n w) r → Ev (fun q => spec_l07Moments.l1 q m l (k : Int) s (i : Int) p n w) r := by
  induction d with
  | zero =>
    intro i s hi hs hll e
    refine Ev.step (fun q => by rw [spec_l07Moments.l1]) ?_
    exact Ev.neg (by omega) (Ev.pos hll e)
  | succ d ih =>
    intro i s hi hs hll e
    have h1 := hn.get (i := i) (by omega)
    have h2 := hw.get (i := i) (by omega)
    have h3 := powF_in hp (n.getD i 0) k
    have h4 := mulP hp h2.1 h2.2 h3.1 h3.2
    have ht := hp.top
    refine Ev.step (fun q => by rw [spec_l07Moments.l1]) ?_
    refine Ev.pos (by omega) (Ev.pos (by omega) (Ev.pos (by omega) ?_))
    rw [rd_nat, rd_nat]
    refine Ev.bind (specPow_ev hp h1 k (by omega)) (Ev.neg hp.ne ?_)
    rw [wrap_id (x := w.getD i 0 * powF p (n.getD i 0) k) (by omega) (by omega), wrap_id (by omega) (by omega), tmod_pos (by omega), wsucc (i := i) (n := n.length) (by omega) (by omega)]
    exact ih (i + 1) _ (by omega) (emodB hp.pos _) hll e
theorem specMomR_l0 {p : Int} (hp : Pm p) (n w : List Int) (hn : Nm p n) (hw : Nm p w) (hl : n.length ≤ 24) (hwl : w.length = n.length) (m : Nat) (hm : m < 1000) (d : Nat) : ∀ k, k + d = m →
    Ev (fun q => spec_l07Moments.l0 q (m : Int) (momsR p n w k) (k : Int) p n w) (momsR p n w m) := by
  induction d with
  | zero =>
    intro k hk
    refine Ev.step (fun q => by rw [spec_l07Moments.l0]) ?_
    refine Ev.neg (by omega) (Ev.some' ?_)
    rw [show k = m from by omega]
  | succ d ih =>
    intro k hk
    refine Ev.step (fun q => by rw [spec_l07Moments.l0]) ?_
    refine Ev.pos (by omega) ?_
    refine specMomR_l1 hp n w hn hw hl hwl _ _ k (by omega) _ n.length 0 0 (by omega) ⟨Int.le_refl _, hp.pos⟩ (by rw [momsR_len]; omega) ?_
    rw [← momsR_succ, wsucc (i := k) (n := m) (by omega) (by omega)]
    exact ih (k + 1) (by omega)
theorem implMomR_l1 {p : Int} (hp : Pm p) (n w : List Int) (hn : Nm p n) (hw : Nm p w) (hl : n.length ≤ 24) (hwl : w.length = n.length) (m : Int) (l : List Int) (k : Nat) (hk : k < 1000) (r : Int × List Int) (d : Nat) : ∀ (i : Nat) (s : Int), i + d = n.length → 0 ≤ s ∧ s < p → l.length < 17592186044416 →
    Ev (fun q => impl_field_momentsOf.l0 q p n w m (wrap64 ((k : Int) + 1)) p (l ++ [sumGo p n w k d i s])) r → Ev (fun q => impl_field_momentsOf.l1 q p n w (k : Int) s m (k : Int) n (n.length : Int) (i : Int) p l) r := by
  induction d with
  | zero =>
    intro i s hi hs hll e
    refine Ev.step (fun q => by rw [impl_field_momentsOf.l1]) ?_
    exact Ev.neg (by omega) (Ev.pos hll e)
  | succ d ih =>
    intro i s hi hs hll e
    have h1 := hn.get (i := i) (by omega)
    have h2 := hw.get (i := i) (by omega)
    have h3 := powF_in hp (n.getD i 0) k
    have h4 := mulP hp h2.1 h2.2 h3.1 h3.2
    have ht := hp.top
    refine Ev.step (fun q => by rw [impl_field_momentsOf.l1]) ?_
    refine Ev.pos (by omega) (Ev.pos (by omega) (Ev.pos (by omega) (Ev.pos (by omega) ?_)))
    rw [rd_nat, rd_nat]
    refine Ev.bind (implPow_ev hp h1 k (by omega)) ?_
    rw [wrap_id (x := w.getD i 0 * powF p (n.getD i 0) k) (by omega) (by omega), wrap_id (x := s + w.getD i 0 * powF p (n.getD i 0) k) (by omega) (by omega)]
    refine Ev.bindE (mod_eq hp _) ?_
    rw [wsucc (i := i) (n := n.length) (by omega) (by omega)]
    exact ih (i + 1) _ (by omega) (emodB hp.pos _) hll e
theorem implMomR_l0 {p : Int} (hp : Pm p) (n w : List Int) (hn : Nm p n) (hw : Nm p w) (hl : n.length ≤ 24) (hwl : w.length = n.length) (m : Nat) (hm : m < 1000) (d : Nat) : ∀ k, k + d = m →
    Ev (fun q => impl_field_momentsOf.l0 q p n w (m : Int) (k : Int) p (momsR p n w k)) (p, momsR p n w m) := by
  induction d with
  | zero =>
    intro k hk
    refine Ev.step (fun q => by rw [impl_field_momentsOf.l0]) ?_
    refine Ev.neg (by omega) (Ev.some' ?_)
    rw [show k = m from by omega]
  | succ d ih =>
    intro k hk
    refine Ev.step (fun q => by rw [impl_field_momentsOf.l0]) ?_
    refine Ev.pos (by omega) ?_
    refine implMomR_l1 hp n w hn hw hl hwl _ _ k (by omega) _ n.length 0 0 (by omega) ⟨Int.le_refl _, hp.pos⟩ (by rw [momsR_len]; omega) ?_
    rw [← momsR_succ, wsucc (i := k) (n := m) (by omega) (by omega)]
    exact ih (k + 1) (by omega)
theorem MomentsOfRule_both (p : Int) (n w : List Int) (a : Int) (hn : Sm n.length) (hw : Sm w.length) :
    ∃ v : Int × List Int × Int, Ev (fun k => spec_MomentsOfRule.f k p n w a) v ∧ Ev (fun k => impl_MomentsOfRule.f k p n w a) v ∧ Sm v.2.1.length := by
  have hc := ruleCode_ev p n w (decide (1 ≤ a ∧ a ≤ 24)) hn hw
  have he : impl_MomentsOfRule_1.f a = some (decide (1 ≤ a ∧ a ≤ 24)) := by
    unfold impl_MomentsOfRule_1.f
    rw [within_eq]; rfl
  by_cases h : ruleB p n w = true
  · have hp := ruleB.pm h
    have hl := ruleB.lens h
    rw [if_pos h] at hc
    by_cases g : 1 ≤ a ∧ a ≤ 24
    · rw [if_pos (decide_eq_true g)] at hc
      obtain ⟨m, rfl⟩ : ∃ m : Nat, a = (m : Int) := ⟨a.toNat, by omega⟩
      refine ⟨(p, momsR p n w m, 0), ?_, ?_, by unfold Sm; dsimp only; rw [momsR_len]; omega⟩
      · unfold spec_MomentsOfRule.f spec_l07Moments.f
        exact Ev.bind (specRule_ev p n w hn hw) (Ev.pos h (Ev.bindE (in_eq _ _ _) (Ev.pos (decide_eq_true g) (Ev.bind (specMomR_l0 hp n w (ruleB.nodes h) (ruleB.weights h) hl.1 hl.2 m (by omega) m 0 (by omega)) (Ev.now _)))))
      · unfold impl_MomentsOfRule.f impl_field_momentsOf.f
        exact Ev.bindE he (Ev.bind hc (Ev.pos rfl (Ev.bindE (a := p) rfl (Ev.bind (implMomR_l0 hp n w (ruleB.nodes h) (ruleB.weights h) hl.1 hl.2 m (by omega) m 0 (by omega)) (Ev.now _)))))
    · rw [if_neg (by simp only [decide_eq_true_eq]; exact g)] at hc
      refine ⟨(0, [], 2), ?_, ?_, Sm0⟩
      · unfold spec_MomentsOfRule.f
        exact Ev.bind (specRule_ev p n w hn hw) (Ev.pos h (Ev.bindE (in_eq _ _ _) (Ev.neg (by simp only [decide_eq_true_eq]; exact g) (Ev.now _))))
      · unfold impl_MomentsOfRule.f
        exact Ev.bindE he (Ev.bind hc (Ev.neg (by decide) (Ev.now _)))
  · rw [if_neg h] at hc
    refine ⟨(0, [], 1), ?_, ?_, Sm0⟩
    · unfold spec_MomentsOfRule.f
      exact Ev.bind (specRule_ev p n w hn hw) (Ev.neg h (Ev.now _))
    · unfold impl_MomentsOfRule.f
      exact Ev.bindE he (Ev.bind hc (Ev.neg (by decide) (Ev.now _)))
end Go.Proofs.Yteoipomgldioeaa.Pr
