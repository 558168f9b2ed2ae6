/- Printed by a program of this session out of the translation: what these functions of the program compute, under the conditions that each theorem names. -/
import Derived.Test.YtokkabgkjhpecaaKAffineMoments1
import Derived.Test.YtokkabgkjhpecaaKAffineMoments3
import Derived.Test.YtokkabgkjhpecaaKAffineMoments4
namespace Go.Proofs.Ytokkabgkjhpecaa.Pr
open Go.RowKit Go.Proofs.YtokkabgkjhpecaaW.PrintWords Go.Proofs.YtokkabgkjhpecaaW.PrintLast Go.Proofs.YtokkabgkjhpecaaW.PrintMore
attribute [local go_sem] max2_int min2_int max_two min_two max_three min_three max_four min_four   -- for this text's walks alone
set_option linter.unusedVariables false
set_option linter.unusedSimpArgs false

/-! ### spec_AffineMoments: function 43 -/
def spec_AffineMoments.l0 : Nat → List Int → List Int → Int → Int → List Int → Int → List Int → Option (Int × List Int × Int)
 | 0, _, _, _, _, _, _, _ => none
 | k + 1, x9, x10, x11, x1001000, x1001001, x1018000, x1018001 => if x11 < (x1001001.length : Int) then ((spec_l02Apply.f k x1001000 x1001001 x9 0).bind fun t1018 => (if x1018001.length < 17592186044416 then ((spec_l01Times.f k x1001000 x9 x10).bind fun t1022 => (spec_AffineMoments.l0 k t1022 x10 (wrap64 (x11 + 1)) x1001000 x1001001 x1018000 (x1018001 ++ [t1018]))) else (none))) else (some (x1018000, x1018001, 0))
def spec_AffineMoments.f (k : Nat) (a0_0 : Int) (l0_1 : List Int) (a1 : Int) (a2 : Int) : Option (Int × List Int × Int) := (spec_l02Are.f k a0_0 l0_1).bind fun t1002 => (if t1002 = true then ((spec_l01In.f a1 0 (wrap64 (a0_0 - 1))).bind fun t1003 => (if t1003 = true then ((spec_l01In.f a2 0 (wrap64 (a0_0 - 1))).bind fun t1004 => (if t1004 = true then ((spec_l01Trim.f k (([a2, a1] : List Int))).bind fun t1014 => (spec_AffineMoments.l0 k (([1] : List Int)) t1014 0 a0_0 l0_1 a0_0 (([] : List Int)))) else (some (0, ([] : List Int), 2)))) else (some (0, ([] : List Int), 2)))) else (some (0, ([] : List Int), 1)))
theorem spec_AffineMoments.mono_l : ∀ k, (∀ y0 y1 y2 y3 y4 y5 y6, LeO (spec_AffineMoments.l0 k y0 y1 y2 y3 y4 y5 y6) (spec_AffineMoments.l0 (k + 1) y0 y1 y2 y3 y4 y5 y6))
 | 0 => fun _ _ _ _ _ _ _ r h => by simp [spec_AffineMoments.l0] at h
 | k + 1 => by
  have ih0 := spec_AffineMoments.mono_l k
  ·intro y0 y1 y2 y3 y4 y5 y6
   unfold spec_AffineMoments.l0
   repeat' first
   | (with_reducible exact ih0 _ _ _ _ _ _ _)
   | (with_reducible exact spec_l01Times.mono _ _ _ _)
   | (with_reducible exact spec_l01Trim.mono _ _)
   | (with_reducible exact spec_l02Apply.mono _ _ _ _ _)
   | (with_reducible exact spec_l02Are.mono _ _ _)
   | (with_reducible exact LeO.refl _)
   | (with_reducible exact LeO.none _)
   | (with_reducible refine LeO.ite ?_ ?_)
   | (with_reducible refine LeO.bind ?_ (fun _ => ?_))
   | exact ih0 _ _ _ _ _ _ _
   | exact spec_l01Times.mono _ _ _ _
   | exact spec_l01Trim.mono _ _
   | exact spec_l02Apply.mono _ _ _ _ _
   | exact spec_l02Are.mono _ _ _
   | exact LeO.none _
   | refine LeO.ite ?_ ?_
   | refine LeO.bind ?_ (fun _ => ?_)
theorem spec_AffineMoments.mono : ∀ a0 a1 a2 a3 k, LeO (spec_AffineMoments.f k a0 a1 a2 a3) (spec_AffineMoments.f (k + 1) a0 a1 a2 a3) := by
 intro a0 a1 a2 a3 k
 have ih0 := spec_AffineMoments.mono_l k
 unfold spec_AffineMoments.f
 repeat' first
   | (with_reducible exact ih0 _ _ _ _ _ _ _)
   | (with_reducible exact spec_l01Times.mono _ _ _ _)
   | (with_reducible exact spec_l01Trim.mono _ _)
   | (with_reducible exact spec_l02Apply.mono _ _ _ _ _)
   | (with_reducible exact spec_l02Are.mono _ _ _)
   | (with_reducible exact LeO.refl _)
   | (with_reducible exact LeO.none _)
   | (with_reducible refine LeO.ite ?_ ?_)
   | (with_reducible refine LeO.bind ?_ (fun _ => ?_))
   | exact ih0 _ _ _ _ _ _ _
   | exact spec_l01Times.mono _ _ _ _
   | exact spec_l01Trim.mono _ _
   | exact spec_l02Apply.mono _ _ _ _ _
   | exact spec_l02Are.mono _ _ _
   | exact LeO.none _
   | refine LeO.ite ?_ ?_
   | refine LeO.bind ?_ (fun _ => ?_)
def spec_AffineMoments.T5 : Bool × List (List Nat × List Nat) := (true, [([], []), ([0], [0]), ([], []), ([1, 2], [1, 2]), ([], []), ([], []), ([], []), ([5, 6], [5, 6]), ([7], [7]), ([], []), ([9, 3, 8, 0, 1, 2, 3, 9], [3, 9]), ([4, 10, 0, 1, 2, 3, 4, 9, 10], [4]), ([8, 11, 0, 1, 2, 3, 4, 5, 6, 7, 8, 9, 10, 11], [8])])
def spec_AffineMoments.B5 : List Nat := [0, 1, 0, 7, 0, 0, 0, 96, 224, 0, 1007, 2047, 4095]
theorem spec_AffineMoments.tab5 : rtab .any (opsOf Try.f43 5) = spec_AffineMoments.T5 := by kernel_rfl
theorem spec_AffineMoments.bits5 : waitsOk spec_AffineMoments.T5.2 spec_AffineMoments.B5 = true := by kernel_rfl
def spec_AffineMoments.T9 : Bool × List (List Nat × List Nat) := (true, [([], []), ([0], [0]), ([], []), ([], []), ([2, 3], [2, 3]), ([4], [4]), ([1, 5, 4], [1, 5]), ([0, 1, 2, 3, 4, 5, 6], []), ([7, 6, 6, 0, 1, 2, 3, 4, 5, 6], [6, 7])])
def spec_AffineMoments.B9 : List Nat := [0, 1, 0, 0, 12, 28, 63, 127, 255]
theorem spec_AffineMoments.tab9 : rtab .any (opsOf Try.f43 9) = spec_AffineMoments.T9 := by kernel_rfl
theorem spec_AffineMoments.bits9 : waitsOk spec_AffineMoments.T9.2 spec_AffineMoments.B9 = true := by kernel_rfl
set_option maxHeartbeats 8000000 in
set_option maxRecDepth 100000 in
theorem spec_AffineMoments.calls (k : Nat) (a0_0 : Int) (A0_1 : Option Addr) (c0_1 : Nat) (l0_1 : List Int) (a1 : Int) (a2 : Int) (r1 : Int) (r2 : List Int) (r3 : Int) (w : World) (hr0_1 : Kd.C (Kd.int .i64) w A0_1 l0_1.length l0_1) (hc0_1 : l0_1.length ≤ c0_1) (h : spec_AffineMoments.f k a0_0 l0_1 a1 a2 = some (r1, r2, r3)) :
  Calls Try.prog 43 #[.agg #[.int .i64 a0_0, .slice A0_1 l0_1.length c0_1], .int .i64 a1, .int .i64 a2] w fun e w' => ∃ v1_ : Value, e = .returned (.tuple #[.agg #[.int .i64 r1, v1_], .int .i64 r3]) ∧ Kd.R (Kd.int .i64) 2 w' w.heap.size (fun _ => True) v1_ r2 ∧ Below w.heap.size w w' := by
 have hu31 := Try.underlying31
 have HR0_1 := zA hr0_1
 have HC0_1 := zA hc0_1
 clear hr0_1 hc0_1
 have HB := zA (Below.refl w.heap.size w)
 have H : ((spec_l02Are.f k a0_0 l0_1).bind fun t1002 => (if t1002 = true then ((spec_l01In.f a1 0 (wrap64 (a0_0 - 1))).bind fun t1003 => (if t1003 = true then ((spec_l01In.f a2 0 (wrap64 (a0_0 - 1))).bind fun t1004 => (if t1004 = true then ((spec_l01Trim.f k (([a2, a1] : List Int))).bind fun t1014 => (spec_AffineMoments.l0 k (([1] : List Int)) t1014 0 a0_0 l0_1 a0_0 (([] : List Int)))) else (some (0, ([] : List Int), 2)))) else (some (0, ([] : List Int), 2)))) else (some (0, ([] : List Int), 1)))) = some (r1, r2, r3) := h
 clear h
 replace H := Option.bind_eq_some_iff.mp H
 obtain ⟨t1002, A40, H⟩ := H
 replace H : (if t1002 = true then ((spec_l01In.f a1 0 (wrap64 (a0_0 - 1))).bind fun t1003 => (if t1003 = true then ((spec_l01In.f a2 0 (wrap64 (a0_0 - 1))).bind fun t1004 => (if t1004 = true then ((spec_l01Trim.f k (([a2, a1] : List Int))).bind fun t1014 => (spec_AffineMoments.l0 k (([1] : List Int)) t1014 0 a0_0 l0_1 a0_0 (([] : List Int)))) else (some (0, ([] : List Int), 2)))) else (some (0, ([] : List Int), 2)))) else (some (0, ([] : List Int), 1))) = some (r1, r2, r3) := H
 have A4 := zA A40
 clear A40
 by_cases c5 : t1002 = true
 ·subst c5
  have H1 : ((spec_l01In.f a1 0 (wrap64 (a0_0 - 1))).bind fun t1003 => (if t1003 = true then ((spec_l01In.f a2 0 (wrap64 (a0_0 - 1))).bind fun t1004 => (if t1004 = true then ((spec_l01Trim.f k (([a2, a1] : List Int))).bind fun t1014 => (spec_AffineMoments.l0 k (([1] : List Int)) t1014 0 a0_0 l0_1 a0_0 (([] : List Int)))) else (some (0, ([] : List Int), 2)))) else (some (0, ([] : List Int), 2)))) = some (r1, r2, r3) := by rw [if_pos rfl] at H; exact H
  clear H
  have H := H1
  clear H1
  replace H := Option.bind_eq_some_iff.mp H
  obtain ⟨t1003, A60, H⟩ := H
  replace H : (if t1003 = true then ((spec_l01In.f a2 0 (wrap64 (a0_0 - 1))).bind fun t1004 => (if t1004 = true then ((spec_l01Trim.f k (([a2, a1] : List Int))).bind fun t1014 => (spec_AffineMoments.l0 k (([1] : List Int)) t1014 0 a0_0 l0_1 a0_0 (([] : List Int)))) else (some (0, ([] : List Int), 2)))) else (some (0, ([] : List Int), 2))) = some (r1, r2, r3) := H
  have A6 := zA A60
  clear A60
  by_cases c7 : t1003 = true
  ·subst c7
   have H1 : ((spec_l01In.f a2 0 (wrap64 (a0_0 - 1))).bind fun t1004 => (if t1004 = true then ((spec_l01Trim.f k (([a2, a1] : List Int))).bind fun t1014 => (spec_AffineMoments.l0 k (([1] : List Int)) t1014 0 a0_0 l0_1 a0_0 (([] : List Int)))) else (some (0, ([] : List Int), 2)))) = some (r1, r2, r3) := by rw [if_pos rfl] at H; exact H
   clear H
   have H := H1
   clear H1
   replace H := Option.bind_eq_some_iff.mp H
   obtain ⟨t1004, A80, H⟩ := H
   replace H : (if t1004 = true then ((spec_l01Trim.f k (([a2, a1] : List Int))).bind fun t1014 => (spec_AffineMoments.l0 k (([1] : List Int)) t1014 0 a0_0 l0_1 a0_0 (([] : List Int)))) else (some (0, ([] : List Int), 2))) = some (r1, r2, r3) := H
   have A8 := zA A80
   clear A80
   by_cases c9 : t1004 = true
   ·subst c9
    have H1 : ((spec_l01Trim.f k (([a2, a1] : List Int))).bind fun t1014 => (spec_AffineMoments.l0 k (([1] : List Int)) t1014 0 a0_0 l0_1 a0_0 (([] : List Int)))) = some (r1, r2, r3) := by rw [if_pos rfl] at H; exact H
    clear H
    have H := H1
    clear H1
    obtain ⟨y1005, hy1005⟩ : ∃ y_ : List Int, y_ = (([] : List Int)) := ⟨_, rfl⟩
    replace H : ((spec_l01Trim.f k (([a2, a1] : List Int))).bind fun t1014 => (spec_AffineMoments.l0 k (([1] : List Int)) t1014 0 a0_0 l0_1 a0_0 y1005)) = some (r1, r2, r3) := by first | (rw [hy1005]; exact H) | exact H
    have Ny1005 := zA hy1005
    clear hy1005
    obtain ⟨y1008, hy1008⟩ : ∃ y_ : List Int, y_ = (([1] : List Int)) := ⟨_, rfl⟩
    replace H : ((spec_l01Trim.f k (([a2, a1] : List Int))).bind fun t1014 => (spec_AffineMoments.l0 k y1008 t1014 0 a0_0 l0_1 a0_0 y1005)) = some (r1, r2, r3) := by first | (rw [hy1008]; exact H) | exact H
    have Ny1008 := zA hy1008
    clear hy1008
    obtain ⟨y1011, hy1011⟩ : ∃ y_ : List Int, y_ = (([a2, a1] : List Int)) := ⟨_, rfl⟩
    replace H : ((spec_l01Trim.f k y1011).bind fun t1014 => (spec_AffineMoments.l0 k y1008 t1014 0 a0_0 l0_1 a0_0 y1005)) = some (r1, r2, r3) := by first | (rw [hy1011]; exact H) | exact H
    have Ny1011 := zA hy1011
    clear hy1011
    replace H := Option.bind_eq_some_iff.mp H
    obtain ⟨t1014, A100, H⟩ := H
    replace H : (spec_AffineMoments.l0 k y1008 t1014 0 a0_0 l0_1 a0_0 y1005) = some (r1, r2, r3) := H
    have A10 := zA A100
    clear A100
    have H' := zA H
    clear H
    go_enter Try.func43, Try.ntmps43
    try go_wp2_with (first | ((with_reducible refine gate_dst (N := 3) rfl ?_); refine bx 3 #[.int .i64 a0_0, .slice A0_1 l0_1.length c0_1] 31 ?_; intro gb1000 hg w11 hbox hb; have BK1000 := zA (hbox); have GW1000 := gq HB hg; have GE1000 := gq HB hg; replace HB := xH HB hb; have := geI GE1000; clear hb hbox hg) | ((with_reducible refine gate_dst (N := 6) rfl ?_); refine bx 6 #[.int .i64 0, .slice none 0 0] 31 ?_; intro gb1001 hg w12 hbox hb; have BK1001 := zA (hbox); have GW1001 := gq HB hg; have GE1001 := gq HB hg; replace HB := xH HB hb; have NB1000_1001 := zA ((by rw [hg]; exact neL BK1000 : gb1000 ≠ gb1001)); have NB1001_1000 := zA ((by rw [hg]; exact neG BK1000 : gb1001 ≠ gb1000)); replace BK1000 := xB BK1000 hb; have := geI GE1001; clear hb hbox hg; have hnb13 := NB1000_1001.out; have hnc13 := NB1001_1000.out; have hcz14_0 := bc BK1000 0; have hcz14_1 := bc BK1000 1; have hfz14_0 := bf BK1000 0; have hfz14_1 := bf BK1000 1) | ((with_reducible refine gate_callee (f := 57) rfl ?_); refine gL (some 14) Try.func57 #[.agg #[.int .i64 a0_0, .slice A0_1 l0_1.length c0_1]] ?_; (with_reducible refine (spec_l02Are.calls k a0_0 _ _ l0_1 true _ ?side1 ?side2 A4.out).mono ?_); (case side1 => exact uC ((Kd.C_below HR0_1.out HB.out))); (case side2 => exact HC0_1.out); rintro e w15 ⟨rfl, hb⟩; refine ⟨_, rfl, ?_⟩; replace BK1000 := xB BK1000 hb; replace BK1001 := xB BK1001 hb; replace HB := xH HB hb; (try clear hb); (try clear hb2); (try clear hk); (try clear hi); have hcz16_0 := bc BK1000 0; have hcz16_1 := bc BK1000 1; have hfz16_0 := bf BK1000 0; have hfz16_1 := bf BK1000 1) | ((with_reducible refine gate_callee (f := 70) rfl ?_); refine gL (some 22) Try.func70 #[.int .i64 a1, .int .i64 0, .int .i64 (wrap64 (a0_0 - 1))] ?_; (with_reducible refine (spec_l01In.calls a1 0 (wrap64 (a0_0 - 1)) true _ A6.out).mono ?_); rintro e w' ⟨rfl, ⟨nd, rfl⟩⟩; refine ⟨_, rfl, ?_⟩; (try (rw [drewN_self w15]; generalize hq_ : World.drewN w15 _ = w15; have n0_ : Aside0 (w15.heap[gb1000]? = some (.cells #[.int .i64 a0_0, .slice A0_1 l0_1.length c0_1] 31 (0, 0))) := ⟨by rw [← hq_]; exact (uB BK1000.out)⟩; have n1_ : Aside0 (w15.heap[gb1001]? = some (.cells #[.int .i64 0, .slice none 0 0] 31 (0, 0))) := ⟨by rw [← hq_]; exact (uB BK1001.out)⟩; have n2_ : Aside0 (Below w.heap.size w w15) := ⟨by rw [← hq_]; exact (uH HB.out)⟩; clear BK1000 BK1001 HB hq_; have BK1000 := n0_; have BK1001 := n1_; have HB := n2_; clear n0_ n1_ n2_)); (try have hcuy17_0 : w15.cell? ⟨gb1000, 0, none⟩ = some (.int .i64 a0_0) := (blk_cell BK1000.out 0).trans rfl); (try have hcuy17_1 : w15.cell? ⟨gb1000, 1, none⟩ = some (.slice A0_1 l0_1.length c0_1) := (blk_cell BK1000.out 1).trans rfl)) | (go_at_call 70; (with_reducible refine (spec_l01In.calls a2 0 (wrap64 (a0_0 - 1)) true _ A8.out).mono ?_); rintro e w' ⟨rfl, ⟨nd, rfl⟩⟩; (try (rw [drewN_self w15]; generalize hq_ : World.drewN w15 _ = w15; have n0_ : Aside0 (w15.heap[gb1000]? = some (.cells #[.int .i64 a0_0, .slice A0_1 l0_1.length c0_1] 31 (0, 0))) := ⟨by rw [← hq_]; exact (uB BK1000.out)⟩; have n1_ : Aside0 (w15.heap[gb1001]? = some (.cells #[.int .i64 0, .slice none 0 0] 31 (0, 0))) := ⟨by rw [← hq_]; exact (uB BK1001.out)⟩; have n2_ : Aside0 (Below w.heap.size w w15) := ⟨by rw [← hq_]; exact (uH HB.out)⟩; clear BK1000 BK1001 HB hq_; have BK1000 := n0_; have BK1001 := n1_; have HB := n2_; clear n0_ n1_ n2_)); (try have hcuy18_0 : w15.cell? ⟨gb1000, 0, none⟩ = some (.int .i64 a0_0) := (blk_cell BK1000.out 0).trans rfl); (try have hcuy18_1 : w15.cell? ⟨gb1000, 1, none⟩ = some (.slice A0_1 l0_1.length c0_1) := (blk_cell BK1000.out 1).trans rfl)))
    replace BK1000 := zA (blk_drew BK1000.out)
    replace BK1001 := zA (blk_drew BK1001.out)
    replace HB := zA (below_drew1 HB.out)
    refine start_ (n := 13) (S := fun w' => w'.cell? ⟨gb1000, 0, none⟩ = some (.int .i64 a0_0) ∧ w'.cell? ⟨gb1000, 1, none⟩ = some (.slice A0_1 l0_1.length c0_1)) (ds := []) #[false, false, false, false, false, false, false, false, false, false, false, false, false] (by kernel_rfl) rfl rfl ⟨bcu BK1000 0, bcu BK1000 1⟩ (fun hHeld => ?_); refine with_tabW spec_AffineMoments.tab5 spec_AffineMoments.bits5 (fun HT_ HW_ => ?_)
    generalize w15.drew = w19 at BK1000 BK1001 HB hHeld ⊢
    refine pu_ 0 33 (bl 13 1) HT_ ?_
    refine pu_ 5 38 (bl 13 33) HT_ ?_
    refine pu_ 6 39 (bl 13 97) HT_ ?_
    refine ta_ 1 34 (bl 13 99) HT_ HW_ hHeld ?_
    refine join_ (σ := Value × Value × Value × Value × Nat) 2 (bl 13 2047) (fun s_ => [(35, s_.1), (37, s_.2.1), (40, s_.2.2.1), (41, s_.2.2.2.1), (8, .pointer (some ⟨s_.2.2.2.2, 0, none⟩)), (36, .agg #[.int .i64 a0_0, s_.1])]) (fun s_ w' => (w'.cell? ⟨gb1000, 0, none⟩ = some (.int .i64 a0_0) ∧ w'.cell? ⟨gb1000, 1, none⟩ = some (.slice A0_1 l0_1.length c0_1)) ∧ (Kd.R (Kd.int .i64) 2 w' w.heap.size (fun k_ => some k_ ≠ (s_.2.1 : Value).ownBlock ∧ some k_ ≠ (s_.2.2.1 : Value).ownBlock ∧ some k_ ≠ (s_.2.2.2.1 : Value).ownBlock) s_.1 y1005) ∧ (Kd.R (Kd.int .i64) 2 w' w.heap.size (fun k_ => some k_ ≠ (s_.1 : Value).ownBlock ∧ some k_ ≠ (s_.2.2.1 : Value).ownBlock ∧ some k_ ≠ (s_.2.2.2.1 : Value).ownBlock) s_.2.1 y1008) ∧ (Kd.R (Kd.int .i64) 2 w' w.heap.size (fun k_ => some k_ ≠ (s_.1 : Value).ownBlock ∧ some k_ ≠ (s_.2.1 : Value).ownBlock ∧ some k_ ≠ (s_.2.2.2.1 : Value).ownBlock) s_.2.2.1 y1011) ∧ (Kd.R (Kd.int .i64) 2 w' w.heap.size (fun k_ => some k_ ≠ (s_.1 : Value).ownBlock ∧ some k_ ≠ (s_.2.1 : Value).ownBlock ∧ some k_ ≠ (s_.2.2.1 : Value).ownBlock) s_.2.2.2.1 t1014) ∧ (w'.heap[gb1000]? = some (.cells #[.int .i64 a0_0, .slice A0_1 l0_1.length c0_1] 31 (0, 0))) ∧ (w'.heap[gb1001]? = some (.cells #[.int .i64 0, .slice none 0 0] 31 (0, 0))) ∧ (w'.heap[s_.2.2.2.2]? = some (.cells #[.int .i64 a0_0, s_.1] 31 (0, 0))) ∧ (w.heap.size ≤ s_.2.2.2.2) ∧ (w.heap.size ≤ s_.2.2.2.2) ∧ (gb1000 ≠ s_.2.2.2.2) ∧ (s_.2.2.2.2 ≠ gb1000) ∧ (gb1001 ≠ s_.2.2.2.2) ∧ (s_.2.2.2.2 ≠ gb1001) ∧ (Below w.heap.size w w')) ?_ ?_
    rotate_left
    ·intro hJ2_4_7_8_9_10
     refine join_ (σ := Value × Value × Value × Value × Nat) 3 (bl 13 1023) (fun s_ => [(35, s_.1), (37, s_.2.1), (40, s_.2.2.1), (41, s_.2.2.2.1), (8, .pointer (some ⟨s_.2.2.2.2, 0, none⟩)), (36, .agg #[.int .i64 a0_0, s_.1])]) (fun s_ w' => (w'.cell? ⟨gb1000, 0, none⟩ = some (.int .i64 a0_0) ∧ w'.cell? ⟨gb1000, 1, none⟩ = some (.slice A0_1 l0_1.length c0_1)) ∧ (Kd.R (Kd.int .i64) 2 w' w.heap.size (fun k_ => some k_ ≠ (s_.2.1 : Value).ownBlock ∧ some k_ ≠ (s_.2.2.1 : Value).ownBlock ∧ some k_ ≠ (s_.2.2.2.1 : Value).ownBlock) s_.1 y1005) ∧ (Kd.R (Kd.int .i64) 2 w' w.heap.size (fun k_ => some k_ ≠ (s_.1 : Value).ownBlock ∧ some k_ ≠ (s_.2.2.1 : Value).ownBlock ∧ some k_ ≠ (s_.2.2.2.1 : Value).ownBlock) s_.2.1 y1008) ∧ (Kd.R (Kd.int .i64) 2 w' w.heap.size (fun k_ => some k_ ≠ (s_.1 : Value).ownBlock ∧ some k_ ≠ (s_.2.1 : Value).ownBlock ∧ some k_ ≠ (s_.2.2.2.1 : Value).ownBlock) s_.2.2.1 y1011) ∧ (Kd.R (Kd.int .i64) 2 w' w.heap.size (fun k_ => some k_ ≠ (s_.1 : Value).ownBlock ∧ some k_ ≠ (s_.2.1 : Value).ownBlock ∧ some k_ ≠ (s_.2.2.1 : Value).ownBlock) s_.2.2.2.1 t1014) ∧ (w'.heap[gb1000]? = some (.cells #[.int .i64 a0_0, .slice A0_1 l0_1.length c0_1] 31 (0, 0))) ∧ (w'.heap[gb1001]? = some (.cells #[.int .i64 0, .slice none 0 0] 31 (0, 0))) ∧ (w'.heap[s_.2.2.2.2]? = some (.cells #[.int .i64 0, .slice none 0 0] 31 (0, 0))) ∧ (w.heap.size ≤ s_.2.2.2.2) ∧ (w.heap.size ≤ s_.2.2.2.2) ∧ (gb1000 ≠ s_.2.2.2.2) ∧ (s_.2.2.2.2 ≠ gb1000) ∧ (gb1001 ≠ s_.2.2.2.2) ∧ (s_.2.2.2.2 ≠ gb1001) ∧ (Below w.heap.size w w')) ?_ ?_
     rotate_left
     ·intro hJ2_4_7_8_9
      refine join_ (σ := Value × Value × Value × Nat) 3 (bl 13 2031) (fun s_ => [(35, s_.1), (40, s_.2.1), (41, s_.2.2.1), (8, .pointer (some ⟨s_.2.2.2, 0, none⟩)), (36, .agg #[.int .i64 a0_0, s_.1])]) (fun s_ w' => (w'.cell? ⟨gb1000, 0, none⟩ = some (.int .i64 a0_0) ∧ w'.cell? ⟨gb1000, 1, none⟩ = some (.slice A0_1 l0_1.length c0_1)) ∧ (Kd.R (Kd.int .i64) 2 w' w.heap.size (fun k_ => some k_ ≠ (s_.2.1 : Value).ownBlock ∧ some k_ ≠ (s_.2.2.1 : Value).ownBlock) s_.1 y1005) ∧ (Kd.R (Kd.int .i64) 2 w' w.heap.size (fun k_ => some k_ ≠ (s_.1 : Value).ownBlock ∧ some k_ ≠ (s_.2.2.1 : Value).ownBlock) s_.2.1 y1011) ∧ (Kd.R (Kd.int .i64) 2 w' w.heap.size (fun k_ => some k_ ≠ (s_.1 : Value).ownBlock ∧ some k_ ≠ (s_.2.1 : Value).ownBlock) s_.2.2.1 t1014) ∧ (w'.heap[gb1000]? = some (.cells #[.int .i64 a0_0, .slice A0_1 l0_1.length c0_1] 31 (0, 0))) ∧ (w'.heap[gb1001]? = some (.cells #[.int .i64 0, .slice none 0 0] 31 (0, 0))) ∧ (w'.heap[s_.2.2.2]? = some (.cells #[.int .i64 a0_0, s_.1] 31 (0, 0))) ∧ (w.heap.size ≤ s_.2.2.2) ∧ (w.heap.size ≤ s_.2.2.2) ∧ (gb1000 ≠ s_.2.2.2) ∧ (s_.2.2.2 ≠ gb1000) ∧ (gb1001 ≠ s_.2.2.2) ∧ (s_.2.2.2 ≠ gb1001) ∧ (Below w.heap.size w w')) ?_ ?_
      rotate_left
      ·intro hJ2_7_8_9_10
       refine join_ (σ := Value × Value × Value × Value) 4 (bl 13 511) (fun s_ => [(35, s_.1), (37, s_.2.1), (40, s_.2.2.1), (41, s_.2.2.2), (36, .agg #[.int .i64 a0_0, s_.1])]) (fun s_ w' => (w'.cell? ⟨gb1000, 0, none⟩ = some (.int .i64 a0_0) ∧ w'.cell? ⟨gb1000, 1, none⟩ = some (.slice A0_1 l0_1.length c0_1)) ∧ (Kd.R (Kd.int .i64) 2 w' w.heap.size (fun k_ => some k_ ≠ (s_.2.1 : Value).ownBlock ∧ some k_ ≠ (s_.2.2.1 : Value).ownBlock ∧ some k_ ≠ (s_.2.2.2 : Value).ownBlock) s_.1 y1005) ∧ (Kd.R (Kd.int .i64) 2 w' w.heap.size (fun k_ => some k_ ≠ (s_.1 : Value).ownBlock ∧ some k_ ≠ (s_.2.2.1 : Value).ownBlock ∧ some k_ ≠ (s_.2.2.2 : Value).ownBlock) s_.2.1 y1008) ∧ (Kd.R (Kd.int .i64) 2 w' w.heap.size (fun k_ => some k_ ≠ (s_.1 : Value).ownBlock ∧ some k_ ≠ (s_.2.1 : Value).ownBlock ∧ some k_ ≠ (s_.2.2.2 : Value).ownBlock) s_.2.2.1 y1011) ∧ (Kd.R (Kd.int .i64) 2 w' w.heap.size (fun k_ => some k_ ≠ (s_.1 : Value).ownBlock ∧ some k_ ≠ (s_.2.1 : Value).ownBlock ∧ some k_ ≠ (s_.2.2.1 : Value).ownBlock) s_.2.2.2 t1014) ∧ (w'.heap[gb1000]? = some (.cells #[.int .i64 a0_0, .slice A0_1 l0_1.length c0_1] 31 (0, 0))) ∧ (w'.heap[gb1001]? = some (.cells #[.int .i64 0, .slice none 0 0] 31 (0, 0))) ∧ (Below w.heap.size w w')) ?_ ?_
       rotate_left
       ·intro hJ2_4_7_8
        refine join_ (σ := Value × Value × Value × Nat) 4 (bl 13 767) (fun s_ => [(35, s_.1), (37, s_.2.1), (40, s_.2.2.1), (8, .pointer (some ⟨s_.2.2.2, 0, none⟩)), (36, .agg #[.int .i64 a0_0, s_.1])]) (fun s_ w' => (w'.cell? ⟨gb1000, 0, none⟩ = some (.int .i64 a0_0) ∧ w'.cell? ⟨gb1000, 1, none⟩ = some (.slice A0_1 l0_1.length c0_1)) ∧ (Kd.R (Kd.int .i64) 2 w' w.heap.size (fun k_ => some k_ ≠ (s_.2.1 : Value).ownBlock ∧ some k_ ≠ (s_.2.2.1 : Value).ownBlock) s_.1 y1005) ∧ (Kd.R (Kd.int .i64) 2 w' w.heap.size (fun k_ => some k_ ≠ (s_.1 : Value).ownBlock ∧ some k_ ≠ (s_.2.2.1 : Value).ownBlock) s_.2.1 y1008) ∧ (Kd.R (Kd.int .i64) 2 w' w.heap.size (fun k_ => some k_ ≠ (s_.1 : Value).ownBlock ∧ some k_ ≠ (s_.2.1 : Value).ownBlock) s_.2.2.1 y1011) ∧ (w'.heap[gb1000]? = some (.cells #[.int .i64 a0_0, .slice A0_1 l0_1.length c0_1] 31 (0, 0))) ∧ (w'.heap[gb1001]? = some (.cells #[.int .i64 0, .slice none 0 0] 31 (0, 0))) ∧ (w'.heap[s_.2.2.2]? = some (.cells #[.int .i64 0, .slice none 0 0] 31 (0, 0))) ∧ (w.heap.size ≤ s_.2.2.2) ∧ (w.heap.size ≤ s_.2.2.2) ∧ (gb1000 ≠ s_.2.2.2) ∧ (s_.2.2.2 ≠ gb1000) ∧ (gb1001 ≠ s_.2.2.2) ∧ (s_.2.2.2 ≠ gb1001) ∧ (Below w.heap.size w w')) ?_ ?_
        rotate_left
        ·intro hJ2_4_7_9
         refine join_ (σ := Value × Value × Value × Nat) 4 (bl 13 1007) (fun s_ => [(35, s_.1), (40, s_.2.1), (41, s_.2.2.1), (8, .pointer (some ⟨s_.2.2.2, 0, none⟩)), (36, .agg #[.int .i64 a0_0, s_.1])]) (fun s_ w' => (w'.cell? ⟨gb1000, 0, none⟩ = some (.int .i64 a0_0) ∧ w'.cell? ⟨gb1000, 1, none⟩ = some (.slice A0_1 l0_1.length c0_1)) ∧ (Kd.R (Kd.int .i64) 2 w' w.heap.size (fun k_ => some k_ ≠ (s_.2.1 : Value).ownBlock ∧ some k_ ≠ (s_.2.2.1 : Value).ownBlock) s_.1 y1005) ∧ (Kd.R (Kd.int .i64) 2 w' w.heap.size (fun k_ => some k_ ≠ (s_.1 : Value).ownBlock ∧ some k_ ≠ (s_.2.2.1 : Value).ownBlock) s_.2.1 y1011) ∧ (Kd.R (Kd.int .i64) 2 w' w.heap.size (fun k_ => some k_ ≠ (s_.1 : Value).ownBlock ∧ some k_ ≠ (s_.2.1 : Value).ownBlock) s_.2.2.1 t1014) ∧ (w'.heap[gb1000]? = some (.cells #[.int .i64 a0_0, .slice A0_1 l0_1.length c0_1] 31 (0, 0))) ∧ (w'.heap[gb1001]? = some (.cells #[.int .i64 0, .slice none 0 0] 31 (0, 0))) ∧ (w'.heap[s_.2.2.2]? = some (.cells #[.int .i64 0, .slice none 0 0] 31 (0, 0))) ∧ (w.heap.size ≤ s_.2.2.2) ∧ (w.heap.size ≤ s_.2.2.2) ∧ (gb1000 ≠ s_.2.2.2) ∧ (s_.2.2.2 ≠ gb1000) ∧ (gb1001 ≠ s_.2.2.2) ∧ (s_.2.2.2 ≠ gb1001) ∧ (Below w.heap.size w w')) ?_ ?_
         rotate_left
         ·intro hJ2_7_8_9
          refine join_ (σ := Value × Value × Value × Nat) 5 (bl 13 1011) (fun s_ => [(37, s_.1), (40, s_.2.1), (41, s_.2.2.1), (8, .pointer (some ⟨s_.2.2.2, 0, none⟩))]) (fun s_ w' => (w'.cell? ⟨gb1000, 0, none⟩ = some (.int .i64 a0_0) ∧ w'.cell? ⟨gb1000, 1, none⟩ = some (.slice A0_1 l0_1.length c0_1)) ∧ (Kd.R (Kd.int .i64) 2 w' w.heap.size (fun k_ => some k_ ≠ (s_.2.1 : Value).ownBlock ∧ some k_ ≠ (s_.2.2.1 : Value).ownBlock) s_.1 y1008) ∧ (Kd.R (Kd.int .i64) 2 w' w.heap.size (fun k_ => some k_ ≠ (s_.1 : Value).ownBlock ∧ some k_ ≠ (s_.2.2.1 : Value).ownBlock) s_.2.1 y1011) ∧ (Kd.R (Kd.int .i64) 2 w' w.heap.size (fun k_ => some k_ ≠ (s_.1 : Value).ownBlock ∧ some k_ ≠ (s_.2.1 : Value).ownBlock) s_.2.2.1 t1014) ∧ (w'.heap[gb1000]? = some (.cells #[.int .i64 a0_0, .slice A0_1 l0_1.length c0_1] 31 (0, 0))) ∧ (w'.heap[gb1001]? = some (.cells #[.int .i64 0, .slice none 0 0] 31 (0, 0))) ∧ (w'.heap[s_.2.2.2]? = some (.cells #[.int .i64 0, .slice none 0 0] 31 (0, 0))) ∧ (w.heap.size ≤ s_.2.2.2) ∧ (w.heap.size ≤ s_.2.2.2) ∧ (gb1000 ≠ s_.2.2.2) ∧ (s_.2.2.2 ≠ gb1000) ∧ (gb1001 ≠ s_.2.2.2) ∧ (s_.2.2.2 ≠ gb1001) ∧ (Below w.heap.size w w')) ?_ ?_
          rotate_left
          ·intro hJ4_7_8_9
           refine join_ (σ := Value × Value × Value) 5 (bl 13 255) (fun s_ => [(35, s_.1), (37, s_.2.1), (40, s_.2.2), (36, .agg #[.int .i64 a0_0, s_.1])]) (fun s_ w' => (w'.cell? ⟨gb1000, 0, none⟩ = some (.int .i64 a0_0) ∧ w'.cell? ⟨gb1000, 1, none⟩ = some (.slice A0_1 l0_1.length c0_1)) ∧ (Kd.R (Kd.int .i64) 2 w' w.heap.size (fun k_ => some k_ ≠ (s_.2.1 : Value).ownBlock ∧ some k_ ≠ (s_.2.2 : Value).ownBlock) s_.1 y1005) ∧ (Kd.R (Kd.int .i64) 2 w' w.heap.size (fun k_ => some k_ ≠ (s_.1 : Value).ownBlock ∧ some k_ ≠ (s_.2.2 : Value).ownBlock) s_.2.1 y1008) ∧ (Kd.R (Kd.int .i64) 2 w' w.heap.size (fun k_ => some k_ ≠ (s_.1 : Value).ownBlock ∧ some k_ ≠ (s_.2.1 : Value).ownBlock) s_.2.2 y1011) ∧ (w'.heap[gb1000]? = some (.cells #[.int .i64 a0_0, .slice A0_1 l0_1.length c0_1] 31 (0, 0))) ∧ (w'.heap[gb1001]? = some (.cells #[.int .i64 0, .slice none 0 0] 31 (0, 0))) ∧ (Below w.heap.size w w')) ?_ ?_
           rotate_left
           ·intro hJ2_4_7
            refine join_ (σ := Value × Value × Nat) 5 (bl 13 639) (fun s_ => [(35, s_.1), (37, s_.2.1), (8, .pointer (some ⟨s_.2.2, 0, none⟩)), (36, .agg #[.int .i64 a0_0, s_.1])]) (fun s_ w' => (w'.cell? ⟨gb1000, 0, none⟩ = some (.int .i64 a0_0) ∧ w'.cell? ⟨gb1000, 1, none⟩ = some (.slice A0_1 l0_1.length c0_1)) ∧ (Kd.R (Kd.int .i64) 2 w' w.heap.size (fun k_ => some k_ ≠ (s_.2.1 : Value).ownBlock) s_.1 y1005) ∧ (Kd.R (Kd.int .i64) 2 w' w.heap.size (fun k_ => some k_ ≠ (s_.1 : Value).ownBlock) s_.2.1 y1008) ∧ (w'.heap[gb1000]? = some (.cells #[.int .i64 a0_0, .slice A0_1 l0_1.length c0_1] 31 (0, 0))) ∧ (w'.heap[gb1001]? = some (.cells #[.int .i64 0, .slice none 0 0] 31 (0, 0))) ∧ (w'.heap[s_.2.2]? = some (.cells #[.int .i64 0, .slice none 0 0] 31 (0, 0))) ∧ (w.heap.size ≤ s_.2.2) ∧ (w.heap.size ≤ s_.2.2) ∧ (gb1000 ≠ s_.2.2) ∧ (s_.2.2 ≠ gb1000) ∧ (gb1001 ≠ s_.2.2) ∧ (s_.2.2 ≠ gb1001) ∧ (Below w.heap.size w w')) ?_ ?_
            rotate_left
            ·intro hJ2_4_9
             refine join_ (σ := Value × Value × Value) 5 (bl 13 495) (fun s_ => [(35, s_.1), (40, s_.2.1), (41, s_.2.2), (36, .agg #[.int .i64 a0_0, s_.1])]) (fun s_ w' => (w'.cell? ⟨gb1000, 0, none⟩ = some (.int .i64 a0_0) ∧ w'.cell? ⟨gb1000, 1, none⟩ = some (.slice A0_1 l0_1.length c0_1)) ∧ (Kd.R (Kd.int .i64) 2 w' w.heap.size (fun k_ => some k_ ≠ (s_.2.1 : Value).ownBlock ∧ some k_ ≠ (s_.2.2 : Value).ownBlock) s_.1 y1005) ∧ (Kd.R (Kd.int .i64) 2 w' w.heap.size (fun k_ => some k_ ≠ (s_.1 : Value).ownBlock ∧ some k_ ≠ (s_.2.2 : Value).ownBlock) s_.2.1 y1011) ∧ (Kd.R (Kd.int .i64) 2 w' w.heap.size (fun k_ => some k_ ≠ (s_.1 : Value).ownBlock ∧ some k_ ≠ (s_.2.1 : Value).ownBlock) s_.2.2 t1014) ∧ (w'.heap[gb1000]? = some (.cells #[.int .i64 a0_0, .slice A0_1 l0_1.length c0_1] 31 (0, 0))) ∧ (w'.heap[gb1001]? = some (.cells #[.int .i64 0, .slice none 0 0] 31 (0, 0))) ∧ (Below w.heap.size w w')) ?_ ?_
             rotate_left
             ·intro hJ2_7_8
              refine join_ (σ := Value × Value × Nat) 5 (bl 13 751) (fun s_ => [(35, s_.1), (40, s_.2.1), (8, .pointer (some ⟨s_.2.2, 0, none⟩)), (36, .agg #[.int .i64 a0_0, s_.1])]) (fun s_ w' => (w'.cell? ⟨gb1000, 0, none⟩ = some (.int .i64 a0_0) ∧ w'.cell? ⟨gb1000, 1, none⟩ = some (.slice A0_1 l0_1.length c0_1)) ∧ (Kd.R (Kd.int .i64) 2 w' w.heap.size (fun k_ => some k_ ≠ (s_.2.1 : Value).ownBlock) s_.1 y1005) ∧ (Kd.R (Kd.int .i64) 2 w' w.heap.size (fun k_ => some k_ ≠ (s_.1 : Value).ownBlock) s_.2.1 y1011) ∧ (w'.heap[gb1000]? = some (.cells #[.int .i64 a0_0, .slice A0_1 l0_1.length c0_1] 31 (0, 0))) ∧ (w'.heap[gb1001]? = some (.cells #[.int .i64 0, .slice none 0 0] 31 (0, 0))) ∧ (w'.heap[s_.2.2]? = some (.cells #[.int .i64 0, .slice none 0 0] 31 (0, 0))) ∧ (w.heap.size ≤ s_.2.2) ∧ (w.heap.size ≤ s_.2.2) ∧ (gb1000 ≠ s_.2.2) ∧ (s_.2.2 ≠ gb1000) ∧ (gb1001 ≠ s_.2.2) ∧ (s_.2.2 ≠ gb1001) ∧ (Below w.heap.size w w')) ?_ ?_
              rotate_left
              ·intro hJ2_7_9
               refine join_ (σ := Value × Value × Value) 6 (bl 13 499) (fun s_ => [(37, s_.1), (40, s_.2.1), (41, s_.2.2)]) (fun s_ w' => (w'.cell? ⟨gb1000, 0, none⟩ = some (.int .i64 a0_0) ∧ w'.cell? ⟨gb1000, 1, none⟩ = some (.slice A0_1 l0_1.length c0_1)) ∧ (Kd.R (Kd.int .i64) 2 w' w.heap.size (fun k_ => some k_ ≠ (s_.2.1 : Value).ownBlock ∧ some k_ ≠ (s_.2.2 : Value).ownBlock) s_.1 y1008) ∧ (Kd.R (Kd.int .i64) 2 w' w.heap.size (fun k_ => some k_ ≠ (s_.1 : Value).ownBlock ∧ some k_ ≠ (s_.2.2 : Value).ownBlock) s_.2.1 y1011) ∧ (Kd.R (Kd.int .i64) 2 w' w.heap.size (fun k_ => some k_ ≠ (s_.1 : Value).ownBlock ∧ some k_ ≠ (s_.2.1 : Value).ownBlock) s_.2.2 t1014) ∧ (w'.heap[gb1000]? = some (.cells #[.int .i64 a0_0, .slice A0_1 l0_1.length c0_1] 31 (0, 0))) ∧ (w'.heap[gb1001]? = some (.cells #[.int .i64 0, .slice none 0 0] 31 (0, 0))) ∧ (Below w.heap.size w w')) ?_ ?_
               rotate_left
               ·intro hJ4_7_8
                refine join_ (σ := Value × Value × Nat) 6 (bl 13 755) (fun s_ => [(37, s_.1), (40, s_.2.1), (8, .pointer (some ⟨s_.2.2, 0, none⟩))]) (fun s_ w' => (w'.cell? ⟨gb1000, 0, none⟩ = some (.int .i64 a0_0) ∧ w'.cell? ⟨gb1000, 1, none⟩ = some (.slice A0_1 l0_1.length c0_1)) ∧ (Kd.R (Kd.int .i64) 2 w' w.heap.size (fun k_ => some k_ ≠ (s_.2.1 : Value).ownBlock) s_.1 y1008) ∧ (Kd.R (Kd.int .i64) 2 w' w.heap.size (fun k_ => some k_ ≠ (s_.1 : Value).ownBlock) s_.2.1 y1011) ∧ (w'.heap[gb1000]? = some (.cells #[.int .i64 a0_0, .slice A0_1 l0_1.length c0_1] 31 (0, 0))) ∧ (w'.heap[gb1001]? = some (.cells #[.int .i64 0, .slice none 0 0] 31 (0, 0))) ∧ (w'.heap[s_.2.2]? = some (.cells #[.int .i64 0, .slice none 0 0] 31 (0, 0))) ∧ (w.heap.size ≤ s_.2.2) ∧ (w.heap.size ≤ s_.2.2) ∧ (gb1000 ≠ s_.2.2) ∧ (s_.2.2 ≠ gb1000) ∧ (gb1001 ≠ s_.2.2) ∧ (s_.2.2 ≠ gb1001) ∧ (Below w.heap.size w w')) ?_ ?_
                rotate_left
                ·intro hJ4_7_9
                 refine join_ (σ := Value × Value × Nat) 6 (bl 13 995) (fun s_ => [(40, s_.1), (41, s_.2.1), (8, .pointer (some ⟨s_.2.2, 0, none⟩))]) (fun s_ w' => (w'.cell? ⟨gb1000, 0, none⟩ = some (.int .i64 a0_0) ∧ w'.cell? ⟨gb1000, 1, none⟩ = some (.slice A0_1 l0_1.length c0_1)) ∧ (Kd.R (Kd.int .i64) 2 w' w.heap.size (fun k_ => some k_ ≠ (s_.2.1 : Value).ownBlock) s_.1 y1011) ∧ (Kd.R (Kd.int .i64) 2 w' w.heap.size (fun k_ => some k_ ≠ (s_.1 : Value).ownBlock) s_.2.1 t1014) ∧ (w'.heap[gb1000]? = some (.cells #[.int .i64 a0_0, .slice A0_1 l0_1.length c0_1] 31 (0, 0))) ∧ (w'.heap[gb1001]? = some (.cells #[.int .i64 0, .slice none 0 0] 31 (0, 0))) ∧ (w'.heap[s_.2.2]? = some (.cells #[.int .i64 0, .slice none 0 0] 31 (0, 0))) ∧ (w.heap.size ≤ s_.2.2) ∧ (w.heap.size ≤ s_.2.2) ∧ (gb1000 ≠ s_.2.2) ∧ (s_.2.2 ≠ gb1000) ∧ (gb1001 ≠ s_.2.2) ∧ (s_.2.2 ≠ gb1001) ∧ (Below w.heap.size w w')) ?_ ?_
                 rotate_left
                 ·intro hJ7_8_9
                  refine join_ (σ := Value × Value) 6 (bl 13 127) (fun s_ => [(35, s_.1), (37, s_.2), (36, .agg #[.int .i64 a0_0, s_.1])]) (fun s_ w' => (w'.cell? ⟨gb1000, 0, none⟩ = some (.int .i64 a0_0) ∧ w'.cell? ⟨gb1000, 1, none⟩ = some (.slice A0_1 l0_1.length c0_1)) ∧ (Kd.R (Kd.int .i64) 2 w' w.heap.size (fun k_ => some k_ ≠ (s_.2 : Value).ownBlock) s_.1 y1005) ∧ (Kd.R (Kd.int .i64) 2 w' w.heap.size (fun k_ => some k_ ≠ (s_.1 : Value).ownBlock) s_.2 y1008) ∧ (w'.heap[gb1000]? = some (.cells #[.int .i64 a0_0, .slice A0_1 l0_1.length c0_1] 31 (0, 0))) ∧ (w'.heap[gb1001]? = some (.cells #[.int .i64 0, .slice none 0 0] 31 (0, 0))) ∧ (Below w.heap.size w w')) ?_ ?_
                  rotate_left
                  ·intro hJ2_4
                   refine join_ (σ := Value × Value) 6 (bl 13 239) (fun s_ => [(35, s_.1), (40, s_.2), (36, .agg #[.int .i64 a0_0, s_.1])]) (fun s_ w' => (w'.cell? ⟨gb1000, 0, none⟩ = some (.int .i64 a0_0) ∧ w'.cell? ⟨gb1000, 1, none⟩ = some (.slice A0_1 l0_1.length c0_1)) ∧ (Kd.R (Kd.int .i64) 2 w' w.heap.size (fun k_ => some k_ ≠ (s_.2 : Value).ownBlock) s_.1 y1005) ∧ (Kd.R (Kd.int .i64) 2 w' w.heap.size (fun k_ => some k_ ≠ (s_.1 : Value).ownBlock) s_.2 y1011) ∧ (w'.heap[gb1000]? = some (.cells #[.int .i64 a0_0, .slice A0_1 l0_1.length c0_1] 31 (0, 0))) ∧ (w'.heap[gb1001]? = some (.cells #[.int .i64 0, .slice none 0 0] 31 (0, 0))) ∧ (Below w.heap.size w w')) ?_ ?_
                   rotate_left
                   ·intro hJ2_7
                    refine join_ (σ := Value × Nat) 6 (bl 13 623) (fun s_ => [(35, s_.1), (8, .pointer (some ⟨s_.2, 0, none⟩)), (36, .agg #[.int .i64 a0_0, s_.1])]) (fun s_ w' => (w'.cell? ⟨gb1000, 0, none⟩ = some (.int .i64 a0_0) ∧ w'.cell? ⟨gb1000, 1, none⟩ = some (.slice A0_1 l0_1.length c0_1)) ∧ (Kd.R (Kd.int .i64) 2 w' w.heap.size (fun _ => True) s_.1 y1005) ∧ (w'.heap[gb1000]? = some (.cells #[.int .i64 a0_0, .slice A0_1 l0_1.length c0_1] 31 (0, 0))) ∧ (w'.heap[gb1001]? = some (.cells #[.int .i64 0, .slice none 0 0] 31 (0, 0))) ∧ (w'.heap[s_.2]? = some (.cells #[.int .i64 0, .slice none 0 0] 31 (0, 0))) ∧ (w.heap.size ≤ s_.2) ∧ (w.heap.size ≤ s_.2) ∧ (gb1000 ≠ s_.2) ∧ (s_.2 ≠ gb1000) ∧ (gb1001 ≠ s_.2) ∧ (s_.2 ≠ gb1001) ∧ (Below w.heap.size w w')) ?_ ?_
                    rotate_left
                    ·intro hJ2_9
                     refine join_ (σ := Value × Value) 7 (bl 13 243) (fun s_ => [(37, s_.1), (40, s_.2)]) (fun s_ w' => (w'.cell? ⟨gb1000, 0, none⟩ = some (.int .i64 a0_0) ∧ w'.cell? ⟨gb1000, 1, none⟩ = some (.slice A0_1 l0_1.length c0_1)) ∧ (Kd.R (Kd.int .i64) 2 w' w.heap.size (fun k_ => some k_ ≠ (s_.2 : Value).ownBlock) s_.1 y1008) ∧ (Kd.R (Kd.int .i64) 2 w' w.heap.size (fun k_ => some k_ ≠ (s_.1 : Value).ownBlock) s_.2 y1011) ∧ (w'.heap[gb1000]? = some (.cells #[.int .i64 a0_0, .slice A0_1 l0_1.length c0_1] 31 (0, 0))) ∧ (w'.heap[gb1001]? = some (.cells #[.int .i64 0, .slice none 0 0] 31 (0, 0))) ∧ (Below w.heap.size w w')) ?_ ?_
                     rotate_left
                     ·intro hJ4_7
                      refine join_ (σ := Value × Nat) 7 (bl 13 627) (fun s_ => [(37, s_.1), (8, .pointer (some ⟨s_.2, 0, none⟩))]) (fun s_ w' => (w'.cell? ⟨gb1000, 0, none⟩ = some (.int .i64 a0_0) ∧ w'.cell? ⟨gb1000, 1, none⟩ = some (.slice A0_1 l0_1.length c0_1)) ∧ (Kd.R (Kd.int .i64) 2 w' w.heap.size (fun _ => True) s_.1 y1008) ∧ (w'.heap[gb1000]? = some (.cells #[.int .i64 a0_0, .slice A0_1 l0_1.length c0_1] 31 (0, 0))) ∧ (w'.heap[gb1001]? = some (.cells #[.int .i64 0, .slice none 0 0] 31 (0, 0))) ∧ (w'.heap[s_.2]? = some (.cells #[.int .i64 0, .slice none 0 0] 31 (0, 0))) ∧ (w.heap.size ≤ s_.2) ∧ (w.heap.size ≤ s_.2) ∧ (gb1000 ≠ s_.2) ∧ (s_.2 ≠ gb1000) ∧ (gb1001 ≠ s_.2) ∧ (s_.2 ≠ gb1001) ∧ (Below w.heap.size w w')) ?_ ?_
                      rotate_left
                      ·intro hJ4_9
                       refine join_ (σ := Value × Value) 7 (bl 13 483) (fun s_ => [(40, s_.1), (41, s_.2)]) (fun s_ w' => (w'.cell? ⟨gb1000, 0, none⟩ = some (.int .i64 a0_0) ∧ w'.cell? ⟨gb1000, 1, none⟩ = some (.slice A0_1 l0_1.length c0_1)) ∧ (Kd.R (Kd.int .i64) 2 w' w.heap.size (fun k_ => some k_ ≠ (s_.2 : Value).ownBlock) s_.1 y1011) ∧ (Kd.R (Kd.int .i64) 2 w' w.heap.size (fun k_ => some k_ ≠ (s_.1 : Value).ownBlock) s_.2 t1014) ∧ (w'.heap[gb1000]? = some (.cells #[.int .i64 a0_0, .slice A0_1 l0_1.length c0_1] 31 (0, 0))) ∧ (w'.heap[gb1001]? = some (.cells #[.int .i64 0, .slice none 0 0] 31 (0, 0))) ∧ (Below w.heap.size w w')) ?_ ?_
                       rotate_left
                       ·intro hJ7_8
                        refine join_ (σ := Value × Nat) 7 (bl 13 739) (fun s_ => [(40, s_.1), (8, .pointer (some ⟨s_.2, 0, none⟩))]) (fun s_ w' => (w'.cell? ⟨gb1000, 0, none⟩ = some (.int .i64 a0_0) ∧ w'.cell? ⟨gb1000, 1, none⟩ = some (.slice A0_1 l0_1.length c0_1)) ∧ (Kd.R (Kd.int .i64) 2 w' w.heap.size (fun _ => True) s_.1 y1011) ∧ (w'.heap[gb1000]? = some (.cells #[.int .i64 a0_0, .slice A0_1 l0_1.length c0_1] 31 (0, 0))) ∧ (w'.heap[gb1001]? = some (.cells #[.int .i64 0, .slice none 0 0] 31 (0, 0))) ∧ (w'.heap[s_.2]? = some (.cells #[.int .i64 0, .slice none 0 0] 31 (0, 0))) ∧ (w.heap.size ≤ s_.2) ∧ (w.heap.size ≤ s_.2) ∧ (gb1000 ≠ s_.2) ∧ (s_.2 ≠ gb1000) ∧ (gb1001 ≠ s_.2) ∧ (s_.2 ≠ gb1001) ∧ (Below w.heap.size w w')) ?_ ?_
                        rotate_left
                        ·intro hJ7_9
                         refine join_ (σ := Value) 7 (bl 13 111) (fun s_ => [(35, s_), (36, .agg #[.int .i64 a0_0, s_])]) (fun s_ w' => (w'.cell? ⟨gb1000, 0, none⟩ = some (.int .i64 a0_0) ∧ w'.cell? ⟨gb1000, 1, none⟩ = some (.slice A0_1 l0_1.length c0_1)) ∧ (Kd.R (Kd.int .i64) 2 w' w.heap.size (fun _ => True) s_ y1005) ∧ (w'.heap[gb1000]? = some (.cells #[.int .i64 a0_0, .slice A0_1 l0_1.length c0_1] 31 (0, 0))) ∧ (w'.heap[gb1001]? = some (.cells #[.int .i64 0, .slice none 0 0] 31 (0, 0))) ∧ (Below w.heap.size w w')) ?_ ?_
                         rotate_left
                         ·intro hJ2
                          refine join_ (σ := Value) 8 (bl 13 115) (fun s_ => [(37, s_)]) (fun s_ w' => (w'.cell? ⟨gb1000, 0, none⟩ = some (.int .i64 a0_0) ∧ w'.cell? ⟨gb1000, 1, none⟩ = some (.slice A0_1 l0_1.length c0_1)) ∧ (Kd.R (Kd.int .i64) 2 w' w.heap.size (fun _ => True) s_ y1008) ∧ (w'.heap[gb1000]? = some (.cells #[.int .i64 a0_0, .slice A0_1 l0_1.length c0_1] 31 (0, 0))) ∧ (w'.heap[gb1001]? = some (.cells #[.int .i64 0, .slice none 0 0] 31 (0, 0))) ∧ (Below w.heap.size w w')) ?_ ?_
                          rotate_left
                          ·intro hJ4
                           refine join_ (σ := Value) 8 (bl 13 227) (fun s_ => [(40, s_)]) (fun s_ w' => (w'.cell? ⟨gb1000, 0, none⟩ = some (.int .i64 a0_0) ∧ w'.cell? ⟨gb1000, 1, none⟩ = some (.slice A0_1 l0_1.length c0_1)) ∧ (Kd.R (Kd.int .i64) 2 w' w.heap.size (fun _ => True) s_ y1011) ∧ (w'.heap[gb1000]? = some (.cells #[.int .i64 a0_0, .slice A0_1 l0_1.length c0_1] 31 (0, 0))) ∧ (w'.heap[gb1001]? = some (.cells #[.int .i64 0, .slice none 0 0] 31 (0, 0))) ∧ (Below w.heap.size w w')) ?_ ?_
                           rotate_left
                           ·intro hJ7
                            refine join_ (σ := Nat) 8 (bl 13 611) (fun s_ => [(8, .pointer (some ⟨s_, 0, none⟩))]) (fun s_ w' => (w'.cell? ⟨gb1000, 0, none⟩ = some (.int .i64 a0_0) ∧ w'.cell? ⟨gb1000, 1, none⟩ = some (.slice A0_1 l0_1.length c0_1)) ∧ (w'.heap[gb1000]? = some (.cells #[.int .i64 a0_0, .slice A0_1 l0_1.length c0_1] 31 (0, 0))) ∧ (w'.heap[gb1001]? = some (.cells #[.int .i64 0, .slice none 0 0] 31 (0, 0))) ∧ (w'.heap[s_]? = some (.cells #[.int .i64 0, .slice none 0 0] 31 (0, 0))) ∧ (w.heap.size ≤ s_) ∧ (w.heap.size ≤ s_) ∧ (gb1000 ≠ s_) ∧ (s_ ≠ gb1000) ∧ (gb1001 ≠ s_) ∧ (s_ ≠ gb1001) ∧ (Below w.heap.size w w')) ?_ ?_
                            rotate_left
                            ·intro hJ9
                             refine four_ (i := 2) (j := 4) (k := 7) (m := 9) (Ni := some 35) (Nj := some 37) (Nk := some 40) (Nm := some 8) (bl 13 103) (bl 13 115) (bl 13 227) (bl 13 611) rfl rfl rfl rfl rfl rfl rfl rfl (four_of HT_.out (by kernel_rfl)) (by decide) (by decide) (by decide) (by decide) (fun K hK => ?_) (fun K hK => ?_) (fun K hK => ?_) (fun K hK => ?_)
                             ·skip
                              refine Kd.R_lit_step (Kd.int .i64) _ 2 ?hg (N := 35) ?hd (xs := ([] : List Int)) (inner := []) (ok := fun _ => True) (okp := fun _ => True) ?hr ?hp (fun _ hk => hk) trivial (Below.refl _ _) (Nat.le_refl _) (by simp) ?_; (case hd => rfl); (case hg => rfl); (case hr => first | (go_simp; done) | (go_simp; rfl)); (case hp => exact (Reps.none _ _))
                              intro v1006 w20 ho21 hb hg_ hnew_
                              clear hg_ hnew_
                              (first | rw [← Ny1005.out] at ho21 | (simp only [Int.reduceToNat] at ho21; rw [← Ny1005.out] at ho21))
                              have HO1007 := zA (Kd.R_lower ho21 (below_size (uH HB.out)))
                              replace BK1000 := xB BK1000 hb
                              replace BK1001 := xB BK1001 hb
                              replace HB := xH HB hb
                              clear hb ho21
                              obtain ⟨Ao22, co22, eo22⟩ := Kd.R_slice HO1007.out
                              (first | subst eo22 | (injection eo22 with f1_ f2_ f3_; have f4_ := f1_.symm; have f5_ := f3_.symm; clear f1_ f2_ f3_; subst f4_; subst f5_))
                              refine hK.out _ _ ⟨bcu BK1000 0, bcu BK1000 1⟩ (fun hHeld => ?_)
                              clear hK K
                              refine no_ 35 ?_
                              refine pu_ 3 36 (bl 13 111) HT_ ?_
                              exact norm_ (by first | (simp only [putAll, Act.put, ls, lz, ln]; done) | (simp only [putAll, Act.put, ls, lz, ln]; rfl)) (hJ2 (.slice Ao22 y1005.length co22) _ ⟨hHeld, (uR HO1007.out), (uB BK1000.out), (uB BK1001.out), (uH HB.out)⟩)
                             ·skip
                              refine Kd.R_lit_step (Kd.int .i64) _ 2 ?hg (N := 37) ?hd (xs := ([1] : List Int)) (inner := [.int .i64 1]) (ok := fun _ => True) (okp := fun _ => True) ?hr ?hp (fun _ hk => hk) trivial (Below.refl _ _) (Nat.le_refl _) (by simp) ?_; (case hd => rfl); (case hg => rfl); (case hr => first | (go_simp; done) | (go_simp; rfl)); (case hp => exact (Reps.one (show Kd.M (Kd.int .i64) _ _ _ 1 [.int .i64 1] from rfl) (Reps.none _ _)))
                              intro v1009 w20 ho21 hb hg_ hnew_
                              clear hg_ hnew_
                              (first | rw [← Ny1008.out] at ho21 | (simp only [Int.reduceToNat] at ho21; rw [← Ny1008.out] at ho21))
                              have HO1010 := zA (Kd.R_lower ho21 (below_size (uH HB.out)))
                              replace BK1000 := xB BK1000 hb
                              replace BK1001 := xB BK1001 hb
                              replace HB := xH HB hb
                              clear hb ho21
                              refine hK.out _ _ ⟨bcu BK1000 0, bcu BK1000 1⟩ (fun hHeld => ?_)
                              clear hK K
                              refine no_ 37 ?_
                              exact norm_ (by first | (simp only [putAll, Act.put, ls, lz, ln]; done) | (simp only [putAll, Act.put, ls, lz, ln]; rfl)) (hJ4 (v1009) _ ⟨hHeld, (uR HO1010.out), (uB BK1000.out), (uB BK1001.out), (uH HB.out)⟩)
                             ·skip
                              refine Kd.R_lit_step (Kd.int .i64) _ 2 ?hg (N := 40) ?hd (xs := ([a2, a1] : List Int)) (inner := [.int .i64 a2, .int .i64 a1]) (ok := fun _ => True) (okp := fun _ => True) ?hr ?hp (fun _ hk => hk) trivial (Below.refl _ _) (Nat.le_refl _) (by simp) ?_; (case hd => rfl); (case hg => rfl); (case hr => first | (go_simp; done) | (go_simp; rfl)); (case hp => exact (Reps.one (show Kd.M (Kd.int .i64) _ _ _ a2 [.int .i64 a2] from rfl) (Reps.one (show Kd.M (Kd.int .i64) _ _ _ a1 [.int .i64 a1] from rfl) (Reps.none _ _))))
                              intro v1012 w20 ho21 hb hg_ hnew_
                              clear hg_ hnew_
                              (first | rw [← Ny1011.out] at ho21 | (simp only [Int.reduceToNat] at ho21; rw [← Ny1011.out] at ho21))
                              have HO1013 := zA (Kd.R_lower ho21 (below_size (uH HB.out)))
                              replace BK1000 := xB BK1000 hb
                              replace BK1001 := xB BK1001 hb
                              replace HB := xH HB hb
                              clear hb ho21
                              refine hK.out _ _ ⟨bcu BK1000 0, bcu BK1000 1⟩ (fun hHeld => ?_)
                              clear hK K
                              refine no_ 40 ?_
                              exact norm_ (by first | (simp only [putAll, Act.put, ls, lz, ln]; done) | (simp only [putAll, Act.put, ls, lz, ln]; rfl)) (hJ7 (v1012) _ ⟨hHeld, (uR HO1013.out), (uB BK1000.out), (uB BK1001.out), (uH HB.out)⟩)
                             ·skip
                              refine box_step ?hg (N := 8) ?hd (cs := #[.int .i64 0, .slice none 0 0]) (t := 31) ?hr ?_; (case hd => rfl); (case hg => rfl); (case hr => first | (go_simp; done) | (go_simp; rfl))
                              intro gb1017 hg w20 hbox hb
                              have BK1017 := zA (hbox)
                              have GW1017 := gq HB hg
                              have GE1017 := gq HB hg
                              replace HB := xH HB hb
                              have NB1000_1017 := zA ((by rw [hg]; exact neL BK1000 : gb1000 ≠ gb1017))
                              have NB1017_1000 := zA ((by rw [hg]; exact neG BK1000 : gb1017 ≠ gb1000))
                              replace BK1000 := xB BK1000 hb
                              have NB1001_1017 := zA ((by rw [hg]; exact neL BK1001 : gb1001 ≠ gb1017))
                              have NB1017_1001 := zA ((by rw [hg]; exact neG BK1001 : gb1017 ≠ gb1001))
                              replace BK1001 := xB BK1001 hb
                              have := geI GE1017
                              clear hb hbox hg
                              refine hK.out _ _ ⟨bcu BK1000 0, bcu BK1000 1⟩ (fun hHeld => ?_)
                              clear hK K
                              refine no_ 8 ?_
                              exact norm_ (by first | (simp only [putAll, Act.put, ls, lz, ln]; done) | (simp only [putAll, Act.put, ls, lz, ln]; rfl)) (hJ9 (gb1017) _ ⟨hHeld, (uB BK1000.out), (uB BK1001.out), (uB BK1017.out), GW1017.out, GE1017.out, NB1000_1017.out, NB1017_1000.out, NB1001_1017.out, NB1017_1001.out, (uH HB.out)⟩)
                            ·skip
                             rintro gb1017 w21 ⟨hS_, h0_, h1_, h2_, h3_, h4_, h5_, h6_, h7_, h8_, h9_⟩
                             have n0_ : Aside0 (w21.heap[gb1000]? = some (.cells #[.int .i64 a0_0, .slice A0_1 l0_1.length c0_1] 31 (0, 0))) := ⟨h0_⟩
                             have n1_ : Aside0 (w21.heap[gb1001]? = some (.cells #[.int .i64 0, .slice none 0 0] 31 (0, 0))) := ⟨h1_⟩
                             have n2_ : Aside0 (w21.heap[gb1017]? = some (.cells #[.int .i64 0, .slice none 0 0] 31 (0, 0))) := ⟨h2_⟩
                             have n3_ : Aside0 (w.heap.size ≤ gb1017) := ⟨h3_⟩
                             have n4_ : Aside0 (w.heap.size ≤ gb1017) := ⟨h4_⟩
                             have n5_ : Aside0 (gb1000 ≠ gb1017) := ⟨h5_⟩
                             have n6_ : Aside0 (gb1017 ≠ gb1000) := ⟨h6_⟩
                             have n7_ : Aside0 (gb1001 ≠ gb1017) := ⟨h7_⟩
                             have n8_ : Aside0 (gb1017 ≠ gb1001) := ⟨h8_⟩
                             have n9_ : Aside0 (Below w.heap.size w w21) := ⟨h9_⟩
                             clear BK1000 BK1001 HB
                             clear h0_ h1_ h2_ h3_ h4_ h5_ h6_ h7_ h8_ h9_
                             have BK1000 := n0_
                             have BK1001 := n1_
                             have BK1017 := n2_
                             have GW1017 := n3_
                             have GE1017 := n4_
                             have := geI GE1017
                             have NB1000_1017 := n5_
                             have NB1017_1000 := n6_
                             have NB1001_1017 := n7_
                             have NB1017_1001 := n8_
                             have HB := n9_
                             clear n0_ n1_ n2_ n3_ n4_ n5_ n6_ n7_ n8_ n9_
                             have hHeld : w21.cell? ⟨gb1000, 0, none⟩ = some (.int .i64 a0_0) ∧ w21.cell? ⟨gb1000, 1, none⟩ = some (.slice A0_1 l0_1.length c0_1) := hS_
                             refine norm_ (a' := ?_) ?_ ?_
                             rotate_left
                             ·simp only [putAll, Act.put, ls, lz, ln]
                              rfl
                             refine three_ (i := 2) (j := 4) (k := 7) (Ni := some 35) (Nj := some 37) (Nk := some 40) (bl 13 615) (bl 13 627) (bl 13 739) rfl rfl rfl rfl rfl rfl (three_of HT_.out (by kernel_rfl)) (by decide) (by decide) (by decide) (fun K hK => ?_) (fun K hK => ?_) (fun K hK => ?_)
                             ·skip
                              refine Kd.R_lit_step (Kd.int .i64) _ 2 ?hg (N := 35) ?hd (xs := ([] : List Int)) (inner := []) (ok := fun _ => True) (okp := fun _ => True) ?hr ?hp (fun _ hk => hk) trivial (Below.refl _ _) (Nat.le_refl _) (by simp) ?_; (case hd => rfl); (case hg => rfl); (case hr => first | (go_simp; done) | (go_simp; rfl)); (case hp => exact (Reps.none _ _))
                              intro v1006 w22 ho23 hb hg_ hnew_
                              clear hg_ hnew_
                              (first | rw [← Ny1005.out] at ho23 | (simp only [Int.reduceToNat] at ho23; rw [← Ny1005.out] at ho23))
                              have HO1007 := zA (Kd.R_lower ho23 (below_size (uH HB.out)))
                              replace BK1000 := xB BK1000 hb
                              replace BK1001 := xB BK1001 hb
                              replace BK1017 := xB BK1017 hb
                              replace HB := xH HB hb
                              clear hb ho23
                              obtain ⟨Ao24, co24, eo24⟩ := Kd.R_slice HO1007.out
                              (first | subst eo24 | (injection eo24 with f1_ f2_ f3_; have f4_ := f1_.symm; have f5_ := f3_.symm; clear f1_ f2_ f3_; subst f4_; subst f5_))
                              refine hK.out _ _ ⟨bcu BK1000 0, bcu BK1000 1⟩ (fun hHeld => ?_)
                              clear hK K
                              refine no_ 35 ?_
                              refine pu_ 3 36 (bl 13 623) HT_ ?_
                              exact norm_ (by first | (simp only [putAll, Act.put, ls, lz, ln]; done) | (simp only [putAll, Act.put, ls, lz, ln]; rfl)) (hJ2_9 (.slice Ao24 y1005.length co24, gb1017) _ ⟨hHeld, (uR HO1007.out), (uB BK1000.out), (uB BK1001.out), (uB BK1017.out), GW1017.out, GE1017.out, NB1000_1017.out, NB1017_1000.out, NB1001_1017.out, NB1017_1001.out, (uH HB.out)⟩)
                             ·skip
                              refine Kd.R_lit_step (Kd.int .i64) _ 2 ?hg (N := 37) ?hd (xs := ([1] : List Int)) (inner := [.int .i64 1]) (ok := fun _ => True) (okp := fun _ => True) ?hr ?hp (fun _ hk => hk) trivial (Below.refl _ _) (Nat.le_refl _) (by simp) ?_; (case hd => rfl); (case hg => rfl); (case hr => first | (go_simp; done) | (go_simp; rfl)); (case hp => exact (Reps.one (show Kd.M (Kd.int .i64) _ _ _ 1 [.int .i64 1] from rfl) (Reps.none _ _)))
                              intro v1009 w22 ho23 hb hg_ hnew_
                              clear hg_ hnew_
                              (first | rw [← Ny1008.out] at ho23 | (simp only [Int.reduceToNat] at ho23; rw [← Ny1008.out] at ho23))
                              have HO1010 := zA (Kd.R_lower ho23 (below_size (uH HB.out)))
                              replace BK1000 := xB BK1000 hb
                              replace BK1001 := xB BK1001 hb
                              replace BK1017 := xB BK1017 hb
                              replace HB := xH HB hb
                              clear hb ho23
                              refine hK.out _ _ ⟨bcu BK1000 0, bcu BK1000 1⟩ (fun hHeld => ?_)
                              clear hK K
                              refine no_ 37 ?_
                              exact norm_ (by first | (simp only [putAll, Act.put, ls, lz, ln]; done) | (simp only [putAll, Act.put, ls, lz, ln]; rfl)) (hJ4_9 (v1009, gb1017) _ ⟨hHeld, (uR HO1010.out), (uB BK1000.out), (uB BK1001.out), (uB BK1017.out), GW1017.out, GE1017.out, NB1000_1017.out, NB1017_1000.out, NB1001_1017.out, NB1017_1001.out, (uH HB.out)⟩)
                             ·skip
                              refine Kd.R_lit_step (Kd.int .i64) _ 2 ?hg (N := 40) ?hd (xs := ([a2, a1] : List Int)) (inner := [.int .i64 a2, .int .i64 a1]) (ok := fun _ => True) (okp := fun _ => True) ?hr ?hp (fun _ hk => hk) trivial (Below.refl _ _) (Nat.le_refl _) (by simp) ?_; (case hd => rfl); (case hg => rfl); (case hr => first | (go_simp; done) | (go_simp; rfl)); (case hp => exact (Reps.one (show Kd.M (Kd.int .i64) _ _ _ a2 [.int .i64 a2] from rfl) (Reps.one (show Kd.M (Kd.int .i64) _ _ _ a1 [.int .i64 a1] from rfl) (Reps.none _ _))))
                              intro v1012 w22 ho23 hb hg_ hnew_
                              clear hg_ hnew_
                              (first | rw [← Ny1011.out] at ho23 | (simp only [Int.reduceToNat] at ho23; rw [← Ny1011.out] at ho23))
                              have HO1013 := zA (Kd.R_lower ho23 (below_size (uH HB.out)))
                              replace BK1000 := xB BK1000 hb
                              replace BK1001 := xB BK1001 hb
                              replace BK1017 := xB BK1017 hb
                              replace HB := xH HB hb
                              clear hb ho23
                              refine hK.out _ _ ⟨bcu BK1000 0, bcu BK1000 1⟩ (fun hHeld => ?_)
                              clear hK K
                              refine no_ 40 ?_
                              exact norm_ (by first | (simp only [putAll, Act.put, ls, lz, ln]; done) | (simp only [putAll, Act.put, ls, lz, ln]; rfl)) (hJ7_9 (v1012, gb1017) _ ⟨hHeld, (uR HO1013.out), (uB BK1000.out), (uB BK1001.out), (uB BK1017.out), GW1017.out, GE1017.out, NB1000_1017.out, NB1017_1000.out, NB1001_1017.out, NB1017_1001.out, (uH HB.out)⟩)
                           ·skip
                            rintro v1012 w22 ⟨hS_, h0_, h1_, h2_, h3_⟩
                            have n0_ : Aside0 (Kd.R (Kd.int .i64) 2 w22 w.heap.size (fun _ => True) v1012 y1011) := ⟨h0_⟩
                            have n1_ : Aside0 (w22.heap[gb1000]? = some (.cells #[.int .i64 a0_0, .slice A0_1 l0_1.length c0_1] 31 (0, 0))) := ⟨h1_⟩
                            have n2_ : Aside0 (w22.heap[gb1001]? = some (.cells #[.int .i64 0, .slice none 0 0] 31 (0, 0))) := ⟨h2_⟩
                            have n3_ : Aside0 (Below w.heap.size w w22) := ⟨h3_⟩
                            clear BK1000 BK1001 HB
                            clear h0_ h1_ h2_ h3_
                            have HO1013 := n0_
                            have BK1000 := n1_
                            have BK1001 := n2_
                            have HB := n3_
                            clear n0_ n1_ n2_ n3_
                            have hHeld : w22.cell? ⟨gb1000, 0, none⟩ = some (.int .i64 a0_0) ∧ w22.cell? ⟨gb1000, 1, none⟩ = some (.slice A0_1 l0_1.length c0_1) := hS_
                            refine norm_ (a' := ?_) ?_ ?_
                            rotate_left
                            ·simp only [putAll, Act.put, ls, lz, ln]
                             rfl
                            refine four_ (i := 2) (j := 4) (k := 8) (m := 9) (Ni := some 35) (Nj := some 37) (Nk := some 41) (Nm := some 8) (bl 13 231) (bl 13 243) (bl 13 483) (bl 13 739) rfl rfl rfl rfl rfl rfl rfl rfl (four_of HT_.out (by kernel_rfl)) (by decide) (by decide) (by decide) (by decide) (fun K hK => ?_) (fun K hK => ?_) (fun K hK => ?_) (fun K hK => ?_)
                            ·skip
                             refine Kd.R_lit_step (Kd.int .i64) _ 2 ?hg (N := 35) ?hd (xs := ([] : List Int)) (inner := []) (ok := fun _ => True) (okp := fun _ => True) ?hr ?hp (fun _ hk => hk) trivial (Below.refl _ _) (Nat.le_refl _) (by simp) ?_; (case hd => rfl); (case hg => rfl); (case hr => first | (go_simp; done) | (go_simp; rfl)); (case hp => exact (Reps.none _ _))
                             intro v1006 w23 ho24 hb hg_ hnew_
                             clear hg_ hnew_
                             (first | rw [← Ny1005.out] at ho24 | (simp only [Int.reduceToNat] at ho24; rw [← Ny1005.out] at ho24))
                             have HO1007 := zA (Kd.R_lower (Kd.R_new' ho24 (Kd.R_lt (uR HO1013.out))) (below_size (uH HB.out)))
                             replace HO1013 := zA (Kd.R_elder' (uR HO1013.out) (Kd.R_base ho24) hb)
                             replace BK1000 := xB BK1000 hb
                             replace BK1001 := xB BK1001 hb
                             replace HB := xH HB hb
                             clear hb ho24
                             obtain ⟨Ao25, co25, eo25⟩ := Kd.R_slice HO1007.out
                             (first | subst eo25 | (injection eo25 with f1_ f2_ f3_; have f4_ := f1_.symm; have f5_ := f3_.symm; clear f1_ f2_ f3_; subst f4_; subst f5_))
                             refine hK.out _ _ ⟨bcu BK1000 0, bcu BK1000 1⟩ (fun hHeld => ?_)
                             clear hK K
                             refine no_ 35 ?_
                             refine pu_ 3 36 (bl 13 239) HT_ ?_
                             exact norm_ (by first | (simp only [putAll, Act.put, ls, lz, ln]; done) | (simp only [putAll, Act.put, ls, lz, ln]; rfl)) (hJ2_7 (.slice Ao25 y1005.length co25, v1012) _ ⟨hHeld, (uR (Kd.R_mono HO1007.out (fun _ hk => hk.2))), (uR (Kd.R_mono HO1013.out (fun _ hk => hk.2))), (uB BK1000.out), (uB BK1001.out), (uH HB.out)⟩)
                            ·skip
                             refine Kd.R_lit_step (Kd.int .i64) _ 2 ?hg (N := 37) ?hd (xs := ([1] : List Int)) (inner := [.int .i64 1]) (ok := fun _ => True) (okp := fun _ => True) ?hr ?hp (fun _ hk => hk) trivial (Below.refl _ _) (Nat.le_refl _) (by simp) ?_; (case hd => rfl); (case hg => rfl); (case hr => first | (go_simp; done) | (go_simp; rfl)); (case hp => exact (Reps.one (show Kd.M (Kd.int .i64) _ _ _ 1 [.int .i64 1] from rfl) (Reps.none _ _)))
                             intro v1009 w23 ho24 hb hg_ hnew_
                             clear hg_ hnew_
                             (first | rw [← Ny1008.out] at ho24 | (simp only [Int.reduceToNat] at ho24; rw [← Ny1008.out] at ho24))
                             have HO1010 := zA (Kd.R_lower (Kd.R_new' ho24 (Kd.R_lt (uR HO1013.out))) (below_size (uH HB.out)))
                             replace HO1013 := zA (Kd.R_elder' (uR HO1013.out) (Kd.R_base ho24) hb)
                             replace BK1000 := xB BK1000 hb
                             replace BK1001 := xB BK1001 hb
                             replace HB := xH HB hb
                             clear hb ho24
                             refine hK.out _ _ ⟨bcu BK1000 0, bcu BK1000 1⟩ (fun hHeld => ?_)
                             clear hK K
                             refine no_ 37 ?_
                             exact norm_ (by first | (simp only [putAll, Act.put, ls, lz, ln]; done) | (simp only [putAll, Act.put, ls, lz, ln]; rfl)) (hJ4_7 (v1009, v1012) _ ⟨hHeld, (uR (Kd.R_mono HO1010.out (fun _ hk => hk.2))), (uR (Kd.R_mono HO1013.out (fun _ hk => hk.2))), (uB BK1000.out), (uB BK1001.out), (uH HB.out)⟩)
                            ·skip
                             obtain ⟨Ao23, co23, eo23⟩ := Kd.R_slice HO1013.out
                             (first | subst eo23 | (injection eo23 with f1_ f2_ f3_; have f4_ := f1_.symm; have f5_ := f3_.symm; clear f1_ f2_ f3_; subst f4_; subst f5_))
                             refine gS Try.func96 #[.slice Ao23 y1011.length co23] ?_
                             with_reducible refine (spec_l01Trim.calls k _ _ y1011 t1014 _ ?side1 ?side2 A10.out).mono ?_
                             (case side1 => exact uC ((Kd.R_reads' HO1013.out).2.2))
                             (case side2 => exact (Kd.R_reads' HO1013.out).2.1)
                             rintro e w24 ⟨v1015, rfl, ho0, hb⟩
                             refine ⟨_, rfl, ?_⟩
                             have HO1016 := zA (Kd.R_lower (Kd.R_new' ho0 (Kd.R_lt (uR HO1013.out))) (below_size (uH HB.out)))
                             replace HO1013 := zA (Kd.R_elder' (uR HO1013.out) (Kd.R_base ho0) hb)
                             replace BK1000 := xB BK1000 hb
                             replace BK1001 := xB BK1001 hb
                             replace HB := xH HB hb
                             (try clear hb); (try clear hb2); (try clear hk); (try clear hi); (try clear ho0)
                             refine hK.out _ _ ⟨bcu BK1000 0, bcu BK1000 1⟩ (fun hHeld => ?_)
                             clear hK K
                             refine no_ 41 ?_
                             exact norm_ (by first | (simp only [putAll, Act.put, ls, lz, ln]; done) | (simp only [putAll, Act.put, ls, lz, ln]; rfl)) (hJ7_8 (.slice Ao23 y1011.length co23, v1015) _ ⟨hHeld, (uR (Kd.R_mono HO1013.out (fun _ hk => hk.2))), (uR (Kd.R_mono HO1016.out (fun _ hk => hk.2))), (uB BK1000.out), (uB BK1001.out), (uH HB.out)⟩)
                            ·skip
                             refine box_step ?hg (N := 8) ?hd (cs := #[.int .i64 0, .slice none 0 0]) (t := 31) ?hr ?_; (case hd => rfl); (case hg => rfl); (case hr => first | (go_simp; done) | (go_simp; rfl))
                             intro gb1017 hg w23 hbox hb
                             replace HO1013 := xR HO1013 hb
                             have BK1017 := zA (hbox)
                             have GW1017 := gq HB hg
                             have GE1017 := gq HB hg
                             replace HB := xH HB hb
                             have NB1000_1017 := zA ((by rw [hg]; exact neL BK1000 : gb1000 ≠ gb1017))
                             have NB1017_1000 := zA ((by rw [hg]; exact neG BK1000 : gb1017 ≠ gb1000))
                             replace BK1000 := xB BK1000 hb
                             have NB1001_1017 := zA ((by rw [hg]; exact neL BK1001 : gb1001 ≠ gb1017))
                             have NB1017_1001 := zA ((by rw [hg]; exact neG BK1001 : gb1017 ≠ gb1001))
                             replace BK1001 := xB BK1001 hb
                             have := geI GE1017
                             clear hb hbox hg
                             refine hK.out _ _ ⟨bcu BK1000 0, bcu BK1000 1⟩ (fun hHeld => ?_)
                             clear hK K
                             refine no_ 8 ?_
                             exact norm_ (by first | (simp only [putAll, Act.put, ls, lz, ln]; done) | (simp only [putAll, Act.put, ls, lz, ln]; rfl)) (hJ7_9 (v1012, gb1017) _ ⟨hHeld, (uR HO1013.out), (uB BK1000.out), (uB BK1001.out), (uB BK1017.out), GW1017.out, GE1017.out, NB1000_1017.out, NB1017_1000.out, NB1001_1017.out, NB1017_1001.out, (uH HB.out)⟩)
                          ·skip
                           rintro v1009 w22 ⟨hS_, h0_, h1_, h2_, h3_⟩
                           have n0_ : Aside0 (Kd.R (Kd.int .i64) 2 w22 w.heap.size (fun _ => True) v1009 y1008) := ⟨h0_⟩
                           have n1_ : Aside0 (w22.heap[gb1000]? = some (.cells #[.int .i64 a0_0, .slice A0_1 l0_1.length c0_1] 31 (0, 0))) := ⟨h1_⟩
                           have n2_ : Aside0 (w22.heap[gb1001]? = some (.cells #[.int .i64 0, .slice none 0 0] 31 (0, 0))) := ⟨h2_⟩
                           have n3_ : Aside0 (Below w.heap.size w w22) := ⟨h3_⟩
                           clear BK1000 BK1001 HB
                           clear h0_ h1_ h2_ h3_
                           have HO1010 := n0_
                           have BK1000 := n1_
                           have BK1001 := n2_
                           have HB := n3_
                           clear n0_ n1_ n2_ n3_
                           have hHeld : w22.cell? ⟨gb1000, 0, none⟩ = some (.int .i64 a0_0) ∧ w22.cell? ⟨gb1000, 1, none⟩ = some (.slice A0_1 l0_1.length c0_1) := hS_
                           refine norm_ (a' := ?_) ?_ ?_
                           rotate_left
                           ·simp only [putAll, Act.put, ls, lz, ln]
                            rfl
                           refine three_ (i := 2) (j := 7) (k := 9) (Ni := some 35) (Nj := some 40) (Nk := some 8) (bl 13 119) (bl 13 243) (bl 13 627) rfl rfl rfl rfl rfl rfl (three_of HT_.out (by kernel_rfl)) (by decide) (by decide) (by decide) (fun K hK => ?_) (fun K hK => ?_) (fun K hK => ?_)
                           ·skip
                            refine Kd.R_lit_step (Kd.int .i64) _ 2 ?hg (N := 35) ?hd (xs := ([] : List Int)) (inner := []) (ok := fun _ => True) (okp := fun _ => True) ?hr ?hp (fun _ hk => hk) trivial (Below.refl _ _) (Nat.le_refl _) (by simp) ?_; (case hd => rfl); (case hg => rfl); (case hr => first | (go_simp; done) | (go_simp; rfl)); (case hp => exact (Reps.none _ _))
                            intro v1006 w23 ho24 hb hg_ hnew_
                            clear hg_ hnew_
                            (first | rw [← Ny1005.out] at ho24 | (simp only [Int.reduceToNat] at ho24; rw [← Ny1005.out] at ho24))
                            have HO1007 := zA (Kd.R_lower (Kd.R_new' ho24 (Kd.R_lt (uR HO1010.out))) (below_size (uH HB.out)))
                            replace HO1010 := zA (Kd.R_elder' (uR HO1010.out) (Kd.R_base ho24) hb)
                            replace BK1000 := xB BK1000 hb
                            replace BK1001 := xB BK1001 hb
                            replace HB := xH HB hb
                            clear hb ho24
                            obtain ⟨Ao25, co25, eo25⟩ := Kd.R_slice HO1007.out
                            (first | subst eo25 | (injection eo25 with f1_ f2_ f3_; have f4_ := f1_.symm; have f5_ := f3_.symm; clear f1_ f2_ f3_; subst f4_; subst f5_))
                            refine hK.out _ _ ⟨bcu BK1000 0, bcu BK1000 1⟩ (fun hHeld => ?_)
                            clear hK K
                            refine no_ 35 ?_
                            refine pu_ 3 36 (bl 13 127) HT_ ?_
                            exact norm_ (by first | (simp only [putAll, Act.put, ls, lz, ln]; done) | (simp only [putAll, Act.put, ls, lz, ln]; rfl)) (hJ2_4 (.slice Ao25 y1005.length co25, v1009) _ ⟨hHeld, (uR (Kd.R_mono HO1007.out (fun _ hk => hk.2))), (uR (Kd.R_mono HO1010.out (fun _ hk => hk.2))), (uB BK1000.out), (uB BK1001.out), (uH HB.out)⟩)
                           ·skip
                            refine Kd.R_lit_step (Kd.int .i64) _ 2 ?hg (N := 40) ?hd (xs := ([a2, a1] : List Int)) (inner := [.int .i64 a2, .int .i64 a1]) (ok := fun _ => True) (okp := fun _ => True) ?hr ?hp (fun _ hk => hk) trivial (Below.refl _ _) (Nat.le_refl _) (by simp) ?_; (case hd => rfl); (case hg => rfl); (case hr => first | (go_simp; done) | (go_simp; rfl)); (case hp => exact (Reps.one (show Kd.M (Kd.int .i64) _ _ _ a2 [.int .i64 a2] from rfl) (Reps.one (show Kd.M (Kd.int .i64) _ _ _ a1 [.int .i64 a1] from rfl) (Reps.none _ _))))
                            intro v1012 w23 ho24 hb hg_ hnew_
                            clear hg_ hnew_
                            (first | rw [← Ny1011.out] at ho24 | (simp only [Int.reduceToNat] at ho24; rw [← Ny1011.out] at ho24))
                            have HO1013 := zA (Kd.R_lower (Kd.R_new' ho24 (Kd.R_lt (uR HO1010.out))) (below_size (uH HB.out)))
                            replace HO1010 := zA (Kd.R_elder' (uR HO1010.out) (Kd.R_base ho24) hb)
                            replace BK1000 := xB BK1000 hb
                            replace BK1001 := xB BK1001 hb
                            replace HB := xH HB hb
                            clear hb ho24
                            refine hK.out _ _ ⟨bcu BK1000 0, bcu BK1000 1⟩ (fun hHeld => ?_)
                            clear hK K
                            refine no_ 40 ?_
                            exact norm_ (by first | (simp only [putAll, Act.put, ls, lz, ln]; done) | (simp only [putAll, Act.put, ls, lz, ln]; rfl)) (hJ4_7 (v1009, v1012) _ ⟨hHeld, (uR (Kd.R_mono HO1010.out (fun _ hk => hk.2))), (uR (Kd.R_mono HO1013.out (fun _ hk => hk.2))), (uB BK1000.out), (uB BK1001.out), (uH HB.out)⟩)
                           ·skip
                            refine box_step ?hg (N := 8) ?hd (cs := #[.int .i64 0, .slice none 0 0]) (t := 31) ?hr ?_; (case hd => rfl); (case hg => rfl); (case hr => first | (go_simp; done) | (go_simp; rfl))
                            intro gb1017 hg w23 hbox hb
                            replace HO1010 := xR HO1010 hb
                            have BK1017 := zA (hbox)
                            have GW1017 := gq HB hg
                            have GE1017 := gq HB hg
                            replace HB := xH HB hb
                            have NB1000_1017 := zA ((by rw [hg]; exact neL BK1000 : gb1000 ≠ gb1017))
                            have NB1017_1000 := zA ((by rw [hg]; exact neG BK1000 : gb1017 ≠ gb1000))
                            replace BK1000 := xB BK1000 hb
                            have NB1001_1017 := zA ((by rw [hg]; exact neL BK1001 : gb1001 ≠ gb1017))
                            have NB1017_1001 := zA ((by rw [hg]; exact neG BK1001 : gb1017 ≠ gb1001))
                            replace BK1001 := xB BK1001 hb
                            have := geI GE1017
                            clear hb hbox hg
                            refine hK.out _ _ ⟨bcu BK1000 0, bcu BK1000 1⟩ (fun hHeld => ?_)
                            clear hK K
                            refine no_ 8 ?_
                            exact norm_ (by first | (simp only [putAll, Act.put, ls, lz, ln]; done) | (simp only [putAll, Act.put, ls, lz, ln]; rfl)) (hJ4_9 (v1009, gb1017) _ ⟨hHeld, (uR HO1010.out), (uB BK1000.out), (uB BK1001.out), (uB BK1017.out), GW1017.out, GE1017.out, NB1000_1017.out, NB1017_1000.out, NB1001_1017.out, NB1017_1001.out, (uH HB.out)⟩)
                         ·skip
                          rintro v1006 w23 ⟨hS_, h0_, h1_, h2_, h3_⟩
                          have n0_ : Aside0 (Kd.R (Kd.int .i64) 2 w23 w.heap.size (fun _ => True) v1006 y1005) := ⟨h0_⟩
                          have n1_ : Aside0 (w23.heap[gb1000]? = some (.cells #[.int .i64 a0_0, .slice A0_1 l0_1.length c0_1] 31 (0, 0))) := ⟨h1_⟩
                          have n2_ : Aside0 (w23.heap[gb1001]? = some (.cells #[.int .i64 0, .slice none 0 0] 31 (0, 0))) := ⟨h2_⟩
                          have n3_ : Aside0 (Below w.heap.size w w23) := ⟨h3_⟩
                          clear BK1000 BK1001 HB
                          clear h0_ h1_ h2_ h3_
                          have HO1007 := n0_
                          have BK1000 := n1_
                          have BK1001 := n2_
                          have HB := n3_
                          clear n0_ n1_ n2_ n3_
                          have hHeld : w23.cell? ⟨gb1000, 0, none⟩ = some (.int .i64 a0_0) ∧ w23.cell? ⟨gb1000, 1, none⟩ = some (.slice A0_1 l0_1.length c0_1) := hS_
                          obtain ⟨Ao24, co24, eo24⟩ := Kd.R_slice HO1007.out
                          (first | subst eo24 | (injection eo24 with f1_ f2_ f3_; have f4_ := f1_.symm; have f5_ := f3_.symm; clear f1_ f2_ f3_; subst f4_; subst f5_))
                          refine norm_ (a' := ?_) ?_ ?_
                          rotate_left
                          ·simp only [putAll, Act.put, ls, lz, ln]
                           rfl
                          refine three_ (i := 4) (j := 7) (k := 9) (Ni := some 37) (Nj := some 40) (Nk := some 8) (bl 13 127) (bl 13 239) (bl 13 623) rfl rfl rfl rfl rfl rfl (three_of HT_.out (by kernel_rfl)) (by decide) (by decide) (by decide) (fun K hK => ?_) (fun K hK => ?_) (fun K hK => ?_)
                          ·skip
                           refine Kd.R_lit_step (Kd.int .i64) _ 2 ?hg (N := 37) ?hd (xs := ([1] : List Int)) (inner := [.int .i64 1]) (ok := fun _ => True) (okp := fun _ => True) ?hr ?hp (fun _ hk => hk) trivial (Below.refl _ _) (Nat.le_refl _) (by simp) ?_; (case hd => rfl); (case hg => rfl); (case hr => first | (go_simp; done) | (go_simp; rfl)); (case hp => exact (Reps.one (show Kd.M (Kd.int .i64) _ _ _ 1 [.int .i64 1] from rfl) (Reps.none _ _)))
                           intro v1009 w25 ho26 hb hg_ hnew_
                           clear hg_ hnew_
                           (first | rw [← Ny1008.out] at ho26 | (simp only [Int.reduceToNat] at ho26; rw [← Ny1008.out] at ho26))
                           have HO1010 := zA (Kd.R_lower (Kd.R_new' ho26 (Kd.R_lt (uR HO1007.out))) (below_size (uH HB.out)))
                           replace HO1007 := zA (Kd.R_elder' (uR HO1007.out) (Kd.R_base ho26) hb)
                           replace BK1000 := xB BK1000 hb
                           replace BK1001 := xB BK1001 hb
                           replace HB := xH HB hb
                           clear hb ho26
                           refine hK.out _ _ ⟨bcu BK1000 0, bcu BK1000 1⟩ (fun hHeld => ?_)
                           clear hK K
                           refine no_ 37 ?_
                           exact norm_ (by first | (simp only [putAll, Act.put, ls, lz, ln]; done) | (simp only [putAll, Act.put, ls, lz, ln]; rfl)) (hJ2_4 (.slice Ao24 y1005.length co24, v1009) _ ⟨hHeld, (uR (Kd.R_mono HO1007.out (fun _ hk => hk.2))), (uR (Kd.R_mono HO1010.out (fun _ hk => hk.2))), (uB BK1000.out), (uB BK1001.out), (uH HB.out)⟩)
                          ·skip
                           refine Kd.R_lit_step (Kd.int .i64) _ 2 ?hg (N := 40) ?hd (xs := ([a2, a1] : List Int)) (inner := [.int .i64 a2, .int .i64 a1]) (ok := fun _ => True) (okp := fun _ => True) ?hr ?hp (fun _ hk => hk) trivial (Below.refl _ _) (Nat.le_refl _) (by simp) ?_; (case hd => rfl); (case hg => rfl); (case hr => first | (go_simp; done) | (go_simp; rfl)); (case hp => exact (Reps.one (show Kd.M (Kd.int .i64) _ _ _ a2 [.int .i64 a2] from rfl) (Reps.one (show Kd.M (Kd.int .i64) _ _ _ a1 [.int .i64 a1] from rfl) (Reps.none _ _))))
                           intro v1012 w25 ho26 hb hg_ hnew_
                           clear hg_ hnew_
                           (first | rw [← Ny1011.out] at ho26 | (simp only [Int.reduceToNat] at ho26; rw [← Ny1011.out] at ho26))
                           have HO1013 := zA (Kd.R_lower (Kd.R_new' ho26 (Kd.R_lt (uR HO1007.out))) (below_size (uH HB.out)))
                           replace HO1007 := zA (Kd.R_elder' (uR HO1007.out) (Kd.R_base ho26) hb)
                           replace BK1000 := xB BK1000 hb
                           replace BK1001 := xB BK1001 hb
                           replace HB := xH HB hb
                           clear hb ho26
                           refine hK.out _ _ ⟨bcu BK1000 0, bcu BK1000 1⟩ (fun hHeld => ?_)
                           clear hK K
                           refine no_ 40 ?_
                           exact norm_ (by first | (simp only [putAll, Act.put, ls, lz, ln]; done) | (simp only [putAll, Act.put, ls, lz, ln]; rfl)) (hJ2_7 (.slice Ao24 y1005.length co24, v1012) _ ⟨hHeld, (uR (Kd.R_mono HO1007.out (fun _ hk => hk.2))), (uR (Kd.R_mono HO1013.out (fun _ hk => hk.2))), (uB BK1000.out), (uB BK1001.out), (uH HB.out)⟩)
                          ·skip
                           refine box_step ?hg (N := 8) ?hd (cs := #[.int .i64 0, .slice none 0 0]) (t := 31) ?hr ?_; (case hd => rfl); (case hg => rfl); (case hr => first | (go_simp; done) | (go_simp; rfl))
                           intro gb1017 hg w25 hbox hb
                           replace HO1007 := xR HO1007 hb
                           have BK1017 := zA (hbox)
                           have GW1017 := gq HB hg
                           have GE1017 := gq HB hg
                           replace HB := xH HB hb
                           have NB1000_1017 := zA ((by rw [hg]; exact neL BK1000 : gb1000 ≠ gb1017))
                           have NB1017_1000 := zA ((by rw [hg]; exact neG BK1000 : gb1017 ≠ gb1000))
                           replace BK1000 := xB BK1000 hb
                           have NB1001_1017 := zA ((by rw [hg]; exact neL BK1001 : gb1001 ≠ gb1017))
                           have NB1017_1001 := zA ((by rw [hg]; exact neG BK1001 : gb1017 ≠ gb1001))
                           replace BK1001 := xB BK1001 hb
                           have := geI GE1017
                           clear hb hbox hg
                           refine hK.out _ _ ⟨bcu BK1000 0, bcu BK1000 1⟩ (fun hHeld => ?_)
                           clear hK K
                           refine no_ 8 ?_
                           exact norm_ (by first | (simp only [putAll, Act.put, ls, lz, ln]; done) | (simp only [putAll, Act.put, ls, lz, ln]; rfl)) (hJ2_9 (.slice Ao24 y1005.length co24, gb1017) _ ⟨hHeld, (uR HO1007.out), (uB BK1000.out), (uB BK1001.out), (uB BK1017.out), GW1017.out, GE1017.out, NB1000_1017.out, NB1017_1000.out, NB1001_1017.out, NB1017_1001.out, (uH HB.out)⟩)
                        ·skip
                         rintro ⟨v1012, gb1017⟩ w23 ⟨hS_, h0_, h1_, h2_, h3_, h4_, h5_, h6_, h7_, h8_, h9_, h10_⟩
                         have n0_ : Aside0 (Kd.R (Kd.int .i64) 2 w23 w.heap.size (fun _ => True) v1012 y1011) := ⟨h0_⟩
                         have n1_ : Aside0 (w23.heap[gb1000]? = some (.cells #[.int .i64 a0_0, .slice A0_1 l0_1.length c0_1] 31 (0, 0))) := ⟨h1_⟩
                         have n2_ : Aside0 (w23.heap[gb1001]? = some (.cells #[.int .i64 0, .slice none 0 0] 31 (0, 0))) := ⟨h2_⟩
                         have n3_ : Aside0 (w23.heap[gb1017]? = some (.cells #[.int .i64 0, .slice none 0 0] 31 (0, 0))) := ⟨h3_⟩
                         have n4_ : Aside0 (w.heap.size ≤ gb1017) := ⟨h4_⟩
                         have n5_ : Aside0 (w.heap.size ≤ gb1017) := ⟨h5_⟩
                         have n6_ : Aside0 (gb1000 ≠ gb1017) := ⟨h6_⟩
                         have n7_ : Aside0 (gb1017 ≠ gb1000) := ⟨h7_⟩
                         have n8_ : Aside0 (gb1001 ≠ gb1017) := ⟨h8_⟩
                         have n9_ : Aside0 (gb1017 ≠ gb1001) := ⟨h9_⟩
                         have n10_ : Aside0 (Below w.heap.size w w23) := ⟨h10_⟩
                         clear BK1000 BK1001 HB
                         clear h0_ h1_ h2_ h3_ h4_ h5_ h6_ h7_ h8_ h9_ h10_
                         have HO1013 := n0_
                         have BK1000 := n1_
                         have BK1001 := n2_
                         have BK1017 := n3_
                         have GW1017 := n4_
                         have GE1017 := n5_
                         have := geI GE1017
                         have NB1000_1017 := n6_
                         have NB1017_1000 := n7_
                         have NB1001_1017 := n8_
                         have NB1017_1001 := n9_
                         have HB := n10_
                         clear n0_ n1_ n2_ n3_ n4_ n5_ n6_ n7_ n8_ n9_ n10_
                         have hHeld : w23.cell? ⟨gb1000, 0, none⟩ = some (.int .i64 a0_0) ∧ w23.cell? ⟨gb1000, 1, none⟩ = some (.slice A0_1 l0_1.length c0_1) := hS_
                         refine norm_ (a' := ?_) ?_ ?_
                         rotate_left
                         ·simp only [putAll, Act.put, ls, lz, ln]
                          rfl
                         refine three_ (i := 2) (j := 4) (k := 8) (Ni := some 35) (Nj := some 37) (Nk := some 41) (bl 13 743) (bl 13 755) (bl 13 995) rfl rfl rfl rfl rfl rfl (three_of HT_.out (by kernel_rfl)) (by decide) (by decide) (by decide) (fun K hK => ?_) (fun K hK => ?_) (fun K hK => ?_)
                         ·skip
                          refine Kd.R_lit_step (Kd.int .i64) _ 2 ?hg (N := 35) ?hd (xs := ([] : List Int)) (inner := []) (ok := fun _ => True) (okp := fun _ => True) ?hr ?hp (fun _ hk => hk) trivial (Below.refl _ _) (Nat.le_refl _) (by simp) ?_; (case hd => rfl); (case hg => rfl); (case hr => first | (go_simp; done) | (go_simp; rfl)); (case hp => exact (Reps.none _ _))
                          intro v1006 w24 ho25 hb hg_ hnew_
                          clear hg_ hnew_
                          (first | rw [← Ny1005.out] at ho25 | (simp only [Int.reduceToNat] at ho25; rw [← Ny1005.out] at ho25))
                          have HO1007 := zA (Kd.R_lower (Kd.R_new' ho25 (Kd.R_lt (uR HO1013.out))) (below_size (uH HB.out)))
                          replace HO1013 := zA (Kd.R_elder' (uR HO1013.out) (Kd.R_base ho25) hb)
                          replace BK1000 := xB BK1000 hb
                          replace BK1001 := xB BK1001 hb
                          replace BK1017 := xB BK1017 hb
                          replace HB := xH HB hb
                          clear hb ho25
                          obtain ⟨Ao26, co26, eo26⟩ := Kd.R_slice HO1007.out
                          (first | subst eo26 | (injection eo26 with f1_ f2_ f3_; have f4_ := f1_.symm; have f5_ := f3_.symm; clear f1_ f2_ f3_; subst f4_; subst f5_))
                          refine hK.out _ _ ⟨bcu BK1000 0, bcu BK1000 1⟩ (fun hHeld => ?_)
                          clear hK K
                          refine no_ 35 ?_
                          refine pu_ 3 36 (bl 13 751) HT_ ?_
                          exact norm_ (by first | (simp only [putAll, Act.put, ls, lz, ln]; done) | (simp only [putAll, Act.put, ls, lz, ln]; rfl)) (hJ2_7_9 (.slice Ao26 y1005.length co26, v1012, gb1017) _ ⟨hHeld, (uR (Kd.R_mono HO1007.out (fun _ hk => hk.2))), (uR (Kd.R_mono HO1013.out (fun _ hk => hk.2))), (uB BK1000.out), (uB BK1001.out), (uB BK1017.out), GW1017.out, GE1017.out, NB1000_1017.out, NB1017_1000.out, NB1001_1017.out, NB1017_1001.out, (uH HB.out)⟩)
                         ·skip
                          refine Kd.R_lit_step (Kd.int .i64) _ 2 ?hg (N := 37) ?hd (xs := ([1] : List Int)) (inner := [.int .i64 1]) (ok := fun _ => True) (okp := fun _ => True) ?hr ?hp (fun _ hk => hk) trivial (Below.refl _ _) (Nat.le_refl _) (by simp) ?_; (case hd => rfl); (case hg => rfl); (case hr => first | (go_simp; done) | (go_simp; rfl)); (case hp => exact (Reps.one (show Kd.M (Kd.int .i64) _ _ _ 1 [.int .i64 1] from rfl) (Reps.none _ _)))
                          intro v1009 w24 ho25 hb hg_ hnew_
                          clear hg_ hnew_
                          (first | rw [← Ny1008.out] at ho25 | (simp only [Int.reduceToNat] at ho25; rw [← Ny1008.out] at ho25))
                          have HO1010 := zA (Kd.R_lower (Kd.R_new' ho25 (Kd.R_lt (uR HO1013.out))) (below_size (uH HB.out)))
                          replace HO1013 := zA (Kd.R_elder' (uR HO1013.out) (Kd.R_base ho25) hb)
                          replace BK1000 := xB BK1000 hb
                          replace BK1001 := xB BK1001 hb
                          replace BK1017 := xB BK1017 hb
                          replace HB := xH HB hb
                          clear hb ho25
                          refine hK.out _ _ ⟨bcu BK1000 0, bcu BK1000 1⟩ (fun hHeld => ?_)
                          clear hK K
                          refine no_ 37 ?_
                          exact norm_ (by first | (simp only [putAll, Act.put, ls, lz, ln]; done) | (simp only [putAll, Act.put, ls, lz, ln]; rfl)) (hJ4_7_9 (v1009, v1012, gb1017) _ ⟨hHeld, (uR (Kd.R_mono HO1010.out (fun _ hk => hk.2))), (uR (Kd.R_mono HO1013.out (fun _ hk => hk.2))), (uB BK1000.out), (uB BK1001.out), (uB BK1017.out), GW1017.out, GE1017.out, NB1000_1017.out, NB1017_1000.out, NB1001_1017.out, NB1017_1001.out, (uH HB.out)⟩)
                         ·skip
                          obtain ⟨Ao24, co24, eo24⟩ := Kd.R_slice HO1013.out
                          (first | subst eo24 | (injection eo24 with f1_ f2_ f3_; have f4_ := f1_.symm; have f5_ := f3_.symm; clear f1_ f2_ f3_; subst f4_; subst f5_))
                          refine gS Try.func96 #[.slice Ao24 y1011.length co24] ?_
                          with_reducible refine (spec_l01Trim.calls k _ _ y1011 t1014 _ ?side1 ?side2 A10.out).mono ?_
                          (case side1 => exact uC ((Kd.R_reads' HO1013.out).2.2))
                          (case side2 => exact (Kd.R_reads' HO1013.out).2.1)
                          rintro e w25 ⟨v1015, rfl, ho0, hb⟩
                          refine ⟨_, rfl, ?_⟩
                          have HO1016 := zA (Kd.R_lower (Kd.R_new' ho0 (Kd.R_lt (uR HO1013.out))) (below_size (uH HB.out)))
                          replace HO1013 := zA (Kd.R_elder' (uR HO1013.out) (Kd.R_base ho0) hb)
                          replace BK1000 := xB BK1000 hb
                          replace BK1001 := xB BK1001 hb
                          replace BK1017 := xB BK1017 hb
                          replace HB := xH HB hb
                          (try clear hb); (try clear hb2); (try clear hk); (try clear hi); (try clear ho0)
                          refine hK.out _ _ ⟨bcu BK1000 0, bcu BK1000 1⟩ (fun hHeld => ?_)
                          clear hK K
                          refine no_ 41 ?_
                          exact norm_ (by first | (simp only [putAll, Act.put, ls, lz, ln]; done) | (simp only [putAll, Act.put, ls, lz, ln]; rfl)) (hJ7_8_9 (.slice Ao24 y1011.length co24, v1015, gb1017) _ ⟨hHeld, (uR (Kd.R_mono HO1013.out (fun _ hk => hk.2))), (uR (Kd.R_mono HO1016.out (fun _ hk => hk.2))), (uB BK1000.out), (uB BK1001.out), (uB BK1017.out), GW1017.out, GE1017.out, NB1000_1017.out, NB1017_1000.out, NB1001_1017.out, NB1017_1001.out, (uH HB.out)⟩)
                       ·skip
                        rintro ⟨v1012, v1015⟩ w24 ⟨hS_, h0_, h1_, h2_, h3_, h4_⟩
                        have n0_ : Aside0 (Kd.R (Kd.int .i64) 2 w24 w.heap.size (fun k_ => some k_ ≠ (v1015 : Value).ownBlock) v1012 y1011) := ⟨h0_⟩
                        have n1_ : Aside0 (Kd.R (Kd.int .i64) 2 w24 w.heap.size (fun k_ => some k_ ≠ (v1012 : Value).ownBlock) v1015 t1014) := ⟨h1_⟩
                        have n2_ : Aside0 (w24.heap[gb1000]? = some (.cells #[.int .i64 a0_0, .slice A0_1 l0_1.length c0_1] 31 (0, 0))) := ⟨h2_⟩
                        have n3_ : Aside0 (w24.heap[gb1001]? = some (.cells #[.int .i64 0, .slice none 0 0] 31 (0, 0))) := ⟨h3_⟩
                        have n4_ : Aside0 (Below w.heap.size w w24) := ⟨h4_⟩
                        clear BK1000 BK1001 HB
                        clear h0_ h1_ h2_ h3_ h4_
                        have HO1013 := n0_
                        have HO1016 := n1_
                        have BK1000 := n2_
                        have BK1001 := n3_
                        have HB := n4_
                        clear n0_ n1_ n2_ n3_ n4_
                        have hHeld : w24.cell? ⟨gb1000, 0, none⟩ = some (.int .i64 a0_0) ∧ w24.cell? ⟨gb1000, 1, none⟩ = some (.slice A0_1 l0_1.length c0_1) := hS_
                        refine norm_ (a' := ?_) ?_ ?_
                        rotate_left
                        ·simp only [putAll, Act.put, ls, lz, ln]
                         rfl
                        refine three_ (i := 2) (j := 4) (k := 9) (Ni := some 35) (Nj := some 37) (Nk := some 8) (bl 13 487) (bl 13 499) (bl 13 995) rfl rfl rfl rfl rfl rfl (three_of HT_.out (by kernel_rfl)) (by decide) (by decide) (by decide) (fun K hK => ?_) (fun K hK => ?_) (fun K hK => ?_)
                        ·skip
                         refine Kd.R_lit_step (Kd.int .i64) _ 2 ?hg (N := 35) ?hd (xs := ([] : List Int)) (inner := []) (ok := fun _ => True) (okp := fun _ => True) ?hr ?hp (fun _ hk => hk) trivial (Below.refl _ _) (Nat.le_refl _) (by simp) ?_; (case hd => rfl); (case hg => rfl); (case hr => first | (go_simp; done) | (go_simp; rfl)); (case hp => exact (Reps.none _ _))
                         intro v1006 w25 ho26 hb hg_ hnew_
                         clear hg_ hnew_
                         (first | rw [← Ny1005.out] at ho26 | (simp only [Int.reduceToNat] at ho26; rw [← Ny1005.out] at ho26))
                         have HO1007 := zA (Kd.R_lower (Kd.R_new' (Kd.R_new' ho26 (Kd.R_lt (uR HO1013.out))) (Kd.R_lt (uR HO1016.out))) (below_size (uH HB.out)))
                         replace HO1013 := zA (Kd.R_elder' (uR HO1013.out) (Kd.R_base ho26) hb)
                         replace HO1016 := zA (Kd.R_elder' (uR HO1016.out) (Kd.R_base ho26) hb)
                         replace BK1000 := xB BK1000 hb
                         replace BK1001 := xB BK1001 hb
                         replace HB := xH HB hb
                         clear hb ho26
                         obtain ⟨Ao27, co27, eo27⟩ := Kd.R_slice HO1007.out
                         (first | subst eo27 | (injection eo27 with f1_ f2_ f3_; have f4_ := f1_.symm; have f5_ := f3_.symm; clear f1_ f2_ f3_; subst f4_; subst f5_))
                         refine hK.out _ _ ⟨bcu BK1000 0, bcu BK1000 1⟩ (fun hHeld => ?_)
                         clear hK K
                         refine no_ 35 ?_
                         refine pu_ 3 36 (bl 13 495) HT_ ?_
                         exact norm_ (by first | (simp only [putAll, Act.put, ls, lz, ln]; done) | (simp only [putAll, Act.put, ls, lz, ln]; rfl)) (hJ2_7_8 (.slice Ao27 y1005.length co27, v1012, v1015) _ ⟨hHeld, (uR (Kd.R_mono HO1007.out (fun _ hk => ⟨hk.1.2, hk.2⟩))), (uR (Kd.R_mono HO1013.out (fun _ hk => ⟨hk.2, hk.1⟩))), (uR (Kd.R_mono HO1016.out (fun _ hk => ⟨hk.2, hk.1⟩))), (uB BK1000.out), (uB BK1001.out), (uH HB.out)⟩)
                        ·skip
                         refine Kd.R_lit_step (Kd.int .i64) _ 2 ?hg (N := 37) ?hd (xs := ([1] : List Int)) (inner := [.int .i64 1]) (ok := fun _ => True) (okp := fun _ => True) ?hr ?hp (fun _ hk => hk) trivial (Below.refl _ _) (Nat.le_refl _) (by simp) ?_; (case hd => rfl); (case hg => rfl); (case hr => first | (go_simp; done) | (go_simp; rfl)); (case hp => exact (Reps.one (show Kd.M (Kd.int .i64) _ _ _ 1 [.int .i64 1] from rfl) (Reps.none _ _)))
                         intro v1009 w25 ho26 hb hg_ hnew_
                         clear hg_ hnew_
                         (first | rw [← Ny1008.out] at ho26 | (simp only [Int.reduceToNat] at ho26; rw [← Ny1008.out] at ho26))
                         have HO1010 := zA (Kd.R_lower (Kd.R_new' (Kd.R_new' ho26 (Kd.R_lt (uR HO1013.out))) (Kd.R_lt (uR HO1016.out))) (below_size (uH HB.out)))
                         replace HO1013 := zA (Kd.R_elder' (uR HO1013.out) (Kd.R_base ho26) hb)
                         replace HO1016 := zA (Kd.R_elder' (uR HO1016.out) (Kd.R_base ho26) hb)
                         replace BK1000 := xB BK1000 hb
                         replace BK1001 := xB BK1001 hb
                         replace HB := xH HB hb
                         clear hb ho26
                         refine hK.out _ _ ⟨bcu BK1000 0, bcu BK1000 1⟩ (fun hHeld => ?_)
                         clear hK K
                         refine no_ 37 ?_
                         exact norm_ (by first | (simp only [putAll, Act.put, ls, lz, ln]; done) | (simp only [putAll, Act.put, ls, lz, ln]; rfl)) (hJ4_7_8 (v1009, v1012, v1015) _ ⟨hHeld, (uR (Kd.R_mono HO1010.out (fun _ hk => ⟨hk.1.2, hk.2⟩))), (uR (Kd.R_mono HO1013.out (fun _ hk => ⟨hk.2, hk.1⟩))), (uR (Kd.R_mono HO1016.out (fun _ hk => ⟨hk.2, hk.1⟩))), (uB BK1000.out), (uB BK1001.out), (uH HB.out)⟩)
                        ·skip
                         refine box_step ?hg (N := 8) ?hd (cs := #[.int .i64 0, .slice none 0 0]) (t := 31) ?hr ?_; (case hd => rfl); (case hg => rfl); (case hr => first | (go_simp; done) | (go_simp; rfl))
                         intro gb1017 hg w25 hbox hb
                         replace HO1013 := xR HO1013 hb
                         replace HO1016 := xR HO1016 hb
                         have BK1017 := zA (hbox)
                         have GW1017 := gq HB hg
                         have GE1017 := gq HB hg
                         replace HB := xH HB hb
                         have NB1000_1017 := zA ((by rw [hg]; exact neL BK1000 : gb1000 ≠ gb1017))
                         have NB1017_1000 := zA ((by rw [hg]; exact neG BK1000 : gb1017 ≠ gb1000))
                         replace BK1000 := xB BK1000 hb
                         have NB1001_1017 := zA ((by rw [hg]; exact neL BK1001 : gb1001 ≠ gb1017))
                         have NB1017_1001 := zA ((by rw [hg]; exact neG BK1001 : gb1017 ≠ gb1001))
                         replace BK1001 := xB BK1001 hb
                         have := geI GE1017
                         clear hb hbox hg
                         refine hK.out _ _ ⟨bcu BK1000 0, bcu BK1000 1⟩ (fun hHeld => ?_)
                         clear hK K
                         refine no_ 8 ?_
                         exact norm_ (by first | (simp only [putAll, Act.put, ls, lz, ln]; done) | (simp only [putAll, Act.put, ls, lz, ln]; rfl)) (hJ7_8_9 (v1012, v1015, gb1017) _ ⟨hHeld, (uR HO1013.out), (uR HO1016.out), (uB BK1000.out), (uB BK1001.out), (uB BK1017.out), GW1017.out, GE1017.out, NB1000_1017.out, NB1017_1000.out, NB1001_1017.out, NB1017_1001.out, (uH HB.out)⟩)
                      ·skip
                       rintro ⟨v1009, gb1017⟩ w23 ⟨hS_, h0_, h1_, h2_, h3_, h4_, h5_, h6_, h7_, h8_, h9_, h10_⟩
                       have n0_ : Aside0 (Kd.R (Kd.int .i64) 2 w23 w.heap.size (fun _ => True) v1009 y1008) := ⟨h0_⟩
                       have n1_ : Aside0 (w23.heap[gb1000]? = some (.cells #[.int .i64 a0_0, .slice A0_1 l0_1.length c0_1] 31 (0, 0))) := ⟨h1_⟩
                       have n2_ : Aside0 (w23.heap[gb1001]? = some (.cells #[.int .i64 0, .slice none 0 0] 31 (0, 0))) := ⟨h2_⟩
                       have n3_ : Aside0 (w23.heap[gb1017]? = some (.cells #[.int .i64 0, .slice none 0 0] 31 (0, 0))) := ⟨h3_⟩
                       have n4_ : Aside0 (w.heap.size ≤ gb1017) := ⟨h4_⟩
                       have n5_ : Aside0 (w.heap.size ≤ gb1017) := ⟨h5_⟩
                       have n6_ : Aside0 (gb1000 ≠ gb1017) := ⟨h6_⟩
                       have n7_ : Aside0 (gb1017 ≠ gb1000) := ⟨h7_⟩
                       have n8_ : Aside0 (gb1001 ≠ gb1017) := ⟨h8_⟩
                       have n9_ : Aside0 (gb1017 ≠ gb1001) := ⟨h9_⟩
                       have n10_ : Aside0 (Below w.heap.size w w23) := ⟨h10_⟩
                       clear BK1000 BK1001 HB
                       clear h0_ h1_ h2_ h3_ h4_ h5_ h6_ h7_ h8_ h9_ h10_
                       have HO1010 := n0_
                       have BK1000 := n1_
                       have BK1001 := n2_
                       have BK1017 := n3_
                       have GW1017 := n4_
                       have GE1017 := n5_
                       have := geI GE1017
                       have NB1000_1017 := n6_
                       have NB1017_1000 := n7_
                       have NB1001_1017 := n8_
                       have NB1017_1001 := n9_
                       have HB := n10_
                       clear n0_ n1_ n2_ n3_ n4_ n5_ n6_ n7_ n8_ n9_ n10_
                       have hHeld : w23.cell? ⟨gb1000, 0, none⟩ = some (.int .i64 a0_0) ∧ w23.cell? ⟨gb1000, 1, none⟩ = some (.slice A0_1 l0_1.length c0_1) := hS_
                       refine norm_ (a' := ?_) ?_ ?_
                       rotate_left
                       ·simp only [putAll, Act.put, ls, lz, ln]
                        rfl
                       refine two_ (i := 2) (j := 7) (Ni := some 35) (Nj := some 40) (bl 13 631) (bl 13 755) rfl rfl rfl rfl (two_of HT_.out (by kernel_rfl)) (by decide) (by decide) (fun K hK => ?_) (fun K hK => ?_)
                       ·skip
                        refine Kd.R_lit_step (Kd.int .i64) _ 2 ?hg (N := 35) ?hd (xs := ([] : List Int)) (inner := []) (ok := fun _ => True) (okp := fun _ => True) ?hr ?hp (fun _ hk => hk) trivial (Below.refl _ _) (Nat.le_refl _) (by simp) ?_; (case hd => rfl); (case hg => rfl); (case hr => first | (go_simp; done) | (go_simp; rfl)); (case hp => exact (Reps.none _ _))
                        intro v1006 w24 ho25 hb hg_ hnew_
                        clear hg_ hnew_
                        (first | rw [← Ny1005.out] at ho25 | (simp only [Int.reduceToNat] at ho25; rw [← Ny1005.out] at ho25))
                        have HO1007 := zA (Kd.R_lower (Kd.R_new' ho25 (Kd.R_lt (uR HO1010.out))) (below_size (uH HB.out)))
                        replace HO1010 := zA (Kd.R_elder' (uR HO1010.out) (Kd.R_base ho25) hb)
                        replace BK1000 := xB BK1000 hb
                        replace BK1001 := xB BK1001 hb
                        replace BK1017 := xB BK1017 hb
                        replace HB := xH HB hb
                        clear hb ho25
                        obtain ⟨Ao26, co26, eo26⟩ := Kd.R_slice HO1007.out
                        (first | subst eo26 | (injection eo26 with f1_ f2_ f3_; have f4_ := f1_.symm; have f5_ := f3_.symm; clear f1_ f2_ f3_; subst f4_; subst f5_))
                        refine hK.out _ _ ⟨bcu BK1000 0, bcu BK1000 1⟩ (fun hHeld => ?_)
                        clear hK K
                        refine no_ 35 ?_
                        refine pu_ 3 36 (bl 13 639) HT_ ?_
                        exact norm_ (by first | (simp only [putAll, Act.put, ls, lz, ln]; done) | (simp only [putAll, Act.put, ls, lz, ln]; rfl)) (hJ2_4_9 (.slice Ao26 y1005.length co26, v1009, gb1017) _ ⟨hHeld, (uR (Kd.R_mono HO1007.out (fun _ hk => hk.2))), (uR (Kd.R_mono HO1010.out (fun _ hk => hk.2))), (uB BK1000.out), (uB BK1001.out), (uB BK1017.out), GW1017.out, GE1017.out, NB1000_1017.out, NB1017_1000.out, NB1001_1017.out, NB1017_1001.out, (uH HB.out)⟩)
                       ·skip
                        refine Kd.R_lit_step (Kd.int .i64) _ 2 ?hg (N := 40) ?hd (xs := ([a2, a1] : List Int)) (inner := [.int .i64 a2, .int .i64 a1]) (ok := fun _ => True) (okp := fun _ => True) ?hr ?hp (fun _ hk => hk) trivial (Below.refl _ _) (Nat.le_refl _) (by simp) ?_; (case hd => rfl); (case hg => rfl); (case hr => first | (go_simp; done) | (go_simp; rfl)); (case hp => exact (Reps.one (show Kd.M (Kd.int .i64) _ _ _ a2 [.int .i64 a2] from rfl) (Reps.one (show Kd.M (Kd.int .i64) _ _ _ a1 [.int .i64 a1] from rfl) (Reps.none _ _))))
                        intro v1012 w24 ho25 hb hg_ hnew_
                        clear hg_ hnew_
                        (first | rw [← Ny1011.out] at ho25 | (simp only [Int.reduceToNat] at ho25; rw [← Ny1011.out] at ho25))
                        have HO1013 := zA (Kd.R_lower (Kd.R_new' ho25 (Kd.R_lt (uR HO1010.out))) (below_size (uH HB.out)))
                        replace HO1010 := zA (Kd.R_elder' (uR HO1010.out) (Kd.R_base ho25) hb)
                        replace BK1000 := xB BK1000 hb
                        replace BK1001 := xB BK1001 hb
                        replace BK1017 := xB BK1017 hb
                        replace HB := xH HB hb
                        clear hb ho25
                        refine hK.out _ _ ⟨bcu BK1000 0, bcu BK1000 1⟩ (fun hHeld => ?_)
                        clear hK K
                        refine no_ 40 ?_
                        exact norm_ (by first | (simp only [putAll, Act.put, ls, lz, ln]; done) | (simp only [putAll, Act.put, ls, lz, ln]; rfl)) (hJ4_7_9 (v1009, v1012, gb1017) _ ⟨hHeld, (uR (Kd.R_mono HO1010.out (fun _ hk => hk.2))), (uR (Kd.R_mono HO1013.out (fun _ hk => hk.2))), (uB BK1000.out), (uB BK1001.out), (uB BK1017.out), GW1017.out, GE1017.out, NB1000_1017.out, NB1017_1000.out, NB1001_1017.out, NB1017_1001.out, (uH HB.out)⟩)
                     ·skip
                      rintro ⟨v1009, v1012⟩ w24 ⟨hS_, h0_, h1_, h2_, h3_, h4_⟩
                      have n0_ : Aside0 (Kd.R (Kd.int .i64) 2 w24 w.heap.size (fun k_ => some k_ ≠ (v1012 : Value).ownBlock) v1009 y1008) := ⟨h0_⟩
                      have n1_ : Aside0 (Kd.R (Kd.int .i64) 2 w24 w.heap.size (fun k_ => some k_ ≠ (v1009 : Value).ownBlock) v1012 y1011) := ⟨h1_⟩
                      have n2_ : Aside0 (w24.heap[gb1000]? = some (.cells #[.int .i64 a0_0, .slice A0_1 l0_1.length c0_1] 31 (0, 0))) := ⟨h2_⟩
                      have n3_ : Aside0 (w24.heap[gb1001]? = some (.cells #[.int .i64 0, .slice none 0 0] 31 (0, 0))) := ⟨h3_⟩
                      have n4_ : Aside0 (Below w.heap.size w w24) := ⟨h4_⟩
                      clear BK1000 BK1001 HB
                      clear h0_ h1_ h2_ h3_ h4_
                      have HO1010 := n0_
                      have HO1013 := n1_
                      have BK1000 := n2_
                      have BK1001 := n3_
                      have HB := n4_
                      clear n0_ n1_ n2_ n3_ n4_
                      have hHeld : w24.cell? ⟨gb1000, 0, none⟩ = some (.int .i64 a0_0) ∧ w24.cell? ⟨gb1000, 1, none⟩ = some (.slice A0_1 l0_1.length c0_1) := hS_
                      refine norm_ (a' := ?_) ?_ ?_
                      rotate_left
                      ·simp only [putAll, Act.put, ls, lz, ln]
                       rfl
                      refine three_ (i := 2) (j := 8) (k := 9) (Ni := some 35) (Nj := some 41) (Nk := some 8) (bl 13 247) (bl 13 499) (bl 13 755) rfl rfl rfl rfl rfl rfl (three_of HT_.out (by kernel_rfl)) (by decide) (by decide) (by decide) (fun K hK => ?_) (fun K hK => ?_) (fun K hK => ?_)
                      ·skip
                       refine Kd.R_lit_step (Kd.int .i64) _ 2 ?hg (N := 35) ?hd (xs := ([] : List Int)) (inner := []) (ok := fun _ => True) (okp := fun _ => True) ?hr ?hp (fun _ hk => hk) trivial (Below.refl _ _) (Nat.le_refl _) (by simp) ?_; (case hd => rfl); (case hg => rfl); (case hr => first | (go_simp; done) | (go_simp; rfl)); (case hp => exact (Reps.none _ _))
                       intro v1006 w25 ho26 hb hg_ hnew_
                       clear hg_ hnew_
                       (first | rw [← Ny1005.out] at ho26 | (simp only [Int.reduceToNat] at ho26; rw [← Ny1005.out] at ho26))
                       have HO1007 := zA (Kd.R_lower (Kd.R_new' (Kd.R_new' ho26 (Kd.R_lt (uR HO1010.out))) (Kd.R_lt (uR HO1013.out))) (below_size (uH HB.out)))
                       replace HO1010 := zA (Kd.R_elder' (uR HO1010.out) (Kd.R_base ho26) hb)
                       replace HO1013 := zA (Kd.R_elder' (uR HO1013.out) (Kd.R_base ho26) hb)
                       replace BK1000 := xB BK1000 hb
                       replace BK1001 := xB BK1001 hb
                       replace HB := xH HB hb
                       clear hb ho26
                       obtain ⟨Ao27, co27, eo27⟩ := Kd.R_slice HO1007.out
                       (first | subst eo27 | (injection eo27 with f1_ f2_ f3_; have f4_ := f1_.symm; have f5_ := f3_.symm; clear f1_ f2_ f3_; subst f4_; subst f5_))
                       refine hK.out _ _ ⟨bcu BK1000 0, bcu BK1000 1⟩ (fun hHeld => ?_)
                       clear hK K
                       refine no_ 35 ?_
                       refine pu_ 3 36 (bl 13 255) HT_ ?_
                       exact norm_ (by first | (simp only [putAll, Act.put, ls, lz, ln]; done) | (simp only [putAll, Act.put, ls, lz, ln]; rfl)) (hJ2_4_7 (.slice Ao27 y1005.length co27, v1009, v1012) _ ⟨hHeld, (uR (Kd.R_mono HO1007.out (fun _ hk => ⟨hk.1.2, hk.2⟩))), (uR (Kd.R_mono HO1010.out (fun _ hk => ⟨hk.2, hk.1⟩))), (uR (Kd.R_mono HO1013.out (fun _ hk => ⟨hk.2, hk.1⟩))), (uB BK1000.out), (uB BK1001.out), (uH HB.out)⟩)
                      ·skip
                       obtain ⟨Ao25, co25, eo25⟩ := Kd.R_slice HO1013.out
                       (first | subst eo25 | (injection eo25 with f1_ f2_ f3_; have f4_ := f1_.symm; have f5_ := f3_.symm; clear f1_ f2_ f3_; subst f4_; subst f5_))
                       refine gS Try.func96 #[.slice Ao25 y1011.length co25] ?_
                       with_reducible refine (spec_l01Trim.calls k _ _ y1011 t1014 _ ?side1 ?side2 A10.out).mono ?_
                       (case side1 => exact uC ((Kd.R_reads' HO1013.out).2.2))
                       (case side2 => exact (Kd.R_reads' HO1013.out).2.1)
                       rintro e w26 ⟨v1015, rfl, ho0, hb⟩
                       refine ⟨_, rfl, ?_⟩
                       have HO1016 := zA (Kd.R_lower (Kd.R_new' (Kd.R_new' ho0 (Kd.R_lt (uR HO1010.out))) (Kd.R_lt (uR HO1013.out))) (below_size (uH HB.out)))
                       replace HO1010 := zA (Kd.R_elder' (uR HO1010.out) (Kd.R_base ho0) hb)
                       replace HO1013 := zA (Kd.R_elder' (uR HO1013.out) (Kd.R_base ho0) hb)
                       replace BK1000 := xB BK1000 hb
                       replace BK1001 := xB BK1001 hb
                       replace HB := xH HB hb
                       (try clear hb); (try clear hb2); (try clear hk); (try clear hi); (try clear ho0)
                       refine hK.out _ _ ⟨bcu BK1000 0, bcu BK1000 1⟩ (fun hHeld => ?_)
                       clear hK K
                       refine no_ 41 ?_
                       exact norm_ (by first | (simp only [putAll, Act.put, ls, lz, ln]; done) | (simp only [putAll, Act.put, ls, lz, ln]; rfl)) (hJ4_7_8 (v1009, .slice Ao25 y1011.length co25, v1015) _ ⟨hHeld, (uR HO1010.out), (uR HO1013.out), (uR (Kd.R_mono HO1016.out (fun _ hk => ⟨hk.1.2, hk.2⟩))), (uB BK1000.out), (uB BK1001.out), (uH HB.out)⟩)
                      ·skip
                       refine box_step ?hg (N := 8) ?hd (cs := #[.int .i64 0, .slice none 0 0]) (t := 31) ?hr ?_; (case hd => rfl); (case hg => rfl); (case hr => first | (go_simp; done) | (go_simp; rfl))
                       intro gb1017 hg w25 hbox hb
                       replace HO1010 := xR HO1010 hb
                       replace HO1013 := xR HO1013 hb
                       have BK1017 := zA (hbox)
                       have GW1017 := gq HB hg
                       have GE1017 := gq HB hg
                       replace HB := xH HB hb
                       have NB1000_1017 := zA ((by rw [hg]; exact neL BK1000 : gb1000 ≠ gb1017))
                       have NB1017_1000 := zA ((by rw [hg]; exact neG BK1000 : gb1017 ≠ gb1000))
                       replace BK1000 := xB BK1000 hb
                       have NB1001_1017 := zA ((by rw [hg]; exact neL BK1001 : gb1001 ≠ gb1017))
                       have NB1017_1001 := zA ((by rw [hg]; exact neG BK1001 : gb1017 ≠ gb1001))
                       replace BK1001 := xB BK1001 hb
                       have := geI GE1017
                       clear hb hbox hg
                       refine hK.out _ _ ⟨bcu BK1000 0, bcu BK1000 1⟩ (fun hHeld => ?_)
                       clear hK K
                       refine no_ 8 ?_
                       exact norm_ (by first | (simp only [putAll, Act.put, ls, lz, ln]; done) | (simp only [putAll, Act.put, ls, lz, ln]; rfl)) (hJ4_7_9 (v1009, v1012, gb1017) _ ⟨hHeld, (uR HO1010.out), (uR HO1013.out), (uB BK1000.out), (uB BK1001.out), (uB BK1017.out), GW1017.out, GE1017.out, NB1000_1017.out, NB1017_1000.out, NB1001_1017.out, NB1017_1001.out, (uH HB.out)⟩)
                    ·skip
                     rintro ⟨v1006, gb1017⟩ w24 ⟨hS_, h0_, h1_, h2_, h3_, h4_, h5_, h6_, h7_, h8_, h9_, h10_⟩
                     have n0_ : Aside0 (Kd.R (Kd.int .i64) 2 w24 w.heap.size (fun _ => True) v1006 y1005) := ⟨h0_⟩
                     have n1_ : Aside0 (w24.heap[gb1000]? = some (.cells #[.int .i64 a0_0, .slice A0_1 l0_1.length c0_1] 31 (0, 0))) := ⟨h1_⟩
                     have n2_ : Aside0 (w24.heap[gb1001]? = some (.cells #[.int .i64 0, .slice none 0 0] 31 (0, 0))) := ⟨h2_⟩
                     have n3_ : Aside0 (w24.heap[gb1017]? = some (.cells #[.int .i64 0, .slice none 0 0] 31 (0, 0))) := ⟨h3_⟩
                     have n4_ : Aside0 (w.heap.size ≤ gb1017) := ⟨h4_⟩
                     have n5_ : Aside0 (w.heap.size ≤ gb1017) := ⟨h5_⟩
                     have n6_ : Aside0 (gb1000 ≠ gb1017) := ⟨h6_⟩
                     have n7_ : Aside0 (gb1017 ≠ gb1000) := ⟨h7_⟩
                     have n8_ : Aside0 (gb1001 ≠ gb1017) := ⟨h8_⟩
                     have n9_ : Aside0 (gb1017 ≠ gb1001) := ⟨h9_⟩
                     have n10_ : Aside0 (Below w.heap.size w w24) := ⟨h10_⟩
                     clear BK1000 BK1001 HB
                     clear h0_ h1_ h2_ h3_ h4_ h5_ h6_ h7_ h8_ h9_ h10_
                     have HO1007 := n0_
                     have BK1000 := n1_
                     have BK1001 := n2_
                     have BK1017 := n3_
                     have GW1017 := n4_
                     have GE1017 := n5_
                     have := geI GE1017
                     have NB1000_1017 := n6_
                     have NB1017_1000 := n7_
                     have NB1001_1017 := n8_
                     have NB1017_1001 := n9_
                     have HB := n10_
                     clear n0_ n1_ n2_ n3_ n4_ n5_ n6_ n7_ n8_ n9_ n10_
                     have hHeld : w24.cell? ⟨gb1000, 0, none⟩ = some (.int .i64 a0_0) ∧ w24.cell? ⟨gb1000, 1, none⟩ = some (.slice A0_1 l0_1.length c0_1) := hS_
                     obtain ⟨Ao25, co25, eo25⟩ := Kd.R_slice HO1007.out
                     (first | subst eo25 | (injection eo25 with f1_ f2_ f3_; have f4_ := f1_.symm; have f5_ := f3_.symm; clear f1_ f2_ f3_; subst f4_; subst f5_))
                     refine norm_ (a' := ?_) ?_ ?_
                     rotate_left
                     ·simp only [putAll, Act.put, ls, lz, ln]
                      rfl
                     refine two_ (i := 4) (j := 7) (Ni := some 37) (Nj := some 40) (bl 13 639) (bl 13 751) rfl rfl rfl rfl (two_of HT_.out (by kernel_rfl)) (by decide) (by decide) (fun K hK => ?_) (fun K hK => ?_)
                     ·skip
                      refine Kd.R_lit_step (Kd.int .i64) _ 2 ?hg (N := 37) ?hd (xs := ([1] : List Int)) (inner := [.int .i64 1]) (ok := fun _ => True) (okp := fun _ => True) ?hr ?hp (fun _ hk => hk) trivial (Below.refl _ _) (Nat.le_refl _) (by simp) ?_; (case hd => rfl); (case hg => rfl); (case hr => first | (go_simp; done) | (go_simp; rfl)); (case hp => exact (Reps.one (show Kd.M (Kd.int .i64) _ _ _ 1 [.int .i64 1] from rfl) (Reps.none _ _)))
                      intro v1009 w26 ho27 hb hg_ hnew_
                      clear hg_ hnew_
                      (first | rw [← Ny1008.out] at ho27 | (simp only [Int.reduceToNat] at ho27; rw [← Ny1008.out] at ho27))
                      have HO1010 := zA (Kd.R_lower (Kd.R_new' ho27 (Kd.R_lt (uR HO1007.out))) (below_size (uH HB.out)))
                      replace HO1007 := zA (Kd.R_elder' (uR HO1007.out) (Kd.R_base ho27) hb)
                      replace BK1000 := xB BK1000 hb
                      replace BK1001 := xB BK1001 hb
                      replace BK1017 := xB BK1017 hb
                      replace HB := xH HB hb
                      clear hb ho27
                      refine hK.out _ _ ⟨bcu BK1000 0, bcu BK1000 1⟩ (fun hHeld => ?_)
                      clear hK K
                      refine no_ 37 ?_
                      exact norm_ (by first | (simp only [putAll, Act.put, ls, lz, ln]; done) | (simp only [putAll, Act.put, ls, lz, ln]; rfl)) (hJ2_4_9 (.slice Ao25 y1005.length co25, v1009, gb1017) _ ⟨hHeld, (uR (Kd.R_mono HO1007.out (fun _ hk => hk.2))), (uR (Kd.R_mono HO1010.out (fun _ hk => hk.2))), (uB BK1000.out), (uB BK1001.out), (uB BK1017.out), GW1017.out, GE1017.out, NB1000_1017.out, NB1017_1000.out, NB1001_1017.out, NB1017_1001.out, (uH HB.out)⟩)
                     ·skip
                      refine Kd.R_lit_step (Kd.int .i64) _ 2 ?hg (N := 40) ?hd (xs := ([a2, a1] : List Int)) (inner := [.int .i64 a2, .int .i64 a1]) (ok := fun _ => True) (okp := fun _ => True) ?hr ?hp (fun _ hk => hk) trivial (Below.refl _ _) (Nat.le_refl _) (by simp) ?_; (case hd => rfl); (case hg => rfl); (case hr => first | (go_simp; done) | (go_simp; rfl)); (case hp => exact (Reps.one (show Kd.M (Kd.int .i64) _ _ _ a2 [.int .i64 a2] from rfl) (Reps.one (show Kd.M (Kd.int .i64) _ _ _ a1 [.int .i64 a1] from rfl) (Reps.none _ _))))
                      intro v1012 w26 ho27 hb hg_ hnew_
                      clear hg_ hnew_
                      (first | rw [← Ny1011.out] at ho27 | (simp only [Int.reduceToNat] at ho27; rw [← Ny1011.out] at ho27))
                      have HO1013 := zA (Kd.R_lower (Kd.R_new' ho27 (Kd.R_lt (uR HO1007.out))) (below_size (uH HB.out)))
                      replace HO1007 := zA (Kd.R_elder' (uR HO1007.out) (Kd.R_base ho27) hb)
                      replace BK1000 := xB BK1000 hb
                      replace BK1001 := xB BK1001 hb
                      replace BK1017 := xB BK1017 hb
                      replace HB := xH HB hb
                      clear hb ho27
                      refine hK.out _ _ ⟨bcu BK1000 0, bcu BK1000 1⟩ (fun hHeld => ?_)
                      clear hK K
                      refine no_ 40 ?_
                      exact norm_ (by first | (simp only [putAll, Act.put, ls, lz, ln]; done) | (simp only [putAll, Act.put, ls, lz, ln]; rfl)) (hJ2_7_9 (.slice Ao25 y1005.length co25, v1012, gb1017) _ ⟨hHeld, (uR (Kd.R_mono HO1007.out (fun _ hk => hk.2))), (uR (Kd.R_mono HO1013.out (fun _ hk => hk.2))), (uB BK1000.out), (uB BK1001.out), (uB BK1017.out), GW1017.out, GE1017.out, NB1000_1017.out, NB1017_1000.out, NB1001_1017.out, NB1017_1001.out, (uH HB.out)⟩)
                   ·skip
                    rintro ⟨v1006, v1012⟩ w25 ⟨hS_, h0_, h1_, h2_, h3_, h4_⟩
                    have n0_ : Aside0 (Kd.R (Kd.int .i64) 2 w25 w.heap.size (fun k_ => some k_ ≠ (v1012 : Value).ownBlock) v1006 y1005) := ⟨h0_⟩
                    have n1_ : Aside0 (Kd.R (Kd.int .i64) 2 w25 w.heap.size (fun k_ => some k_ ≠ (v1006 : Value).ownBlock) v1012 y1011) := ⟨h1_⟩
                    have n2_ : Aside0 (w25.heap[gb1000]? = some (.cells #[.int .i64 a0_0, .slice A0_1 l0_1.length c0_1] 31 (0, 0))) := ⟨h2_⟩
                    have n3_ : Aside0 (w25.heap[gb1001]? = some (.cells #[.int .i64 0, .slice none 0 0] 31 (0, 0))) := ⟨h3_⟩
                    have n4_ : Aside0 (Below w.heap.size w w25) := ⟨h4_⟩
                    clear BK1000 BK1001 HB
                    clear h0_ h1_ h2_ h3_ h4_
                    have HO1007 := n0_
                    have HO1013 := n1_
                    have BK1000 := n2_
                    have BK1001 := n3_
                    have HB := n4_
                    clear n0_ n1_ n2_ n3_ n4_
                    have hHeld : w25.cell? ⟨gb1000, 0, none⟩ = some (.int .i64 a0_0) ∧ w25.cell? ⟨gb1000, 1, none⟩ = some (.slice A0_1 l0_1.length c0_1) := hS_
                    obtain ⟨Ao26, co26, eo26⟩ := Kd.R_slice HO1007.out
                    (first | subst eo26 | (injection eo26 with f1_ f2_ f3_; have f4_ := f1_.symm; have f5_ := f3_.symm; clear f1_ f2_ f3_; subst f4_; subst f5_))
                    refine norm_ (a' := ?_) ?_ ?_
                    rotate_left
                    ·simp only [putAll, Act.put, ls, lz, ln]
                     rfl
                    refine three_ (i := 4) (j := 8) (k := 9) (Ni := some 37) (Nj := some 41) (Nk := some 8) (bl 13 255) (bl 13 495) (bl 13 751) rfl rfl rfl rfl rfl rfl (three_of HT_.out (by kernel_rfl)) (by decide) (by decide) (by decide) (fun K hK => ?_) (fun K hK => ?_) (fun K hK => ?_)
                    ·skip
                     refine Kd.R_lit_step (Kd.int .i64) _ 2 ?hg (N := 37) ?hd (xs := ([1] : List Int)) (inner := [.int .i64 1]) (ok := fun _ => True) (okp := fun _ => True) ?hr ?hp (fun _ hk => hk) trivial (Below.refl _ _) (Nat.le_refl _) (by simp) ?_; (case hd => rfl); (case hg => rfl); (case hr => first | (go_simp; done) | (go_simp; rfl)); (case hp => exact (Reps.one (show Kd.M (Kd.int .i64) _ _ _ 1 [.int .i64 1] from rfl) (Reps.none _ _)))
                     intro v1009 w27 ho28 hb hg_ hnew_
                     clear hg_ hnew_
                     (first | rw [← Ny1008.out] at ho28 | (simp only [Int.reduceToNat] at ho28; rw [← Ny1008.out] at ho28))
                     have HO1010 := zA (Kd.R_lower (Kd.R_new' (Kd.R_new' ho28 (Kd.R_lt (uR HO1007.out))) (Kd.R_lt (uR HO1013.out))) (below_size (uH HB.out)))
                     replace HO1007 := zA (Kd.R_elder' (uR HO1007.out) (Kd.R_base ho28) hb)
                     replace HO1013 := zA (Kd.R_elder' (uR HO1013.out) (Kd.R_base ho28) hb)
                     replace BK1000 := xB BK1000 hb
                     replace BK1001 := xB BK1001 hb
                     replace HB := xH HB hb
                     clear hb ho28
                     refine hK.out _ _ ⟨bcu BK1000 0, bcu BK1000 1⟩ (fun hHeld => ?_)
                     clear hK K
                     refine no_ 37 ?_
                     exact norm_ (by first | (simp only [putAll, Act.put, ls, lz, ln]; done) | (simp only [putAll, Act.put, ls, lz, ln]; rfl)) (hJ2_4_7 (.slice Ao26 y1005.length co26, v1009, v1012) _ ⟨hHeld, (uR (Kd.R_mono HO1007.out (fun _ hk => ⟨hk.2, hk.1⟩))), (uR (Kd.R_mono HO1010.out (fun _ hk => ⟨hk.1.2, hk.2⟩))), (uR HO1013.out), (uB BK1000.out), (uB BK1001.out), (uH HB.out)⟩)
                    ·skip
                     obtain ⟨Ao27, co27, eo27⟩ := Kd.R_slice HO1013.out
                     (first | subst eo27 | (injection eo27 with f1_ f2_ f3_; have f4_ := f1_.symm; have f5_ := f3_.symm; clear f1_ f2_ f3_; subst f4_; subst f5_))
                     refine gS Try.func96 #[.slice Ao27 y1011.length co27] ?_
                     with_reducible refine (spec_l01Trim.calls k _ _ y1011 t1014 _ ?side1 ?side2 A10.out).mono ?_
                     (case side1 => exact uC ((Kd.R_reads' HO1013.out).2.2))
                     (case side2 => exact (Kd.R_reads' HO1013.out).2.1)
                     rintro e w28 ⟨v1015, rfl, ho0, hb⟩
                     refine ⟨_, rfl, ?_⟩
                     have HO1016 := zA (Kd.R_lower (Kd.R_new' (Kd.R_new' ho0 (Kd.R_lt (uR HO1007.out))) (Kd.R_lt (uR HO1013.out))) (below_size (uH HB.out)))
                     replace HO1007 := zA (Kd.R_elder' (uR HO1007.out) (Kd.R_base ho0) hb)
                     replace HO1013 := zA (Kd.R_elder' (uR HO1013.out) (Kd.R_base ho0) hb)
                     replace BK1000 := xB BK1000 hb
                     replace BK1001 := xB BK1001 hb
                     replace HB := xH HB hb
                     (try clear hb); (try clear hb2); (try clear hk); (try clear hi); (try clear ho0)
                     refine hK.out _ _ ⟨bcu BK1000 0, bcu BK1000 1⟩ (fun hHeld => ?_)
                     clear hK K
                     refine no_ 41 ?_
                     exact norm_ (by first | (simp only [putAll, Act.put, ls, lz, ln]; done) | (simp only [putAll, Act.put, ls, lz, ln]; rfl)) (hJ2_7_8 (.slice Ao26 y1005.length co26, .slice Ao27 y1011.length co27, v1015) _ ⟨hHeld, (uR HO1007.out), (uR HO1013.out), (uR (Kd.R_mono HO1016.out (fun _ hk => ⟨hk.1.2, hk.2⟩))), (uB BK1000.out), (uB BK1001.out), (uH HB.out)⟩)
                    ·skip
                     refine box_step ?hg (N := 8) ?hd (cs := #[.int .i64 0, .slice none 0 0]) (t := 31) ?hr ?_; (case hd => rfl); (case hg => rfl); (case hr => first | (go_simp; done) | (go_simp; rfl))
                     intro gb1017 hg w27 hbox hb
                     replace HO1007 := xR HO1007 hb
                     replace HO1013 := xR HO1013 hb
                     have BK1017 := zA (hbox)
                     have GW1017 := gq HB hg
                     have GE1017 := gq HB hg
                     replace HB := xH HB hb
                     have NB1000_1017 := zA ((by rw [hg]; exact neL BK1000 : gb1000 ≠ gb1017))
                     have NB1017_1000 := zA ((by rw [hg]; exact neG BK1000 : gb1017 ≠ gb1000))
                     replace BK1000 := xB BK1000 hb
                     have NB1001_1017 := zA ((by rw [hg]; exact neL BK1001 : gb1001 ≠ gb1017))
                     have NB1017_1001 := zA ((by rw [hg]; exact neG BK1001 : gb1017 ≠ gb1001))
                     replace BK1001 := xB BK1001 hb
                     have := geI GE1017
                     clear hb hbox hg
                     refine hK.out _ _ ⟨bcu BK1000 0, bcu BK1000 1⟩ (fun hHeld => ?_)
                     clear hK K
                     refine no_ 8 ?_
                     exact norm_ (by first | (simp only [putAll, Act.put, ls, lz, ln]; done) | (simp only [putAll, Act.put, ls, lz, ln]; rfl)) (hJ2_7_9 (.slice Ao26 y1005.length co26, v1012, gb1017) _ ⟨hHeld, (uR HO1007.out), (uR HO1013.out), (uB BK1000.out), (uB BK1001.out), (uB BK1017.out), GW1017.out, GE1017.out, NB1000_1017.out, NB1017_1000.out, NB1001_1017.out, NB1017_1001.out, (uH HB.out)⟩)
                  ·skip
                   rintro ⟨v1006, v1009⟩ w25 ⟨hS_, h0_, h1_, h2_, h3_, h4_⟩
                   have n0_ : Aside0 (Kd.R (Kd.int .i64) 2 w25 w.heap.size (fun k_ => some k_ ≠ (v1009 : Value).ownBlock) v1006 y1005) := ⟨h0_⟩
                   have n1_ : Aside0 (Kd.R (Kd.int .i64) 2 w25 w.heap.size (fun k_ => some k_ ≠ (v1006 : Value).ownBlock) v1009 y1008) := ⟨h1_⟩
                   have n2_ : Aside0 (w25.heap[gb1000]? = some (.cells #[.int .i64 a0_0, .slice A0_1 l0_1.length c0_1] 31 (0, 0))) := ⟨h2_⟩
                   have n3_ : Aside0 (w25.heap[gb1001]? = some (.cells #[.int .i64 0, .slice none 0 0] 31 (0, 0))) := ⟨h3_⟩
                   have n4_ : Aside0 (Below w.heap.size w w25) := ⟨h4_⟩
                   clear BK1000 BK1001 HB
                   clear h0_ h1_ h2_ h3_ h4_
                   have HO1007 := n0_
                   have HO1010 := n1_
                   have BK1000 := n2_
                   have BK1001 := n3_
                   have HB := n4_
                   clear n0_ n1_ n2_ n3_ n4_
                   have hHeld : w25.cell? ⟨gb1000, 0, none⟩ = some (.int .i64 a0_0) ∧ w25.cell? ⟨gb1000, 1, none⟩ = some (.slice A0_1 l0_1.length c0_1) := hS_
                   obtain ⟨Ao26, co26, eo26⟩ := Kd.R_slice HO1007.out
                   (first | subst eo26 | (injection eo26 with f1_ f2_ f3_; have f4_ := f1_.symm; have f5_ := f3_.symm; clear f1_ f2_ f3_; subst f4_; subst f5_))
                   refine norm_ (a' := ?_) ?_ ?_
                   rotate_left
                   ·simp only [putAll, Act.put, ls, lz, ln]
                    rfl
                   refine two_ (i := 7) (j := 9) (Ni := some 40) (Nj := some 8) (bl 13 255) (bl 13 639) rfl rfl rfl rfl (two_of HT_.out (by kernel_rfl)) (by decide) (by decide) (fun K hK => ?_) (fun K hK => ?_)
                   ·skip
                    refine Kd.R_lit_step (Kd.int .i64) _ 2 ?hg (N := 40) ?hd (xs := ([a2, a1] : List Int)) (inner := [.int .i64 a2, .int .i64 a1]) (ok := fun _ => True) (okp := fun _ => True) ?hr ?hp (fun _ hk => hk) trivial (Below.refl _ _) (Nat.le_refl _) (by simp) ?_; (case hd => rfl); (case hg => rfl); (case hr => first | (go_simp; done) | (go_simp; rfl)); (case hp => exact (Reps.one (show Kd.M (Kd.int .i64) _ _ _ a2 [.int .i64 a2] from rfl) (Reps.one (show Kd.M (Kd.int .i64) _ _ _ a1 [.int .i64 a1] from rfl) (Reps.none _ _))))
                    intro v1012 w27 ho28 hb hg_ hnew_
                    clear hg_ hnew_
                    (first | rw [← Ny1011.out] at ho28 | (simp only [Int.reduceToNat] at ho28; rw [← Ny1011.out] at ho28))
                    have HO1013 := zA (Kd.R_lower (Kd.R_new' (Kd.R_new' ho28 (Kd.R_lt (uR HO1007.out))) (Kd.R_lt (uR HO1010.out))) (below_size (uH HB.out)))
                    replace HO1007 := zA (Kd.R_elder' (uR HO1007.out) (Kd.R_base ho28) hb)
                    replace HO1010 := zA (Kd.R_elder' (uR HO1010.out) (Kd.R_base ho28) hb)
                    replace BK1000 := xB BK1000 hb
                    replace BK1001 := xB BK1001 hb
                    replace HB := xH HB hb
                    clear hb ho28
                    refine hK.out _ _ ⟨bcu BK1000 0, bcu BK1000 1⟩ (fun hHeld => ?_)
                    clear hK K
                    refine no_ 40 ?_
                    exact norm_ (by first | (simp only [putAll, Act.put, ls, lz, ln]; done) | (simp only [putAll, Act.put, ls, lz, ln]; rfl)) (hJ2_4_7 (.slice Ao26 y1005.length co26, v1009, v1012) _ ⟨hHeld, (uR HO1007.out), (uR HO1010.out), (uR (Kd.R_mono HO1013.out (fun _ hk => ⟨hk.1.2, hk.2⟩))), (uB BK1000.out), (uB BK1001.out), (uH HB.out)⟩)
                   ·skip
                    refine box_step ?hg (N := 8) ?hd (cs := #[.int .i64 0, .slice none 0 0]) (t := 31) ?hr ?_; (case hd => rfl); (case hg => rfl); (case hr => first | (go_simp; done) | (go_simp; rfl))
                    intro gb1017 hg w27 hbox hb
                    replace HO1007 := xR HO1007 hb
                    replace HO1010 := xR HO1010 hb
                    have BK1017 := zA (hbox)
                    have GW1017 := gq HB hg
                    have GE1017 := gq HB hg
                    replace HB := xH HB hb
                    have NB1000_1017 := zA ((by rw [hg]; exact neL BK1000 : gb1000 ≠ gb1017))
                    have NB1017_1000 := zA ((by rw [hg]; exact neG BK1000 : gb1017 ≠ gb1000))
                    replace BK1000 := xB BK1000 hb
                    have NB1001_1017 := zA ((by rw [hg]; exact neL BK1001 : gb1001 ≠ gb1017))
                    have NB1017_1001 := zA ((by rw [hg]; exact neG BK1001 : gb1017 ≠ gb1001))
                    replace BK1001 := xB BK1001 hb
                    have := geI GE1017
                    clear hb hbox hg
                    refine hK.out _ _ ⟨bcu BK1000 0, bcu BK1000 1⟩ (fun hHeld => ?_)
                    clear hK K
                    refine no_ 8 ?_
                    exact norm_ (by first | (simp only [putAll, Act.put, ls, lz, ln]; done) | (simp only [putAll, Act.put, ls, lz, ln]; rfl)) (hJ2_4_9 (.slice Ao26 y1005.length co26, v1009, gb1017) _ ⟨hHeld, (uR HO1007.out), (uR HO1010.out), (uB BK1000.out), (uB BK1001.out), (uB BK1017.out), GW1017.out, GE1017.out, NB1000_1017.out, NB1017_1000.out, NB1001_1017.out, NB1017_1001.out, (uH HB.out)⟩)
                 ·skip
                  rintro ⟨v1012, v1015, gb1017⟩ w25 ⟨hS_, h0_, h1_, h2_, h3_, h4_, h5_, h6_, h7_, h8_, h9_, h10_, h11_⟩
                  have n0_ : Aside0 (Kd.R (Kd.int .i64) 2 w25 w.heap.size (fun k_ => some k_ ≠ (v1015 : Value).ownBlock) v1012 y1011) := ⟨h0_⟩
                  have n1_ : Aside0 (Kd.R (Kd.int .i64) 2 w25 w.heap.size (fun k_ => some k_ ≠ (v1012 : Value).ownBlock) v1015 t1014) := ⟨h1_⟩
                  have n2_ : Aside0 (w25.heap[gb1000]? = some (.cells #[.int .i64 a0_0, .slice A0_1 l0_1.length c0_1] 31 (0, 0))) := ⟨h2_⟩
                  have n3_ : Aside0 (w25.heap[gb1001]? = some (.cells #[.int .i64 0, .slice none 0 0] 31 (0, 0))) := ⟨h3_⟩
                  have n4_ : Aside0 (w25.heap[gb1017]? = some (.cells #[.int .i64 0, .slice none 0 0] 31 (0, 0))) := ⟨h4_⟩
                  have n5_ : Aside0 (w.heap.size ≤ gb1017) := ⟨h5_⟩
                  have n6_ : Aside0 (w.heap.size ≤ gb1017) := ⟨h6_⟩
                  have n7_ : Aside0 (gb1000 ≠ gb1017) := ⟨h7_⟩
                  have n8_ : Aside0 (gb1017 ≠ gb1000) := ⟨h8_⟩
                  have n9_ : Aside0 (gb1001 ≠ gb1017) := ⟨h9_⟩
                  have n10_ : Aside0 (gb1017 ≠ gb1001) := ⟨h10_⟩
                  have n11_ : Aside0 (Below w.heap.size w w25) := ⟨h11_⟩
                  clear BK1000 BK1001 HB
                  clear h0_ h1_ h2_ h3_ h4_ h5_ h6_ h7_ h8_ h9_ h10_ h11_
                  have HO1013 := n0_
                  have HO1016 := n1_
                  have BK1000 := n2_
                  have BK1001 := n3_
                  have BK1017 := n4_
                  have GW1017 := n5_
                  have GE1017 := n6_
                  have := geI GE1017
                  have NB1000_1017 := n7_
                  have NB1017_1000 := n8_
                  have NB1001_1017 := n9_
                  have NB1017_1001 := n10_
                  have HB := n11_
                  clear n0_ n1_ n2_ n3_ n4_ n5_ n6_ n7_ n8_ n9_ n10_ n11_
                  have hHeld : w25.cell? ⟨gb1000, 0, none⟩ = some (.int .i64 a0_0) ∧ w25.cell? ⟨gb1000, 1, none⟩ = some (.slice A0_1 l0_1.length c0_1) := hS_
                  refine norm_ (a' := ?_) ?_ ?_
                  rotate_left
                  ·simp only [putAll, Act.put, ls, lz, ln]
                   rfl
                  refine two_ (i := 2) (j := 4) (Ni := some 35) (Nj := some 37) (bl 13 999) (bl 13 1011) rfl rfl rfl rfl (two_of HT_.out (by kernel_rfl)) (by decide) (by decide) (fun K hK => ?_) (fun K hK => ?_)
                  ·skip
                   refine Kd.R_lit_step (Kd.int .i64) _ 2 ?hg (N := 35) ?hd (xs := ([] : List Int)) (inner := []) (ok := fun _ => True) (okp := fun _ => True) ?hr ?hp (fun _ hk => hk) trivial (Below.refl _ _) (Nat.le_refl _) (by simp) ?_; (case hd => rfl); (case hg => rfl); (case hr => first | (go_simp; done) | (go_simp; rfl)); (case hp => exact (Reps.none _ _))
                   intro v1006 w26 ho27 hb hg_ hnew_
                   clear hg_ hnew_
                   (first | rw [← Ny1005.out] at ho27 | (simp only [Int.reduceToNat] at ho27; rw [← Ny1005.out] at ho27))
                   have HO1007 := zA (Kd.R_lower (Kd.R_new' (Kd.R_new' ho27 (Kd.R_lt (uR HO1013.out))) (Kd.R_lt (uR HO1016.out))) (below_size (uH HB.out)))
                   replace HO1013 := zA (Kd.R_elder' (uR HO1013.out) (Kd.R_base ho27) hb)
                   replace HO1016 := zA (Kd.R_elder' (uR HO1016.out) (Kd.R_base ho27) hb)
                   replace BK1000 := xB BK1000 hb
                   replace BK1001 := xB BK1001 hb
                   replace BK1017 := xB BK1017 hb
                   replace HB := xH HB hb
                   clear hb ho27
                   obtain ⟨Ao28, co28, eo28⟩ := Kd.R_slice HO1007.out
                   (first | subst eo28 | (injection eo28 with f1_ f2_ f3_; have f4_ := f1_.symm; have f5_ := f3_.symm; clear f1_ f2_ f3_; subst f4_; subst f5_))
                   refine hK.out _ _ ⟨bcu BK1000 0, bcu BK1000 1⟩ (fun hHeld => ?_)
                   clear hK K
                   refine no_ 35 ?_
                   refine pu_ 3 36 (bl 13 1007) HT_ ?_
                   exact norm_ (by first | (simp only [putAll, Act.put, ls, lz, ln]; done) | (simp only [putAll, Act.put, ls, lz, ln]; rfl)) (hJ2_7_8_9 (.slice Ao28 y1005.length co28, v1012, v1015, gb1017) _ ⟨hHeld, (uR (Kd.R_mono HO1007.out (fun _ hk => ⟨hk.1.2, hk.2⟩))), (uR (Kd.R_mono HO1013.out (fun _ hk => ⟨hk.2, hk.1⟩))), (uR (Kd.R_mono HO1016.out (fun _ hk => ⟨hk.2, hk.1⟩))), (uB BK1000.out), (uB BK1001.out), (uB BK1017.out), GW1017.out, GE1017.out, NB1000_1017.out, NB1017_1000.out, NB1001_1017.out, NB1017_1001.out, (uH HB.out)⟩)
                  ·skip
                   refine Kd.R_lit_step (Kd.int .i64) _ 2 ?hg (N := 37) ?hd (xs := ([1] : List Int)) (inner := [.int .i64 1]) (ok := fun _ => True) (okp := fun _ => True) ?hr ?hp (fun _ hk => hk) trivial (Below.refl _ _) (Nat.le_refl _) (by simp) ?_; (case hd => rfl); (case hg => rfl); (case hr => first | (go_simp; done) | (go_simp; rfl)); (case hp => exact (Reps.one (show Kd.M (Kd.int .i64) _ _ _ 1 [.int .i64 1] from rfl) (Reps.none _ _)))
                   intro v1009 w26 ho27 hb hg_ hnew_
                   clear hg_ hnew_
                   (first | rw [← Ny1008.out] at ho27 | (simp only [Int.reduceToNat] at ho27; rw [← Ny1008.out] at ho27))
                   have HO1010 := zA (Kd.R_lower (Kd.R_new' (Kd.R_new' ho27 (Kd.R_lt (uR HO1013.out))) (Kd.R_lt (uR HO1016.out))) (below_size (uH HB.out)))
                   replace HO1013 := zA (Kd.R_elder' (uR HO1013.out) (Kd.R_base ho27) hb)
                   replace HO1016 := zA (Kd.R_elder' (uR HO1016.out) (Kd.R_base ho27) hb)
                   replace BK1000 := xB BK1000 hb
                   replace BK1001 := xB BK1001 hb
                   replace BK1017 := xB BK1017 hb
                   replace HB := xH HB hb
                   clear hb ho27
                   refine hK.out _ _ ⟨bcu BK1000 0, bcu BK1000 1⟩ (fun hHeld => ?_)
                   clear hK K
                   refine no_ 37 ?_
                   exact norm_ (by first | (simp only [putAll, Act.put, ls, lz, ln]; done) | (simp only [putAll, Act.put, ls, lz, ln]; rfl)) (hJ4_7_8_9 (v1009, v1012, v1015, gb1017) _ ⟨hHeld, (uR (Kd.R_mono HO1010.out (fun _ hk => ⟨hk.1.2, hk.2⟩))), (uR (Kd.R_mono HO1013.out (fun _ hk => ⟨hk.2, hk.1⟩))), (uR (Kd.R_mono HO1016.out (fun _ hk => ⟨hk.2, hk.1⟩))), (uB BK1000.out), (uB BK1001.out), (uB BK1017.out), GW1017.out, GE1017.out, NB1000_1017.out, NB1017_1000.out, NB1001_1017.out, NB1017_1001.out, (uH HB.out)⟩)
                ·skip
                 rintro ⟨v1009, v1012, gb1017⟩ w25 ⟨hS_, h0_, h1_, h2_, h3_, h4_, h5_, h6_, h7_, h8_, h9_, h10_, h11_⟩
                 have n0_ : Aside0 (Kd.R (Kd.int .i64) 2 w25 w.heap.size (fun k_ => some k_ ≠ (v1012 : Value).ownBlock) v1009 y1008) := ⟨h0_⟩
                 have n1_ : Aside0 (Kd.R (Kd.int .i64) 2 w25 w.heap.size (fun k_ => some k_ ≠ (v1009 : Value).ownBlock) v1012 y1011) := ⟨h1_⟩
                 have n2_ : Aside0 (w25.heap[gb1000]? = some (.cells #[.int .i64 a0_0, .slice A0_1 l0_1.length c0_1] 31 (0, 0))) := ⟨h2_⟩
                 have n3_ : Aside0 (w25.heap[gb1001]? = some (.cells #[.int .i64 0, .slice none 0 0] 31 (0, 0))) := ⟨h3_⟩
                 have n4_ : Aside0 (w25.heap[gb1017]? = some (.cells #[.int .i64 0, .slice none 0 0] 31 (0, 0))) := ⟨h4_⟩
                 have n5_ : Aside0 (w.heap.size ≤ gb1017) := ⟨h5_⟩
                 have n6_ : Aside0 (w.heap.size ≤ gb1017) := ⟨h6_⟩
                 have n7_ : Aside0 (gb1000 ≠ gb1017) := ⟨h7_⟩
                 have n8_ : Aside0 (gb1017 ≠ gb1000) := ⟨h8_⟩
                 have n9_ : Aside0 (gb1001 ≠ gb1017) := ⟨h9_⟩
                 have n10_ : Aside0 (gb1017 ≠ gb1001) := ⟨h10_⟩
                 have n11_ : Aside0 (Below w.heap.size w w25) := ⟨h11_⟩
                 clear BK1000 BK1001 HB
                 clear h0_ h1_ h2_ h3_ h4_ h5_ h6_ h7_ h8_ h9_ h10_ h11_
                 have HO1010 := n0_
                 have HO1013 := n1_
                 have BK1000 := n2_
                 have BK1001 := n3_
                 have BK1017 := n4_
                 have GW1017 := n5_
                 have GE1017 := n6_
                 have := geI GE1017
                 have NB1000_1017 := n7_
                 have NB1017_1000 := n8_
                 have NB1001_1017 := n9_
                 have NB1017_1001 := n10_
                 have HB := n11_
                 clear n0_ n1_ n2_ n3_ n4_ n5_ n6_ n7_ n8_ n9_ n10_ n11_
                 have hHeld : w25.cell? ⟨gb1000, 0, none⟩ = some (.int .i64 a0_0) ∧ w25.cell? ⟨gb1000, 1, none⟩ = some (.slice A0_1 l0_1.length c0_1) := hS_
                 refine norm_ (a' := ?_) ?_ ?_
                 rotate_left
                 ·simp only [putAll, Act.put, ls, lz, ln]
                  rfl
                 refine two_ (i := 2) (j := 8) (Ni := some 35) (Nj := some 41) (bl 13 759) (bl 13 1011) rfl rfl rfl rfl (two_of HT_.out (by kernel_rfl)) (by decide) (by decide) (fun K hK => ?_) (fun K hK => ?_)
                 ·skip
                  refine Kd.R_lit_step (Kd.int .i64) _ 2 ?hg (N := 35) ?hd (xs := ([] : List Int)) (inner := []) (ok := fun _ => True) (okp := fun _ => True) ?hr ?hp (fun _ hk => hk) trivial (Below.refl _ _) (Nat.le_refl _) (by simp) ?_; (case hd => rfl); (case hg => rfl); (case hr => first | (go_simp; done) | (go_simp; rfl)); (case hp => exact (Reps.none _ _))
                  intro v1006 w26 ho27 hb hg_ hnew_
                  clear hg_ hnew_
                  (first | rw [← Ny1005.out] at ho27 | (simp only [Int.reduceToNat] at ho27; rw [← Ny1005.out] at ho27))
                  have HO1007 := zA (Kd.R_lower (Kd.R_new' (Kd.R_new' ho27 (Kd.R_lt (uR HO1010.out))) (Kd.R_lt (uR HO1013.out))) (below_size (uH HB.out)))
                  replace HO1010 := zA (Kd.R_elder' (uR HO1010.out) (Kd.R_base ho27) hb)
                  replace HO1013 := zA (Kd.R_elder' (uR HO1013.out) (Kd.R_base ho27) hb)
                  replace BK1000 := xB BK1000 hb
                  replace BK1001 := xB BK1001 hb
                  replace BK1017 := xB BK1017 hb
                  replace HB := xH HB hb
                  clear hb ho27
                  obtain ⟨Ao28, co28, eo28⟩ := Kd.R_slice HO1007.out
                  (first | subst eo28 | (injection eo28 with f1_ f2_ f3_; have f4_ := f1_.symm; have f5_ := f3_.symm; clear f1_ f2_ f3_; subst f4_; subst f5_))
                  refine hK.out _ _ ⟨bcu BK1000 0, bcu BK1000 1⟩ (fun hHeld => ?_)
                  clear hK K
                  refine no_ 35 ?_
                  refine pu_ 3 36 (bl 13 767) HT_ ?_
                  exact norm_ (by first | (simp only [putAll, Act.put, ls, lz, ln]; done) | (simp only [putAll, Act.put, ls, lz, ln]; rfl)) (hJ2_4_7_9 (.slice Ao28 y1005.length co28, v1009, v1012, gb1017) _ ⟨hHeld, (uR (Kd.R_mono HO1007.out (fun _ hk => ⟨hk.1.2, hk.2⟩))), (uR (Kd.R_mono HO1010.out (fun _ hk => ⟨hk.2, hk.1⟩))), (uR (Kd.R_mono HO1013.out (fun _ hk => ⟨hk.2, hk.1⟩))), (uB BK1000.out), (uB BK1001.out), (uB BK1017.out), GW1017.out, GE1017.out, NB1000_1017.out, NB1017_1000.out, NB1001_1017.out, NB1017_1001.out, (uH HB.out)⟩)
                 ·skip
                  obtain ⟨Ao26, co26, eo26⟩ := Kd.R_slice HO1013.out
                  (first | subst eo26 | (injection eo26 with f1_ f2_ f3_; have f4_ := f1_.symm; have f5_ := f3_.symm; clear f1_ f2_ f3_; subst f4_; subst f5_))
                  refine gS Try.func96 #[.slice Ao26 y1011.length co26] ?_
                  with_reducible refine (spec_l01Trim.calls k _ _ y1011 t1014 _ ?side1 ?side2 A10.out).mono ?_
                  (case side1 => exact uC ((Kd.R_reads' HO1013.out).2.2))
                  (case side2 => exact (Kd.R_reads' HO1013.out).2.1)
                  rintro e w27 ⟨v1015, rfl, ho0, hb⟩
                  refine ⟨_, rfl, ?_⟩
                  have HO1016 := zA (Kd.R_lower (Kd.R_new' (Kd.R_new' ho0 (Kd.R_lt (uR HO1010.out))) (Kd.R_lt (uR HO1013.out))) (below_size (uH HB.out)))
                  replace HO1010 := zA (Kd.R_elder' (uR HO1010.out) (Kd.R_base ho0) hb)
                  replace HO1013 := zA (Kd.R_elder' (uR HO1013.out) (Kd.R_base ho0) hb)
                  replace BK1000 := xB BK1000 hb
                  replace BK1001 := xB BK1001 hb
                  replace BK1017 := xB BK1017 hb
                  replace HB := xH HB hb
                  (try clear hb); (try clear hb2); (try clear hk); (try clear hi); (try clear ho0)
                  refine hK.out _ _ ⟨bcu BK1000 0, bcu BK1000 1⟩ (fun hHeld => ?_)
                  clear hK K
                  refine no_ 41 ?_
                  exact norm_ (by first | (simp only [putAll, Act.put, ls, lz, ln]; done) | (simp only [putAll, Act.put, ls, lz, ln]; rfl)) (hJ4_7_8_9 (v1009, .slice Ao26 y1011.length co26, v1015, gb1017) _ ⟨hHeld, (uR HO1010.out), (uR HO1013.out), (uR (Kd.R_mono HO1016.out (fun _ hk => ⟨hk.1.2, hk.2⟩))), (uB BK1000.out), (uB BK1001.out), (uB BK1017.out), GW1017.out, GE1017.out, NB1000_1017.out, NB1017_1000.out, NB1001_1017.out, NB1017_1001.out, (uH HB.out)⟩)
               ·skip
                rintro ⟨v1009, v1012, v1015⟩ w26 ⟨hS_, h0_, h1_, h2_, h3_, h4_, h5_⟩
                have n0_ : Aside0 (Kd.R (Kd.int .i64) 2 w26 w.heap.size (fun k_ => some k_ ≠ (v1012 : Value).ownBlock ∧ some k_ ≠ (v1015 : Value).ownBlock) v1009 y1008) := ⟨h0_⟩
                have n1_ : Aside0 (Kd.R (Kd.int .i64) 2 w26 w.heap.size (fun k_ => some k_ ≠ (v1009 : Value).ownBlock ∧ some k_ ≠ (v1015 : Value).ownBlock) v1012 y1011) := ⟨h1_⟩
                have n2_ : Aside0 (Kd.R (Kd.int .i64) 2 w26 w.heap.size (fun k_ => some k_ ≠ (v1009 : Value).ownBlock ∧ some k_ ≠ (v1012 : Value).ownBlock) v1015 t1014) := ⟨h2_⟩
                have n3_ : Aside0 (w26.heap[gb1000]? = some (.cells #[.int .i64 a0_0, .slice A0_1 l0_1.length c0_1] 31 (0, 0))) := ⟨h3_⟩
                have n4_ : Aside0 (w26.heap[gb1001]? = some (.cells #[.int .i64 0, .slice none 0 0] 31 (0, 0))) := ⟨h4_⟩
                have n5_ : Aside0 (Below w.heap.size w w26) := ⟨h5_⟩
                clear BK1000 BK1001 HB
                clear h0_ h1_ h2_ h3_ h4_ h5_
                have HO1010 := n0_
                have HO1013 := n1_
                have HO1016 := n2_
                have BK1000 := n3_
                have BK1001 := n4_
                have HB := n5_
                clear n0_ n1_ n2_ n3_ n4_ n5_
                have hHeld : w26.cell? ⟨gb1000, 0, none⟩ = some (.int .i64 a0_0) ∧ w26.cell? ⟨gb1000, 1, none⟩ = some (.slice A0_1 l0_1.length c0_1) := hS_
                refine norm_ (a' := ?_) ?_ ?_
                rotate_left
                ·simp only [putAll, Act.put, ls, lz, ln]
                 rfl
                refine two_ (i := 2) (j := 9) (Ni := some 35) (Nj := some 8) (bl 13 503) (bl 13 1011) rfl rfl rfl rfl (two_of HT_.out (by kernel_rfl)) (by decide) (by decide) (fun K hK => ?_) (fun K hK => ?_)
                ·skip
                 refine Kd.R_lit_step (Kd.int .i64) _ 2 ?hg (N := 35) ?hd (xs := ([] : List Int)) (inner := []) (ok := fun _ => True) (okp := fun _ => True) ?hr ?hp (fun _ hk => hk) trivial (Below.refl _ _) (Nat.le_refl _) (by simp) ?_; (case hd => rfl); (case hg => rfl); (case hr => first | (go_simp; done) | (go_simp; rfl)); (case hp => exact (Reps.none _ _))
                 intro v1006 w27 ho28 hb hg_ hnew_
                 clear hg_ hnew_
                 (first | rw [← Ny1005.out] at ho28 | (simp only [Int.reduceToNat] at ho28; rw [← Ny1005.out] at ho28))
                 have HO1007 := zA (Kd.R_lower (Kd.R_new' (Kd.R_new' (Kd.R_new' ho28 (Kd.R_lt (uR HO1010.out))) (Kd.R_lt (uR HO1013.out))) (Kd.R_lt (uR HO1016.out))) (below_size (uH HB.out)))
                 replace HO1010 := zA (Kd.R_elder' (uR HO1010.out) (Kd.R_base ho28) hb)
                 replace HO1013 := zA (Kd.R_elder' (uR HO1013.out) (Kd.R_base ho28) hb)
                 replace HO1016 := zA (Kd.R_elder' (uR HO1016.out) (Kd.R_base ho28) hb)
                 replace BK1000 := xB BK1000 hb
                 replace BK1001 := xB BK1001 hb
                 replace HB := xH HB hb
                 clear hb ho28
                 obtain ⟨Ao29, co29, eo29⟩ := Kd.R_slice HO1007.out
                 (first | subst eo29 | (injection eo29 with f1_ f2_ f3_; have f4_ := f1_.symm; have f5_ := f3_.symm; clear f1_ f2_ f3_; subst f4_; subst f5_))
                 refine hK.out _ _ ⟨bcu BK1000 0, bcu BK1000 1⟩ (fun hHeld => ?_)
                 clear hK K
                 refine no_ 35 ?_
                 refine pu_ 3 36 (bl 13 511) HT_ ?_
                 exact norm_ (by first | (simp only [putAll, Act.put, ls, lz, ln]; done) | (simp only [putAll, Act.put, ls, lz, ln]; rfl)) (hJ2_4_7_8 (.slice Ao29 y1005.length co29, v1009, v1012, v1015) _ ⟨hHeld, (uR (Kd.R_mono HO1007.out (fun _ hk => ⟨hk.1.1.2, ⟨hk.1.2, hk.2⟩⟩))), (uR (Kd.R_mono HO1010.out (fun _ hk => ⟨hk.2, ⟨hk.1.1, hk.1.2⟩⟩))), (uR (Kd.R_mono HO1013.out (fun _ hk => ⟨hk.2, ⟨hk.1.1, hk.1.2⟩⟩))), (uR (Kd.R_mono HO1016.out (fun _ hk => ⟨hk.2, ⟨hk.1.1, hk.1.2⟩⟩))), (uB BK1000.out), (uB BK1001.out), (uH HB.out)⟩)
                ·skip
                 refine box_step ?hg (N := 8) ?hd (cs := #[.int .i64 0, .slice none 0 0]) (t := 31) ?hr ?_; (case hd => rfl); (case hg => rfl); (case hr => first | (go_simp; done) | (go_simp; rfl))
                 intro gb1017 hg w27 hbox hb
                 replace HO1010 := xR HO1010 hb
                 replace HO1013 := xR HO1013 hb
                 replace HO1016 := xR HO1016 hb
                 have BK1017 := zA (hbox)
                 have GW1017 := gq HB hg
                 have GE1017 := gq HB hg
                 replace HB := xH HB hb
                 have NB1000_1017 := zA ((by rw [hg]; exact neL BK1000 : gb1000 ≠ gb1017))
                 have NB1017_1000 := zA ((by rw [hg]; exact neG BK1000 : gb1017 ≠ gb1000))
                 replace BK1000 := xB BK1000 hb
                 have NB1001_1017 := zA ((by rw [hg]; exact neL BK1001 : gb1001 ≠ gb1017))
                 have NB1017_1001 := zA ((by rw [hg]; exact neG BK1001 : gb1017 ≠ gb1001))
                 replace BK1001 := xB BK1001 hb
                 have := geI GE1017
                 clear hb hbox hg
                 refine hK.out _ _ ⟨bcu BK1000 0, bcu BK1000 1⟩ (fun hHeld => ?_)
                 clear hK K
                 refine no_ 8 ?_
                 exact norm_ (by first | (simp only [putAll, Act.put, ls, lz, ln]; done) | (simp only [putAll, Act.put, ls, lz, ln]; rfl)) (hJ4_7_8_9 (v1009, v1012, v1015, gb1017) _ ⟨hHeld, (uR HO1010.out), (uR HO1013.out), (uR HO1016.out), (uB BK1000.out), (uB BK1001.out), (uB BK1017.out), GW1017.out, GE1017.out, NB1000_1017.out, NB1017_1000.out, NB1001_1017.out, NB1017_1001.out, (uH HB.out)⟩)
              ·skip
               rintro ⟨v1006, v1012, gb1017⟩ w26 ⟨hS_, h0_, h1_, h2_, h3_, h4_, h5_, h6_, h7_, h8_, h9_, h10_, h11_⟩
               have n0_ : Aside0 (Kd.R (Kd.int .i64) 2 w26 w.heap.size (fun k_ => some k_ ≠ (v1012 : Value).ownBlock) v1006 y1005) := ⟨h0_⟩
               have n1_ : Aside0 (Kd.R (Kd.int .i64) 2 w26 w.heap.size (fun k_ => some k_ ≠ (v1006 : Value).ownBlock) v1012 y1011) := ⟨h1_⟩
               have n2_ : Aside0 (w26.heap[gb1000]? = some (.cells #[.int .i64 a0_0, .slice A0_1 l0_1.length c0_1] 31 (0, 0))) := ⟨h2_⟩
               have n3_ : Aside0 (w26.heap[gb1001]? = some (.cells #[.int .i64 0, .slice none 0 0] 31 (0, 0))) := ⟨h3_⟩
               have n4_ : Aside0 (w26.heap[gb1017]? = some (.cells #[.int .i64 0, .slice none 0 0] 31 (0, 0))) := ⟨h4_⟩
               have n5_ : Aside0 (w.heap.size ≤ gb1017) := ⟨h5_⟩
               have n6_ : Aside0 (w.heap.size ≤ gb1017) := ⟨h6_⟩
               have n7_ : Aside0 (gb1000 ≠ gb1017) := ⟨h7_⟩
               have n8_ : Aside0 (gb1017 ≠ gb1000) := ⟨h8_⟩
               have n9_ : Aside0 (gb1001 ≠ gb1017) := ⟨h9_⟩
               have n10_ : Aside0 (gb1017 ≠ gb1001) := ⟨h10_⟩
               have n11_ : Aside0 (Below w.heap.size w w26) := ⟨h11_⟩
               clear BK1000 BK1001 HB
               clear h0_ h1_ h2_ h3_ h4_ h5_ h6_ h7_ h8_ h9_ h10_ h11_
               have HO1007 := n0_
               have HO1013 := n1_
               have BK1000 := n2_
               have BK1001 := n3_
               have BK1017 := n4_
               have GW1017 := n5_
               have GE1017 := n6_
               have := geI GE1017
               have NB1000_1017 := n7_
               have NB1017_1000 := n8_
               have NB1001_1017 := n9_
               have NB1017_1001 := n10_
               have HB := n11_
               clear n0_ n1_ n2_ n3_ n4_ n5_ n6_ n7_ n8_ n9_ n10_ n11_
               have hHeld : w26.cell? ⟨gb1000, 0, none⟩ = some (.int .i64 a0_0) ∧ w26.cell? ⟨gb1000, 1, none⟩ = some (.slice A0_1 l0_1.length c0_1) := hS_
               obtain ⟨Ao27, co27, eo27⟩ := Kd.R_slice HO1007.out
               (first | subst eo27 | (injection eo27 with f1_ f2_ f3_; have f4_ := f1_.symm; have f5_ := f3_.symm; clear f1_ f2_ f3_; subst f4_; subst f5_))
               refine norm_ (a' := ?_) ?_ ?_
               rotate_left
               ·simp only [putAll, Act.put, ls, lz, ln]
                rfl
               refine two_ (i := 4) (j := 8) (Ni := some 37) (Nj := some 41) (bl 13 767) (bl 13 1007) rfl rfl rfl rfl (two_of HT_.out (by kernel_rfl)) (by decide) (by decide) (fun K hK => ?_) (fun K hK => ?_)
               ·skip
                refine Kd.R_lit_step (Kd.int .i64) _ 2 ?hg (N := 37) ?hd (xs := ([1] : List Int)) (inner := [.int .i64 1]) (ok := fun _ => True) (okp := fun _ => True) ?hr ?hp (fun _ hk => hk) trivial (Below.refl _ _) (Nat.le_refl _) (by simp) ?_; (case hd => rfl); (case hg => rfl); (case hr => first | (go_simp; done) | (go_simp; rfl)); (case hp => exact (Reps.one (show Kd.M (Kd.int .i64) _ _ _ 1 [.int .i64 1] from rfl) (Reps.none _ _)))
                intro v1009 w28 ho29 hb hg_ hnew_
                clear hg_ hnew_
                (first | rw [← Ny1008.out] at ho29 | (simp only [Int.reduceToNat] at ho29; rw [← Ny1008.out] at ho29))
                have HO1010 := zA (Kd.R_lower (Kd.R_new' (Kd.R_new' ho29 (Kd.R_lt (uR HO1007.out))) (Kd.R_lt (uR HO1013.out))) (below_size (uH HB.out)))
                replace HO1007 := zA (Kd.R_elder' (uR HO1007.out) (Kd.R_base ho29) hb)
                replace HO1013 := zA (Kd.R_elder' (uR HO1013.out) (Kd.R_base ho29) hb)
                replace BK1000 := xB BK1000 hb
                replace BK1001 := xB BK1001 hb
                replace BK1017 := xB BK1017 hb
                replace HB := xH HB hb
                clear hb ho29
                refine hK.out _ _ ⟨bcu BK1000 0, bcu BK1000 1⟩ (fun hHeld => ?_)
                clear hK K
                refine no_ 37 ?_
                exact norm_ (by first | (simp only [putAll, Act.put, ls, lz, ln]; done) | (simp only [putAll, Act.put, ls, lz, ln]; rfl)) (hJ2_4_7_9 (.slice Ao27 y1005.length co27, v1009, v1012, gb1017) _ ⟨hHeld, (uR (Kd.R_mono HO1007.out (fun _ hk => ⟨hk.2, hk.1⟩))), (uR (Kd.R_mono HO1010.out (fun _ hk => ⟨hk.1.2, hk.2⟩))), (uR HO1013.out), (uB BK1000.out), (uB BK1001.out), (uB BK1017.out), GW1017.out, GE1017.out, NB1000_1017.out, NB1017_1000.out, NB1001_1017.out, NB1017_1001.out, (uH HB.out)⟩)
               ·skip
                obtain ⟨Ao28, co28, eo28⟩ := Kd.R_slice HO1013.out
                (first | subst eo28 | (injection eo28 with f1_ f2_ f3_; have f4_ := f1_.symm; have f5_ := f3_.symm; clear f1_ f2_ f3_; subst f4_; subst f5_))
                refine gS Try.func96 #[.slice Ao28 y1011.length co28] ?_
                with_reducible refine (spec_l01Trim.calls k _ _ y1011 t1014 _ ?side1 ?side2 A10.out).mono ?_
                (case side1 => exact uC ((Kd.R_reads' HO1013.out).2.2))
                (case side2 => exact (Kd.R_reads' HO1013.out).2.1)
                rintro e w29 ⟨v1015, rfl, ho0, hb⟩
                refine ⟨_, rfl, ?_⟩
                have HO1016 := zA (Kd.R_lower (Kd.R_new' (Kd.R_new' ho0 (Kd.R_lt (uR HO1007.out))) (Kd.R_lt (uR HO1013.out))) (below_size (uH HB.out)))
                replace HO1007 := zA (Kd.R_elder' (uR HO1007.out) (Kd.R_base ho0) hb)
                replace HO1013 := zA (Kd.R_elder' (uR HO1013.out) (Kd.R_base ho0) hb)
                replace BK1000 := xB BK1000 hb
                replace BK1001 := xB BK1001 hb
                replace BK1017 := xB BK1017 hb
                replace HB := xH HB hb
                (try clear hb); (try clear hb2); (try clear hk); (try clear hi); (try clear ho0)
                refine hK.out _ _ ⟨bcu BK1000 0, bcu BK1000 1⟩ (fun hHeld => ?_)
                clear hK K
                refine no_ 41 ?_
                exact norm_ (by first | (simp only [putAll, Act.put, ls, lz, ln]; done) | (simp only [putAll, Act.put, ls, lz, ln]; rfl)) (hJ2_7_8_9 (.slice Ao27 y1005.length co27, .slice Ao28 y1011.length co28, v1015, gb1017) _ ⟨hHeld, (uR HO1007.out), (uR HO1013.out), (uR (Kd.R_mono HO1016.out (fun _ hk => ⟨hk.1.2, hk.2⟩))), (uB BK1000.out), (uB BK1001.out), (uB BK1017.out), GW1017.out, GE1017.out, NB1000_1017.out, NB1017_1000.out, NB1001_1017.out, NB1017_1001.out, (uH HB.out)⟩)
             ·skip
              rintro ⟨v1006, v1012, v1015⟩ w27 ⟨hS_, h0_, h1_, h2_, h3_, h4_, h5_⟩
              have n0_ : Aside0 (Kd.R (Kd.int .i64) 2 w27 w.heap.size (fun k_ => some k_ ≠ (v1012 : Value).ownBlock ∧ some k_ ≠ (v1015 : Value).ownBlock) v1006 y1005) := ⟨h0_⟩
              have n1_ : Aside0 (Kd.R (Kd.int .i64) 2 w27 w.heap.size (fun k_ => some k_ ≠ (v1006 : Value).ownBlock ∧ some k_ ≠ (v1015 : Value).ownBlock) v1012 y1011) := ⟨h1_⟩
              have n2_ : Aside0 (Kd.R (Kd.int .i64) 2 w27 w.heap.size (fun k_ => some k_ ≠ (v1006 : Value).ownBlock ∧ some k_ ≠ (v1012 : Value).ownBlock) v1015 t1014) := ⟨h2_⟩
              have n3_ : Aside0 (w27.heap[gb1000]? = some (.cells #[.int .i64 a0_0, .slice A0_1 l0_1.length c0_1] 31 (0, 0))) := ⟨h3_⟩
              have n4_ : Aside0 (w27.heap[gb1001]? = some (.cells #[.int .i64 0, .slice none 0 0] 31 (0, 0))) := ⟨h4_⟩
              have n5_ : Aside0 (Below w.heap.size w w27) := ⟨h5_⟩
              clear BK1000 BK1001 HB
              clear h0_ h1_ h2_ h3_ h4_ h5_
              have HO1007 := n0_
              have HO1013 := n1_
              have HO1016 := n2_
              have BK1000 := n3_
              have BK1001 := n4_
              have HB := n5_
              clear n0_ n1_ n2_ n3_ n4_ n5_
              have hHeld : w27.cell? ⟨gb1000, 0, none⟩ = some (.int .i64 a0_0) ∧ w27.cell? ⟨gb1000, 1, none⟩ = some (.slice A0_1 l0_1.length c0_1) := hS_
              obtain ⟨Ao28, co28, eo28⟩ := Kd.R_slice HO1007.out
              (first | subst eo28 | (injection eo28 with f1_ f2_ f3_; have f4_ := f1_.symm; have f5_ := f3_.symm; clear f1_ f2_ f3_; subst f4_; subst f5_))
              refine norm_ (a' := ?_) ?_ ?_
              rotate_left
              ·simp only [putAll, Act.put, ls, lz, ln]
               rfl
              refine two_ (i := 4) (j := 9) (Ni := some 37) (Nj := some 8) (bl 13 511) (bl 13 1007) rfl rfl rfl rfl (two_of HT_.out (by kernel_rfl)) (by decide) (by decide) (fun K hK => ?_) (fun K hK => ?_)
              ·skip
               refine Kd.R_lit_step (Kd.int .i64) _ 2 ?hg (N := 37) ?hd (xs := ([1] : List Int)) (inner := [.int .i64 1]) (ok := fun _ => True) (okp := fun _ => True) ?hr ?hp (fun _ hk => hk) trivial (Below.refl _ _) (Nat.le_refl _) (by simp) ?_; (case hd => rfl); (case hg => rfl); (case hr => first | (go_simp; done) | (go_simp; rfl)); (case hp => exact (Reps.one (show Kd.M (Kd.int .i64) _ _ _ 1 [.int .i64 1] from rfl) (Reps.none _ _)))
               intro v1009 w29 ho30 hb hg_ hnew_
               clear hg_ hnew_
               (first | rw [← Ny1008.out] at ho30 | (simp only [Int.reduceToNat] at ho30; rw [← Ny1008.out] at ho30))
               have HO1010 := zA (Kd.R_lower (Kd.R_new' (Kd.R_new' (Kd.R_new' ho30 (Kd.R_lt (uR HO1007.out))) (Kd.R_lt (uR HO1013.out))) (Kd.R_lt (uR HO1016.out))) (below_size (uH HB.out)))
               replace HO1007 := zA (Kd.R_elder' (uR HO1007.out) (Kd.R_base ho30) hb)
               replace HO1013 := zA (Kd.R_elder' (uR HO1013.out) (Kd.R_base ho30) hb)
               replace HO1016 := zA (Kd.R_elder' (uR HO1016.out) (Kd.R_base ho30) hb)
               replace BK1000 := xB BK1000 hb
               replace BK1001 := xB BK1001 hb
               replace HB := xH HB hb
               clear hb ho30
               refine hK.out _ _ ⟨bcu BK1000 0, bcu BK1000 1⟩ (fun hHeld => ?_)
               clear hK K
               refine no_ 37 ?_
               exact norm_ (by first | (simp only [putAll, Act.put, ls, lz, ln]; done) | (simp only [putAll, Act.put, ls, lz, ln]; rfl)) (hJ2_4_7_8 (.slice Ao28 y1005.length co28, v1009, v1012, v1015) _ ⟨hHeld, (uR (Kd.R_mono HO1007.out (fun _ hk => ⟨hk.2, ⟨hk.1.1, hk.1.2⟩⟩))), (uR (Kd.R_mono HO1010.out (fun _ hk => ⟨hk.1.1.2, ⟨hk.1.2, hk.2⟩⟩))), (uR (Kd.R_mono HO1013.out (fun _ hk => ⟨hk.1.1, ⟨hk.2, hk.1.2⟩⟩))), (uR (Kd.R_mono HO1016.out (fun _ hk => ⟨hk.1.1, ⟨hk.2, hk.1.2⟩⟩))), (uB BK1000.out), (uB BK1001.out), (uH HB.out)⟩)
              ·skip
               refine box_step ?hg (N := 8) ?hd (cs := #[.int .i64 0, .slice none 0 0]) (t := 31) ?hr ?_; (case hd => rfl); (case hg => rfl); (case hr => first | (go_simp; done) | (go_simp; rfl))
               intro gb1017 hg w29 hbox hb
               replace HO1007 := xR HO1007 hb
               replace HO1013 := xR HO1013 hb
               replace HO1016 := xR HO1016 hb
               have BK1017 := zA (hbox)
               have GW1017 := gq HB hg
               have GE1017 := gq HB hg
               replace HB := xH HB hb
               have NB1000_1017 := zA ((by rw [hg]; exact neL BK1000 : gb1000 ≠ gb1017))
               have NB1017_1000 := zA ((by rw [hg]; exact neG BK1000 : gb1017 ≠ gb1000))
               replace BK1000 := xB BK1000 hb
               have NB1001_1017 := zA ((by rw [hg]; exact neL BK1001 : gb1001 ≠ gb1017))
               have NB1017_1001 := zA ((by rw [hg]; exact neG BK1001 : gb1017 ≠ gb1001))
               replace BK1001 := xB BK1001 hb
               have := geI GE1017
               clear hb hbox hg
               refine hK.out _ _ ⟨bcu BK1000 0, bcu BK1000 1⟩ (fun hHeld => ?_)
               clear hK K
               refine no_ 8 ?_
               exact norm_ (by first | (simp only [putAll, Act.put, ls, lz, ln]; done) | (simp only [putAll, Act.put, ls, lz, ln]; rfl)) (hJ2_7_8_9 (.slice Ao28 y1005.length co28, v1012, v1015, gb1017) _ ⟨hHeld, (uR HO1007.out), (uR HO1013.out), (uR HO1016.out), (uB BK1000.out), (uB BK1001.out), (uB BK1017.out), GW1017.out, GE1017.out, NB1000_1017.out, NB1017_1000.out, NB1001_1017.out, NB1017_1001.out, (uH HB.out)⟩)
            ·skip
             rintro ⟨v1006, v1009, gb1017⟩ w26 ⟨hS_, h0_, h1_, h2_, h3_, h4_, h5_, h6_, h7_, h8_, h9_, h10_, h11_⟩
             have n0_ : Aside0 (Kd.R (Kd.int .i64) 2 w26 w.heap.size (fun k_ => some k_ ≠ (v1009 : Value).ownBlock) v1006 y1005) := ⟨h0_⟩
             have n1_ : Aside0 (Kd.R (Kd.int .i64) 2 w26 w.heap.size (fun k_ => some k_ ≠ (v1006 : Value).ownBlock) v1009 y1008) := ⟨h1_⟩
             have n2_ : Aside0 (w26.heap[gb1000]? = some (.cells #[.int .i64 a0_0, .slice A0_1 l0_1.length c0_1] 31 (0, 0))) := ⟨h2_⟩
             have n3_ : Aside0 (w26.heap[gb1001]? = some (.cells #[.int .i64 0, .slice none 0 0] 31 (0, 0))) := ⟨h3_⟩
             have n4_ : Aside0 (w26.heap[gb1017]? = some (.cells #[.int .i64 0, .slice none 0 0] 31 (0, 0))) := ⟨h4_⟩
             have n5_ : Aside0 (w.heap.size ≤ gb1017) := ⟨h5_⟩
             have n6_ : Aside0 (w.heap.size ≤ gb1017) := ⟨h6_⟩
             have n7_ : Aside0 (gb1000 ≠ gb1017) := ⟨h7_⟩
             have n8_ : Aside0 (gb1017 ≠ gb1000) := ⟨h8_⟩
             have n9_ : Aside0 (gb1001 ≠ gb1017) := ⟨h9_⟩
             have n10_ : Aside0 (gb1017 ≠ gb1001) := ⟨h10_⟩
             have n11_ : Aside0 (Below w.heap.size w w26) := ⟨h11_⟩
             clear BK1000 BK1001 HB
             clear h0_ h1_ h2_ h3_ h4_ h5_ h6_ h7_ h8_ h9_ h10_ h11_
             have HO1007 := n0_
             have HO1010 := n1_
             have BK1000 := n2_
             have BK1001 := n3_
             have BK1017 := n4_
             have GW1017 := n5_
             have GE1017 := n6_
             have := geI GE1017
             have NB1000_1017 := n7_
             have NB1017_1000 := n8_
             have NB1001_1017 := n9_
             have NB1017_1001 := n10_
             have HB := n11_
             clear n0_ n1_ n2_ n3_ n4_ n5_ n6_ n7_ n8_ n9_ n10_ n11_
             have hHeld : w26.cell? ⟨gb1000, 0, none⟩ = some (.int .i64 a0_0) ∧ w26.cell? ⟨gb1000, 1, none⟩ = some (.slice A0_1 l0_1.length c0_1) := hS_
             obtain ⟨Ao27, co27, eo27⟩ := Kd.R_slice HO1007.out
             (first | subst eo27 | (injection eo27 with f1_ f2_ f3_; have f4_ := f1_.symm; have f5_ := f3_.symm; clear f1_ f2_ f3_; subst f4_; subst f5_))
             refine norm_ (a' := ?_) ?_ ?_
             rotate_left
             ·simp only [putAll, Act.put, ls, lz, ln]
              rfl
             refine on_ 7 (some 40) (bl 13 767) HT_ (fun K hK => ?_)
             refine Kd.R_lit_step (Kd.int .i64) _ 2 ?hg (N := 40) ?hd (xs := ([a2, a1] : List Int)) (inner := [.int .i64 a2, .int .i64 a1]) (ok := fun _ => True) (okp := fun _ => True) ?hr ?hp (fun _ hk => hk) trivial (Below.refl _ _) (Nat.le_refl _) (by simp) ?_; (case hd => rfl); (case hg => rfl); (case hr => first | (go_simp; done) | (go_simp; rfl)); (case hp => exact (Reps.one (show Kd.M (Kd.int .i64) _ _ _ a2 [.int .i64 a2] from rfl) (Reps.one (show Kd.M (Kd.int .i64) _ _ _ a1 [.int .i64 a1] from rfl) (Reps.none _ _))))
             intro v1012 w28 ho29 hb hg_ hnew_
             clear hg_ hnew_
             (first | rw [← Ny1011.out] at ho29 | (simp only [Int.reduceToNat] at ho29; rw [← Ny1011.out] at ho29))
             have HO1013 := zA (Kd.R_lower (Kd.R_new' (Kd.R_new' ho29 (Kd.R_lt (uR HO1007.out))) (Kd.R_lt (uR HO1010.out))) (below_size (uH HB.out)))
             replace HO1007 := zA (Kd.R_elder' (uR HO1007.out) (Kd.R_base ho29) hb)
             replace HO1010 := zA (Kd.R_elder' (uR HO1010.out) (Kd.R_base ho29) hb)
             replace BK1000 := xB BK1000 hb
             replace BK1001 := xB BK1001 hb
             replace BK1017 := xB BK1017 hb
             replace HB := xH HB hb
             clear hb ho29
             refine hK.out _ _ ⟨bcu BK1000 0, bcu BK1000 1⟩ (fun hHeld => ?_)
             clear hK K
             refine no_ 40 ?_
             exact norm_ (by first | (simp only [putAll, Act.put, ls, lz, ln]; done) | (simp only [putAll, Act.put, ls, lz, ln]; rfl)) (hJ2_4_7_9 (.slice Ao27 y1005.length co27, v1009, v1012, gb1017) _ ⟨hHeld, (uR HO1007.out), (uR HO1010.out), (uR (Kd.R_mono HO1013.out (fun _ hk => ⟨hk.1.2, hk.2⟩))), (uB BK1000.out), (uB BK1001.out), (uB BK1017.out), GW1017.out, GE1017.out, NB1000_1017.out, NB1017_1000.out, NB1001_1017.out, NB1017_1001.out, (uH HB.out)⟩)
           ·skip
            rintro ⟨v1006, v1009, v1012⟩ w27 ⟨hS_, h0_, h1_, h2_, h3_, h4_, h5_⟩
            have n0_ : Aside0 (Kd.R (Kd.int .i64) 2 w27 w.heap.size (fun k_ => some k_ ≠ (v1009 : Value).ownBlock ∧ some k_ ≠ (v1012 : Value).ownBlock) v1006 y1005) := ⟨h0_⟩
            have n1_ : Aside0 (Kd.R (Kd.int .i64) 2 w27 w.heap.size (fun k_ => some k_ ≠ (v1006 : Value).ownBlock ∧ some k_ ≠ (v1012 : Value).ownBlock) v1009 y1008) := ⟨h1_⟩
            have n2_ : Aside0 (Kd.R (Kd.int .i64) 2 w27 w.heap.size (fun k_ => some k_ ≠ (v1006 : Value).ownBlock ∧ some k_ ≠ (v1009 : Value).ownBlock) v1012 y1011) := ⟨h2_⟩
            have n3_ : Aside0 (w27.heap[gb1000]? = some (.cells #[.int .i64 a0_0, .slice A0_1 l0_1.length c0_1] 31 (0, 0))) := ⟨h3_⟩
            have n4_ : Aside0 (w27.heap[gb1001]? = some (.cells #[.int .i64 0, .slice none 0 0] 31 (0, 0))) := ⟨h4_⟩
            have n5_ : Aside0 (Below w.heap.size w w27) := ⟨h5_⟩
            clear BK1000 BK1001 HB
            clear h0_ h1_ h2_ h3_ h4_ h5_
            have HO1007 := n0_
            have HO1010 := n1_
            have HO1013 := n2_
            have BK1000 := n3_
            have BK1001 := n4_
            have HB := n5_
            clear n0_ n1_ n2_ n3_ n4_ n5_
            have hHeld : w27.cell? ⟨gb1000, 0, none⟩ = some (.int .i64 a0_0) ∧ w27.cell? ⟨gb1000, 1, none⟩ = some (.slice A0_1 l0_1.length c0_1) := hS_
            obtain ⟨Ao28, co28, eo28⟩ := Kd.R_slice HO1007.out
            (first | subst eo28 | (injection eo28 with f1_ f2_ f3_; have f4_ := f1_.symm; have f5_ := f3_.symm; clear f1_ f2_ f3_; subst f4_; subst f5_))
            obtain ⟨Ao29, co29, eo29⟩ := Kd.R_slice HO1013.out
            (first | subst eo29 | (injection eo29 with f1_ f2_ f3_; have f4_ := f1_.symm; have f5_ := f3_.symm; clear f1_ f2_ f3_; subst f4_; subst f5_))
            refine norm_ (a' := ?_) ?_ ?_
            rotate_left
            ·simp only [putAll, Act.put, ls, lz, ln]
             rfl
            refine two_ (i := 8) (j := 9) (Ni := some 41) (Nj := some 8) (bl 13 511) (bl 13 767) rfl rfl rfl rfl (two_of HT_.out (by kernel_rfl)) (by decide) (by decide) (fun K hK => ?_) (fun K hK => ?_)
            ·skip
             refine gS Try.func96 #[.slice Ao29 y1011.length co29] ?_
             with_reducible refine (spec_l01Trim.calls k _ _ y1011 t1014 _ ?side1 ?side2 A10.out).mono ?_
             (case side1 => exact uC ((Kd.R_reads' HO1013.out).2.2))
             (case side2 => exact (Kd.R_reads' HO1013.out).2.1)
             rintro e w30 ⟨v1015, rfl, ho0, hb⟩
             refine ⟨_, rfl, ?_⟩
             have HO1016 := zA (Kd.R_lower (Kd.R_new' (Kd.R_new' (Kd.R_new' ho0 (Kd.R_lt (uR HO1007.out))) (Kd.R_lt (uR HO1010.out))) (Kd.R_lt (uR HO1013.out))) (below_size (uH HB.out)))
             replace HO1007 := zA (Kd.R_elder' (uR HO1007.out) (Kd.R_base ho0) hb)
             replace HO1010 := zA (Kd.R_elder' (uR HO1010.out) (Kd.R_base ho0) hb)
             replace HO1013 := zA (Kd.R_elder' (uR HO1013.out) (Kd.R_base ho0) hb)
             replace BK1000 := xB BK1000 hb
             replace BK1001 := xB BK1001 hb
             replace HB := xH HB hb
             (try clear hb); (try clear hb2); (try clear hk); (try clear hi); (try clear ho0)
             refine hK.out _ _ ⟨bcu BK1000 0, bcu BK1000 1⟩ (fun hHeld => ?_)
             clear hK K
             refine no_ 41 ?_
             exact norm_ (by first | (simp only [putAll, Act.put, ls, lz, ln]; done) | (simp only [putAll, Act.put, ls, lz, ln]; rfl)) (hJ2_4_7_8 (.slice Ao28 y1005.length co28, v1009, .slice Ao29 y1011.length co29, v1015) _ ⟨hHeld, (uR (Kd.R_mono HO1007.out (fun _ hk => ⟨hk.1.1, ⟨hk.1.2, hk.2⟩⟩))), (uR (Kd.R_mono HO1010.out (fun _ hk => ⟨hk.1.1, ⟨hk.1.2, hk.2⟩⟩))), (uR (Kd.R_mono HO1013.out (fun _ hk => ⟨hk.1.1, ⟨hk.1.2, hk.2⟩⟩))), (uR (Kd.R_mono HO1016.out (fun _ hk => ⟨hk.1.1.2, ⟨hk.1.2, hk.2⟩⟩))), (uB BK1000.out), (uB BK1001.out), (uH HB.out)⟩)
            ·skip
             refine box_step ?hg (N := 8) ?hd (cs := #[.int .i64 0, .slice none 0 0]) (t := 31) ?hr ?_; (case hd => rfl); (case hg => rfl); (case hr => first | (go_simp; done) | (go_simp; rfl))
             intro gb1017 hg w29 hbox hb
             replace HO1007 := xR HO1007 hb
             replace HO1010 := xR HO1010 hb
             replace HO1013 := xR HO1013 hb
             have BK1017 := zA (hbox)
             have GW1017 := gq HB hg
             have GE1017 := gq HB hg
             replace HB := xH HB hb
             have NB1000_1017 := zA ((by rw [hg]; exact neL BK1000 : gb1000 ≠ gb1017))
             have NB1017_1000 := zA ((by rw [hg]; exact neG BK1000 : gb1017 ≠ gb1000))
             replace BK1000 := xB BK1000 hb
             have NB1001_1017 := zA ((by rw [hg]; exact neL BK1001 : gb1001 ≠ gb1017))
             have NB1017_1001 := zA ((by rw [hg]; exact neG BK1001 : gb1017 ≠ gb1001))
             replace BK1001 := xB BK1001 hb
             have := geI GE1017
             clear hb hbox hg
             refine hK.out _ _ ⟨bcu BK1000 0, bcu BK1000 1⟩ (fun hHeld => ?_)
             clear hK K
             refine no_ 8 ?_
             exact norm_ (by first | (simp only [putAll, Act.put, ls, lz, ln]; done) | (simp only [putAll, Act.put, ls, lz, ln]; rfl)) (hJ2_4_7_9 (.slice Ao28 y1005.length co28, v1009, .slice Ao29 y1011.length co29, gb1017) _ ⟨hHeld, (uR HO1007.out), (uR HO1010.out), (uR HO1013.out), (uB BK1000.out), (uB BK1001.out), (uB BK1017.out), GW1017.out, GE1017.out, NB1000_1017.out, NB1017_1000.out, NB1001_1017.out, NB1017_1001.out, (uH HB.out)⟩)
          ·skip
           rintro ⟨v1009, v1012, v1015, gb1017⟩ w27 ⟨hS_, h0_, h1_, h2_, h3_, h4_, h5_, h6_, h7_, h8_, h9_, h10_, h11_, h12_⟩
           have n0_ : Aside0 (Kd.R (Kd.int .i64) 2 w27 w.heap.size (fun k_ => some k_ ≠ (v1012 : Value).ownBlock ∧ some k_ ≠ (v1015 : Value).ownBlock) v1009 y1008) := ⟨h0_⟩
           have n1_ : Aside0 (Kd.R (Kd.int .i64) 2 w27 w.heap.size (fun k_ => some k_ ≠ (v1009 : Value).ownBlock ∧ some k_ ≠ (v1015 : Value).ownBlock) v1012 y1011) := ⟨h1_⟩
           have n2_ : Aside0 (Kd.R (Kd.int .i64) 2 w27 w.heap.size (fun k_ => some k_ ≠ (v1009 : Value).ownBlock ∧ some k_ ≠ (v1012 : Value).ownBlock) v1015 t1014) := ⟨h2_⟩
           have n3_ : Aside0 (w27.heap[gb1000]? = some (.cells #[.int .i64 a0_0, .slice A0_1 l0_1.length c0_1] 31 (0, 0))) := ⟨h3_⟩
           have n4_ : Aside0 (w27.heap[gb1001]? = some (.cells #[.int .i64 0, .slice none 0 0] 31 (0, 0))) := ⟨h4_⟩
           have n5_ : Aside0 (w27.heap[gb1017]? = some (.cells #[.int .i64 0, .slice none 0 0] 31 (0, 0))) := ⟨h5_⟩
           have n6_ : Aside0 (w.heap.size ≤ gb1017) := ⟨h6_⟩
           have n7_ : Aside0 (w.heap.size ≤ gb1017) := ⟨h7_⟩
           have n8_ : Aside0 (gb1000 ≠ gb1017) := ⟨h8_⟩
           have n9_ : Aside0 (gb1017 ≠ gb1000) := ⟨h9_⟩
           have n10_ : Aside0 (gb1001 ≠ gb1017) := ⟨h10_⟩
           have n11_ : Aside0 (gb1017 ≠ gb1001) := ⟨h11_⟩
           have n12_ : Aside0 (Below w.heap.size w w27) := ⟨h12_⟩
           clear BK1000 BK1001 HB
           clear h0_ h1_ h2_ h3_ h4_ h5_ h6_ h7_ h8_ h9_ h10_ h11_ h12_
           have HO1010 := n0_
           have HO1013 := n1_
           have HO1016 := n2_
           have BK1000 := n3_
           have BK1001 := n4_
           have BK1017 := n5_
           have GW1017 := n6_
           have GE1017 := n7_
           have := geI GE1017
           have NB1000_1017 := n8_
           have NB1017_1000 := n9_
           have NB1001_1017 := n10_
           have NB1017_1001 := n11_
           have HB := n12_
           clear n0_ n1_ n2_ n3_ n4_ n5_ n6_ n7_ n8_ n9_ n10_ n11_ n12_
           have hHeld : w27.cell? ⟨gb1000, 0, none⟩ = some (.int .i64 a0_0) ∧ w27.cell? ⟨gb1000, 1, none⟩ = some (.slice A0_1 l0_1.length c0_1) := hS_
           refine norm_ (a' := ?_) ?_ ?_
           rotate_left
           ·simp only [putAll, Act.put, ls, lz, ln]
            rfl
           refine on_ 2 (some 35) (bl 13 1015) HT_ (fun K hK => ?_)
           refine Kd.R_lit_step (Kd.int .i64) _ 2 ?hg (N := 35) ?hd (xs := ([] : List Int)) (inner := []) (ok := fun _ => True) (okp := fun _ => True) ?hr ?hp (fun _ hk => hk) trivial (Below.refl _ _) (Nat.le_refl _) (by simp) ?_; (case hd => rfl); (case hg => rfl); (case hr => first | (go_simp; done) | (go_simp; rfl)); (case hp => exact (Reps.none _ _))
           intro v1006 w28 ho29 hb hg_ hnew_
           clear hg_ hnew_
           (first | rw [← Ny1005.out] at ho29 | (simp only [Int.reduceToNat] at ho29; rw [← Ny1005.out] at ho29))
           have HO1007 := zA (Kd.R_lower (Kd.R_new' (Kd.R_new' (Kd.R_new' ho29 (Kd.R_lt (uR HO1010.out))) (Kd.R_lt (uR HO1013.out))) (Kd.R_lt (uR HO1016.out))) (below_size (uH HB.out)))
           replace HO1010 := zA (Kd.R_elder' (uR HO1010.out) (Kd.R_base ho29) hb)
           replace HO1013 := zA (Kd.R_elder' (uR HO1013.out) (Kd.R_base ho29) hb)
           replace HO1016 := zA (Kd.R_elder' (uR HO1016.out) (Kd.R_base ho29) hb)
           replace BK1000 := xB BK1000 hb
           replace BK1001 := xB BK1001 hb
           replace BK1017 := xB BK1017 hb
           replace HB := xH HB hb
           clear hb ho29
           obtain ⟨Ao30, co30, eo30⟩ := Kd.R_slice HO1007.out
           (first | subst eo30 | (injection eo30 with f1_ f2_ f3_; have f4_ := f1_.symm; have f5_ := f3_.symm; clear f1_ f2_ f3_; subst f4_; subst f5_))
           refine hK.out _ _ ⟨bcu BK1000 0, bcu BK1000 1⟩ (fun hHeld => ?_)
           clear hK K
           refine no_ 35 ?_
           refine pu_ 3 36 (bl 13 1023) HT_ ?_
           exact norm_ (by first | (simp only [putAll, Act.put, ls, lz, ln]; done) | (simp only [putAll, Act.put, ls, lz, ln]; rfl)) (hJ2_4_7_8_9 (.slice Ao30 y1005.length co30, v1009, v1012, v1015, gb1017) _ ⟨hHeld, (uR (Kd.R_mono HO1007.out (fun _ hk => ⟨hk.1.1.2, ⟨hk.1.2, hk.2⟩⟩))), (uR (Kd.R_mono HO1010.out (fun _ hk => ⟨hk.2, ⟨hk.1.1, hk.1.2⟩⟩))), (uR (Kd.R_mono HO1013.out (fun _ hk => ⟨hk.2, ⟨hk.1.1, hk.1.2⟩⟩))), (uR (Kd.R_mono HO1016.out (fun _ hk => ⟨hk.2, ⟨hk.1.1, hk.1.2⟩⟩))), (uB BK1000.out), (uB BK1001.out), (uB BK1017.out), GW1017.out, GE1017.out, NB1000_1017.out, NB1017_1000.out, NB1001_1017.out, NB1017_1001.out, (uH HB.out)⟩)
         ·skip
          rintro ⟨v1006, v1012, v1015, gb1017⟩ w28 ⟨hS_, h0_, h1_, h2_, h3_, h4_, h5_, h6_, h7_, h8_, h9_, h10_, h11_, h12_⟩
          have n0_ : Aside0 (Kd.R (Kd.int .i64) 2 w28 w.heap.size (fun k_ => some k_ ≠ (v1012 : Value).ownBlock ∧ some k_ ≠ (v1015 : Value).ownBlock) v1006 y1005) := ⟨h0_⟩
          have n1_ : Aside0 (Kd.R (Kd.int .i64) 2 w28 w.heap.size (fun k_ => some k_ ≠ (v1006 : Value).ownBlock ∧ some k_ ≠ (v1015 : Value).ownBlock) v1012 y1011) := ⟨h1_⟩
          have n2_ : Aside0 (Kd.R (Kd.int .i64) 2 w28 w.heap.size (fun k_ => some k_ ≠ (v1006 : Value).ownBlock ∧ some k_ ≠ (v1012 : Value).ownBlock) v1015 t1014) := ⟨h2_⟩
          have n3_ : Aside0 (w28.heap[gb1000]? = some (.cells #[.int .i64 a0_0, .slice A0_1 l0_1.length c0_1] 31 (0, 0))) := ⟨h3_⟩
          have n4_ : Aside0 (w28.heap[gb1001]? = some (.cells #[.int .i64 0, .slice none 0 0] 31 (0, 0))) := ⟨h4_⟩
          have n5_ : Aside0 (w28.heap[gb1017]? = some (.cells #[.int .i64 0, .slice none 0 0] 31 (0, 0))) := ⟨h5_⟩
          have n6_ : Aside0 (w.heap.size ≤ gb1017) := ⟨h6_⟩
          have n7_ : Aside0 (w.heap.size ≤ gb1017) := ⟨h7_⟩
          have n8_ : Aside0 (gb1000 ≠ gb1017) := ⟨h8_⟩
          have n9_ : Aside0 (gb1017 ≠ gb1000) := ⟨h9_⟩
          have n10_ : Aside0 (gb1001 ≠ gb1017) := ⟨h10_⟩
          have n11_ : Aside0 (gb1017 ≠ gb1001) := ⟨h11_⟩
          have n12_ : Aside0 (Below w.heap.size w w28) := ⟨h12_⟩
          clear BK1000 BK1001 HB
          clear h0_ h1_ h2_ h3_ h4_ h5_ h6_ h7_ h8_ h9_ h10_ h11_ h12_
          have HO1007 := n0_
          have HO1013 := n1_
          have HO1016 := n2_
          have BK1000 := n3_
          have BK1001 := n4_
          have BK1017 := n5_
          have GW1017 := n6_
          have GE1017 := n7_
          have := geI GE1017
          have NB1000_1017 := n8_
          have NB1017_1000 := n9_
          have NB1001_1017 := n10_
          have NB1017_1001 := n11_
          have HB := n12_
          clear n0_ n1_ n2_ n3_ n4_ n5_ n6_ n7_ n8_ n9_ n10_ n11_ n12_
          have hHeld : w28.cell? ⟨gb1000, 0, none⟩ = some (.int .i64 a0_0) ∧ w28.cell? ⟨gb1000, 1, none⟩ = some (.slice A0_1 l0_1.length c0_1) := hS_
          obtain ⟨Ao29, co29, eo29⟩ := Kd.R_slice HO1007.out
          (first | subst eo29 | (injection eo29 with f1_ f2_ f3_; have f4_ := f1_.symm; have f5_ := f3_.symm; clear f1_ f2_ f3_; subst f4_; subst f5_))
          refine norm_ (a' := ?_) ?_ ?_
          rotate_left
          ·simp only [putAll, Act.put, ls, lz, ln]
           rfl
          refine two_ (i := 4) (j := 10) (Ni := some 37) (Nj := none) (bl 13 1023) (bl 13 2031) rfl rfl rfl rfl (two_of HT_.out (by kernel_rfl)) (by decide) (by decide) (fun K hK => ?_) (fun K hK => ?_)
          ·skip
           refine Kd.R_lit_step (Kd.int .i64) _ 2 ?hg (N := 37) ?hd (xs := ([1] : List Int)) (inner := [.int .i64 1]) (ok := fun _ => True) (okp := fun _ => True) ?hr ?hp (fun _ hk => hk) trivial (Below.refl _ _) (Nat.le_refl _) (by simp) ?_; (case hd => rfl); (case hg => rfl); (case hr => first | (go_simp; done) | (go_simp; rfl)); (case hp => exact (Reps.one (show Kd.M (Kd.int .i64) _ _ _ 1 [.int .i64 1] from rfl) (Reps.none _ _)))
           intro v1009 w30 ho31 hb hg_ hnew_
           clear hg_ hnew_
           (first | rw [← Ny1008.out] at ho31 | (simp only [Int.reduceToNat] at ho31; rw [← Ny1008.out] at ho31))
           have HO1010 := zA (Kd.R_lower (Kd.R_new' (Kd.R_new' (Kd.R_new' ho31 (Kd.R_lt (uR HO1007.out))) (Kd.R_lt (uR HO1013.out))) (Kd.R_lt (uR HO1016.out))) (below_size (uH HB.out)))
           replace HO1007 := zA (Kd.R_elder' (uR HO1007.out) (Kd.R_base ho31) hb)
           replace HO1013 := zA (Kd.R_elder' (uR HO1013.out) (Kd.R_base ho31) hb)
           replace HO1016 := zA (Kd.R_elder' (uR HO1016.out) (Kd.R_base ho31) hb)
           replace BK1000 := xB BK1000 hb
           replace BK1001 := xB BK1001 hb
           replace BK1017 := xB BK1017 hb
           replace HB := xH HB hb
           clear hb ho31
           refine hK.out _ _ ⟨bcu BK1000 0, bcu BK1000 1⟩ (fun hHeld => ?_)
           clear hK K
           refine no_ 37 ?_
           exact norm_ (by first | (simp only [putAll, Act.put, ls, lz, ln]; done) | (simp only [putAll, Act.put, ls, lz, ln]; rfl)) (hJ2_4_7_8_9 (.slice Ao29 y1005.length co29, v1009, v1012, v1015, gb1017) _ ⟨hHeld, (uR (Kd.R_mono HO1007.out (fun _ hk => ⟨hk.2, ⟨hk.1.1, hk.1.2⟩⟩))), (uR (Kd.R_mono HO1010.out (fun _ hk => ⟨hk.1.1.2, ⟨hk.1.2, hk.2⟩⟩))), (uR (Kd.R_mono HO1013.out (fun _ hk => ⟨hk.1.1, ⟨hk.2, hk.1.2⟩⟩))), (uR (Kd.R_mono HO1016.out (fun _ hk => ⟨hk.1.1, ⟨hk.2, hk.1.2⟩⟩))), (uB BK1000.out), (uB BK1001.out), (uB BK1017.out), GW1017.out, GE1017.out, NB1000_1017.out, NB1017_1000.out, NB1001_1017.out, NB1017_1001.out, (uH HB.out)⟩)
          ·skip
           have hs30 : w28.cell? ⟨gb1017, 0, none⟩ = some (.int .i64 0) := (blk_cell BK1017.out 0).trans rfl
           have hfs30 := bf BK1017 0
           have hns30_0 := NB1000_1017.out; have hns30_1 := NB1001_1017.out; have hms30_0 := NB1017_1000.out; have hms30_1 := NB1017_1001.out
           have hs31 : w28.cell? ⟨gb1017, 1, none⟩ = some (.slice none 0 0) := (blk_cell BK1017.out 1).trans rfl
           have hfs31 := bf BK1017 1
           have hns31_0 := NB1000_1017.out; have hns31_1 := NB1001_1017.out; have hms31_0 := NB1017_1000.out; have hms31_1 := NB1017_1001.out
           refine skip_ (w1 := ?_) (by rfl) rfl ?_ ?_
           rotate_left
           ·go_simp
            rfl
           refine hK.out _ _ ⟨((cell_far (p := ⟨gb1017, _, none⟩) NB1000_1017.out _).trans (((cell_far (p := ⟨gb1017, _, none⟩) NB1000_1017.out _).trans (hHeld.1)))), ((cell_far (p := ⟨gb1017, _, none⟩) NB1000_1017.out _).trans (((cell_far (p := ⟨gb1017, _, none⟩) NB1000_1017.out _).trans (hHeld.2))))⟩ (fun hHeld => ?_)
           clear hK K
           exact norm_ (by first | (simp only [putAll, Act.put, ls, lz, ln]; done) | (simp only [putAll, Act.put, ls, lz, ln]; rfl)) (hJ2_7_8_9_10 (.slice Ao29 y1005.length co29, v1012, v1015, gb1017) _ ⟨hHeld, (uR (Kd.R_mono (Kd.R_far (p := ⟨gb1017, 1, none⟩) (Kd.R_far (p := ⟨gb1017, 0, none⟩) (Kd.R_types HO1007.out BK1017.out (by decide)) (fun _ hk => hk.2) (.int .i64 a0_0)) (fun _ hk => hk.2) (.slice Ao29 y1005.length co29)) (fun _ hk => ⟨hk.1.1, hk.1.2⟩))), (uR (Kd.R_mono (Kd.R_far (p := ⟨gb1017, 1, none⟩) (Kd.R_far (p := ⟨gb1017, 0, none⟩) (Kd.R_types HO1013.out BK1017.out (by decide)) (fun _ hk => hk.2) (.int .i64 a0_0)) (fun _ hk => hk.2) (.slice Ao29 y1005.length co29)) (fun _ hk => ⟨hk.1.1, hk.1.2⟩))), (uR (Kd.R_mono (Kd.R_far (p := ⟨gb1017, 1, none⟩) (Kd.R_far (p := ⟨gb1017, 0, none⟩) (Kd.R_types HO1016.out BK1017.out (by decide)) (fun _ hk => hk.2) (.int .i64 a0_0)) (fun _ hk => hk.2) (.slice Ao29 y1005.length co29)) (fun _ hk => ⟨hk.1.1, hk.1.2⟩))), (by (repeat refine up1 ?_); refine blk_far ?_ NB1000_1017.out _; (repeat refine up1 ?_); refine blk_far ?_ NB1000_1017.out _; (repeat refine up1 ?_); exact BK1000.out), (by (repeat refine up1 ?_); refine blk_far ?_ NB1001_1017.out _; (repeat refine up1 ?_); refine blk_far ?_ NB1001_1017.out _; (repeat refine up1 ?_); exact BK1001.out), (by (repeat refine up1 ?_); refine blk_put (cs := #[.int .i64 a0_0, .slice none 0 0]) ?_ 1 _ rfl; (repeat refine up1 ?_); refine blk_put (cs := #[.int .i64 0, .slice none 0 0]) ?_ 0 _ rfl; (repeat refine up1 ?_); exact BK1017.out), GW1017.out, GE1017.out, NB1000_1017.out, NB1017_1000.out, NB1001_1017.out, NB1017_1001.out, (uH HB.out)⟩)
        ·skip
         rintro ⟨v1006, v1009, v1012, gb1017⟩ w28 ⟨hS_, h0_, h1_, h2_, h3_, h4_, h5_, h6_, h7_, h8_, h9_, h10_, h11_, h12_⟩
         have n0_ : Aside0 (Kd.R (Kd.int .i64) 2 w28 w.heap.size (fun k_ => some k_ ≠ (v1009 : Value).ownBlock ∧ some k_ ≠ (v1012 : Value).ownBlock) v1006 y1005) := ⟨h0_⟩
         have n1_ : Aside0 (Kd.R (Kd.int .i64) 2 w28 w.heap.size (fun k_ => some k_ ≠ (v1006 : Value).ownBlock ∧ some k_ ≠ (v1012 : Value).ownBlock) v1009 y1008) := ⟨h1_⟩
         have n2_ : Aside0 (Kd.R (Kd.int .i64) 2 w28 w.heap.size (fun k_ => some k_ ≠ (v1006 : Value).ownBlock ∧ some k_ ≠ (v1009 : Value).ownBlock) v1012 y1011) := ⟨h2_⟩
         have n3_ : Aside0 (w28.heap[gb1000]? = some (.cells #[.int .i64 a0_0, .slice A0_1 l0_1.length c0_1] 31 (0, 0))) := ⟨h3_⟩
         have n4_ : Aside0 (w28.heap[gb1001]? = some (.cells #[.int .i64 0, .slice none 0 0] 31 (0, 0))) := ⟨h4_⟩
         have n5_ : Aside0 (w28.heap[gb1017]? = some (.cells #[.int .i64 0, .slice none 0 0] 31 (0, 0))) := ⟨h5_⟩
         have n6_ : Aside0 (w.heap.size ≤ gb1017) := ⟨h6_⟩
         have n7_ : Aside0 (w.heap.size ≤ gb1017) := ⟨h7_⟩
         have n8_ : Aside0 (gb1000 ≠ gb1017) := ⟨h8_⟩
         have n9_ : Aside0 (gb1017 ≠ gb1000) := ⟨h9_⟩
         have n10_ : Aside0 (gb1001 ≠ gb1017) := ⟨h10_⟩
         have n11_ : Aside0 (gb1017 ≠ gb1001) := ⟨h11_⟩
         have n12_ : Aside0 (Below w.heap.size w w28) := ⟨h12_⟩
         clear BK1000 BK1001 HB
         clear h0_ h1_ h2_ h3_ h4_ h5_ h6_ h7_ h8_ h9_ h10_ h11_ h12_
         have HO1007 := n0_
         have HO1010 := n1_
         have HO1013 := n2_
         have BK1000 := n3_
         have BK1001 := n4_
         have BK1017 := n5_
         have GW1017 := n6_
         have GE1017 := n7_
         have := geI GE1017
         have NB1000_1017 := n8_
         have NB1017_1000 := n9_
         have NB1001_1017 := n10_
         have NB1017_1001 := n11_
         have HB := n12_
         clear n0_ n1_ n2_ n3_ n4_ n5_ n6_ n7_ n8_ n9_ n10_ n11_ n12_
         have hHeld : w28.cell? ⟨gb1000, 0, none⟩ = some (.int .i64 a0_0) ∧ w28.cell? ⟨gb1000, 1, none⟩ = some (.slice A0_1 l0_1.length c0_1) := hS_
         obtain ⟨Ao29, co29, eo29⟩ := Kd.R_slice HO1007.out
         (first | subst eo29 | (injection eo29 with f1_ f2_ f3_; have f4_ := f1_.symm; have f5_ := f3_.symm; clear f1_ f2_ f3_; subst f4_; subst f5_))
         obtain ⟨Ao30, co30, eo30⟩ := Kd.R_slice HO1013.out
         (first | subst eo30 | (injection eo30 with f1_ f2_ f3_; have f4_ := f1_.symm; have f5_ := f3_.symm; clear f1_ f2_ f3_; subst f4_; subst f5_))
         refine norm_ (a' := ?_) ?_ ?_
         rotate_left
         ·simp only [putAll, Act.put, ls, lz, ln]
          rfl
         refine on_ 8 (some 41) (bl 13 1023) HT_ (fun K hK => ?_)
         refine gS Try.func96 #[.slice Ao30 y1011.length co30] ?_
         with_reducible refine (spec_l01Trim.calls k _ _ y1011 t1014 _ ?side1 ?side2 A10.out).mono ?_
         (case side1 => exact uC ((Kd.R_reads' HO1013.out).2.2))
         (case side2 => exact (Kd.R_reads' HO1013.out).2.1)
         rintro e w31 ⟨v1015, rfl, ho0, hb⟩
         refine ⟨_, rfl, ?_⟩
         have HO1016 := zA (Kd.R_lower (Kd.R_new' (Kd.R_new' (Kd.R_new' ho0 (Kd.R_lt (uR HO1007.out))) (Kd.R_lt (uR HO1010.out))) (Kd.R_lt (uR HO1013.out))) (below_size (uH HB.out)))
         replace HO1007 := zA (Kd.R_elder' (uR HO1007.out) (Kd.R_base ho0) hb)
         replace HO1010 := zA (Kd.R_elder' (uR HO1010.out) (Kd.R_base ho0) hb)
         replace HO1013 := zA (Kd.R_elder' (uR HO1013.out) (Kd.R_base ho0) hb)
         replace BK1000 := xB BK1000 hb
         replace BK1001 := xB BK1001 hb
         replace BK1017 := xB BK1017 hb
         replace HB := xH HB hb
         (try clear hb); (try clear hb2); (try clear hk); (try clear hi); (try clear ho0)
         refine hK.out _ _ ⟨bcu BK1000 0, bcu BK1000 1⟩ (fun hHeld => ?_)
         clear hK K
         refine no_ 41 ?_
         exact norm_ (by first | (simp only [putAll, Act.put, ls, lz, ln]; done) | (simp only [putAll, Act.put, ls, lz, ln]; rfl)) (hJ2_4_7_8_9 (.slice Ao29 y1005.length co29, v1009, .slice Ao30 y1011.length co30, v1015, gb1017) _ ⟨hHeld, (uR (Kd.R_mono HO1007.out (fun _ hk => ⟨hk.1.1, ⟨hk.1.2, hk.2⟩⟩))), (uR (Kd.R_mono HO1010.out (fun _ hk => ⟨hk.1.1, ⟨hk.1.2, hk.2⟩⟩))), (uR (Kd.R_mono HO1013.out (fun _ hk => ⟨hk.1.1, ⟨hk.1.2, hk.2⟩⟩))), (uR (Kd.R_mono HO1016.out (fun _ hk => ⟨hk.1.1.2, ⟨hk.1.2, hk.2⟩⟩))), (uB BK1000.out), (uB BK1001.out), (uB BK1017.out), GW1017.out, GE1017.out, NB1000_1017.out, NB1017_1000.out, NB1001_1017.out, NB1017_1001.out, (uH HB.out)⟩)
       ·skip
        rintro ⟨v1006, v1009, v1012, v1015⟩ w29 ⟨hS_, h0_, h1_, h2_, h3_, h4_, h5_, h6_⟩
        have n0_ : Aside0 (Kd.R (Kd.int .i64) 2 w29 w.heap.size (fun k_ => some k_ ≠ (v1009 : Value).ownBlock ∧ some k_ ≠ (v1012 : Value).ownBlock ∧ some k_ ≠ (v1015 : Value).ownBlock) v1006 y1005) := ⟨h0_⟩
        have n1_ : Aside0 (Kd.R (Kd.int .i64) 2 w29 w.heap.size (fun k_ => some k_ ≠ (v1006 : Value).ownBlock ∧ some k_ ≠ (v1012 : Value).ownBlock ∧ some k_ ≠ (v1015 : Value).ownBlock) v1009 y1008) := ⟨h1_⟩
        have n2_ : Aside0 (Kd.R (Kd.int .i64) 2 w29 w.heap.size (fun k_ => some k_ ≠ (v1006 : Value).ownBlock ∧ some k_ ≠ (v1009 : Value).ownBlock ∧ some k_ ≠ (v1015 : Value).ownBlock) v1012 y1011) := ⟨h2_⟩
        have n3_ : Aside0 (Kd.R (Kd.int .i64) 2 w29 w.heap.size (fun k_ => some k_ ≠ (v1006 : Value).ownBlock ∧ some k_ ≠ (v1009 : Value).ownBlock ∧ some k_ ≠ (v1012 : Value).ownBlock) v1015 t1014) := ⟨h3_⟩
        have n4_ : Aside0 (w29.heap[gb1000]? = some (.cells #[.int .i64 a0_0, .slice A0_1 l0_1.length c0_1] 31 (0, 0))) := ⟨h4_⟩
        have n5_ : Aside0 (w29.heap[gb1001]? = some (.cells #[.int .i64 0, .slice none 0 0] 31 (0, 0))) := ⟨h5_⟩
        have n6_ : Aside0 (Below w.heap.size w w29) := ⟨h6_⟩
        clear BK1000 BK1001 HB
        clear h0_ h1_ h2_ h3_ h4_ h5_ h6_
        have HO1007 := n0_
        have HO1010 := n1_
        have HO1013 := n2_
        have HO1016 := n3_
        have BK1000 := n4_
        have BK1001 := n5_
        have HB := n6_
        clear n0_ n1_ n2_ n3_ n4_ n5_ n6_
        have hHeld : w29.cell? ⟨gb1000, 0, none⟩ = some (.int .i64 a0_0) ∧ w29.cell? ⟨gb1000, 1, none⟩ = some (.slice A0_1 l0_1.length c0_1) := hS_
        obtain ⟨Ao30, co30, eo30⟩ := Kd.R_slice HO1007.out
        (first | subst eo30 | (injection eo30 with f1_ f2_ f3_; have f4_ := f1_.symm; have f5_ := f3_.symm; clear f1_ f2_ f3_; subst f4_; subst f5_))
        refine norm_ (a' := ?_) ?_ ?_
        rotate_left
        ·simp only [putAll, Act.put, ls, lz, ln]
         rfl
        refine on_ 9 (some 8) (bl 13 1023) HT_ (fun K hK => ?_)
        refine box_step ?hg (N := 8) ?hd (cs := #[.int .i64 0, .slice none 0 0]) (t := 31) ?hr ?_; (case hd => rfl); (case hg => rfl); (case hr => first | (go_simp; done) | (go_simp; rfl))
        intro gb1017 hg w31 hbox hb
        replace HO1007 := xR HO1007 hb
        replace HO1010 := xR HO1010 hb
        replace HO1013 := xR HO1013 hb
        replace HO1016 := xR HO1016 hb
        have BK1017 := zA (hbox)
        have GW1017 := gq HB hg
        have GE1017 := gq HB hg
        replace HB := xH HB hb
        have NB1000_1017 := zA ((by rw [hg]; exact neL BK1000 : gb1000 ≠ gb1017))
        have NB1017_1000 := zA ((by rw [hg]; exact neG BK1000 : gb1017 ≠ gb1000))
        replace BK1000 := xB BK1000 hb
        have NB1001_1017 := zA ((by rw [hg]; exact neL BK1001 : gb1001 ≠ gb1017))
        have NB1017_1001 := zA ((by rw [hg]; exact neG BK1001 : gb1017 ≠ gb1001))
        replace BK1001 := xB BK1001 hb
        have := geI GE1017
        clear hb hbox hg
        refine hK.out _ _ ⟨bcu BK1000 0, bcu BK1000 1⟩ (fun hHeld => ?_)
        clear hK K
        refine no_ 8 ?_
        exact norm_ (by first | (simp only [putAll, Act.put, ls, lz, ln]; done) | (simp only [putAll, Act.put, ls, lz, ln]; rfl)) (hJ2_4_7_8_9 (.slice Ao30 y1005.length co30, v1009, v1012, v1015, gb1017) _ ⟨hHeld, (uR HO1007.out), (uR HO1010.out), (uR HO1013.out), (uR HO1016.out), (uB BK1000.out), (uB BK1001.out), (uB BK1017.out), GW1017.out, GE1017.out, NB1000_1017.out, NB1017_1000.out, NB1001_1017.out, NB1017_1001.out, (uH HB.out)⟩)
      ·skip
       rintro ⟨v1006, v1012, v1015, gb1017⟩ w30 ⟨hS_, h0_, h1_, h2_, h3_, h4_, h5_, h6_, h7_, h8_, h9_, h10_, h11_, h12_⟩
       have n0_ : Aside0 (Kd.R (Kd.int .i64) 2 w30 w.heap.size (fun k_ => some k_ ≠ (v1012 : Value).ownBlock ∧ some k_ ≠ (v1015 : Value).ownBlock) v1006 y1005) := ⟨h0_⟩
       have n1_ : Aside0 (Kd.R (Kd.int .i64) 2 w30 w.heap.size (fun k_ => some k_ ≠ (v1006 : Value).ownBlock ∧ some k_ ≠ (v1015 : Value).ownBlock) v1012 y1011) := ⟨h1_⟩
       have n2_ : Aside0 (Kd.R (Kd.int .i64) 2 w30 w.heap.size (fun k_ => some k_ ≠ (v1006 : Value).ownBlock ∧ some k_ ≠ (v1012 : Value).ownBlock) v1015 t1014) := ⟨h2_⟩
       have n3_ : Aside0 (w30.heap[gb1000]? = some (.cells #[.int .i64 a0_0, .slice A0_1 l0_1.length c0_1] 31 (0, 0))) := ⟨h3_⟩
       have n4_ : Aside0 (w30.heap[gb1001]? = some (.cells #[.int .i64 0, .slice none 0 0] 31 (0, 0))) := ⟨h4_⟩
       have n5_ : Aside0 (w30.heap[gb1017]? = some (.cells #[.int .i64 a0_0, v1006] 31 (0, 0))) := ⟨h5_⟩
       have n6_ : Aside0 (w.heap.size ≤ gb1017) := ⟨h6_⟩
       have n7_ : Aside0 (w.heap.size ≤ gb1017) := ⟨h7_⟩
       have n8_ : Aside0 (gb1000 ≠ gb1017) := ⟨h8_⟩
       have n9_ : Aside0 (gb1017 ≠ gb1000) := ⟨h9_⟩
       have n10_ : Aside0 (gb1001 ≠ gb1017) := ⟨h10_⟩
       have n11_ : Aside0 (gb1017 ≠ gb1001) := ⟨h11_⟩
       have n12_ : Aside0 (Below w.heap.size w w30) := ⟨h12_⟩
       clear BK1000 BK1001 HB
       clear h0_ h1_ h2_ h3_ h4_ h5_ h6_ h7_ h8_ h9_ h10_ h11_ h12_
       have HO1007 := n0_
       have HO1013 := n1_
       have HO1016 := n2_
       have BK1000 := n3_
       have BK1001 := n4_
       have BK1017 := n5_
       have GW1017 := n6_
       have GE1017 := n7_
       have := geI GE1017
       have NB1000_1017 := n8_
       have NB1017_1000 := n9_
       have NB1001_1017 := n10_
       have NB1017_1001 := n11_
       have HB := n12_
       clear n0_ n1_ n2_ n3_ n4_ n5_ n6_ n7_ n8_ n9_ n10_ n11_ n12_
       have hHeld : w30.cell? ⟨gb1000, 0, none⟩ = some (.int .i64 a0_0) ∧ w30.cell? ⟨gb1000, 1, none⟩ = some (.slice A0_1 l0_1.length c0_1) := hS_
       obtain ⟨Ao31, co31, eo31⟩ := Kd.R_slice HO1007.out
       (first | subst eo31 | (injection eo31 with f1_ f2_ f3_; have f4_ := f1_.symm; have f5_ := f3_.symm; clear f1_ f2_ f3_; subst f4_; subst f5_))
       refine norm_ (a' := ?_) ?_ ?_
       rotate_left
       ·simp only [putAll, Act.put, ls, lz, ln]
        rfl
       refine on_ 4 (some 37) (bl 13 2047) HT_ (fun K hK => ?_)
       refine Kd.R_lit_step (Kd.int .i64) _ 2 ?hg (N := 37) ?hd (xs := ([1] : List Int)) (inner := [.int .i64 1]) (ok := fun _ => True) (okp := fun _ => True) ?hr ?hp (fun _ hk => hk) trivial (Below.refl _ _) (Nat.le_refl _) (by simp) ?_; (case hd => rfl); (case hg => rfl); (case hr => first | (go_simp; done) | (go_simp; rfl)); (case hp => exact (Reps.one (show Kd.M (Kd.int .i64) _ _ _ 1 [.int .i64 1] from rfl) (Reps.none _ _)))
       intro v1009 w32 ho33 hb hg_ hnew_
       clear hg_ hnew_
       (first | rw [← Ny1008.out] at ho33 | (simp only [Int.reduceToNat] at ho33; rw [← Ny1008.out] at ho33))
       have HO1010 := zA (Kd.R_lower (Kd.R_new' (Kd.R_new' (Kd.R_new' ho33 (Kd.R_lt (uR HO1007.out))) (Kd.R_lt (uR HO1013.out))) (Kd.R_lt (uR HO1016.out))) (below_size (uH HB.out)))
       replace HO1007 := zA (Kd.R_elder' (uR HO1007.out) (Kd.R_base ho33) hb)
       replace HO1013 := zA (Kd.R_elder' (uR HO1013.out) (Kd.R_base ho33) hb)
       replace HO1016 := zA (Kd.R_elder' (uR HO1016.out) (Kd.R_base ho33) hb)
       replace BK1000 := xB BK1000 hb
       replace BK1001 := xB BK1001 hb
       replace BK1017 := xB BK1017 hb
       replace HB := xH HB hb
       clear hb ho33
       refine hK.out _ _ ⟨bcu BK1000 0, bcu BK1000 1⟩ (fun hHeld => ?_)
       clear hK K
       refine no_ 37 ?_
       exact norm_ (by first | (simp only [putAll, Act.put, ls, lz, ln]; done) | (simp only [putAll, Act.put, ls, lz, ln]; rfl)) (hJ2_4_7_8_9_10 (.slice Ao31 y1005.length co31, v1009, v1012, v1015, gb1017) _ ⟨hHeld, (uR (Kd.R_mono HO1007.out (fun _ hk => ⟨hk.2, ⟨hk.1.1, hk.1.2⟩⟩))), (uR (Kd.R_mono HO1010.out (fun _ hk => ⟨hk.1.1.2, ⟨hk.1.2, hk.2⟩⟩))), (uR (Kd.R_mono HO1013.out (fun _ hk => ⟨hk.1.1, ⟨hk.2, hk.1.2⟩⟩))), (uR (Kd.R_mono HO1016.out (fun _ hk => ⟨hk.1.1, ⟨hk.2, hk.1.2⟩⟩))), (uB BK1000.out), (uB BK1001.out), (uB BK1017.out), GW1017.out, GE1017.out, NB1000_1017.out, NB1017_1000.out, NB1001_1017.out, NB1017_1001.out, (uH HB.out)⟩)
     ·skip
      rintro ⟨v1006, v1009, v1012, v1015, gb1017⟩ w30 ⟨hS_, h0_, h1_, h2_, h3_, h4_, h5_, h6_, h7_, h8_, h9_, h10_, h11_, h12_, h13_⟩
      have n0_ : Aside0 (Kd.R (Kd.int .i64) 2 w30 w.heap.size (fun k_ => some k_ ≠ (v1009 : Value).ownBlock ∧ some k_ ≠ (v1012 : Value).ownBlock ∧ some k_ ≠ (v1015 : Value).ownBlock) v1006 y1005) := ⟨h0_⟩
      have n1_ : Aside0 (Kd.R (Kd.int .i64) 2 w30 w.heap.size (fun k_ => some k_ ≠ (v1006 : Value).ownBlock ∧ some k_ ≠ (v1012 : Value).ownBlock ∧ some k_ ≠ (v1015 : Value).ownBlock) v1009 y1008) := ⟨h1_⟩
      have n2_ : Aside0 (Kd.R (Kd.int .i64) 2 w30 w.heap.size (fun k_ => some k_ ≠ (v1006 : Value).ownBlock ∧ some k_ ≠ (v1009 : Value).ownBlock ∧ some k_ ≠ (v1015 : Value).ownBlock) v1012 y1011) := ⟨h2_⟩
      have n3_ : Aside0 (Kd.R (Kd.int .i64) 2 w30 w.heap.size (fun k_ => some k_ ≠ (v1006 : Value).ownBlock ∧ some k_ ≠ (v1009 : Value).ownBlock ∧ some k_ ≠ (v1012 : Value).ownBlock) v1015 t1014) := ⟨h3_⟩
      have n4_ : Aside0 (w30.heap[gb1000]? = some (.cells #[.int .i64 a0_0, .slice A0_1 l0_1.length c0_1] 31 (0, 0))) := ⟨h4_⟩
      have n5_ : Aside0 (w30.heap[gb1001]? = some (.cells #[.int .i64 0, .slice none 0 0] 31 (0, 0))) := ⟨h5_⟩
      have n6_ : Aside0 (w30.heap[gb1017]? = some (.cells #[.int .i64 0, .slice none 0 0] 31 (0, 0))) := ⟨h6_⟩
      have n7_ : Aside0 (w.heap.size ≤ gb1017) := ⟨h7_⟩
      have n8_ : Aside0 (w.heap.size ≤ gb1017) := ⟨h8_⟩
      have n9_ : Aside0 (gb1000 ≠ gb1017) := ⟨h9_⟩
      have n10_ : Aside0 (gb1017 ≠ gb1000) := ⟨h10_⟩
      have n11_ : Aside0 (gb1001 ≠ gb1017) := ⟨h11_⟩
      have n12_ : Aside0 (gb1017 ≠ gb1001) := ⟨h12_⟩
      have n13_ : Aside0 (Below w.heap.size w w30) := ⟨h13_⟩
      clear BK1000 BK1001 HB
      clear h0_ h1_ h2_ h3_ h4_ h5_ h6_ h7_ h8_ h9_ h10_ h11_ h12_ h13_
      have HO1007 := n0_
      have HO1010 := n1_
      have HO1013 := n2_
      have HO1016 := n3_
      have BK1000 := n4_
      have BK1001 := n5_
      have BK1017 := n6_
      have GW1017 := n7_
      have GE1017 := n8_
      have := geI GE1017
      have NB1000_1017 := n9_
      have NB1017_1000 := n10_
      have NB1001_1017 := n11_
      have NB1017_1001 := n12_
      have HB := n13_
      clear n0_ n1_ n2_ n3_ n4_ n5_ n6_ n7_ n8_ n9_ n10_ n11_ n12_ n13_
      have hHeld : w30.cell? ⟨gb1000, 0, none⟩ = some (.int .i64 a0_0) ∧ w30.cell? ⟨gb1000, 1, none⟩ = some (.slice A0_1 l0_1.length c0_1) := hS_
      obtain ⟨Ao31, co31, eo31⟩ := Kd.R_slice HO1007.out
      (first | subst eo31 | (injection eo31 with f1_ f2_ f3_; have f4_ := f1_.symm; have f5_ := f3_.symm; clear f1_ f2_ f3_; subst f4_; subst f5_))
      refine norm_ (a' := ?_) ?_ ?_
      rotate_left
      ·simp only [putAll, Act.put, ls, lz, ln]
       rfl
      refine on_ 10 (none) (bl 13 2047) HT_ (fun K hK => ?_)
      have hs32 : w30.cell? ⟨gb1017, 0, none⟩ = some (.int .i64 0) := (blk_cell BK1017.out 0).trans rfl
      have hfs32 := bf BK1017 0
      have hns32_0 := NB1000_1017.out; have hns32_1 := NB1001_1017.out; have hms32_0 := NB1017_1000.out; have hms32_1 := NB1017_1001.out
      have hs33 : w30.cell? ⟨gb1017, 1, none⟩ = some (.slice none 0 0) := (blk_cell BK1017.out 1).trans rfl
      have hfs33 := bf BK1017 1
      have hns33_0 := NB1000_1017.out; have hns33_1 := NB1001_1017.out; have hms33_0 := NB1017_1000.out; have hms33_1 := NB1017_1001.out
      refine skip_ (w1 := ?_) (by rfl) rfl ?_ ?_
      rotate_left
      ·go_simp
       rfl
      refine hK.out _ _ ⟨((cell_far (p := ⟨gb1017, _, none⟩) NB1000_1017.out _).trans (((cell_far (p := ⟨gb1017, _, none⟩) NB1000_1017.out _).trans (hHeld.1)))), ((cell_far (p := ⟨gb1017, _, none⟩) NB1000_1017.out _).trans (((cell_far (p := ⟨gb1017, _, none⟩) NB1000_1017.out _).trans (hHeld.2))))⟩ (fun hHeld => ?_)
      clear hK K
      exact norm_ (by first | (simp only [putAll, Act.put, ls, lz, ln]; done) | (simp only [putAll, Act.put, ls, lz, ln]; rfl)) (hJ2_4_7_8_9_10 (.slice Ao31 y1005.length co31, v1009, v1012, v1015, gb1017) _ ⟨hHeld, (uR (Kd.R_mono (Kd.R_far (p := ⟨gb1017, 1, none⟩) (Kd.R_far (p := ⟨gb1017, 0, none⟩) (Kd.R_types HO1007.out BK1017.out (by decide)) (fun _ hk => hk.2) (.int .i64 a0_0)) (fun _ hk => hk.2) (.slice Ao31 y1005.length co31)) (fun _ hk => ⟨hk.1.1, ⟨hk.1.2.1, hk.1.2.2⟩⟩))), (uR (Kd.R_mono (Kd.R_far (p := ⟨gb1017, 1, none⟩) (Kd.R_far (p := ⟨gb1017, 0, none⟩) (Kd.R_types HO1010.out BK1017.out (by decide)) (fun _ hk => hk.2) (.int .i64 a0_0)) (fun _ hk => hk.2) (.slice Ao31 y1005.length co31)) (fun _ hk => ⟨hk.1.1, ⟨hk.1.2.1, hk.1.2.2⟩⟩))), (uR (Kd.R_mono (Kd.R_far (p := ⟨gb1017, 1, none⟩) (Kd.R_far (p := ⟨gb1017, 0, none⟩) (Kd.R_types HO1013.out BK1017.out (by decide)) (fun _ hk => hk.2) (.int .i64 a0_0)) (fun _ hk => hk.2) (.slice Ao31 y1005.length co31)) (fun _ hk => ⟨hk.1.1, ⟨hk.1.2.1, hk.1.2.2⟩⟩))), (uR (Kd.R_mono (Kd.R_far (p := ⟨gb1017, 1, none⟩) (Kd.R_far (p := ⟨gb1017, 0, none⟩) (Kd.R_types HO1016.out BK1017.out (by decide)) (fun _ hk => hk.2) (.int .i64 a0_0)) (fun _ hk => hk.2) (.slice Ao31 y1005.length co31)) (fun _ hk => ⟨hk.1.1, ⟨hk.1.2.1, hk.1.2.2⟩⟩))), (by (repeat refine up1 ?_); refine blk_far ?_ NB1000_1017.out _; (repeat refine up1 ?_); refine blk_far ?_ NB1000_1017.out _; (repeat refine up1 ?_); exact BK1000.out), (by (repeat refine up1 ?_); refine blk_far ?_ NB1001_1017.out _; (repeat refine up1 ?_); refine blk_far ?_ NB1001_1017.out _; (repeat refine up1 ?_); exact BK1001.out), (by (repeat refine up1 ?_); refine blk_put (cs := #[.int .i64 a0_0, .slice none 0 0]) ?_ 1 _ rfl; (repeat refine up1 ?_); refine blk_put (cs := #[.int .i64 0, .slice none 0 0]) ?_ 0 _ rfl; (repeat refine up1 ?_); exact BK1017.out), GW1017.out, GE1017.out, NB1000_1017.out, NB1017_1000.out, NB1001_1017.out, NB1017_1001.out, (uH HB.out)⟩)
    rintro ⟨v1006, v1009, v1012, v1015, gb1017⟩ w32 ⟨hS_, h0_, h1_, h2_, h3_, h4_, h5_, h6_, h7_, h8_, h9_, h10_, h11_, h12_, h13_⟩
    have n0_ : Aside0 (Kd.R (Kd.int .i64) 2 w32 w.heap.size (fun k_ => some k_ ≠ (v1009 : Value).ownBlock ∧ some k_ ≠ (v1012 : Value).ownBlock ∧ some k_ ≠ (v1015 : Value).ownBlock) v1006 y1005) := ⟨h0_⟩
    have n1_ : Aside0 (Kd.R (Kd.int .i64) 2 w32 w.heap.size (fun k_ => some k_ ≠ (v1006 : Value).ownBlock ∧ some k_ ≠ (v1012 : Value).ownBlock ∧ some k_ ≠ (v1015 : Value).ownBlock) v1009 y1008) := ⟨h1_⟩
    have n2_ : Aside0 (Kd.R (Kd.int .i64) 2 w32 w.heap.size (fun k_ => some k_ ≠ (v1006 : Value).ownBlock ∧ some k_ ≠ (v1009 : Value).ownBlock ∧ some k_ ≠ (v1015 : Value).ownBlock) v1012 y1011) := ⟨h2_⟩
    have n3_ : Aside0 (Kd.R (Kd.int .i64) 2 w32 w.heap.size (fun k_ => some k_ ≠ (v1006 : Value).ownBlock ∧ some k_ ≠ (v1009 : Value).ownBlock ∧ some k_ ≠ (v1012 : Value).ownBlock) v1015 t1014) := ⟨h3_⟩
    have n4_ : Aside0 (w32.heap[gb1000]? = some (.cells #[.int .i64 a0_0, .slice A0_1 l0_1.length c0_1] 31 (0, 0))) := ⟨h4_⟩
    have n5_ : Aside0 (w32.heap[gb1001]? = some (.cells #[.int .i64 0, .slice none 0 0] 31 (0, 0))) := ⟨h5_⟩
    have n6_ : Aside0 (w32.heap[gb1017]? = some (.cells #[.int .i64 a0_0, v1006] 31 (0, 0))) := ⟨h6_⟩
    have n7_ : Aside0 (w.heap.size ≤ gb1017) := ⟨h7_⟩
    have n8_ : Aside0 (w.heap.size ≤ gb1017) := ⟨h8_⟩
    have n9_ : Aside0 (gb1000 ≠ gb1017) := ⟨h9_⟩
    have n10_ : Aside0 (gb1017 ≠ gb1000) := ⟨h10_⟩
    have n11_ : Aside0 (gb1001 ≠ gb1017) := ⟨h11_⟩
    have n12_ : Aside0 (gb1017 ≠ gb1001) := ⟨h12_⟩
    have n13_ : Aside0 (Below w.heap.size w w32) := ⟨h13_⟩
    clear BK1000 BK1001 HB
    clear h0_ h1_ h2_ h3_ h4_ h5_ h6_ h7_ h8_ h9_ h10_ h11_ h12_ h13_
    have HO1007 := n0_
    have HO1010 := n1_
    have HO1013 := n2_
    have HO1016 := n3_
    have BK1000 := n4_
    have BK1001 := n5_
    have BK1017 := n6_
    have GW1017 := n7_
    have GE1017 := n8_
    have := geI GE1017
    have NB1000_1017 := n9_
    have NB1017_1000 := n10_
    have NB1001_1017 := n11_
    have NB1017_1001 := n12_
    have HB := n13_
    clear n0_ n1_ n2_ n3_ n4_ n5_ n6_ n7_ n8_ n9_ n10_ n11_ n12_ n13_
    have hHeld : w32.cell? ⟨gb1000, 0, none⟩ = some (.int .i64 a0_0) ∧ w32.cell? ⟨gb1000, 1, none⟩ = some (.slice A0_1 l0_1.length c0_1) := hS_
    obtain ⟨Ao33, co33, eo33⟩ := Kd.R_slice HO1007.out
    (first | subst eo33 | (injection eo33 with f1_ f2_ f3_; have f4_ := f1_.symm; have f5_ := f3_.symm; clear f1_ f2_ f3_; subst f4_; subst f5_))
    refine norm_ (a' := ?_) ?_ ?_
    rotate_left
    ·simp only [putAll, Act.put, ls, lz, ln]
     rfl
    refine pu_ 11 9 (bl 13 4095) HT_ ?_
    refine pu_ 12 10 (bl 13 8191) HT_ ?_
    refine done_ (done_of HT_.out (by kernel_rfl)) ?_
    try go_wp2
    go_loopg [9, 11] k (fun kq v9 v11 w' => ∃ (x9_1 : List Int) (x11_1 : Int) (x1018001_1 : List Int) (u1018001 : Value), v11 = .int .i64 x11_1 ∧ Aside0 (spec_AffineMoments.l0 kq x9_1 t1014 x11_1 a0_0 l0_1 a0_0 x1018001_1 = some (r1, r2, r3)) ∧ Aside0 (kq ≤ k) ∧ Aside0 (Kd.R (Kd.int .i64) 2 w' w.heap.size (fun k_ => some k_ ≠ (v1015 : Value).ownBlock ∧ some k_ ≠ (u1018001 : Value).ownBlock) v9 x9_1) ∧ Aside0 (Kd.R (Kd.int .i64) 2 w' w.heap.size (fun k_ => some k_ ≠ (v9 : Value).ownBlock ∧ some k_ ≠ (u1018001 : Value).ownBlock) v1015 t1014) ∧ Aside0 (Kd.R (Kd.int .i64) 2 w' w.heap.size (fun k_ => some k_ ≠ (v9 : Value).ownBlock ∧ some k_ ≠ (v1015 : Value).ownBlock) u1018001 x1018001_1) ∧ Aside0 (w'.heap[gb1000]? = some (.cells #[.int .i64 a0_0, (.slice A0_1 l0_1.length c0_1)] 31 (0, 0))) ∧ Aside0 (w'.heap[gb1001]? = some (.cells #[.int .i64 0, (.slice none 0 0)] 31 (0, 0))) ∧ Aside0 (w'.heap[gb1017]? = some (.cells #[.int .i64 a0_0, u1018001] 31 (0, 0))) ∧ Aside0 (Below w.heap.size w w'))
    case atStart => exact ⟨(y1008), (0), (y1005), (.slice Ao33 y1005.length co33), (by first | rfl | (simp; done) | (simp [*]; done)), H', ⟨Nat.le_refl _⟩, ⟨uR (Kd.R_mono HO1010.out (fun _ hk => ⟨hk.2.2, hk.1⟩))⟩, ⟨uR (Kd.R_mono HO1016.out (fun _ hk => ⟨hk.2.1, hk.1⟩))⟩, ⟨uR (Kd.R_mono HO1007.out (fun _ hk => ⟨hk.1, hk.2.2⟩))⟩, ⟨uB BK1000.out⟩, ⟨uB BK1001.out⟩, ⟨uB BK1017.out⟩, ⟨uH HB.out⟩⟩
    case round =>
     clear H'
     (try clear p2);(try clear c9)
     obtain ⟨x9_1, x11_1, x1018001_1, u1018001, rfl, HA, HK1, HO_9, HO_10, HO_1018001, BK1000, BK1001, BK1017, HB⟩ := hrel
     cases gk with
     | zero => exact absurd HA.out (by simp [spec_AffineMoments.l0])
     | succ k1 =>
      have H := HA.out
      clear HA
      simp only [spec_AffineMoments.l0] at H
      by_cases c34 : x11_1 < (l0_1.length : Int)
      rotate_left
      ·rw [if_neg c34] at H
       have c34b0 : decide (x11_1 < (l0_1.length : Int)) = false := decide_eq_false c34
       clear c34
       simp only [Option.some.injEq, Prod.mk.injEq] at H
       obtain ⟨rfl, rfl, rfl⟩ := H
       have hnb50 := NB1000_1001.out; have hnc50 := NB1001_1000.out; have hnb51 := NB1000_1017.out; have hnc51 := NB1017_1000.out
       have hcz52_0 := bc BK1000 0
       have hcz52_1 := bc BK1000 1
       have hfz52_0 := bf BK1000 0
       have hfz52_1 := bf BK1000 1
       have hnb53 := NB1017_1001.out; have hnc53 := NB1001_1017.out
       have hcz54_0 := bc BK1017 0
       have hcz54_1 := bc BK1017 1
       have hfz54_0 := bf BK1017 0
       have hfz54_1 := bf BK1017 1
       have hcz55_0 := bc BK1001 0
       have hcz55_1 := bc BK1001 1
       have hfz55_0 := bf BK1001 0
       have hfz55_1 := bf BK1001 1
       obtain ⟨Ao56, co56, eo56⟩ := Kd.R_slice HO_1018001.out
       subst eo56
       go_wp2
       refine bodyPost_ret (results_ct rfl _ _ gb1001 31 #[.int .i64 a0_0, .slice Ao56 x1018001_1.length co56] (0, 0) _ rfl (by (repeat refine up1 ?_); refine blk_put (cs := #[.int .i64 a0_0, .slice none 0 0]) ?_ 1 _ rfl; (repeat refine up1 ?_); refine blk_put (cs := #[.int .i64 0, .slice none 0 0]) ?_ 0 _ rfl; (repeat refine up1 ?_); exact BK1001.out) Try.underlying31 rfl (by kernel_rfl)) rfl ?_
       exact ⟨_, by first | rfl | (simp [errW_none, errW_some] <;> rfl) | (simp [*, errW_none, errW_some] <;> rfl), uR (Kd.R_mono (Kd.R_far (p := ⟨gb1001, 1, none⟩) (Kd.R_far (p := ⟨gb1001, 0, none⟩) (Kd.R_types HO_1018001.out BK1001.out (by decide)) (fun _ hk => hk.2) (.int .i64 a0_0)) (fun _ hk => hk.2) (.slice Ao56 x1018001_1.length co56)) (fun _ hk => trivial)), uH HB.out⟩
      rw [if_pos c34] at H
      have c34b0 : decide (x11_1 < (l0_1.length : Int)) = true := decide_eq_true c34
      clear c34
      replace H := Option.bind_eq_some_iff.mp H
      obtain ⟨t1018, A350, H⟩ := H
      replace H : (if x1018001_1.length < 17592186044416 then ((spec_l01Times.f k1 a0_0 x9_1 t1014).bind fun t1022 => (spec_AffineMoments.l0 k1 t1022 t1014 (wrap64 (x11_1 + 1)) a0_0 l0_1 a0_0 (x1018001_1 ++ [t1018]))) else (none)) = some (r1, r2, r3) := H
      have A35 := zA A350
      clear A350
      by_cases c36 : x1018001_1.length < 17592186044416
      rotate_left
      ·rw [if_neg c36] at H
       exact absurd H (by simp)
      rw [if_pos c36] at H
      have LMc36 := zA c36
      clear c36
      obtain ⟨y1019, hy1019⟩ : ∃ y_ : List Int, y_ = (x1018001_1 ++ [t1018]) := ⟨_, rfl⟩
      replace H : ((spec_l01Times.f k1 a0_0 x9_1 t1014).bind fun t1022 => (spec_AffineMoments.l0 k1 t1022 t1014 (wrap64 (x11_1 + 1)) a0_0 l0_1 a0_0 y1019)) = some (r1, r2, r3) := by first | (rw [hy1019]; exact H) | exact H
      have Ny1019 := zA hy1019
      clear hy1019
      replace H := Option.bind_eq_some_iff.mp H
      obtain ⟨t1022, A370, H⟩ := H
      replace H : (spec_AffineMoments.l0 k1 t1022 t1014 (wrap64 (x11_1 + 1)) a0_0 l0_1 a0_0 y1019) = some (r1, r2, r3) := H
      have A37 := zA A370
      clear A370
      have H' := zA H
      clear H
      have hnb38 := NB1000_1001.out; have hnc38 := NB1001_1000.out; have hnb39 := NB1000_1017.out; have hnc39 := NB1017_1000.out
      have hcz40_0 := bc BK1000 0
      have hcz40_1 := bc BK1000 1
      have hfz40_0 := bf BK1000 0
      have hfz40_1 := bf BK1000 1
      try go_wp2
      replace HO_9 := zA (Kd.R_drew HO_9.out)
      replace HO_10 := zA (Kd.R_drew HO_10.out)
      replace HO_1018001 := zA (Kd.R_drew HO_1018001.out)
      replace BK1000 := zA (blk_drew BK1000.out)
      replace BK1001 := zA (blk_drew BK1001.out)
      replace BK1017 := zA (blk_drew BK1017.out)
      replace HB := zA (below_drew1 HB.out)
      obtain ⟨Ao42, co42, eo42⟩ := Kd.R_slice HO_9.out
      (first | subst eo42 | (injection eo42 with f1_ f2_ f3_; have f4_ := f1_.symm; have f5_ := f3_.symm; clear f1_ f2_ f3_; subst f4_; subst f5_))
      refine start_ (n := 9) (S := fun w' => w'.cell? ⟨gb1017, 0, none⟩ = some (.int .i64 a0_0) ∧ w'.cell? ⟨gb1017, 1, none⟩ = some (u1018001) ∧ w'.cell? ⟨gb1000, 0, none⟩ = some (.int .i64 a0_0) ∧ w'.cell? ⟨gb1000, 1, none⟩ = some (.slice A0_1 l0_1.length c0_1)) (ds := [8]) #[false, false, false, false, false, false, false, false, false] (by kernel_rfl) rfl rfl ⟨bcu BK1017 0, bcu BK1017 1, bcu BK1000 0, bcu BK1000 1⟩ (fun hHeld => ?_); refine with_tabW spec_AffineMoments.tab9 spec_AffineMoments.bits9 (fun HT_ HW_ => ?_)
      generalize wr.drew = w41 at HO_9 HO_10 HO_1018001 BK1000 BK1001 BK1017 HB hHeld ⊢
      refine pu_ 0 49 (bl 9 1) HT_ ?_
      refine pu_ 3 52 (bl 9 9) HT_ ?_
      refine ta_ 1 50 (bl 9 11) HT_ HW_ hHeld ?_
      refine ta_ 2 51 (bl 9 15) HT_ HW_ hHeld ?_
      refine on_ 4 (some 53) (bl 9 31) HT_ (fun K hK => ?_)
      refine gS Try.func97 #[.agg #[.int .i64 a0_0, .slice A0_1 l0_1.length c0_1], .slice Ao42 x9_1.length co42, .int .i64 0] ?_
      with_reducible refine (spec_l02Apply.calls k1 a0_0 _ _ l0_1 _ _ x9_1 0 t1018 _ ?side1 ?side2 ?side3 ?side4 A35.out).mono ?_
      (case side1 => exact uC ((Kd.C_below HR0_1.out HB.out)))
      (case side2 => exact HC0_1.out)
      (case side3 => exact uC ((Kd.R_reads' HO_9.out).2.2))
      (case side4 => exact (Kd.R_reads' HO_9.out).2.1)
      rintro e w43 ⟨rfl, hb⟩
      refine ⟨_, rfl, ?_⟩
      replace HO_9 := xR HO_9 hb
      replace HO_10 := xR HO_10 hb
      replace HO_1018001 := xR HO_1018001 hb
      replace BK1000 := xB BK1000 hb
      replace BK1001 := xB BK1001 hb
      replace BK1017 := xB BK1017 hb
      replace HB := xH HB hb
      (try clear hb); (try clear hb2); (try clear hk); (try clear hi)
      refine hK.out _ _ ⟨bcu BK1017 0, bcu BK1017 1, bcu BK1000 0, bcu BK1000 1⟩ (fun hHeld => ?_)
      clear hK K
      refine no_ 53 ?_
      refine on_ 5 (some 54) (bl 9 63) HT_ (fun K hK => ?_)
      refine value_ (w1 := ?_) (v := ?_) (by rfl) rfl ?_ ?_
      rotate_left 2
      ·go_simp
       constructor
       ·rfl
       ·rfl
      refine hK.out _ _ ⟨(blk_cell (blk_alloc BK1017.out _) 0).trans rfl, (blk_cell (blk_alloc BK1017.out _) 1).trans rfl, (blk_cell (blk_alloc BK1000.out _) 0).trans rfl, (blk_cell (blk_alloc BK1000.out _) 1).trans rfl⟩ (fun hHeld => ?_)
      clear hK K
      refine no_ 54 ?_
      refine on_ 6 (some 55) (bl 9 127) HT_ (fun K hK => ?_)
      refine Kd.R_append_step (Kd.int .i64) (w0 := w) w.heap.size (by rfl) (.tmp 50) (.tmp 54) 22 2 (.int .i64 0) 8 rfl Try.underlying22 info2 rfl (by decide) (by omega) u1018001 x1018001_1 t1018 [.int .i64 t1018] (fun k_ => ax k_ (.slice Ao42 x9_1.length co42) ∧ some k_ ≠ (v1015 : Value).ownBlock) (fun _ => False) rfl rfl ?aP (fun _ hk => hk.elim) ?aF ?aO ?aB ?aS ?aL ?_
      (case aP => exact rfl)
      (case aB => exact (uH HB.out))
      (case aF => exact (fun k_ hk => ⟨Kd.fresh' (Kd.R_lt (uR HO_9.out)) k_ hk, Kd.fresh' (Kd.R_lt (uR HO_10.out)) k_ hk⟩))
      (case aO => exact (uR HO_1018001.out))
      (case aS => exact (below_size (uH HB.out)))
      (case aL => have := LMc36.out; omega)
      intro v1020 w44 ho hb hg hat
      rw [← Ny1019.out] at ho
      replace HO_9 := zA (Kd.R_after (ok := (fun k_ => some k_ ≠ (v1015 : Value).ownBlock)) (uR HO_9.out) hg hat)
      replace HO_10 := zA (Kd.R_after (ok := (fun k_ => ax k_ (.slice Ao42 x9_1.length co42))) (uR HO_10.out) hg hat)
      replace BK1000 := zA (blk_grown (g := gb1000) (o := .cells #[.int .i64 a0_0, .slice A0_1 l0_1.length c0_1] 31 (0, 0)) (uB BK1000.out) hg (Kd.R_ne HO_1018001.out BK1000.out (by decide)))
      replace BK1001 := zA (blk_grown (g := gb1001) (o := .cells #[.int .i64 0, .slice none 0 0] 31 (0, 0)) (uB BK1001.out) hg (Kd.R_ne HO_1018001.out BK1001.out (by decide)))
      replace BK1017 := zA (blk_grown (g := gb1017) (o := .cells #[.int .i64 a0_0, u1018001] 31 (0, 0)) (uB BK1017.out) hg (Kd.R_ne HO_1018001.out BK1017.out (by decide)))
      replace HB := zA (hb)
      have HO1021 := zA (ho)
      clear HO_1018001
      clear ho hb hg hat
      obtain ⟨Ao45, co45, eo45⟩ := Kd.R_slice HO1021.out
      (first | subst eo45 | (injection eo45 with f1_ f2_ f3_; have f4_ := f1_.symm; have f5_ := f3_.symm; clear f1_ f2_ f3_; subst f4_; subst f5_))
      refine hK.out _ _ ⟨bcu BK1017 0, bcu BK1017 1, bcu BK1000 0, bcu BK1000 1⟩ (fun hHeld => ?_)
      clear hK K
      refine no_ 55 ?_
      refine pu_ 7 56 (bl 9 255) HT_ ?_
      refine last_ (i := 8) (N := none) (bl 9 511) rfl rfl (one_of HT_.out (by kernel_rfl)) (by decide) (fun K hK => ?_)
      have hs46 : w44.cell? ⟨gb1017, 1, none⟩ = some (u1018001) := (blk_cell BK1017.out 1).trans rfl
      have hfs46 := bf BK1017 1
      have hns46_0 := NB1000_1017.out; have hns46_1 := NB1001_1017.out; have hms46_0 := NB1017_1000.out; have hms46_1 := NB1017_1001.out
      refine skip_ (w1 := ?_) (by rfl) rfl ?_ ?_
      rotate_left
      ·go_simp
       rfl
      refine hK.out _ _ ?_
      clear hK K
      refine done_ (done_of HT_.out (by kernel_rfl)) ?_
      have hcz47_0 := bc BK1000 0
      have hcz47_1 := bc BK1000 1
      have hfz47_0 := bf BK1000 0
      have hfz47_1 := bf BK1000 1
      obtain ⟨Ao48, co48, eo48⟩ := Kd.R_slice HO_10.out
      subst eo48
      try go_wp2_with (first | ((with_reducible refine gate_callee (f := 98) rfl ?_); refine gL (some 61) Try.func98 #[.int .i64 a0_0, .slice Ao42 x9_1.length co42, .slice Ao48 t1014.length co48] ?_; (with_reducible refine (spec_l01Times.calls k1 a0_0 _ _ x9_1 _ _ t1014 t1022 _ ?side1 ?side2 ?side3 ?side4 A37.out).mono ?_); (case side1 => refine (Kd.R_reads' (e := 2) (base := w.heap.size) (ok := fun k_ => (ax k_ (.slice Ao48 t1014.length co48) ∧ ax k_ (.slice Ao45 y1019.length co45))) (n := x9_1.length) (c := co42) ?_).2.2; exact (uR ((Kd.R_mono (Kd.R_far (p := ⟨gb1017, 1, none⟩) (Kd.R_types HO_9.out BK1017.out (by decide)) (fun _ hk => hk.2) (.slice Ao45 y1019.length co45)) (fun _ h_ => h_.1))))); (case side2 => exact (Kd.R_reads' HO_9.out).2.1); (case side3 => refine (Kd.R_reads' (e := 2) (base := w.heap.size) (ok := fun k_ => (ax k_ (.slice Ao42 x9_1.length co42) ∧ ax k_ (.slice Ao45 y1019.length co45))) (n := t1014.length) (c := co48) ?_).2.2; exact (uR ((Kd.R_mono (Kd.R_far (p := ⟨gb1017, 1, none⟩) (Kd.R_types HO_10.out BK1017.out (by decide)) (fun _ hk => hk.2) (.slice Ao45 y1019.length co45)) (fun _ h_ => h_.1))))); (case side4 => exact (Kd.R_reads' HO_10.out).2.1); rintro e w49 ⟨v1023, rfl, ho0, hb⟩; refine ⟨_, rfl, ?_⟩; have HO1024 := zA (Kd.R_lower (Kd.R_new' (Kd.R_new' (Kd.R_new' ho0 (Kd.R_lt (uR ((Kd.R_mono (Kd.R_far (p := ⟨gb1017, 1, none⟩) (Kd.R_types HO_9.out BK1017.out (by decide)) (fun _ hk => hk.2) (.slice Ao45 y1019.length co45)) (fun _ h_ => h_.1)))))) (Kd.R_lt (uR ((Kd.R_mono (Kd.R_far (p := ⟨gb1017, 1, none⟩) (Kd.R_types HO_10.out BK1017.out (by decide)) (fun _ hk => hk.2) (.slice Ao45 y1019.length co45)) (fun _ h_ => h_.1)))))) (Kd.R_lt (uR ((Kd.R_mono (Kd.R_far (p := ⟨gb1017, 1, none⟩) (Kd.R_types HO1021.out BK1017.out (by decide)) (fun _ hk => hk.2) (.slice Ao45 y1019.length co45)) (fun _ h_ => h_.1)))))) (below_size (uH HB.out))); replace HO_9 := zA (Kd.R_elder' (uR ((Kd.R_mono (Kd.R_far (p := ⟨gb1017, 1, none⟩) (Kd.R_types HO_9.out BK1017.out (by decide)) (fun _ hk => hk.2) (.slice Ao45 y1019.length co45)) (fun _ h_ => h_.1)))) (Kd.R_base ho0) hb); replace HO_10 := zA (Kd.R_elder' (uR ((Kd.R_mono (Kd.R_far (p := ⟨gb1017, 1, none⟩) (Kd.R_types HO_10.out BK1017.out (by decide)) (fun _ hk => hk.2) (.slice Ao45 y1019.length co45)) (fun _ h_ => h_.1)))) (Kd.R_base ho0) hb); replace HO1021 := zA (Kd.R_elder' (uR ((Kd.R_mono (Kd.R_far (p := ⟨gb1017, 1, none⟩) (Kd.R_types HO1021.out BK1017.out (by decide)) (fun _ hk => hk.2) (.slice Ao45 y1019.length co45)) (fun _ h_ => h_.1)))) (Kd.R_base ho0) hb); replace BK1000 := zA (blk_below (g := gb1000) (o := .cells #[.int .i64 a0_0, .slice A0_1 l0_1.length c0_1] 31 (0, 0)) (by (repeat refine up1 ?_); refine blk_far ?_ NB1000_1017.out _; (repeat refine up1 ?_); exact BK1000.out) hb); replace BK1001 := zA (blk_below (g := gb1001) (o := .cells #[.int .i64 0, .slice none 0 0] 31 (0, 0)) (by (repeat refine up1 ?_); refine blk_far ?_ NB1001_1017.out _; (repeat refine up1 ?_); exact BK1001.out) hb); replace BK1017 := zA (blk_below (g := gb1017) (o := .cells #[.int .i64 a0_0, .slice Ao45 y1019.length co45] 31 (0, 0)) (by (repeat refine up1 ?_); refine blk_put (cs := #[.int .i64 a0_0, u1018001]) ?_ 1 _ rfl; (repeat refine up1 ?_); exact BK1017.out) hb); replace HB := xH HB hb; (try clear hb); (try clear hb2); (try clear hk); (try clear hi); (try clear ho0)))
      go_roundg k1
      case measure => have := HK1.out; omega
      case rel => exact ⟨(t1022), (wrap64 (x11_1 + 1)), (y1019), (.slice Ao45 y1019.length co45), (by first | rfl | (simp; done) | (simp [*]; done)), H', ⟨by have := HK1.out; omega⟩, ⟨uR (Kd.R_mono HO1024.out (fun _ hk => ⟨hk.1.2, hk.2⟩))⟩, ⟨uR (Kd.R_mono HO_10.out (fun _ hk => ⟨hk.2, hk.1.2⟩))⟩, ⟨uR (Kd.R_mono HO1021.out (fun _ hk => ⟨hk.2, hk.1.2⟩))⟩, ⟨uB BK1000.out⟩, ⟨uB BK1001.out⟩, ⟨uB BK1017.out⟩, ⟨uH HB.out⟩⟩
   ·replace c9 := Bool.eq_false_iff.mpr c9
    subst c9
    have H1 : (some (0, ([] : List Int), 2)) = some (r1, r2, r3) := by rw [if_neg (show ¬ (false = true) by decide)] at H; exact H
    clear H
    have H := H1
    clear H1
    simp only [Option.some.injEq, Prod.mk.injEq] at H
    obtain ⟨rfl, rfl, rfl⟩ := H
    go_enter Try.func43, Try.ntmps43
    go_wp2_with (first | ((with_reducible refine gate_dst (N := 3) rfl ?_); refine bx 3 #[.int .i64 a0_0, .slice A0_1 l0_1.length c0_1] 31 ?_; intro gb1000 hg w57 hbox hb; have BK1000 := zA (hbox); have GW1000 := gq HB hg; have GE1000 := gq HB hg; replace HB := xH HB hb; have := geI GE1000; clear hb hbox hg) | ((with_reducible refine gate_dst (N := 6) rfl ?_); refine bx 6 #[.int .i64 0, .slice none 0 0] 31 ?_; intro gb1001 hg w58 hbox hb; have BK1001 := zA (hbox); have GW1001 := gq HB hg; have GE1001 := gq HB hg; replace HB := xH HB hb; have NB1000_1001 := zA ((by rw [hg]; exact neL BK1000 : gb1000 ≠ gb1001)); have NB1001_1000 := zA ((by rw [hg]; exact neG BK1000 : gb1001 ≠ gb1000)); replace BK1000 := xB BK1000 hb; have := geI GE1001; clear hb hbox hg; have hnb59 := NB1000_1001.out; have hnc59 := NB1001_1000.out; have hcz60_0 := bc BK1000 0; have hcz60_1 := bc BK1000 1; have hfz60_0 := bf BK1000 0; have hfz60_1 := bf BK1000 1) | ((with_reducible refine gate_callee (f := 57) rfl ?_); refine gL (some 14) Try.func57 #[.agg #[.int .i64 a0_0, .slice A0_1 l0_1.length c0_1]] ?_; (with_reducible refine (spec_l02Are.calls k a0_0 _ _ l0_1 true _ ?side1 ?side2 A4.out).mono ?_); (case side1 => exact uC ((Kd.C_below HR0_1.out HB.out))); (case side2 => exact HC0_1.out); rintro e w61 ⟨rfl, hb⟩; refine ⟨_, rfl, ?_⟩; replace BK1000 := xB BK1000 hb; replace BK1001 := xB BK1001 hb; replace HB := xH HB hb; (try clear hb); (try clear hb2); (try clear hk); (try clear hi); have hcz62_0 := bc BK1000 0; have hcz62_1 := bc BK1000 1; have hfz62_0 := bf BK1000 0; have hfz62_1 := bf BK1000 1) | ((with_reducible refine gate_callee (f := 70) rfl ?_); refine gL (some 22) Try.func70 #[.int .i64 a1, .int .i64 0, .int .i64 (wrap64 (a0_0 - 1))] ?_; (with_reducible refine (spec_l01In.calls a1 0 (wrap64 (a0_0 - 1)) true _ A6.out).mono ?_); rintro e w' ⟨rfl, ⟨nd, rfl⟩⟩; refine ⟨_, rfl, ?_⟩; (try (rw [drewN_self w61]; generalize hq_ : World.drewN w61 _ = w61; have n0_ : Aside0 (w61.heap[gb1000]? = some (.cells #[.int .i64 a0_0, .slice A0_1 l0_1.length c0_1] 31 (0, 0))) := ⟨by rw [← hq_]; exact (uB BK1000.out)⟩; have n1_ : Aside0 (w61.heap[gb1001]? = some (.cells #[.int .i64 0, .slice none 0 0] 31 (0, 0))) := ⟨by rw [← hq_]; exact (uB BK1001.out)⟩; have n2_ : Aside0 (Below w.heap.size w w61) := ⟨by rw [← hq_]; exact (uH HB.out)⟩; clear BK1000 BK1001 HB hq_; have BK1000 := n0_; have BK1001 := n1_; have HB := n2_; clear n0_ n1_ n2_)); (try have hcuy63_0 : w61.cell? ⟨gb1000, 0, none⟩ = some (.int .i64 a0_0) := (blk_cell BK1000.out 0).trans rfl); (try have hcuy63_1 : w61.cell? ⟨gb1000, 1, none⟩ = some (.slice A0_1 l0_1.length c0_1) := (blk_cell BK1000.out 1).trans rfl)) | (go_at_call 70; (with_reducible refine (spec_l01In.calls a2 0 (wrap64 (a0_0 - 1)) false _ A8.out).mono ?_); rintro e w' ⟨rfl, ⟨nd, rfl⟩⟩; (try (rw [drewN_self w61]; generalize hq_ : World.drewN w61 _ = w61; have n0_ : Aside0 (w61.heap[gb1000]? = some (.cells #[.int .i64 a0_0, .slice A0_1 l0_1.length c0_1] 31 (0, 0))) := ⟨by rw [← hq_]; exact (uB BK1000.out)⟩; have n1_ : Aside0 (w61.heap[gb1001]? = some (.cells #[.int .i64 0, .slice none 0 0] 31 (0, 0))) := ⟨by rw [← hq_]; exact (uB BK1001.out)⟩; have n2_ : Aside0 (Below w.heap.size w w61) := ⟨by rw [← hq_]; exact (uH HB.out)⟩; clear BK1000 BK1001 HB hq_; have BK1000 := n0_; have BK1001 := n1_; have HB := n2_; clear n0_ n1_ n2_)); (try have hcuy64_0 : w61.cell? ⟨gb1000, 0, none⟩ = some (.int .i64 a0_0) := (blk_cell BK1000.out 0).trans rfl); (try have hcuy64_1 : w61.cell? ⟨gb1000, 1, none⟩ = some (.slice A0_1 l0_1.length c0_1) := (blk_cell BK1000.out 1).trans rfl); have hcz65_0 := bc BK1001 0; have hcz65_1 := bc BK1001 1; have hfz65_0 := bf BK1001 0; have hfz65_1 := bf BK1001 1))
    refine bodyPost_ret (results_ct rfl _ _ gb1001 31 #[.int .i64 0, .slice none 0 0] (0, 0) _ rfl (by (repeat refine up1 ?_); refine blk_put (cs := #[.int .i64 0, .slice none 0 0]) ?_ 1 _ rfl; (repeat refine up1 ?_); refine blk_put (cs := #[.int .i64 0, .slice none 0 0]) ?_ 0 _ rfl; (repeat refine up1 ?_); exact BK1001.out) Try.underlying31 rfl (by kernel_rfl)) rfl ?_
    exact ⟨_, by first | rfl | (simp [errW_none, errW_some] <;> rfl) | (simp [*, errW_none, errW_some] <;> rfl), by first | exact Kd.R_nil _ _ _ _ _ | exact Kd.N_nil _ _ _ _ _ | exact Kd.V_nil _ _ _ _ _ | exact Kd.Q_nil _ _ _ _ _ | exact Kd.S_nil _ _ _ _ _, uH HB.out⟩
  ·replace c7 := Bool.eq_false_iff.mpr c7
   subst c7
   have H1 : (some (0, ([] : List Int), 2)) = some (r1, r2, r3) := by rw [if_neg (show ¬ (false = true) by decide)] at H; exact H
   clear H
   have H := H1
   clear H1
   simp only [Option.some.injEq, Prod.mk.injEq] at H
   obtain ⟨rfl, rfl, rfl⟩ := H
   go_enter Try.func43, Try.ntmps43
   go_wp2_with (first | ((with_reducible refine gate_dst (N := 3) rfl ?_); refine bx 3 #[.int .i64 a0_0, .slice A0_1 l0_1.length c0_1] 31 ?_; intro gb1000 hg w66 hbox hb; have BK1000 := zA (hbox); have GW1000 := gq HB hg; have GE1000 := gq HB hg; replace HB := xH HB hb; have := geI GE1000; clear hb hbox hg) | ((with_reducible refine gate_dst (N := 6) rfl ?_); refine bx 6 #[.int .i64 0, .slice none 0 0] 31 ?_; intro gb1001 hg w67 hbox hb; have BK1001 := zA (hbox); have GW1001 := gq HB hg; have GE1001 := gq HB hg; replace HB := xH HB hb; have NB1000_1001 := zA ((by rw [hg]; exact neL BK1000 : gb1000 ≠ gb1001)); have NB1001_1000 := zA ((by rw [hg]; exact neG BK1000 : gb1001 ≠ gb1000)); replace BK1000 := xB BK1000 hb; have := geI GE1001; clear hb hbox hg; have hnb68 := NB1000_1001.out; have hnc68 := NB1001_1000.out; have hcz69_0 := bc BK1000 0; have hcz69_1 := bc BK1000 1; have hfz69_0 := bf BK1000 0; have hfz69_1 := bf BK1000 1) | ((with_reducible refine gate_callee (f := 57) rfl ?_); refine gL (some 14) Try.func57 #[.agg #[.int .i64 a0_0, .slice A0_1 l0_1.length c0_1]] ?_; (with_reducible refine (spec_l02Are.calls k a0_0 _ _ l0_1 true _ ?side1 ?side2 A4.out).mono ?_); (case side1 => exact uC ((Kd.C_below HR0_1.out HB.out))); (case side2 => exact HC0_1.out); rintro e w70 ⟨rfl, hb⟩; refine ⟨_, rfl, ?_⟩; replace BK1000 := xB BK1000 hb; replace BK1001 := xB BK1001 hb; replace HB := xH HB hb; (try clear hb); (try clear hb2); (try clear hk); (try clear hi); have hcz71_0 := bc BK1000 0; have hcz71_1 := bc BK1000 1; have hfz71_0 := bf BK1000 0; have hfz71_1 := bf BK1000 1) | ((with_reducible refine gate_callee (f := 70) rfl ?_); refine gL (some 22) Try.func70 #[.int .i64 a1, .int .i64 0, .int .i64 (wrap64 (a0_0 - 1))] ?_; (with_reducible refine (spec_l01In.calls a1 0 (wrap64 (a0_0 - 1)) false _ A6.out).mono ?_); rintro e w' ⟨rfl, ⟨nd, rfl⟩⟩; refine ⟨_, rfl, ?_⟩; (try (rw [drewN_self w70]; generalize hq_ : World.drewN w70 _ = w70; have n0_ : Aside0 (w70.heap[gb1000]? = some (.cells #[.int .i64 a0_0, .slice A0_1 l0_1.length c0_1] 31 (0, 0))) := ⟨by rw [← hq_]; exact (uB BK1000.out)⟩; have n1_ : Aside0 (w70.heap[gb1001]? = some (.cells #[.int .i64 0, .slice none 0 0] 31 (0, 0))) := ⟨by rw [← hq_]; exact (uB BK1001.out)⟩; have n2_ : Aside0 (Below w.heap.size w w70) := ⟨by rw [← hq_]; exact (uH HB.out)⟩; clear BK1000 BK1001 HB hq_; have BK1000 := n0_; have BK1001 := n1_; have HB := n2_; clear n0_ n1_ n2_)); (try have hcuy72_0 : w70.cell? ⟨gb1000, 0, none⟩ = some (.int .i64 a0_0) := (blk_cell BK1000.out 0).trans rfl); (try have hcuy72_1 : w70.cell? ⟨gb1000, 1, none⟩ = some (.slice A0_1 l0_1.length c0_1) := (blk_cell BK1000.out 1).trans rfl); have hcz73_0 := bc BK1001 0; have hcz73_1 := bc BK1001 1; have hfz73_0 := bf BK1001 0; have hfz73_1 := bf BK1001 1))
   refine bodyPost_ret (results_ct rfl _ _ gb1001 31 #[.int .i64 0, .slice none 0 0] (0, 0) _ rfl (by (repeat refine up1 ?_); refine blk_put (cs := #[.int .i64 0, .slice none 0 0]) ?_ 1 _ rfl; (repeat refine up1 ?_); refine blk_put (cs := #[.int .i64 0, .slice none 0 0]) ?_ 0 _ rfl; (repeat refine up1 ?_); exact BK1001.out) Try.underlying31 rfl (by kernel_rfl)) rfl ?_
   exact ⟨_, by first | rfl | (simp [errW_none, errW_some] <;> rfl) | (simp [*, errW_none, errW_some] <;> rfl), by first | exact Kd.R_nil _ _ _ _ _ | exact Kd.N_nil _ _ _ _ _ | exact Kd.V_nil _ _ _ _ _ | exact Kd.Q_nil _ _ _ _ _ | exact Kd.S_nil _ _ _ _ _, uH HB.out⟩
 ·replace c5 := Bool.eq_false_iff.mpr c5
  subst c5
  have H1 : (some (0, ([] : List Int), 1)) = some (r1, r2, r3) := by rw [if_neg (show ¬ (false = true) by decide)] at H; exact H
  clear H
  have H := H1
  clear H1
  simp only [Option.some.injEq, Prod.mk.injEq] at H
  obtain ⟨rfl, rfl, rfl⟩ := H
  go_enter Try.func43, Try.ntmps43
  go_wp2_with (first | ((with_reducible refine gate_dst (N := 3) rfl ?_); refine bx 3 #[.int .i64 a0_0, .slice A0_1 l0_1.length c0_1] 31 ?_; intro gb1000 hg w74 hbox hb; have BK1000 := zA (hbox); have GW1000 := gq HB hg; have GE1000 := gq HB hg; replace HB := xH HB hb; have := geI GE1000; clear hb hbox hg) | ((with_reducible refine gate_dst (N := 6) rfl ?_); refine bx 6 #[.int .i64 0, .slice none 0 0] 31 ?_; intro gb1001 hg w75 hbox hb; have BK1001 := zA (hbox); have GW1001 := gq HB hg; have GE1001 := gq HB hg; replace HB := xH HB hb; have NB1000_1001 := zA ((by rw [hg]; exact neL BK1000 : gb1000 ≠ gb1001)); have NB1001_1000 := zA ((by rw [hg]; exact neG BK1000 : gb1001 ≠ gb1000)); replace BK1000 := xB BK1000 hb; have := geI GE1001; clear hb hbox hg; have hnb76 := NB1000_1001.out; have hnc76 := NB1001_1000.out; have hcz77_0 := bc BK1000 0; have hcz77_1 := bc BK1000 1; have hfz77_0 := bf BK1000 0; have hfz77_1 := bf BK1000 1) | ((with_reducible refine gate_callee (f := 57) rfl ?_); refine gL (some 14) Try.func57 #[.agg #[.int .i64 a0_0, .slice A0_1 l0_1.length c0_1]] ?_; (with_reducible refine (spec_l02Are.calls k a0_0 _ _ l0_1 false _ ?side1 ?side2 A4.out).mono ?_); (case side1 => exact uC ((Kd.C_below HR0_1.out HB.out))); (case side2 => exact HC0_1.out); rintro e w78 ⟨rfl, hb⟩; refine ⟨_, rfl, ?_⟩; replace BK1000 := xB BK1000 hb; replace BK1001 := xB BK1001 hb; replace HB := xH HB hb; (try clear hb); (try clear hb2); (try clear hk); (try clear hi); have hcz79_0 := bc BK1001 0; have hcz79_1 := bc BK1001 1; have hfz79_0 := bf BK1001 0; have hfz79_1 := bf BK1001 1))
  refine bodyPost_ret (results_ct rfl _ _ gb1001 31 #[.int .i64 0, .slice none 0 0] (0, 0) _ rfl (by (repeat refine up1 ?_); refine blk_put (cs := #[.int .i64 0, .slice none 0 0]) ?_ 1 _ rfl; (repeat refine up1 ?_); refine blk_put (cs := #[.int .i64 0, .slice none 0 0]) ?_ 0 _ rfl; (repeat refine up1 ?_); exact BK1001.out) Try.underlying31 rfl (by kernel_rfl)) rfl ?_
  exact ⟨_, by first | rfl | (simp [errW_none, errW_some] <;> rfl) | (simp [*, errW_none, errW_some] <;> rfl), by first | exact Kd.R_nil _ _ _ _ _ | exact Kd.N_nil _ _ _ _ _ | exact Kd.V_nil _ _ _ _ _ | exact Kd.Q_nil _ _ _ _ _ | exact Kd.S_nil _ _ _ _ _, uH HB.out⟩

end Go.Proofs.Ytokkabgkjhpecaa.Pr
