/- Printed by a program of this session out of the translation: what these functions of the program compute, under the conditions that each theorem names. -/
import Derived.Test.YtjdannndpfkadaaKMoveRule1
import Derived.Test.YtjdannndpfkadaaKMoveRule3
import Derived.Test.YtjdannndpfkadaaKFspecl07Is
import Derived.Test.YtjdannndpfkadaaKFspecl07Put
namespace Go.Proofs.Ytjdannndpfkadaa.Pr
open Go.RowKit Go.Proofs.YtjdannndpfkadaaW.PrintWords Go.Proofs.YtjdannndpfkadaaW.PrintLast Go.Proofs.YtjdannndpfkadaaW.PrintMore
attribute [local go_sem] max2_int min2_int max_two min_two max_three min_three max_four min_four   -- for this text's walks alone
set_option linter.unusedVariables false
set_option linter.unusedSimpArgs false

/-! ### spec_MoveRule: function 32 -/
def spec_MoveRule.l0 : Nat → Int → Int → Int → Int → List Int → List Int → Int → List Int → List Int → Option (Int × List Int × List Int × Int)
 | 0, _, _, _, _, _, _, _, _, _ => none
 | k + 1, x1, x2, x9, x183000, x183001, x183002, x194000, x194001, x194002 => if x9 < (x183001.length : Int) then (if 0 ≤ x9 then (if x183000 = 0 then (none) else (if x9 < (x183002.length : Int) then ((spec_l07Put.f k x194000 x194001 x194002 (Int.tmod (wrap64 ((wrap64 (x1 * (rd x183001 x9))) + x2)) x183000) (rd x183002 x9)).bind fun bt196 => (spec_MoveRule.l0 k x1 x2 (wrap64 (x9 + 1)) x183000 x183001 x183002 bt196.1 bt196.2.1 bt196.2.2)) else (none))) else (none)) else (some (x194000, x194001, x194002, 0))
def spec_MoveRule.f (k : Nat) (a0_0 : Int) (l0_1 : List Int) (l0_2 : List Int) (a1 : Int) (a2 : Int) : Option (Int × List Int × List Int × Int) := (spec_l07Is.f k a0_0 l0_1 l0_2).bind fun t184 => (if t184 = true then ((spec_l01In.f a1 1 (wrap64 (a0_0 - 1))).bind fun t185 => (if t185 = true then ((spec_l01In.f a2 0 (wrap64 (a0_0 - 1))).bind fun t186 => (if t186 = true then (spec_MoveRule.l0 k a1 a2 0 a0_0 l0_1 l0_2 a0_0 (([] : List Int)) (([] : List Int))) else (some (0, ([] : List Int), ([] : List Int), 2)))) else (some (0, ([] : List Int), ([] : List Int), 2)))) else (some (0, ([] : List Int), ([] : List Int), 1)))
theorem spec_MoveRule.mono_l : ∀ k, (∀ y0 y1 y2 y3 y4 y5 y6 y7 y8, LeO (spec_MoveRule.l0 k y0 y1 y2 y3 y4 y5 y6 y7 y8) (spec_MoveRule.l0 (k + 1) y0 y1 y2 y3 y4 y5 y6 y7 y8))
 | 0 => fun _ _ _ _ _ _ _ _ _ r h => by simp [spec_MoveRule.l0] at h
 | k + 1 => by
  have ih0 := spec_MoveRule.mono_l k
  ·intro y0 y1 y2 y3 y4 y5 y6 y7 y8
   unfold spec_MoveRule.l0
   repeat' first
   | (with_reducible exact ih0 _ _ _ _ _ _ _ _ _)
   | (with_reducible exact spec_l07Is.mono _ _ _ _)
   | (with_reducible exact spec_l07Put.mono _ _ _ _ _ _)
   | (with_reducible exact LeO.refl _)
   | (with_reducible exact LeO.none _)
   | (with_reducible refine LeO.ite ?_ ?_)
   | (with_reducible refine LeO.bind ?_ (fun _ => ?_))
   | exact ih0 _ _ _ _ _ _ _ _ _
   | exact spec_l07Is.mono _ _ _ _
   | exact spec_l07Put.mono _ _ _ _ _ _
   | exact LeO.none _
   | refine LeO.ite ?_ ?_
   | refine LeO.bind ?_ (fun _ => ?_)
theorem spec_MoveRule.mono : ∀ a0 a1 a2 a3 a4 k, LeO (spec_MoveRule.f k a0 a1 a2 a3 a4) (spec_MoveRule.f (k + 1) a0 a1 a2 a3 a4) := by
 intro a0 a1 a2 a3 a4 k
 have ih0 := spec_MoveRule.mono_l k
 unfold spec_MoveRule.f
 repeat' first
   | (with_reducible exact ih0 _ _ _ _ _ _ _ _ _)
   | (with_reducible exact spec_l07Is.mono _ _ _ _)
   | (with_reducible exact spec_l07Put.mono _ _ _ _ _ _)
   | (with_reducible exact LeO.refl _)
   | (with_reducible exact LeO.none _)
   | (with_reducible refine LeO.ite ?_ ?_)
   | (with_reducible refine LeO.bind ?_ (fun _ => ?_))
   | exact ih0 _ _ _ _ _ _ _ _ _
   | exact spec_l07Is.mono _ _ _ _
   | exact spec_l07Put.mono _ _ _ _ _ _
   | exact LeO.none _
   | refine LeO.ite ?_ ?_
   | refine LeO.bind ?_ (fun _ => ?_)
def spec_MoveRule.T9 : Bool × List (List Nat × List Nat) := (true, [([], []), ([], []), ([], []), ([2], [2]), ([], []), ([3, 4], [3, 4]), ([5], [5]), ([1, 6], [1, 6]), ([], []), ([7, 8], [7, 8]), ([], []), ([10], [10]), ([9, 11], [9, 11]), ([], []), ([13], [13]), ([], []), ([14, 15], [14, 15]), ([16], [16]), ([0, 12, 17], [0, 12, 17]), ([18, 18, 0, 1, 2, 3, 4, 5, 6, 7, 8, 9, 10, 11, 12, 13, 14, 15, 16, 17, 18], [18])])
def spec_MoveRule.B9 : List Nat := [0, 0, 0, 4, 0, 28, 60, 126, 0, 510, 0, 1024, 4094, 0, 8192, 0, 57344, 122880, 262143, 524287]
theorem spec_MoveRule.tab9 : rtab .any (opsOf Try.f32 9) = spec_MoveRule.T9 := by kernel_rfl
theorem spec_MoveRule.bits9 : waitsOk spec_MoveRule.T9.2 spec_MoveRule.B9 = true := by kernel_rfl
set_option maxHeartbeats 8000000 in
set_option maxRecDepth 100000 in
theorem spec_MoveRule.calls (k : Nat) (a0_0 : Int) (A0_1 : Option Addr) (c0_1 : Nat) (l0_1 : List Int) (A0_2 : Option Addr) (c0_2 : Nat) (l0_2 : List Int) (a1 : Int) (a2 : Int) (r1 : Int) (r2 : List Int) (r3 : List Int) (r4 : Int) (w : World) (hr0_1 : Kd.C (Kd.int .i64) w A0_1 l0_1.length l0_1) (hc0_1 : l0_1.length ≤ c0_1) (hr0_2 : Kd.C (Kd.int .i64) w A0_2 l0_2.length l0_2) (hc0_2 : l0_2.length ≤ c0_2) (h : spec_MoveRule.f k a0_0 l0_1 l0_2 a1 a2 = some (r1, r2, r3, r4)) :
  Calls Try.prog 32 #[.agg #[.int .i64 a0_0, .slice A0_1 l0_1.length c0_1, .slice A0_2 l0_2.length c0_2], .int .i64 a1, .int .i64 a2] w fun e w' => ∃ v1_ v2_ : Value, e = .returned (.tuple #[.agg #[.int .i64 r1, v1_, v2_], .int .i64 r4]) ∧ Kd.R (Kd.int .i64) 2 w' w.heap.size (fun k_ => some k_ ≠ (v2_ : Value).ownBlock) v1_ r2 ∧ Kd.R (Kd.int .i64) 2 w' w.heap.size (fun k_ => some k_ ≠ (v1_ : Value).ownBlock) v2_ r3 ∧ Below w.heap.size w w' := by
 have hu51 := Try.underlying51
 have HR0_1 := zA hr0_1
 have HC0_1 := zA hc0_1
 clear hr0_1 hc0_1
 have HR0_2 := zA hr0_2
 have HC0_2 := zA hc0_2
 clear hr0_2 hc0_2
 have HB := zA (Below.refl w.heap.size w)
 have H : ((spec_l07Is.f k a0_0 l0_1 l0_2).bind fun t184 => (if t184 = true then ((spec_l01In.f a1 1 (wrap64 (a0_0 - 1))).bind fun t185 => (if t185 = true then ((spec_l01In.f a2 0 (wrap64 (a0_0 - 1))).bind fun t186 => (if t186 = true then (spec_MoveRule.l0 k a1 a2 0 a0_0 l0_1 l0_2 a0_0 (([] : List Int)) (([] : List Int))) else (some (0, ([] : List Int), ([] : List Int), 2)))) else (some (0, ([] : List Int), ([] : List Int), 2)))) else (some (0, ([] : List Int), ([] : List Int), 1)))) = some (r1, r2, r3, r4) := h
 clear h
 replace H := Option.bind_eq_some_iff.mp H
 obtain ⟨t184, A40, H⟩ := H
 replace H : (if t184 = true then ((spec_l01In.f a1 1 (wrap64 (a0_0 - 1))).bind fun t185 => (if t185 = true then ((spec_l01In.f a2 0 (wrap64 (a0_0 - 1))).bind fun t186 => (if t186 = true then (spec_MoveRule.l0 k a1 a2 0 a0_0 l0_1 l0_2 a0_0 (([] : List Int)) (([] : List Int))) else (some (0, ([] : List Int), ([] : List Int), 2)))) else (some (0, ([] : List Int), ([] : List Int), 2)))) else (some (0, ([] : List Int), ([] : List Int), 1))) = some (r1, r2, r3, r4) := H
 have A4 := zA A40
 clear A40
 by_cases c5 : t184 = true
 ·subst c5
  have H1 : ((spec_l01In.f a1 1 (wrap64 (a0_0 - 1))).bind fun t185 => (if t185 = true then ((spec_l01In.f a2 0 (wrap64 (a0_0 - 1))).bind fun t186 => (if t186 = true then (spec_MoveRule.l0 k a1 a2 0 a0_0 l0_1 l0_2 a0_0 (([] : List Int)) (([] : List Int))) else (some (0, ([] : List Int), ([] : List Int), 2)))) else (some (0, ([] : List Int), ([] : List Int), 2)))) = some (r1, r2, r3, r4) := by rw [if_pos rfl] at H; exact H
  clear H
  have H := H1
  clear H1
  replace H := Option.bind_eq_some_iff.mp H
  obtain ⟨t185, A60, H⟩ := H
  replace H : (if t185 = true then ((spec_l01In.f a2 0 (wrap64 (a0_0 - 1))).bind fun t186 => (if t186 = true then (spec_MoveRule.l0 k a1 a2 0 a0_0 l0_1 l0_2 a0_0 (([] : List Int)) (([] : List Int))) else (some (0, ([] : List Int), ([] : List Int), 2)))) else (some (0, ([] : List Int), ([] : List Int), 2))) = some (r1, r2, r3, r4) := H
  have A6 := zA A60
  clear A60
  by_cases c7 : t185 = true
  ·subst c7
   have H1 : ((spec_l01In.f a2 0 (wrap64 (a0_0 - 1))).bind fun t186 => (if t186 = true then (spec_MoveRule.l0 k a1 a2 0 a0_0 l0_1 l0_2 a0_0 (([] : List Int)) (([] : List Int))) else (some (0, ([] : List Int), ([] : List Int), 2)))) = some (r1, r2, r3, r4) := by rw [if_pos rfl] at H; exact H
   clear H
   have H := H1
   clear H1
   replace H := Option.bind_eq_some_iff.mp H
   obtain ⟨t186, A80, H⟩ := H
   replace H : (if t186 = true then (spec_MoveRule.l0 k a1 a2 0 a0_0 l0_1 l0_2 a0_0 (([] : List Int)) (([] : List Int))) else (some (0, ([] : List Int), ([] : List Int), 2))) = some (r1, r2, r3, r4) := H
   have A8 := zA A80
   clear A80
   by_cases c9 : t186 = true
   ·subst c9
    have H1 : (spec_MoveRule.l0 k a1 a2 0 a0_0 l0_1 l0_2 a0_0 (([] : List Int)) (([] : List Int))) = some (r1, r2, r3, r4) := by rw [if_pos rfl] at H; exact H
    clear H
    have H := H1
    clear H1
    obtain ⟨y187, hy187⟩ : ∃ y_ : List Int, y_ = (([] : List Int)) := ⟨_, rfl⟩
    replace H : (spec_MoveRule.l0 k a1 a2 0 a0_0 l0_1 l0_2 a0_0 y187 (([] : List Int))) = some (r1, r2, r3, r4) := by first | (rw [hy187]; exact H) | exact H
    have Ny187 := zA hy187
    clear hy187
    obtain ⟨y190, hy190⟩ : ∃ y_ : List Int, y_ = (([] : List Int)) := ⟨_, rfl⟩
    replace H : (spec_MoveRule.l0 k a1 a2 0 a0_0 l0_1 l0_2 a0_0 y187 y190) = some (r1, r2, r3, r4) := by first | (rw [hy190]; exact H) | exact H
    have Ny190 := zA hy190
    clear hy190
    have H' := zA H
    clear H
    go_enter Try.func32, Try.ntmps32
    go_wp2_with (first | ((with_reducible refine gate_dst (N := 3) rfl ?_); refine bx 3 #[.int .i64 a0_0, .slice A0_1 l0_1.length c0_1, .slice A0_2 l0_2.length c0_2] 51 ?_; intro gb182 hg w10 hbox hb; have BK182 := zA (hbox); have GW182 := gq HB hg; have GE182 := gq HB hg; replace HB := xH HB hb; have := geI GE182; clear hb hbox hg) | ((with_reducible refine gate_dst (N := 6) rfl ?_); refine bx 6 #[.int .i64 0, .slice none 0 0, .slice none 0 0] 51 ?_; intro gb183 hg w11 hbox hb; have BK183 := zA (hbox); have GW183 := gq HB hg; have GE183 := gq HB hg; replace HB := xH HB hb; have NB182_183 := zA ((by rw [hg]; exact neL BK182 : gb182 ≠ gb183)); have NB183_182 := zA ((by rw [hg]; exact neG BK182 : gb183 ≠ gb182)); replace BK182 := xB BK182 hb; have := geI GE183; clear hb hbox hg; have hnb12 := NB182_183.out; have hnc12 := NB183_182.out; have hcz13_0 := bc BK182 0; have hcz13_1 := bc BK182 1; have hcz13_2 := bc BK182 2; have hfz13_0 := bf BK182 0; have hfz13_1 := bf BK182 1; have hfz13_2 := bf BK182 2) | ((with_reducible refine gate_callee (f := 52) rfl ?_); refine gL (some 12) Try.func52 #[.agg #[.int .i64 a0_0, .slice A0_1 l0_1.length c0_1, .slice A0_2 l0_2.length c0_2]] ?_; (with_reducible refine (spec_l07Is.calls k a0_0 _ _ l0_1 _ _ l0_2 true _ ?side1 ?side2 ?side3 ?side4 A4.out).mono ?_); (case side1 => exact uC ((Kd.C_below HR0_1.out HB.out))); (case side2 => exact HC0_1.out); (case side3 => exact uC ((Kd.C_below HR0_2.out HB.out))); (case side4 => exact HC0_2.out); rintro e w14 ⟨rfl, hb⟩; refine ⟨_, rfl, ?_⟩; replace BK182 := xB BK182 hb; replace BK183 := xB BK183 hb; replace HB := xH HB hb; (try clear hb); (try clear hb2); (try clear hk); (try clear hi); have hcz15_0 := bc BK182 0; have hcz15_1 := bc BK182 1; have hcz15_2 := bc BK182 2; have hfz15_0 := bf BK182 0; have hfz15_1 := bf BK182 1; have hfz15_2 := bf BK182 2) | ((with_reducible refine gate_callee (f := 53) rfl ?_); refine gL (some 20) Try.func53 #[.int .i64 a1, .int .i64 1, .int .i64 (wrap64 (a0_0 - 1))] ?_; (with_reducible refine (spec_l01In.calls a1 1 (wrap64 (a0_0 - 1)) true _ A6.out).mono ?_); rintro e w' ⟨rfl, ⟨nd, rfl⟩⟩; refine ⟨_, rfl, ?_⟩; (try (rw [drewN_self w14]; generalize hq_ : World.drewN w14 _ = w14; have n0_ : Aside0 (w14.heap[gb182]? = some (.cells #[.int .i64 a0_0, .slice A0_1 l0_1.length c0_1, .slice A0_2 l0_2.length c0_2] 51 (0, 0))) := ⟨by rw [← hq_]; exact (uB BK182.out)⟩; have n1_ : Aside0 (w14.heap[gb183]? = some (.cells #[.int .i64 0, .slice none 0 0, .slice none 0 0] 51 (0, 0))) := ⟨by rw [← hq_]; exact (uB BK183.out)⟩; have n2_ : Aside0 (Below w.heap.size w w14) := ⟨by rw [← hq_]; exact (uH HB.out)⟩; clear BK182 BK183 HB hq_; have BK182 := n0_; have BK183 := n1_; have HB := n2_; clear n0_ n1_ n2_)); (try have hcuy16_0 : w14.cell? ⟨gb182, 0, none⟩ = some (.int .i64 a0_0) := (blk_cell BK182.out 0).trans rfl); (try have hcuy16_1 : w14.cell? ⟨gb182, 1, none⟩ = some (.slice A0_1 l0_1.length c0_1) := (blk_cell BK182.out 1).trans rfl); (try have hcuy16_2 : w14.cell? ⟨gb182, 2, none⟩ = some (.slice A0_2 l0_2.length c0_2) := (blk_cell BK182.out 2).trans rfl)) | (go_at_call 53; (with_reducible refine (spec_l01In.calls a2 0 (wrap64 (a0_0 - 1)) true _ A8.out).mono ?_); rintro e w' ⟨rfl, ⟨nd, rfl⟩⟩; (try (rw [drewN_self w14]; generalize hq_ : World.drewN w14 _ = w14; have n0_ : Aside0 (w14.heap[gb182]? = some (.cells #[.int .i64 a0_0, .slice A0_1 l0_1.length c0_1, .slice A0_2 l0_2.length c0_2] 51 (0, 0))) := ⟨by rw [← hq_]; exact (uB BK182.out)⟩; have n1_ : Aside0 (w14.heap[gb183]? = some (.cells #[.int .i64 0, .slice none 0 0, .slice none 0 0] 51 (0, 0))) := ⟨by rw [← hq_]; exact (uB BK183.out)⟩; have n2_ : Aside0 (Below w.heap.size w w14) := ⟨by rw [← hq_]; exact (uH HB.out)⟩; clear BK182 BK183 HB hq_; have BK182 := n0_; have BK183 := n1_; have HB := n2_; clear n0_ n1_ n2_)); (try have hcuy17_0 : w14.cell? ⟨gb182, 0, none⟩ = some (.int .i64 a0_0) := (blk_cell BK182.out 0).trans rfl); (try have hcuy17_1 : w14.cell? ⟨gb182, 1, none⟩ = some (.slice A0_1 l0_1.length c0_1) := (blk_cell BK182.out 1).trans rfl); (try have hcuy17_2 : w14.cell? ⟨gb182, 2, none⟩ = some (.slice A0_2 l0_2.length c0_2) := (blk_cell BK182.out 2).trans rfl)) | ((with_reducible refine gate_dst (N := 33) rfl ?_); refine Kd.R_lit (Kd.int .i64) _ 2 ?hg (N := 33) ?hd (xs := ([] : List Int)) (inner := []) (ok := fun _ => True) (okp := fun _ => True) ?hr ?hp (fun _ hk => hk) trivial (Below.refl _ _) (Nat.le_refl _) (by simp) ?_; (case hd => rfl); (case hg => rfl); (case hr => first | (go_simp; done) | (go_simp; rfl)); (case hp => exact (Reps.none _ _)); intro v188 w18 ho19 hb hg_ hnew_; clear hg_ hnew_; (first | rw [← Ny187.out] at ho19 | (simp only [Int.reduceToNat] at ho19; rw [← Ny187.out] at ho19)); have HO189 := zA (Kd.R_lower ho19 (below_size (uH HB.out))); replace BK182 := xB BK182 hb; replace BK183 := xB BK183 hb; replace HB := xH HB hb; clear hb ho19) | ((with_reducible refine gate_dst (N := 34) rfl ?_); refine Kd.R_lit (Kd.int .i64) _ 2 ?hg (N := 34) ?hd (xs := ([] : List Int)) (inner := []) (ok := fun _ => True) (okp := fun _ => True) ?hr ?hp (fun _ hk => hk) trivial (Below.refl _ _) (Nat.le_refl _) (by simp) ?_; (case hd => rfl); (case hg => rfl); (case hr => first | (go_simp; done) | (go_simp; rfl)); (case hp => exact (Reps.none _ _)); intro v191 w20 ho21 hb hg_ hnew_; clear hg_ hnew_; (first | rw [← Ny190.out] at ho21 | (simp only [Int.reduceToNat] at ho21; rw [← Ny190.out] at ho21)); have HO192 := zA (Kd.R_lower (Kd.R_new' ho21 (Kd.R_lt (uR HO189.out))) (below_size (uH HB.out))); replace HO189 := zA (Kd.R_elder' (uR HO189.out) (Kd.R_base ho21) hb); replace BK182 := xB BK182 hb; replace BK183 := xB BK183 hb; replace HB := xH HB hb; clear hb ho21; obtain ⟨Ao22, co22, eo22⟩ := Kd.R_slice HO192.out; subst eo22; obtain ⟨Ao23, co23, eo23⟩ := Kd.R_slice HO189.out; subst eo23) | ((with_reducible refine gate_dst (N := 8) rfl ?_); refine bx 8 #[.int .i64 0, .slice none 0 0, .slice none 0 0] 51 ?_; intro gb193 hg w24 hbox hb; replace HO189 := xR HO189 hb; replace HO192 := xR HO192 hb; have BK193 := zA (hbox); have GW193 := gq HB hg; have GE193 := gq HB hg; replace HB := xH HB hb; have NB182_193 := zA ((by rw [hg]; exact neL BK182 : gb182 ≠ gb193)); have NB193_182 := zA ((by rw [hg]; exact neG BK182 : gb193 ≠ gb182)); replace BK182 := xB BK182 hb; have NB183_193 := zA ((by rw [hg]; exact neL BK183 : gb183 ≠ gb193)); have NB193_183 := zA ((by rw [hg]; exact neG BK183 : gb193 ≠ gb183)); replace BK183 := xB BK183 hb; have := geI GE193; clear hb hbox hg; have hnb25 := NB193_182.out; have hnc25 := NB182_193.out; have hnb26 := NB193_183.out; have hnc26 := NB183_193.out; have hcz27_0 := bc BK193 0; have hcz27_1 := bc BK193 1; have hcz27_2 := bc BK193 2; have hfz27_0 := bf BK193 0; have hfz27_1 := bf BK193 1; have hfz27_2 := bf BK193 2))
    go_loopg [9] k (fun kq v9 w' => ∃ (x9_1 : Int) (x194000_1 : Int) (x194001_1 : List Int) (x194002_1 : List Int) (u194001 : Value) (u194002 : Value), v9 = .int .i64 x9_1 ∧ Aside0 (spec_MoveRule.l0 kq a1 a2 x9_1 a0_0 l0_1 l0_2 x194000_1 x194001_1 x194002_1 = some (r1, r2, r3, r4)) ∧ Aside0 (kq ≤ k) ∧ Aside0 (Kd.R (Kd.int .i64) 2 w' w.heap.size (fun k_ => some k_ ≠ (u194002 : Value).ownBlock) u194001 x194001_1) ∧ Aside0 (Kd.R (Kd.int .i64) 2 w' w.heap.size (fun k_ => some k_ ≠ (u194001 : Value).ownBlock) u194002 x194002_1) ∧ Aside0 (w'.heap[gb182]? = some (.cells #[.int .i64 a0_0, (.slice A0_1 l0_1.length c0_1), (.slice A0_2 l0_2.length c0_2)] 51 (0, 0))) ∧ Aside0 (w'.heap[gb183]? = some (.cells #[.int .i64 0, (.slice none 0 0), (.slice none 0 0)] 51 (0, 0))) ∧ Aside0 (w'.heap[gb193]? = some (.cells #[.int .i64 x194000_1, u194001, u194002] 51 (0, 0))) ∧ Aside0 (Below w.heap.size w w'))
    case atStart => exact ⟨(0), (a0_0), (y187), (y190), (.slice Ao23 y187.length co23), (.slice Ao22 y190.length co22), (by first | rfl | (simp; done) | (simp [*]; done)), H', ⟨Nat.le_refl _⟩, ⟨uR (Kd.R_mono (Kd.R_far (p := ⟨gb193, 2, none⟩) (Kd.R_far (p := ⟨gb193, 1, none⟩) (Kd.R_far (p := ⟨gb193, 0, none⟩) (Kd.R_types HO189.out BK193.out (by decide)) (fun _ hk => hk.2) (.int .i64 a0_0)) (fun _ hk => hk.2) (.slice Ao23 y187.length co23)) (fun _ hk => hk.2) (.slice Ao22 y190.length co22)) (fun _ hk => hk.1.2))⟩, ⟨uR (Kd.R_mono (Kd.R_far (p := ⟨gb193, 2, none⟩) (Kd.R_far (p := ⟨gb193, 1, none⟩) (Kd.R_far (p := ⟨gb193, 0, none⟩) (Kd.R_types HO192.out BK193.out (by decide)) (fun _ hk => hk.2) (.int .i64 a0_0)) (fun _ hk => hk.2) (.slice Ao23 y187.length co23)) (fun _ hk => hk.2) (.slice Ao22 y190.length co22)) (fun _ hk => hk.1.2))⟩, ⟨by (repeat refine up1 ?_); refine blk_far ?_ NB182_193.out _; (repeat refine up1 ?_); refine blk_far ?_ NB182_193.out _; (repeat refine up1 ?_); refine blk_far ?_ NB182_193.out _; (repeat refine up1 ?_); exact BK182.out⟩, ⟨by (repeat refine up1 ?_); refine blk_far ?_ NB183_193.out _; (repeat refine up1 ?_); refine blk_far ?_ NB183_193.out _; (repeat refine up1 ?_); refine blk_far ?_ NB183_193.out _; (repeat refine up1 ?_); exact BK183.out⟩, ⟨by (repeat refine up1 ?_); refine blk_put (cs := #[.int .i64 a0_0, .slice Ao23 y187.length co23, .slice none 0 0]) ?_ 2 _ rfl; (repeat refine up1 ?_); refine blk_put (cs := #[.int .i64 a0_0, .slice none 0 0, .slice none 0 0]) ?_ 1 _ rfl; (repeat refine up1 ?_); refine blk_put (cs := #[.int .i64 0, .slice none 0 0, .slice none 0 0]) ?_ 0 _ rfl; (repeat refine up1 ?_); exact BK193.out⟩, ⟨uH HB.out⟩⟩
    case round =>
     clear H'
     (try clear c1);(try clear c2);(try clear p2);(try clear c3);(try clear c5);(try clear p6);(try clear c7);(try clear c9);(try clear c12);(try clear c25);(try clear c26);(try clear hcz13_0);(try clear hcz13_1);(try clear hcz13_2);(try clear hcz15_0);(try clear hcz15_1);(try clear hcz15_2);(try clear hcz27_0);(try clear hcz27_1);(try clear hcz27_2);(try clear hfz13_0);(try clear hfz13_1);(try clear hfz13_2)
     (try clear hfz15_0);(try clear hfz15_1);(try clear hfz15_2);(try clear hfz27_0);(try clear hfz27_1);(try clear hfz27_2)
     obtain ⟨x9_1, x194000_1, x194001_1, x194002_1, u194001, u194002, rfl, HA, HK1, HO_194001, HO_194002, BK182, BK183, BK193, HB⟩ := hrel
     cases gk with
     | zero => exact absurd HA.out (by simp [spec_MoveRule.l0])
     | succ k1 =>
      have H := HA.out
      clear HA
      simp only [spec_MoveRule.l0] at H
      by_cases c28 : x9_1 < (l0_1.length : Int)
      rotate_left
      ·rw [if_neg c28] at H
       have c28b0 : decide (x9_1 < (l0_1.length : Int)) = false := decide_eq_false c28
       clear c28
       simp only [Option.some.injEq, Prod.mk.injEq] at H
       obtain ⟨rfl, rfl, rfl, rfl⟩ := H
       have hnb45 := NB182_183.out; have hnc45 := NB183_182.out; have hnb46 := NB182_193.out; have hnc46 := NB193_182.out
       have hcz47_0 := bc BK182 0
       have hcz47_1 := bc BK182 1
       have hcz47_2 := bc BK182 2
       have hfz47_0 := bf BK182 0
       have hfz47_1 := bf BK182 1
       have hfz47_2 := bf BK182 2
       have hnb48 := NB193_183.out; have hnc48 := NB183_193.out
       have hcz49_0 := bc BK193 0
       have hcz49_1 := bc BK193 1
       have hcz49_2 := bc BK193 2
       have hfz49_0 := bf BK193 0
       have hfz49_1 := bf BK193 1
       have hfz49_2 := bf BK193 2
       have hcz50_0 := bc BK183 0
       have hcz50_1 := bc BK183 1
       have hcz50_2 := bc BK183 2
       have hfz50_0 := bf BK183 0
       have hfz50_1 := bf BK183 1
       have hfz50_2 := bf BK183 2
       obtain ⟨Ao51, co51, eo51⟩ := Kd.R_slice HO_194001.out
       subst eo51
       obtain ⟨Ao52, co52, eo52⟩ := Kd.R_slice HO_194002.out
       subst eo52
       go_wp2
       refine bodyPost_ret (results_ct rfl _ _ gb183 51 #[.int .i64 x194000_1, .slice Ao51 x194001_1.length co51, .slice Ao52 x194002_1.length co52] (0, 0) _ rfl (by (repeat refine up1 ?_); refine blk_put (cs := #[.int .i64 x194000_1, .slice Ao51 x194001_1.length co51, .slice none 0 0]) ?_ 2 _ rfl; (repeat refine up1 ?_); refine blk_put (cs := #[.int .i64 x194000_1, .slice none 0 0, .slice none 0 0]) ?_ 1 _ rfl; (repeat refine up1 ?_); refine blk_put (cs := #[.int .i64 0, .slice none 0 0, .slice none 0 0]) ?_ 0 _ rfl; (repeat refine up1 ?_); exact BK183.out) Try.underlying51 rfl (by kernel_rfl)) rfl ?_
       exact ⟨_, _, by first | rfl | (simp [errW_none, errW_some] <;> rfl) | (simp [*, errW_none, errW_some] <;> rfl), uR (rf3 HO_194001 BK183 (by decide) (.int .i64 x194000_1) (.slice Ao51 x194001_1.length co51) (.slice Ao52 x194002_1.length co52)), uR (rf3 HO_194002 BK183 (by decide) (.int .i64 x194000_1) (.slice Ao51 x194001_1.length co51) (.slice Ao52 x194002_1.length co52)), uH HB.out⟩
      rw [if_pos c28] at H
      have c28b0 : decide (x9_1 < (l0_1.length : Int)) = true := decide_eq_true c28
      clear c28
      by_cases c29 : 0 ≤ x9_1
      rotate_left
      ·rw [if_neg c29] at H
       exact absurd H (by simp)
      rw [if_pos c29] at H
      have c29b0 : decide (0 ≤ x9_1) = true := decide_eq_true c29
      clear c29
      by_cases c30 : a0_0 = 0
      rotate_left
      ·rw [if_neg c30] at H
       have c30b0 : (a0_0 == 0) = false := beq_eq_false_iff_ne.mpr c30
       have c30b1 : (a0_0 != 0) = true := bne_iff_ne.mpr c30
       by_cases c31 : x9_1 < (l0_2.length : Int)
       rotate_left
       ·rw [if_neg c31] at H
        exact absurd H (by simp)
       rw [if_pos c31] at H
       have c31b0 : decide (x9_1 < (l0_2.length : Int)) = true := decide_eq_true c31
       clear c31
       replace H := Option.bind_eq_some_iff.mp H
       obtain ⟨⟨t196, t197, t200⟩, A320, H⟩ := H
       replace H : (spec_MoveRule.l0 k1 a1 a2 (wrap64 (x9_1 + 1)) a0_0 l0_1 l0_2 t196 t197 t200) = some (r1, r2, r3, r4) := H
       have A32 := zA A320
       clear A320
       have H' := zA H
       clear H
       have hnb33 := NB182_183.out; have hnc33 := NB183_182.out; have hnb34 := NB182_193.out; have hnc34 := NB193_182.out
       have hcz35_0 := bc BK182 0
       have hcz35_1 := bc BK182 1
       have hcz35_2 := bc BK182 2
       have hfz35_0 := bf BK182 0
       have hfz35_1 := bf BK182 1
       have hfz35_2 := bf BK182 2
       try go_wp2
       replace HO_194001 := zA (Kd.R_drew HO_194001.out)
       replace HO_194002 := zA (Kd.R_drew HO_194002.out)
       replace BK182 := zA (blk_drew BK182.out)
       replace BK183 := zA (blk_drew BK183.out)
       replace BK193 := zA (blk_drew BK193.out)
       replace HB := zA (below_drew1 HB.out)
       have p194 : 0 ≤ (x9_1 : Int) := of_decide_eq_true (by first | (with_reducible assumption) | assumption)
       have q194 : x9_1 < (l0_1.length : Int) := of_decide_eq_true (by first | (with_reducible assumption) | assumption)
       obtain ⟨ad194, e194, hx194_0⟩ := Kd.at_int HR0_1.out x9_1 p194 q194
       have hw194_0 := hx194_0
       cases e194
       replace hx194_0 := hc HB hx194_0
       replace p194 := eq_true p194
       replace q194 := eq_true q194
       have p195 : 0 ≤ (x9_1 : Int) := of_decide_eq_true (by first | (with_reducible assumption) | assumption)
       have q195 : x9_1 < (l0_2.length : Int) := of_decide_eq_true (by first | (with_reducible assumption) | assumption)
       obtain ⟨ad195, e195, hx195_0⟩ := Kd.at_int HR0_2.out x9_1 p195 q195
       have hw195_0 := hx195_0
       cases e195
       replace hx195_0 := hc HB hx195_0
       replace p195 := eq_true p195
       replace q195 := eq_true q195
       obtain ⟨Ao37, co37, eo37⟩ := Kd.R_slice HO_194001.out
       (first | subst eo37 | (injection eo37 with f1_ f2_ f3_; have f4_ := f1_.symm; have f5_ := f3_.symm; clear f1_ f2_ f3_; subst f4_; subst f5_))
       obtain ⟨Ao38, co38, eo38⟩ := Kd.R_slice HO_194002.out
       (first | subst eo38 | (injection eo38 with f1_ f2_ f3_; have f4_ := f1_.symm; have f5_ := f3_.symm; clear f1_ f2_ f3_; subst f4_; subst f5_))
       refine start_ (n := 20) (S := fun w' => w'.cell? ⟨gb193, 0, none⟩ = some (.int .i64 x194000_1) ∧ w'.cell? ⟨gb193, 1, none⟩ = some (.slice Ao37 x194001_1.length co37) ∧ w'.cell? ⟨gb193, 2, none⟩ = some (.slice Ao38 x194002_1.length co38) ∧ w'.cell? ⟨gb182, 0, none⟩ = some (.int .i64 a0_0) ∧ w'.cell? ⟨gb182, 1, none⟩ = some (.slice (some ad194) l0_1.length c0_1) ∧ w'.cell? ⟨gb182, 2, none⟩ = some (.slice (some ad195) l0_2.length c0_2) ∧ w'.cell? (ad194.add (x9_1).toNat) = some (.int .i64 (rd l0_1 x9_1)) ∧ w'.cell? (ad195.add (x9_1).toNat) = some (.int .i64 (rd l0_2 x9_1))) (ds := [19]) #[false, false, false, false, false, false, false, false, false, false, false, false, false, false, false, false, false, false, false, false] (by kernel_rfl) rfl rfl ⟨bcu BK193 0, bcu BK193 1, bcu BK193 2, bcu BK182 0, bcu BK182 1, bcu BK182 2, (hcu HB hw194_0), (hcu HB hw195_0)⟩ (fun hHeld => ?_); refine with_tabW spec_MoveRule.tab9 spec_MoveRule.bits9 (fun HT_ HW_ => ?_)
       generalize wr.drew = w36 at HO_194001 HO_194002 BK182 BK183 BK193 HB hx194_0 hx195_0 hHeld ⊢
       refine pu_ 1 44 (bl 20 2) HT_ ?_
       refine pu_ 2 45 (bl 20 6) HT_ ?_
       refine pu_ 4 47 (bl 20 22) HT_ ?_
       refine pu_ 8 51 (bl 20 278) HT_ ?_
       refine pu_ 10 53 (bl 20 1302) HT_ ?_
       refine pu_ 13 56 (bl 20 9494) HT_ ?_
       refine pu_ 15 58 (bl 20 42262) HT_ ?_
       refine ta_ 0 43 (bl 20 42263) HT_ HW_ hHeld ?_
       refine ta_ 3 46 (bl 20 42271) HT_ HW_ hHeld ?_
       refine pu_ 5 48 (bl 20 42303) HT_ ?_
       refine ta_ 6 49 (bl 20 42367) HT_ HW_ hHeld ?_
       refine pu_ 7 50 (bl 20 42495) HT_ ?_
       refine pu_ 9 52 (bl 20 43007) HT_ ?_
       refine ta_ 11 54 (bl 20 45055) HT_ HW_ hHeld ?_
       refine pu_ 12 55 (bl 20 49151) HT_ ?_
       refine ta_ 14 57 (bl 20 65535) HT_ HW_ hHeld ?_
       refine pu_ 16 59 (bl 20 131071) HT_ ?_
       refine ta_ 17 60 (bl 20 262143) HT_ HW_ hHeld ?_
       refine on_ 18 (some 61) (bl 20 524287) HT_ (fun K hK => ?_)
       refine gS Try.func54 #[.agg #[.int .i64 x194000_1, .slice Ao37 x194001_1.length co37, .slice Ao38 x194002_1.length co38], .int .i64 (Int.tmod (wrap64 ((wrap64 (a1 * (rd l0_1 x9_1))) + a2)) a0_0), .int .i64 (rd l0_2 x9_1)] ?_
       with_reducible refine (spec_l07Put.calls k1 x194000_1 (fun k_ => some k_ = (.slice Ao37 x194001_1.length co37 : Value).ownBlock) (.slice Ao37 x194001_1.length co37) x194001_1 _ _ x194002_1 (Int.tmod (wrap64 ((wrap64 (a1 * (rd l0_1 x9_1))) + a2)) a0_0) (rd l0_2 x9_1) t196 t197 t200 w _ ?side1 ?side2 ?side3 ?side4 A32.out).mono ?_
       (case side1 => repeat (first | (with_reducible first | exact HB.out | apply below_alloc | apply pw_below_drewN | apply below_drew1 | refine below_set ?_ GE182.out | refine below_set ?_ GE183.out | refine below_set ?_ GE193.out) | exact HB.out))
       (case side2 => exact Kd.R_tight rfl HO_194001.out)
       (case side3 => exact Kd.C_kept_own (HO_194002.out) (fun k_ hk_ hs_ => (hk_) hs_))
       (case side4 => exact (Kd.R_reads' HO_194002.out).2.1)
       rintro e w39 ⟨v198, v201, rfl, ho0, ho1, hb, hkp⟩
       refine ⟨_, rfl, ?_⟩
       replace BK182 := zA (blk_kept (uB BK182.out) hkp (fun hs_ => (fun e_ => (Kd.R_ne HO_194001.out BK182.out (by decide)) e_) hs_))
       replace BK183 := zA (blk_kept (uB BK183.out) hkp (fun hs_ => (fun e_ => (Kd.R_ne HO_194001.out BK183.out (by decide)) e_) hs_))
       replace BK193 := zA (blk_kept (uB BK193.out) hkp (fun hs_ => (fun e_ => (Kd.R_ne HO_194001.out BK193.out (by decide)) e_) hs_))
       have HO199 := zA (Kd.R_mono (ok' := fun k_ => some k_ ≠ (v201 : Value).ownBlock ∧ ax k_ (.slice Ao38 x194002_1.length co38)) ho0 (fun k_ hk_ => ⟨hk_.2, Or.elim hk_.1 (fun hs_ => fun e_ => (((HO_194002.out).1 k_ e_.symm)) hs_) (fun hn_ => (Kd.fresh' (Kd.R_lt (uR HO_194002.out)) k_ hn_))⟩))
       have HO202 := zA (Kd.R_mono (ok' := fun k_ => some k_ ≠ (v198 : Value).ownBlock ∧ ax k_ (.slice Ao38 x194002_1.length co38)) ho1 (fun k_ hk_ => ⟨hk_.2, Or.elim hk_.1 (fun hs_ => fun e_ => (((HO_194002.out).1 k_ e_.symm)) hs_) (fun hn_ => (Kd.fresh' (Kd.R_lt (uR HO_194002.out)) k_ hn_))⟩))
       replace HO_194002 := zA (Kd.R_mono (ok' := fun k_ => some k_ ≠ (v198 : Value).ownBlock ∧ some k_ ≠ (v201 : Value).ownBlock) (Kd.R_keptB (HO_194002.out) hkp (fun k_ hk_ hs_ => (hk_) hs_)) (fun k_ hk_ => ⟨fun e_ => Or.elim (ho0.1 k_ e_.symm).1 (fun hs_ => hk_.2.1 hs_) (fun hn_ => Nat.not_le.2 hk_.2.2 hn_), fun e_ => Or.elim (ho1.1 k_ e_.symm).1 (fun hs_ => hk_.2.1 hs_) (fun hn_ => Nat.not_le.2 hk_.2.2 hn_)⟩))
       replace HB := zA (hb)
       clear HO_194001
       (try clear hb); (try clear hkp); (try clear ho0); (try clear ho1)
       obtain ⟨Ao41, co41, eo41⟩ := Kd.R_slice HO199.out
       (first | subst eo41 | (injection eo41 with f1_ f2_ f3_; have f4_ := f1_.symm; have f5_ := f3_.symm; clear f1_ f2_ f3_; subst f4_; subst f5_))
       obtain ⟨Ao43, co43, eo43⟩ := Kd.R_slice HO202.out
       (first | subst eo43 | (injection eo43 with f1_ f2_ f3_; have f4_ := f1_.symm; have f5_ := f3_.symm; clear f1_ f2_ f3_; subst f4_; subst f5_))
       refine hK.out _ _ ⟨bcu BK193 0, bcu BK193 1, bcu BK193 2, bcu BK182 0, bcu BK182 1, bcu BK182 2, (hcu HB hw194_0), (hcu HB hw195_0)⟩ (fun hHeld => ?_)
       clear hK K
       refine no_ 61 ?_
       refine last_ (i := 19) (N := none) (bl 20 1048575) rfl rfl (one_of HT_.out (by kernel_rfl)) (by decide) (fun K hK => ?_)
       have hs40 : w39.cell? ⟨gb193, 0, none⟩ = some (.int .i64 x194000_1) := (blk_cell BK193.out 0).trans rfl
       have hfs40 := bf BK193 0
       have hns40_0 := NB182_193.out; have hns40_1 := NB183_193.out; have hms40_0 := NB193_182.out; have hms40_1 := NB193_183.out
       have hs42 : w39.cell? ⟨gb193, 1, none⟩ = some (.slice Ao37 x194001_1.length co37) := (blk_cell BK193.out 1).trans rfl
       have hfs42 := bf BK193 1
       have hns42_0 := NB182_193.out; have hns42_1 := NB183_193.out; have hms42_0 := NB193_182.out; have hms42_1 := NB193_183.out
       have hs44 : w39.cell? ⟨gb193, 2, none⟩ = some (.slice Ao38 x194002_1.length co38) := (blk_cell BK193.out 2).trans rfl
       have hfs44 := bf BK193 2
       have hns44_0 := NB182_193.out; have hns44_1 := NB183_193.out; have hms44_0 := NB193_182.out; have hms44_1 := NB193_183.out
       refine skip_ (w1 := ?_) (by rfl) rfl ?_ ?_
       rotate_left
       ·go_simp
        rfl
       refine hK.out _ _ ?_
       clear hK K
       refine done_ (done_of HT_.out (by kernel_rfl)) ?_
       try go_wp2
       go_roundg k1
       case measure => have := HK1.out; omega
       case rel => exact ⟨(wrap64 (x9_1 + 1)), (t196), (t197), (t200), (.slice Ao41 t197.length co41), (.slice Ao43 t200.length co43), (by first | rfl | (simp; done) | (simp [*]; done)), H', ⟨by have := HK1.out; omega⟩, ⟨uR (Kd.R_mono (Kd.R_far (p := ⟨gb193, 2, none⟩) (Kd.R_far (p := ⟨gb193, 1, none⟩) (Kd.R_far (p := ⟨gb193, 0, none⟩) (Kd.R_types HO199.out BK193.out (by decide)) (fun _ hk => hk.2) (.int .i64 t196)) (fun _ hk => hk.2) (.slice Ao41 t197.length co41)) (fun _ hk => hk.2) (.slice Ao43 t200.length co43)) (fun _ hk => hk.1.1))⟩, ⟨uR (Kd.R_mono (Kd.R_far (p := ⟨gb193, 2, none⟩) (Kd.R_far (p := ⟨gb193, 1, none⟩) (Kd.R_far (p := ⟨gb193, 0, none⟩) (Kd.R_types HO202.out BK193.out (by decide)) (fun _ hk => hk.2) (.int .i64 t196)) (fun _ hk => hk.2) (.slice Ao41 t197.length co41)) (fun _ hk => hk.2) (.slice Ao43 t200.length co43)) (fun _ hk => hk.1.1))⟩, ⟨by (repeat refine up1 ?_); refine blk_far ?_ NB182_193.out _; (repeat refine up1 ?_); refine blk_far ?_ NB182_193.out _; (repeat refine up1 ?_); refine blk_far ?_ NB182_193.out _; (repeat refine up1 ?_); exact BK182.out⟩, ⟨by (repeat refine up1 ?_); refine blk_far ?_ NB183_193.out _; (repeat refine up1 ?_); refine blk_far ?_ NB183_193.out _; (repeat refine up1 ?_); refine blk_far ?_ NB183_193.out _; (repeat refine up1 ?_); exact BK183.out⟩, ⟨by (repeat refine up1 ?_); refine blk_put (cs := #[.int .i64 t196, .slice Ao41 t197.length co41, .slice Ao38 x194002_1.length co38]) ?_ 2 _ rfl; (repeat refine up1 ?_); refine blk_put (cs := #[.int .i64 t196, .slice Ao37 x194001_1.length co37, .slice Ao38 x194002_1.length co38]) ?_ 1 _ rfl; (repeat refine up1 ?_); refine blk_put (cs := #[.int .i64 x194000_1, .slice Ao37 x194001_1.length co37, .slice Ao38 x194002_1.length co38]) ?_ 0 _ rfl; (repeat refine up1 ?_); exact BK193.out⟩, ⟨uH HB.out⟩⟩
      rw [if_pos c30] at H
      exact absurd H (by simp)
   ·replace c9 := Bool.eq_false_iff.mpr c9
    subst c9
    have H1 : (some (0, ([] : List Int), ([] : List Int), 2)) = some (r1, r2, r3, r4) := by rw [if_neg (show ¬ (false = true) by decide)] at H; exact H
    clear H
    have H := H1
    clear H1
    simp only [Option.some.injEq, Prod.mk.injEq] at H
    obtain ⟨rfl, rfl, rfl, rfl⟩ := H
    go_enter Try.func32, Try.ntmps32
    go_wp2_with (first | ((with_reducible refine gate_dst (N := 3) rfl ?_); refine bx 3 #[.int .i64 a0_0, .slice A0_1 l0_1.length c0_1, .slice A0_2 l0_2.length c0_2] 51 ?_; intro gb182 hg w53 hbox hb; have BK182 := zA (hbox); have GW182 := gq HB hg; have GE182 := gq HB hg; replace HB := xH HB hb; have := geI GE182; clear hb hbox hg) | ((with_reducible refine gate_dst (N := 6) rfl ?_); refine bx 6 #[.int .i64 0, .slice none 0 0, .slice none 0 0] 51 ?_; intro gb183 hg w54 hbox hb; have BK183 := zA (hbox); have GW183 := gq HB hg; have GE183 := gq HB hg; replace HB := xH HB hb; have NB182_183 := zA ((by rw [hg]; exact neL BK182 : gb182 ≠ gb183)); have NB183_182 := zA ((by rw [hg]; exact neG BK182 : gb183 ≠ gb182)); replace BK182 := xB BK182 hb; have := geI GE183; clear hb hbox hg; have hnb55 := NB182_183.out; have hnc55 := NB183_182.out; have hcz56_0 := bc BK182 0; have hcz56_1 := bc BK182 1; have hcz56_2 := bc BK182 2; have hfz56_0 := bf BK182 0; have hfz56_1 := bf BK182 1; have hfz56_2 := bf BK182 2) | ((with_reducible refine gate_callee (f := 52) rfl ?_); refine gL (some 12) Try.func52 #[.agg #[.int .i64 a0_0, .slice A0_1 l0_1.length c0_1, .slice A0_2 l0_2.length c0_2]] ?_; (with_reducible refine (spec_l07Is.calls k a0_0 _ _ l0_1 _ _ l0_2 true _ ?side1 ?side2 ?side3 ?side4 A4.out).mono ?_); (case side1 => exact uC ((Kd.C_below HR0_1.out HB.out))); (case side2 => exact HC0_1.out); (case side3 => exact uC ((Kd.C_below HR0_2.out HB.out))); (case side4 => exact HC0_2.out); rintro e w57 ⟨rfl, hb⟩; refine ⟨_, rfl, ?_⟩; replace BK182 := xB BK182 hb; replace BK183 := xB BK183 hb; replace HB := xH HB hb; (try clear hb); (try clear hb2); (try clear hk); (try clear hi); have hcz58_0 := bc BK182 0; have hcz58_1 := bc BK182 1; have hcz58_2 := bc BK182 2; have hfz58_0 := bf BK182 0; have hfz58_1 := bf BK182 1; have hfz58_2 := bf BK182 2) | ((with_reducible refine gate_callee (f := 53) rfl ?_); refine gL (some 20) Try.func53 #[.int .i64 a1, .int .i64 1, .int .i64 (wrap64 (a0_0 - 1))] ?_; (with_reducible refine (spec_l01In.calls a1 1 (wrap64 (a0_0 - 1)) true _ A6.out).mono ?_); rintro e w' ⟨rfl, ⟨nd, rfl⟩⟩; refine ⟨_, rfl, ?_⟩; (try (rw [drewN_self w57]; generalize hq_ : World.drewN w57 _ = w57; have n0_ : Aside0 (w57.heap[gb182]? = some (.cells #[.int .i64 a0_0, .slice A0_1 l0_1.length c0_1, .slice A0_2 l0_2.length c0_2] 51 (0, 0))) := ⟨by rw [← hq_]; exact (uB BK182.out)⟩; have n1_ : Aside0 (w57.heap[gb183]? = some (.cells #[.int .i64 0, .slice none 0 0, .slice none 0 0] 51 (0, 0))) := ⟨by rw [← hq_]; exact (uB BK183.out)⟩; have n2_ : Aside0 (Below w.heap.size w w57) := ⟨by rw [← hq_]; exact (uH HB.out)⟩; clear BK182 BK183 HB hq_; have BK182 := n0_; have BK183 := n1_; have HB := n2_; clear n0_ n1_ n2_)); (try have hcuy59_0 : w57.cell? ⟨gb182, 0, none⟩ = some (.int .i64 a0_0) := (blk_cell BK182.out 0).trans rfl); (try have hcuy59_1 : w57.cell? ⟨gb182, 1, none⟩ = some (.slice A0_1 l0_1.length c0_1) := (blk_cell BK182.out 1).trans rfl); (try have hcuy59_2 : w57.cell? ⟨gb182, 2, none⟩ = some (.slice A0_2 l0_2.length c0_2) := (blk_cell BK182.out 2).trans rfl)) | (go_at_call 53; (with_reducible refine (spec_l01In.calls a2 0 (wrap64 (a0_0 - 1)) false _ A8.out).mono ?_); rintro e w' ⟨rfl, ⟨nd, rfl⟩⟩; (try (rw [drewN_self w57]; generalize hq_ : World.drewN w57 _ = w57; have n0_ : Aside0 (w57.heap[gb182]? = some (.cells #[.int .i64 a0_0, .slice A0_1 l0_1.length c0_1, .slice A0_2 l0_2.length c0_2] 51 (0, 0))) := ⟨by rw [← hq_]; exact (uB BK182.out)⟩; have n1_ : Aside0 (w57.heap[gb183]? = some (.cells #[.int .i64 0, .slice none 0 0, .slice none 0 0] 51 (0, 0))) := ⟨by rw [← hq_]; exact (uB BK183.out)⟩; have n2_ : Aside0 (Below w.heap.size w w57) := ⟨by rw [← hq_]; exact (uH HB.out)⟩; clear BK182 BK183 HB hq_; have BK182 := n0_; have BK183 := n1_; have HB := n2_; clear n0_ n1_ n2_)); (try have hcuy60_0 : w57.cell? ⟨gb182, 0, none⟩ = some (.int .i64 a0_0) := (blk_cell BK182.out 0).trans rfl); (try have hcuy60_1 : w57.cell? ⟨gb182, 1, none⟩ = some (.slice A0_1 l0_1.length c0_1) := (blk_cell BK182.out 1).trans rfl); (try have hcuy60_2 : w57.cell? ⟨gb182, 2, none⟩ = some (.slice A0_2 l0_2.length c0_2) := (blk_cell BK182.out 2).trans rfl); have hcz61_0 := bc BK183 0; have hcz61_1 := bc BK183 1; have hcz61_2 := bc BK183 2; have hfz61_0 := bf BK183 0; have hfz61_1 := bf BK183 1; have hfz61_2 := bf BK183 2))
    refine bodyPost_ret (results_ct rfl _ _ gb183 51 #[.int .i64 0, .slice none 0 0, .slice none 0 0] (0, 0) _ rfl (by (repeat refine up1 ?_); refine blk_put (cs := #[.int .i64 0, .slice none 0 0, .slice none 0 0]) ?_ 2 _ rfl; (repeat refine up1 ?_); refine blk_put (cs := #[.int .i64 0, .slice none 0 0, .slice none 0 0]) ?_ 1 _ rfl; (repeat refine up1 ?_); refine blk_put (cs := #[.int .i64 0, .slice none 0 0, .slice none 0 0]) ?_ 0 _ rfl; (repeat refine up1 ?_); exact BK183.out) Try.underlying51 rfl (by kernel_rfl)) rfl ?_
    exact ⟨_, _, by first | rfl | (simp [errW_none, errW_some] <;> rfl) | (simp [*, errW_none, errW_some] <;> rfl), by first | exact Kd.R_nil _ _ _ _ _ | exact Kd.N_nil _ _ _ _ _ | exact Kd.V_nil _ _ _ _ _ | exact Kd.Q_nil _ _ _ _ _ | exact Kd.S_nil _ _ _ _ _, by first | exact Kd.R_nil _ _ _ _ _ | exact Kd.N_nil _ _ _ _ _ | exact Kd.V_nil _ _ _ _ _ | exact Kd.Q_nil _ _ _ _ _ | exact Kd.S_nil _ _ _ _ _, uH HB.out⟩
  ·replace c7 := Bool.eq_false_iff.mpr c7
   subst c7
   have H1 : (some (0, ([] : List Int), ([] : List Int), 2)) = some (r1, r2, r3, r4) := by rw [if_neg (show ¬ (false = true) by decide)] at H; exact H
   clear H
   have H := H1
   clear H1
   simp only [Option.some.injEq, Prod.mk.injEq] at H
   obtain ⟨rfl, rfl, rfl, rfl⟩ := H
   go_enter Try.func32, Try.ntmps32
   go_wp2_with (first | ((with_reducible refine gate_dst (N := 3) rfl ?_); refine bx 3 #[.int .i64 a0_0, .slice A0_1 l0_1.length c0_1, .slice A0_2 l0_2.length c0_2] 51 ?_; intro gb182 hg w62 hbox hb; have BK182 := zA (hbox); have GW182 := gq HB hg; have GE182 := gq HB hg; replace HB := xH HB hb; have := geI GE182; clear hb hbox hg) | ((with_reducible refine gate_dst (N := 6) rfl ?_); refine bx 6 #[.int .i64 0, .slice none 0 0, .slice none 0 0] 51 ?_; intro gb183 hg w63 hbox hb; have BK183 := zA (hbox); have GW183 := gq HB hg; have GE183 := gq HB hg; replace HB := xH HB hb; have NB182_183 := zA ((by rw [hg]; exact neL BK182 : gb182 ≠ gb183)); have NB183_182 := zA ((by rw [hg]; exact neG BK182 : gb183 ≠ gb182)); replace BK182 := xB BK182 hb; have := geI GE183; clear hb hbox hg; have hnb64 := NB182_183.out; have hnc64 := NB183_182.out; have hcz65_0 := bc BK182 0; have hcz65_1 := bc BK182 1; have hcz65_2 := bc BK182 2; have hfz65_0 := bf BK182 0; have hfz65_1 := bf BK182 1; have hfz65_2 := bf BK182 2) | ((with_reducible refine gate_callee (f := 52) rfl ?_); refine gL (some 12) Try.func52 #[.agg #[.int .i64 a0_0, .slice A0_1 l0_1.length c0_1, .slice A0_2 l0_2.length c0_2]] ?_; (with_reducible refine (spec_l07Is.calls k a0_0 _ _ l0_1 _ _ l0_2 true _ ?side1 ?side2 ?side3 ?side4 A4.out).mono ?_); (case side1 => exact uC ((Kd.C_below HR0_1.out HB.out))); (case side2 => exact HC0_1.out); (case side3 => exact uC ((Kd.C_below HR0_2.out HB.out))); (case side4 => exact HC0_2.out); rintro e w66 ⟨rfl, hb⟩; refine ⟨_, rfl, ?_⟩; replace BK182 := xB BK182 hb; replace BK183 := xB BK183 hb; replace HB := xH HB hb; (try clear hb); (try clear hb2); (try clear hk); (try clear hi); have hcz67_0 := bc BK182 0; have hcz67_1 := bc BK182 1; have hcz67_2 := bc BK182 2; have hfz67_0 := bf BK182 0; have hfz67_1 := bf BK182 1; have hfz67_2 := bf BK182 2) | ((with_reducible refine gate_callee (f := 53) rfl ?_); refine gL (some 20) Try.func53 #[.int .i64 a1, .int .i64 1, .int .i64 (wrap64 (a0_0 - 1))] ?_; (with_reducible refine (spec_l01In.calls a1 1 (wrap64 (a0_0 - 1)) false _ A6.out).mono ?_); rintro e w' ⟨rfl, ⟨nd, rfl⟩⟩; refine ⟨_, rfl, ?_⟩; (try (rw [drewN_self w66]; generalize hq_ : World.drewN w66 _ = w66; have n0_ : Aside0 (w66.heap[gb182]? = some (.cells #[.int .i64 a0_0, .slice A0_1 l0_1.length c0_1, .slice A0_2 l0_2.length c0_2] 51 (0, 0))) := ⟨by rw [← hq_]; exact (uB BK182.out)⟩; have n1_ : Aside0 (w66.heap[gb183]? = some (.cells #[.int .i64 0, .slice none 0 0, .slice none 0 0] 51 (0, 0))) := ⟨by rw [← hq_]; exact (uB BK183.out)⟩; have n2_ : Aside0 (Below w.heap.size w w66) := ⟨by rw [← hq_]; exact (uH HB.out)⟩; clear BK182 BK183 HB hq_; have BK182 := n0_; have BK183 := n1_; have HB := n2_; clear n0_ n1_ n2_)); (try have hcuy68_0 : w66.cell? ⟨gb182, 0, none⟩ = some (.int .i64 a0_0) := (blk_cell BK182.out 0).trans rfl); (try have hcuy68_1 : w66.cell? ⟨gb182, 1, none⟩ = some (.slice A0_1 l0_1.length c0_1) := (blk_cell BK182.out 1).trans rfl); (try have hcuy68_2 : w66.cell? ⟨gb182, 2, none⟩ = some (.slice A0_2 l0_2.length c0_2) := (blk_cell BK182.out 2).trans rfl); have hcz69_0 := bc BK183 0; have hcz69_1 := bc BK183 1; have hcz69_2 := bc BK183 2; have hfz69_0 := bf BK183 0; have hfz69_1 := bf BK183 1; have hfz69_2 := bf BK183 2))
   refine bodyPost_ret (results_ct rfl _ _ gb183 51 #[.int .i64 0, .slice none 0 0, .slice none 0 0] (0, 0) _ rfl (by (repeat refine up1 ?_); refine blk_put (cs := #[.int .i64 0, .slice none 0 0, .slice none 0 0]) ?_ 2 _ rfl; (repeat refine up1 ?_); refine blk_put (cs := #[.int .i64 0, .slice none 0 0, .slice none 0 0]) ?_ 1 _ rfl; (repeat refine up1 ?_); refine blk_put (cs := #[.int .i64 0, .slice none 0 0, .slice none 0 0]) ?_ 0 _ rfl; (repeat refine up1 ?_); exact BK183.out) Try.underlying51 rfl (by kernel_rfl)) rfl ?_
   exact ⟨_, _, by first | rfl | (simp [errW_none, errW_some] <;> rfl) | (simp [*, errW_none, errW_some] <;> rfl), by first | exact Kd.R_nil _ _ _ _ _ | exact Kd.N_nil _ _ _ _ _ | exact Kd.V_nil _ _ _ _ _ | exact Kd.Q_nil _ _ _ _ _ | exact Kd.S_nil _ _ _ _ _, by first | exact Kd.R_nil _ _ _ _ _ | exact Kd.N_nil _ _ _ _ _ | exact Kd.V_nil _ _ _ _ _ | exact Kd.Q_nil _ _ _ _ _ | exact Kd.S_nil _ _ _ _ _, uH HB.out⟩
 ·replace c5 := Bool.eq_false_iff.mpr c5
  subst c5
  have H1 : (some (0, ([] : List Int), ([] : List Int), 1)) = some (r1, r2, r3, r4) := by rw [if_neg (show ¬ (false = true) by decide)] at H; exact H
  clear H
  have H := H1
  clear H1
  simp only [Option.some.injEq, Prod.mk.injEq] at H
  obtain ⟨rfl, rfl, rfl, rfl⟩ := H
  go_enter Try.func32, Try.ntmps32
  go_wp2_with (first | ((with_reducible refine gate_dst (N := 3) rfl ?_); refine bx 3 #[.int .i64 a0_0, .slice A0_1 l0_1.length c0_1, .slice A0_2 l0_2.length c0_2] 51 ?_; intro gb182 hg w70 hbox hb; have BK182 := zA (hbox); have GW182 := gq HB hg; have GE182 := gq HB hg; replace HB := xH HB hb; have := geI GE182; clear hb hbox hg) | ((with_reducible refine gate_dst (N := 6) rfl ?_); refine bx 6 #[.int .i64 0, .slice none 0 0, .slice none 0 0] 51 ?_; intro gb183 hg w71 hbox hb; have BK183 := zA (hbox); have GW183 := gq HB hg; have GE183 := gq HB hg; replace HB := xH HB hb; have NB182_183 := zA ((by rw [hg]; exact neL BK182 : gb182 ≠ gb183)); have NB183_182 := zA ((by rw [hg]; exact neG BK182 : gb183 ≠ gb182)); replace BK182 := xB BK182 hb; have := geI GE183; clear hb hbox hg; have hnb72 := NB182_183.out; have hnc72 := NB183_182.out; have hcz73_0 := bc BK182 0; have hcz73_1 := bc BK182 1; have hcz73_2 := bc BK182 2; have hfz73_0 := bf BK182 0; have hfz73_1 := bf BK182 1; have hfz73_2 := bf BK182 2) | ((with_reducible refine gate_callee (f := 52) rfl ?_); refine gL (some 12) Try.func52 #[.agg #[.int .i64 a0_0, .slice A0_1 l0_1.length c0_1, .slice A0_2 l0_2.length c0_2]] ?_; (with_reducible refine (spec_l07Is.calls k a0_0 _ _ l0_1 _ _ l0_2 false _ ?side1 ?side2 ?side3 ?side4 A4.out).mono ?_); (case side1 => exact uC ((Kd.C_below HR0_1.out HB.out))); (case side2 => exact HC0_1.out); (case side3 => exact uC ((Kd.C_below HR0_2.out HB.out))); (case side4 => exact HC0_2.out); rintro e w74 ⟨rfl, hb⟩; refine ⟨_, rfl, ?_⟩; replace BK182 := xB BK182 hb; replace BK183 := xB BK183 hb; replace HB := xH HB hb; (try clear hb); (try clear hb2); (try clear hk); (try clear hi); have hcz75_0 := bc BK183 0; have hcz75_1 := bc BK183 1; have hcz75_2 := bc BK183 2; have hfz75_0 := bf BK183 0; have hfz75_1 := bf BK183 1; have hfz75_2 := bf BK183 2))
  refine bodyPost_ret (results_ct rfl _ _ gb183 51 #[.int .i64 0, .slice none 0 0, .slice none 0 0] (0, 0) _ rfl (by (repeat refine up1 ?_); refine blk_put (cs := #[.int .i64 0, .slice none 0 0, .slice none 0 0]) ?_ 2 _ rfl; (repeat refine up1 ?_); refine blk_put (cs := #[.int .i64 0, .slice none 0 0, .slice none 0 0]) ?_ 1 _ rfl; (repeat refine up1 ?_); refine blk_put (cs := #[.int .i64 0, .slice none 0 0, .slice none 0 0]) ?_ 0 _ rfl; (repeat refine up1 ?_); exact BK183.out) Try.underlying51 rfl (by kernel_rfl)) rfl ?_
  exact ⟨_, _, by first | rfl | (simp [errW_none, errW_some] <;> rfl) | (simp [*, errW_none, errW_some] <;> rfl), by first | exact Kd.R_nil _ _ _ _ _ | exact Kd.N_nil _ _ _ _ _ | exact Kd.V_nil _ _ _ _ _ | exact Kd.Q_nil _ _ _ _ _ | exact Kd.S_nil _ _ _ _ _, by first | exact Kd.R_nil _ _ _ _ _ | exact Kd.N_nil _ _ _ _ _ | exact Kd.V_nil _ _ _ _ _ | exact Kd.Q_nil _ _ _ _ _ | exact Kd.S_nil _ _ _ _ _, uH HB.out⟩

end Go.Proofs.Ytjdannndpfkadaa.Pr
