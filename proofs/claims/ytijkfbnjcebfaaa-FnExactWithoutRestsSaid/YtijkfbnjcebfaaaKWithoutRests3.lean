/- Texts of this session in one: what functions of the program compute, and plain facts of it, under the conditions that each theorem names. -/
import Derived.Test.YtijkfbnjcebfaaaKFimplWithoutRests
import Derived.Test.YtijkfbnjcebfaaaKFspecl07Is
import Derived.Test.YtijkfbnjcebfaaaKC01
import Derived.Test.YtijkfbnjcebfaaaKC02
import Derived.Test.YtijkfbnjcebfaaaKWithoutRests1
import Derived.Test.YtijkfbnjcebfaaaKWithoutRests2
namespace Go.Proofs.Ytijkfbnjcebfaaa.Pr
open Go.RowKit Go.Proofs.YtijkfbnjcebfaaaW.PrintWords Go.Proofs.YtijkfbnjcebfaaaW.PrintLast Go.Proofs.YtijkfbnjcebfaaaW.PrintMore
attribute [local go_sem] max2_int min2_int max_two min_two max_three min_three max_four min_four   -- for this text's walks alone
set_option linter.unusedVariables false
set_option linter.unusedSimpArgs false
/-! ### spec_WithoutRests: function 30 -/
def spec_WithoutRests.l0 : Nat → Int → Int → List Int → List Int → Int → List Int → List Int → Option (Int × List Int × List Int × Int)
 | 0, _, _, _, _, _, _, _ => none
 | k + 1, x5, x641000, x641001, x641002, x650000, x650001, x650002 => if x5 < (x641001.length : Int) then (if 0 ≤ x5 then (if x5 < (x641002.length : Int) then (if (rd x641002 x5) = 0 then (spec_WithoutRests.l0 k (wrap64 (x5 + 1)) x641000 x641001 x641002 x650000 x650001 x650002) else (if x650001.length < 17592186044416 then (if x650002.length < 17592186044416 then (spec_WithoutRests.l0 k (wrap64 (x5 + 1)) x641000 x641001 x641002 x650000 (x650001 ++ [rd x641001 x5]) (x650002 ++ [rd x641002 x5])) else (none)) else (none))) else (none)) else (none)) else (some (x650000, x650001, x650002, 0))
def spec_WithoutRests.f (k : Nat) (a0_0 : Int) (l0_1 : List Int) (l0_2 : List Int) : Option (Int × List Int × List Int × Int) := (spec_l07Is.f k a0_0 l0_1 l0_2).bind fun t642 => (if t642 = true then (spec_WithoutRests.l0 k 0 a0_0 l0_1 l0_2 a0_0 (([] : List Int)) (([] : List Int))) else (some (0, ([] : List Int), ([] : List Int), 1)))
theorem spec_WithoutRests.mono_l : ∀ k, (∀ y0 y1 y2 y3 y4 y5 y6, LeO (spec_WithoutRests.l0 k y0 y1 y2 y3 y4 y5 y6) (spec_WithoutRests.l0 (k + 1) y0 y1 y2 y3 y4 y5 y6))
 | 0 => fun _ _ _ _ _ _ _ r h => by simp [spec_WithoutRests.l0] at h
 | k + 1 => by
  have ih0 := spec_WithoutRests.mono_l k
  ·intro y0 y1 y2 y3 y4 y5 y6
   unfold spec_WithoutRests.l0
   repeat' first
   | (with_reducible exact ih0 _ _ _ _ _ _ _)
   | (with_reducible exact spec_l07Is.mono _ _ _ _)
   | (with_reducible exact LeO.refl _)
   | (with_reducible exact LeO.none _)
   | (with_reducible refine LeO.ite ?_ ?_)
   | (with_reducible refine LeO.bind ?_ (fun _ => ?_))
   | exact ih0 _ _ _ _ _ _ _
   | exact spec_l07Is.mono _ _ _ _
   | exact LeO.none _
   | refine LeO.ite ?_ ?_
   | refine LeO.bind ?_ (fun _ => ?_)
theorem spec_WithoutRests.mono : ∀ a0 a1 a2 k, LeO (spec_WithoutRests.f k a0 a1 a2) (spec_WithoutRests.f (k + 1) a0 a1 a2) := by
 intro a0 a1 a2 k
 have ih0 := spec_WithoutRests.mono_l k
 unfold spec_WithoutRests.f
 repeat' first
   | (with_reducible exact ih0 _ _ _ _ _ _ _)
   | (with_reducible exact spec_l07Is.mono _ _ _ _)
   | (with_reducible exact LeO.refl _)
   | (with_reducible exact LeO.none _)
   | (with_reducible refine LeO.ite ?_ ?_)
   | (with_reducible refine LeO.bind ?_ (fun _ => ?_))
   | exact ih0 _ _ _ _ _ _ _
   | exact spec_l07Is.mono _ _ _ _
   | exact LeO.none _
   | refine LeO.ite ?_ ?_
   | refine LeO.bind ?_ (fun _ => ?_)
def spec_WithoutRests.T8 : Bool × List (List Nat × List Nat) := (true, [([], []), ([0], [0]), ([], []), ([2], [2]), ([], []), ([3, 4], [3, 4]), ([5], [5]), ([6], [6]), ([1, 7], [1, 7]), ([0, 1, 2, 3, 4, 5, 6, 7, 8], []), ([9, 8, 8, 0, 1, 2, 3, 4, 5, 6, 7, 8], [8, 9])])
def spec_WithoutRests.B8 : List Nat := [0, 1, 0, 4, 0, 28, 60, 124, 255, 511, 1023]
theorem spec_WithoutRests.tab8 : rtab .any (opsOf Try.f30 8) = spec_WithoutRests.T8 := by kernel_rfl
theorem spec_WithoutRests.bits8 : waitsOk spec_WithoutRests.T8.2 spec_WithoutRests.B8 = true := by kernel_rfl
def spec_WithoutRests.T9 : Bool × List (List Nat × List Nat) := (true, [([], []), ([0], [0]), ([], []), ([2], [2]), ([], []), ([3, 4], [3, 4]), ([5], [5]), ([6], [6]), ([1, 7], [1, 7]), ([0, 1, 2, 3, 4, 5, 6, 7, 8], []), ([9, 8, 8, 0, 1, 2, 3, 4, 5, 6, 7, 8], [8, 9])])
def spec_WithoutRests.B9 : List Nat := [0, 1, 0, 4, 0, 28, 60, 124, 255, 511, 1023]
theorem spec_WithoutRests.tab9 : rtab .any (opsOf Try.f30 9) = spec_WithoutRests.T9 := by kernel_rfl
theorem spec_WithoutRests.bits9 : waitsOk spec_WithoutRests.T9.2 spec_WithoutRests.B9 = true := by kernel_rfl
set_option maxHeartbeats 8000000 in
set_option maxRecDepth 100000 in
theorem spec_WithoutRests.calls (k : Nat) (a0_0 : Int) (A0_1 : Option Addr) (c0_1 : Nat) (l0_1 : List Int) (A0_2 : Option Addr) (c0_2 : Nat) (l0_2 : List Int) (r1 : Int) (r2 : List Int) (r3 : List Int) (r4 : Int) (w : World) (hr0_1 : Kd.C (Kd.int .i64) w A0_1 l0_1.length l0_1) (hc0_1 : l0_1.length ≤ c0_1) (hr0_2 : Kd.C (Kd.int .i64) w A0_2 l0_2.length l0_2) (hc0_2 : l0_2.length ≤ c0_2) (h : spec_WithoutRests.f k a0_0 l0_1 l0_2 = some (r1, r2, r3, r4)) :
  Calls Try.prog 30 #[.agg #[.int .i64 a0_0, .slice A0_1 l0_1.length c0_1, .slice A0_2 l0_2.length c0_2]] w fun e w' => ∃ v1_ v2_ : Value, e = .returned (.tuple #[.agg #[.int .i64 r1, v1_, v2_], .int .i64 r4]) ∧ Kd.R (Kd.int .i64) 2 w' w.heap.size (fun k_ => some k_ ≠ (v2_ : Value).ownBlock) v1_ r2 ∧ Kd.R (Kd.int .i64) 2 w' w.heap.size (fun k_ => some k_ ≠ (v1_ : Value).ownBlock) v2_ r3 ∧ Below w.heap.size w w' := by
 have hu46 := Try.underlying46
 have HR0_1 := zA hr0_1
 have HC0_1 := zA hc0_1
 clear hr0_1 hc0_1
 have HR0_2 := zA hr0_2
 have HC0_2 := zA hc0_2
 clear hr0_2 hc0_2
 have HB := zA (Below.refl w.heap.size w)
 have H : ((spec_l07Is.f k a0_0 l0_1 l0_2).bind fun t642 => (if t642 = true then (spec_WithoutRests.l0 k 0 a0_0 l0_1 l0_2 a0_0 (([] : List Int)) (([] : List Int))) else (some (0, ([] : List Int), ([] : List Int), 1)))) = some (r1, r2, r3, r4) := h
 clear h
 replace H := Option.bind_eq_some_iff.mp H
 obtain ⟨t642, A20, H⟩ := H
 replace H : (if t642 = true then (spec_WithoutRests.l0 k 0 a0_0 l0_1 l0_2 a0_0 (([] : List Int)) (([] : List Int))) else (some (0, ([] : List Int), ([] : List Int), 1))) = some (r1, r2, r3, r4) := H
 have A2 := zA A20
 clear A20
 by_cases c3 : t642 = true
 ·subst c3
  have H1 : (spec_WithoutRests.l0 k 0 a0_0 l0_1 l0_2 a0_0 (([] : List Int)) (([] : List Int))) = some (r1, r2, r3, r4) := by rw [if_pos rfl] at H; exact H
  clear H
  have H := H1
  clear H1
  obtain ⟨y643, hy643⟩ : ∃ y_ : List Int, y_ = (([] : List Int)) := ⟨_, rfl⟩
  replace H : (spec_WithoutRests.l0 k 0 a0_0 l0_1 l0_2 a0_0 y643 (([] : List Int))) = some (r1, r2, r3, r4) := by first | (rw [hy643]; exact H) | exact H
  have Ny643 := zA hy643
  clear hy643
  obtain ⟨y646, hy646⟩ : ∃ y_ : List Int, y_ = (([] : List Int)) := ⟨_, rfl⟩
  replace H : (spec_WithoutRests.l0 k 0 a0_0 l0_1 l0_2 a0_0 y643 y646) = some (r1, r2, r3, r4) := by first | (rw [hy646]; exact H) | exact H
  have Ny646 := zA hy646
  clear hy646
  have H' := zA H
  clear H
  go_enter Try.func30, Try.ntmps30
  go_wp2_with (first | ((with_reducible refine gate_dst (N := 1) rfl ?_); refine bx 1 #[.int .i64 a0_0, .slice A0_1 l0_1.length c0_1, .slice A0_2 l0_2.length c0_2] 46 ?_; intro gb640 hg w4 hbox hb; have BK640 := zA (hbox); have GW640 := gq HB hg; have GE640 := gq HB hg; replace HB := xH HB hb; have := geI GE640; clear hb hbox hg) | ((with_reducible refine gate_dst (N := 2) rfl ?_); refine bx 2 #[.int .i64 0, .slice none 0 0, .slice none 0 0] 46 ?_; intro gb641 hg w5 hbox hb; have BK641 := zA (hbox); have GW641 := gq HB hg; have GE641 := gq HB hg; replace HB := xH HB hb; have NB640_641 := zA ((by rw [hg]; exact neL BK640 : gb640 ≠ gb641)); have NB641_640 := zA ((by rw [hg]; exact neG BK640 : gb641 ≠ gb640)); replace BK640 := xB BK640 hb; have := geI GE641; clear hb hbox hg; have hnb6 := NB640_641.out; have hnc6 := NB641_640.out; have hcz7_0 := bc BK640 0; have hcz7_1 := bc BK640 1; have hcz7_2 := bc BK640 2; have hfz7_0 := bf BK640 0; have hfz7_1 := bf BK640 1; have hfz7_2 := bf BK640 2) | ((with_reducible refine gate_callee (f := 59) rfl ?_); refine gL (some 7) Try.func59 #[.agg #[.int .i64 a0_0, .slice A0_1 l0_1.length c0_1, .slice A0_2 l0_2.length c0_2]] ?_; (with_reducible refine (spec_l07Is.calls k a0_0 _ _ l0_1 _ _ l0_2 true _ ?side1 ?side2 ?side3 ?side4 A2.out).mono ?_); (case side1 => exact uC ((Kd.C_below HR0_1.out HB.out))); (case side2 => exact HC0_1.out); (case side3 => exact uC ((Kd.C_below HR0_2.out HB.out))); (case side4 => exact HC0_2.out); rintro e w8 ⟨rfl, hb⟩; refine ⟨_, rfl, ?_⟩; replace BK640 := xB BK640 hb; replace BK641 := xB BK641 hb; replace HB := xH HB hb; (try clear hb); (try clear hb2); (try clear hk); (try clear hi); have hcz9_0 := bc BK640 0; have hcz9_1 := bc BK640 1; have hcz9_2 := bc BK640 2; have hfz9_0 := bf BK640 0; have hfz9_1 := bf BK640 1; have hfz9_2 := bf BK640 2) | ((with_reducible refine gate_dst (N := 12) rfl ?_); refine Kd.R_lit (Kd.int .i64) _ 2 ?hg (N := 12) ?hd (xs := ([] : List Int)) (inner := []) (ok := fun _ => True) (okp := fun _ => True) ?hr ?hp (fun _ hk => hk) trivial (Below.refl _ _) (Nat.le_refl _) (by simp) ?_; (case hd => rfl); (case hg => rfl); (case hr => first | (go_simp; done) | (go_simp; rfl)); (case hp => exact (Reps.none _ _)); intro v644 w10 ho11 hb hg_ hnew_; clear hg_ hnew_; (first | rw [← Ny643.out] at ho11 | (simp only [Int.reduceToNat] at ho11; rw [← Ny643.out] at ho11)); have HO645 := zA (Kd.R_lower ho11 (below_size (uH HB.out))); replace BK640 := xB BK640 hb; replace BK641 := xB BK641 hb; replace HB := xH HB hb; clear hb ho11) | ((with_reducible refine gate_dst (N := 13) rfl ?_); refine Kd.R_lit (Kd.int .i64) _ 2 ?hg (N := 13) ?hd (xs := ([] : List Int)) (inner := []) (ok := fun _ => True) (okp := fun _ => True) ?hr ?hp (fun _ hk => hk) trivial (Below.refl _ _) (Nat.le_refl _) (by simp) ?_; (case hd => rfl); (case hg => rfl); (case hr => first | (go_simp; done) | (go_simp; rfl)); (case hp => exact (Reps.none _ _)); intro v647 w12 ho13 hb hg_ hnew_; clear hg_ hnew_; (first | rw [← Ny646.out] at ho13 | (simp only [Int.reduceToNat] at ho13; rw [← Ny646.out] at ho13)); have HO648 := zA (Kd.R_lower (Kd.R_new' ho13 (Kd.R_lt (uR HO645.out))) (below_size (uH HB.out))); replace HO645 := zA (Kd.R_elder' (uR HO645.out) (Kd.R_base ho13) hb); replace BK640 := xB BK640 hb; replace BK641 := xB BK641 hb; replace HB := xH HB hb; clear hb ho13; obtain ⟨Ao14, co14, eo14⟩ := Kd.R_slice HO648.out; subst eo14; obtain ⟨Ao15, co15, eo15⟩ := Kd.R_slice HO645.out; subst eo15) | ((with_reducible refine gate_dst (N := 4) rfl ?_); refine bx 4 #[.int .i64 0, .slice none 0 0, .slice none 0 0] 46 ?_; intro gb649 hg w16 hbox hb; replace HO645 := xR HO645 hb; replace HO648 := xR HO648 hb; have BK649 := zA (hbox); have GW649 := gq HB hg; have GE649 := gq HB hg; replace HB := xH HB hb; have NB640_649 := zA ((by rw [hg]; exact neL BK640 : gb640 ≠ gb649)); have NB649_640 := zA ((by rw [hg]; exact neG BK640 : gb649 ≠ gb640)); replace BK640 := xB BK640 hb; have NB641_649 := zA ((by rw [hg]; exact neL BK641 : gb641 ≠ gb649)); have NB649_641 := zA ((by rw [hg]; exact neG BK641 : gb649 ≠ gb641)); replace BK641 := xB BK641 hb; have := geI GE649; clear hb hbox hg; have hnb17 := NB649_640.out; have hnc17 := NB640_649.out; have hnb18 := NB649_641.out; have hnc18 := NB641_649.out; have hcz19_0 := bc BK649 0; have hcz19_1 := bc BK649 1; have hcz19_2 := bc BK649 2; have hfz19_0 := bf BK649 0; have hfz19_1 := bf BK649 1; have hfz19_2 := bf BK649 2))
  go_loopg [5] k (fun kq v5 w' => ∃ (x5_1 : Int) (x650001_1 : List Int) (x650002_1 : List Int) (u650001 : Value) (u650002 : Value), v5 = .int .i64 x5_1 ∧ Aside0 (spec_WithoutRests.l0 kq x5_1 a0_0 l0_1 l0_2 a0_0 x650001_1 x650002_1 = some (r1, r2, r3, r4)) ∧ Aside0 (kq ≤ k) ∧ Aside0 (Kd.R (Kd.int .i64) 2 w' w.heap.size (fun k_ => some k_ ≠ (u650002 : Value).ownBlock) u650001 x650001_1) ∧ Aside0 (Kd.R (Kd.int .i64) 2 w' w.heap.size (fun k_ => some k_ ≠ (u650001 : Value).ownBlock) u650002 x650002_1) ∧ Aside0 (w'.heap[gb640]? = some (.cells #[.int .i64 a0_0, (.slice A0_1 l0_1.length c0_1), (.slice A0_2 l0_2.length c0_2)] 46 (0, 0))) ∧ Aside0 (w'.heap[gb641]? = some (.cells #[.int .i64 0, (.slice none 0 0), (.slice none 0 0)] 46 (0, 0))) ∧ Aside0 (w'.heap[gb649]? = some (.cells #[.int .i64 a0_0, u650001, u650002] 46 (0, 0))) ∧ Aside0 (Below w.heap.size w w'))
  case atStart => exact ⟨(0), (y643), (y646), (.slice Ao15 y643.length co15), (.slice Ao14 y646.length co14), (by first | rfl | (simp; done) | (simp [*]; done)), H', ⟨Nat.le_refl _⟩, ⟨uR (Kd.R_mono (Kd.R_far (p := ⟨gb649, 2, none⟩) (Kd.R_far (p := ⟨gb649, 1, none⟩) (Kd.R_far (p := ⟨gb649, 0, none⟩) (Kd.R_types HO645.out BK649.out (by decide)) (fun _ hk => hk.2) (.int .i64 a0_0)) (fun _ hk => hk.2) (.slice Ao15 y643.length co15)) (fun _ hk => hk.2) (.slice Ao14 y646.length co14)) (fun _ hk => hk.1.2))⟩, ⟨uR (Kd.R_mono (Kd.R_far (p := ⟨gb649, 2, none⟩) (Kd.R_far (p := ⟨gb649, 1, none⟩) (Kd.R_far (p := ⟨gb649, 0, none⟩) (Kd.R_types HO648.out BK649.out (by decide)) (fun _ hk => hk.2) (.int .i64 a0_0)) (fun _ hk => hk.2) (.slice Ao15 y643.length co15)) (fun _ hk => hk.2) (.slice Ao14 y646.length co14)) (fun _ hk => hk.1.2))⟩, ⟨by (repeat refine up1 ?_); refine blk_far ?_ NB640_649.out _; (repeat refine up1 ?_); refine blk_far ?_ NB640_649.out _; (repeat refine up1 ?_); refine blk_far ?_ NB640_649.out _; (repeat refine up1 ?_); exact BK640.out⟩, ⟨by (repeat refine up1 ?_); refine blk_far ?_ NB641_649.out _; (repeat refine up1 ?_); refine blk_far ?_ NB641_649.out _; (repeat refine up1 ?_); refine blk_far ?_ NB641_649.out _; (repeat refine up1 ?_); exact BK641.out⟩, ⟨by (repeat refine up1 ?_); refine blk_put (cs := #[.int .i64 a0_0, .slice Ao15 y643.length co15, .slice none 0 0]) ?_ 2 _ rfl; (repeat refine up1 ?_); refine blk_put (cs := #[.int .i64 a0_0, .slice none 0 0, .slice none 0 0]) ?_ 1 _ rfl; (repeat refine up1 ?_); refine blk_put (cs := #[.int .i64 0, .slice none 0 0, .slice none 0 0]) ?_ 0 _ rfl; (repeat refine up1 ?_); exact BK649.out⟩, ⟨uH HB.out⟩⟩
  case round =>
   clear H'
   (try clear c1);(try clear p2);(try clear c3);(try clear c5);(try clear c6);(try clear c17);(try clear c18);(try clear hcz19_0);(try clear hcz19_1);(try clear hcz19_2);(try clear hcz7_0);(try clear hcz7_1);(try clear hcz7_2);(try clear hcz9_0);(try clear hcz9_1);(try clear hcz9_2);(try clear hfz19_0);(try clear hfz19_1);(try clear hfz19_2);(try clear hfz7_0);(try clear hfz7_1);(try clear hfz7_2)
   (try clear hfz9_0);(try clear hfz9_1);(try clear hfz9_2)
   obtain ⟨x5_1, x650001_1, x650002_1, u650001, u650002, rfl, HA, HK1, HO_650001, HO_650002, BK640, BK641, BK649, HB⟩ := hrel
   cases gk with
   | zero => exact absurd HA.out (by simp [spec_WithoutRests.l0])
   | succ k1 =>
    have H := HA.out
    clear HA
    simp only [spec_WithoutRests.l0] at H
    by_cases c20 : x5_1 < (l0_1.length : Int)
    rotate_left
    ·rw [if_neg c20] at H
     have c20b0 : decide (x5_1 < (l0_1.length : Int)) = false := decide_eq_false c20
     clear c20
     simp only [Option.some.injEq, Prod.mk.injEq] at H
     obtain ⟨rfl, rfl, rfl, rfl⟩ := H
     have hnb41 := NB640_641.out; have hnc41 := NB641_640.out; have hnb42 := NB640_649.out; have hnc42 := NB649_640.out
     have hcz43_0 := bc BK640 0
     have hcz43_1 := bc BK640 1
     have hcz43_2 := bc BK640 2
     have hfz43_0 := bf BK640 0
     have hfz43_1 := bf BK640 1
     have hfz43_2 := bf BK640 2
     have hnb44 := NB649_641.out; have hnc44 := NB641_649.out
     have hcz45_0 := bc BK649 0
     have hcz45_1 := bc BK649 1
     have hcz45_2 := bc BK649 2
     have hfz45_0 := bf BK649 0
     have hfz45_1 := bf BK649 1
     have hfz45_2 := bf BK649 2
     have hcz46_0 := bc BK641 0
     have hcz46_1 := bc BK641 1
     have hcz46_2 := bc BK641 2
     have hfz46_0 := bf BK641 0
     have hfz46_1 := bf BK641 1
     have hfz46_2 := bf BK641 2
     obtain ⟨Ao47, co47, eo47⟩ := Kd.R_slice HO_650001.out
     subst eo47
     obtain ⟨Ao48, co48, eo48⟩ := Kd.R_slice HO_650002.out
     subst eo48
     go_wp2
     refine bodyPost_ret (results_ct rfl _ _ gb641 46 #[.int .i64 a0_0, .slice Ao47 x650001_1.length co47, .slice Ao48 x650002_1.length co48] (0, 0) _ rfl (by (repeat refine up1 ?_); refine blk_put (cs := #[.int .i64 a0_0, .slice Ao47 x650001_1.length co47, .slice none 0 0]) ?_ 2 _ rfl; (repeat refine up1 ?_); refine blk_put (cs := #[.int .i64 a0_0, .slice none 0 0, .slice none 0 0]) ?_ 1 _ rfl; (repeat refine up1 ?_); refine blk_put (cs := #[.int .i64 0, .slice none 0 0, .slice none 0 0]) ?_ 0 _ rfl; (repeat refine up1 ?_); exact BK641.out) Try.underlying46 rfl (by kernel_rfl)) rfl ?_
     exact ⟨_, _, by first | rfl | (simp [errW_none, errW_some] <;> rfl) | (simp [*, errW_none, errW_some] <;> rfl), uR (rf3 HO_650001 BK641 (by decide) (.int .i64 a0_0) (.slice Ao47 x650001_1.length co47) (.slice Ao48 x650002_1.length co48)), uR (rf3 HO_650002 BK641 (by decide) (.int .i64 a0_0) (.slice Ao47 x650001_1.length co47) (.slice Ao48 x650002_1.length co48)), uH HB.out⟩
    rw [if_pos c20] at H
    have c20b0 : decide (x5_1 < (l0_1.length : Int)) = true := decide_eq_true c20
    clear c20
    by_cases c21 : 0 ≤ x5_1
    rotate_left
    ·rw [if_neg c21] at H
     exact absurd H (by simp)
    rw [if_pos c21] at H
    have c21b0 : decide (0 ≤ x5_1) = true := decide_eq_true c21
    clear c21
    by_cases c22 : x5_1 < (l0_2.length : Int)
    rotate_left
    ·rw [if_neg c22] at H
     exact absurd H (by simp)
    rw [if_pos c22] at H
    have c22b0 : decide (x5_1 < (l0_2.length : Int)) = true := decide_eq_true c22
    clear c22
    by_cases c23 : (rd l0_2 x5_1) = 0
    rotate_left
    ·rw [if_neg c23] at H
     have c23b0 : ((rd l0_2 x5_1) == 0) = false := beq_eq_false_iff_ne.mpr c23
     have c23b1 : ((rd l0_2 x5_1) != 0) = true := bne_iff_ne.mpr c23
     by_cases c27 : x650001_1.length < 17592186044416
     rotate_left
     ·rw [if_neg c27] at H
      exact absurd H (by simp)
     rw [if_pos c27] at H
     have LMc27 := zA c27
     clear c27
     obtain ⟨y652, hy652⟩ : ∃ y_ : List Int, y_ = (x650001_1 ++ [rd l0_1 x5_1]) := ⟨_, rfl⟩
     replace H : (if x650002_1.length < 17592186044416 then (spec_WithoutRests.l0 k1 (wrap64 (x5_1 + 1)) a0_0 l0_1 l0_2 a0_0 y652 (x650002_1 ++ [rd l0_2 x5_1])) else (none)) = some (r1, r2, r3, r4) := by first | (rw [hy652]; exact H) | exact H
     have Ny652 := zA hy652
     clear hy652
     by_cases c28 : x650002_1.length < 17592186044416
     rotate_left
     ·rw [if_neg c28] at H
      exact absurd H (by simp)
     rw [if_pos c28] at H
     have LMc28 := zA c28
     clear c28
     obtain ⟨y656, hy656⟩ : ∃ y_ : List Int, y_ = (x650002_1 ++ [rd l0_2 x5_1]) := ⟨_, rfl⟩
     replace H : (spec_WithoutRests.l0 k1 (wrap64 (x5_1 + 1)) a0_0 l0_1 l0_2 a0_0 y652 y656) = some (r1, r2, r3, r4) := by first | (rw [hy656]; exact H) | exact H
     have Ny656 := zA hy656
     clear hy656
     have H' := zA H
     clear H
     have hnb29 := NB640_641.out; have hnc29 := NB641_640.out; have hnb30 := NB640_649.out; have hnc30 := NB649_640.out
     have hcz31_0 := bc BK640 0
     have hcz31_1 := bc BK640 1
     have hcz31_2 := bc BK640 2
     have hfz31_0 := bf BK640 0
     have hfz31_1 := bf BK640 1
     have hfz31_2 := bf BK640 2
     have p650 : 0 ≤ (x5_1 : Int) := of_decide_eq_true (by first | (with_reducible assumption) | assumption)
     have q650 : x5_1 < (l0_2.length : Int) := of_decide_eq_true (by first | (with_reducible assumption) | assumption)
     obtain ⟨ad650, e650, hx650_0⟩ := Kd.at_int HR0_2.out x5_1 p650 q650
     cases e650
     replace hx650_0 := hc HB hx650_0
     replace p650 := eq_true p650
     replace q650 := eq_true q650
     try go_wp2
     replace HO_650001 := zA (Kd.R_drew HO_650001.out)
     replace HO_650002 := zA (Kd.R_drew HO_650002.out)
     replace BK640 := zA (blk_drew BK640.out)
     replace BK641 := zA (blk_drew BK641.out)
     replace BK649 := zA (blk_drew BK649.out)
     replace HB := zA (below_drew1 HB.out)
     have p651 : 0 ≤ (x5_1 : Int) := of_decide_eq_true (by first | (with_reducible assumption) | assumption)
     have q651 : x5_1 < (l0_1.length : Int) := of_decide_eq_true (by first | (with_reducible assumption) | assumption)
     obtain ⟨ad651, e651, hx651_0⟩ := Kd.at_int HR0_1.out x5_1 p651 q651
     have hw651_0 := hx651_0
     cases e651
     replace hx651_0 := hc HB hx651_0
     replace p651 := eq_true p651
     replace q651 := eq_true q651
     refine start_ (n := 11) (S := fun w' => w'.cell? ⟨gb649, 0, none⟩ = some (.int .i64 a0_0) ∧ w'.cell? ⟨gb649, 1, none⟩ = some (u650001) ∧ w'.cell? ⟨gb649, 2, none⟩ = some (u650002) ∧ w'.cell? ⟨gb640, 0, none⟩ = some (.int .i64 a0_0) ∧ w'.cell? ⟨gb640, 1, none⟩ = some (.slice (some ad651) l0_1.length c0_1) ∧ w'.cell? ⟨gb640, 2, none⟩ = some (.slice (some ad650) l0_2.length c0_2) ∧ w'.cell? (ad651.add (x5_1).toNat) = some (.int .i64 (rd l0_1 x5_1))) (ds := [10]) #[false, false, false, false, false, false, false, false, false, false, false] (by kernel_rfl) rfl rfl ⟨bcu BK649 0, bcu BK649 1, bcu BK649 2, bcu BK640 0, bcu BK640 1, bcu BK640 2, (hcu HB hw651_0)⟩ (fun hHeld => ?_); refine with_tabW spec_WithoutRests.tab8 spec_WithoutRests.bits8 (fun HT_ HW_ => ?_)
     generalize wr.drew = w32 at HO_650001 HO_650002 BK640 BK641 BK649 HB hx651_0 hHeld ⊢
     refine pu_ 0 28 (bl 11 1) HT_ ?_
     refine pu_ 2 30 (bl 11 5) HT_ ?_
     refine pu_ 4 32 (bl 11 21) HT_ ?_
     refine ta_ 1 29 (bl 11 23) HT_ HW_ hHeld ?_
     refine ta_ 3 31 (bl 11 31) HT_ HW_ hHeld ?_
     refine pu_ 5 33 (bl 11 63) HT_ ?_
     refine ta_ 6 34 (bl 11 127) HT_ HW_ hHeld ?_
     refine on_ 7 (some 35) (bl 11 255) HT_ (fun K hK => ?_)
     refine value_ (w1 := ?_) (v := ?_) (by rfl) rfl ?_ ?_
     rotate_left 2
     ·go_simp
      constructor
      ·rfl
      ·rfl
     refine hK.out _ _ ⟨(blk_cell (blk_alloc BK649.out _) 0).trans rfl, (blk_cell (blk_alloc BK649.out _) 1).trans rfl, (blk_cell (blk_alloc BK649.out _) 2).trans rfl, (blk_cell (blk_alloc BK640.out _) 0).trans rfl, (blk_cell (blk_alloc BK640.out _) 1).trans rfl, (blk_cell (blk_alloc BK640.out _) 2).trans rfl, (World.cell?_alloc_lt _ _ _ (World.block_lt_of_cell? _ _ ((hcu HB hw651_0)))).trans ((hcu HB hw651_0))⟩ (fun hHeld => ?_)
     clear hK K
     refine no_ 35 ?_
     refine on_ 8 (some 36) (bl 11 511) HT_ (fun K hK => ?_)
     refine Kd.R_append_step (Kd.int .i64) (w0 := w) w.heap.size (by rfl) (.tmp 29) (.tmp 35) 22 2 (.int .i64 0) 8 rfl Try.underlying22 info2 rfl (by decide) (by omega) u650001 x650001_1 (rd l0_1 x5_1) [.int .i64 (rd l0_1 x5_1)] (fun k_ => some k_ ≠ (u650002 : Value).ownBlock) (fun _ => False) rfl rfl ?aP (fun _ hk => hk.elim) ?aF ?aO ?aB ?aS ?aL ?_
     (case aP => exact rfl)
     (case aB => exact (uH HB.out))
     (case aF => exact (fun k_ hk => Kd.fresh' (Kd.R_lt (uR HO_650002.out)) k_ hk))
     (case aO => exact (uR HO_650001.out))
     (case aS => exact (below_size (uH HB.out)))
     (case aL => have := LMc27.out; omega)
     intro v653 w33 ho hb hg hat
     rw [← Ny652.out] at ho
     replace HO_650002 := zA (Kd.R_after (ok := (fun _ => True)) (uR (Kd.R_mono HO_650002.out (fun _ hk => ⟨trivial, hk⟩))) hg hat)
     replace BK640 := zA (blk_grown (g := gb640) (o := .cells #[.int .i64 a0_0, .slice (some ad651) l0_1.length c0_1, .slice (some ad650) l0_2.length c0_2] 46 (0, 0)) (uB BK640.out) hg (Kd.R_ne HO_650001.out BK640.out (by decide)))
     replace BK641 := zA (blk_grown (g := gb641) (o := .cells #[.int .i64 0, .slice none 0 0, .slice none 0 0] 46 (0, 0)) (uB BK641.out) hg (Kd.R_ne HO_650001.out BK641.out (by decide)))
     replace BK649 := zA (blk_grown (g := gb649) (o := .cells #[.int .i64 a0_0, u650001, u650002] 46 (0, 0)) (uB BK649.out) hg (Kd.R_ne HO_650001.out BK649.out (by decide)))
     replace HB := zA (hb)
     have HO654 := zA (ho)
     clear HO_650001
     clear ho hb hg hat
     obtain ⟨Ao34, co34, eo34⟩ := Kd.R_slice HO654.out
     (first | subst eo34 | (injection eo34 with f1_ f2_ f3_; have f4_ := f1_.symm; have f5_ := f3_.symm; clear f1_ f2_ f3_; subst f4_; subst f5_))
     refine hK.out _ _ ⟨bcu BK649 0, bcu BK649 1, bcu BK649 2, bcu BK640 0, bcu BK640 1, bcu BK640 2, (hcu HB hw651_0)⟩ (fun hHeld => ?_)
     clear hK K
     refine no_ 36 ?_
     refine pu_ 9 37 (bl 11 1023) HT_ ?_
     refine last_ (i := 10) (N := none) (bl 11 2047) rfl rfl (one_of HT_.out (by kernel_rfl)) (by decide) (fun K hK => ?_)
     have hs35 : w33.cell? ⟨gb649, 1, none⟩ = some (u650001) := (blk_cell BK649.out 1).trans rfl
     have hfs35 := bf BK649 1
     have hns35_0 := NB640_649.out; have hns35_1 := NB641_649.out; have hms35_0 := NB649_640.out; have hms35_1 := NB649_641.out
     refine skip_ (w1 := ?_) (by rfl) rfl ?_ ?_
     rotate_left
     ·go_simp
      rfl
     refine hK.out _ _ ?_
     clear hK K
     refine done_ (done_of HT_.out (by kernel_rfl)) ?_
     try go_wp2
     have n0_ : Aside0 (Kd.R (Kd.int .i64) 2 (w33.setCell ⟨gb649, 1, none⟩ (.slice Ao34 y652.length co34)) w.heap.size (fun k_ => ax k_ (.slice Ao34 y652.length co34)) u650002 x650002_1) := ⟨uR (Kd.R_mono (Kd.R_far (p := ⟨gb649, 1, none⟩) (Kd.R_types HO_650002.out BK649.out (by decide)) (fun _ hk => hk.2) (.slice Ao34 y652.length co34)) (fun _ hk => hk.1.2))⟩
     have n1_ : Aside0 (Kd.R (Kd.int .i64) 2 (w33.setCell ⟨gb649, 1, none⟩ (.slice Ao34 y652.length co34)) w.heap.size (fun k_ => some k_ ≠ (u650002 : Value).ownBlock) (.slice Ao34 y652.length co34) y652) := ⟨uR (Kd.R_mono (Kd.R_far (p := ⟨gb649, 1, none⟩) (Kd.R_types HO654.out BK649.out (by decide)) (fun _ hk => hk.2) (.slice Ao34 y652.length co34)) (fun _ hk => hk.1))⟩
     have n2_ : Aside0 ((w33.setCell ⟨gb649, 1, none⟩ (.slice Ao34 y652.length co34)).heap[gb640]? = some (.cells #[.int .i64 a0_0, .slice (some ad651) l0_1.length c0_1, .slice (some ad650) l0_2.length c0_2] 46 (0, 0))) := ⟨by (repeat refine up1 ?_); refine blk_far ?_ NB640_649.out _; (repeat refine up1 ?_); exact BK640.out⟩
     have n3_ : Aside0 ((w33.setCell ⟨gb649, 1, none⟩ (.slice Ao34 y652.length co34)).heap[gb641]? = some (.cells #[.int .i64 0, .slice none 0 0, .slice none 0 0] 46 (0, 0))) := ⟨by (repeat refine up1 ?_); refine blk_far ?_ NB641_649.out _; (repeat refine up1 ?_); exact BK641.out⟩
     have n4_ : Aside0 ((w33.setCell ⟨gb649, 1, none⟩ (.slice Ao34 y652.length co34)).heap[gb649]? = some (.cells #[.int .i64 a0_0, .slice Ao34 y652.length co34, u650002] 46 (0, 0))) := ⟨by (repeat refine up1 ?_); refine blk_put (cs := #[.int .i64 a0_0, u650001, u650002]) ?_ 1 _ rfl; (repeat refine up1 ?_); exact BK649.out⟩
     have n5_ : Aside0 (Below w.heap.size w (w33.setCell ⟨gb649, 1, none⟩ (.slice Ao34 y652.length co34))) := ⟨uH HB.out⟩
     (try clear HO_650002); (try clear HO654); (try clear BK640); (try clear BK641); (try clear BK649); (try clear HB)
     (try rw [setCell_drewN])
     generalize (w33.setCell ⟨gb649, 1, none⟩ (.slice Ao34 y652.length co34)) = w36 at n0_ n1_ n2_ n3_ n4_ n5_ ⊢
     have HO_650002 := n0_
     have HO654 := n1_
     have BK640 := n2_
     have BK641 := n3_
     have BK649 := n4_
     have HB := n5_
     clear n0_ n1_ n2_ n3_ n4_ n5_
     replace HO_650002 := zA (Kd.R_drew HO_650002.out)
     replace HO654 := zA (Kd.R_drew HO654.out)
     replace BK640 := zA (blk_drew BK640.out)
     replace BK641 := zA (blk_drew BK641.out)
     replace BK649 := zA (blk_drew BK649.out)
     replace HB := zA (below_drew1 HB.out)
     have p655 : 0 ≤ (x5_1 : Int) := of_decide_eq_true (by first | (with_reducible assumption) | assumption)
     have q655 : x5_1 < (l0_2.length : Int) := of_decide_eq_true (by first | (with_reducible assumption) | assumption)
     obtain ⟨ad655, e655, hx655_0⟩ := Kd.at_int HR0_2.out x5_1 p655 q655
     have hw655_0 := hx655_0
     obtain rfl : ad650 = ad655 := (by injection e655)
     replace hx655_0 := hc HB hx655_0
     replace p655 := eq_true p655
     replace q655 := eq_true q655
     refine start_ (n := 11) (S := fun w' => w'.cell? ⟨gb649, 0, none⟩ = some (.int .i64 a0_0) ∧ w'.cell? ⟨gb649, 1, none⟩ = some (.slice Ao34 y652.length co34) ∧ w'.cell? ⟨gb649, 2, none⟩ = some (u650002) ∧ w'.cell? ⟨gb640, 0, none⟩ = some (.int .i64 a0_0) ∧ w'.cell? ⟨gb640, 1, none⟩ = some (.slice (some ad651) l0_1.length c0_1) ∧ w'.cell? ⟨gb640, 2, none⟩ = some (.slice (some ad650) l0_2.length c0_2) ∧ w'.cell? (ad650.add (x5_1).toNat) = some (.int .i64 (rd l0_2 x5_1))) (ds := [10]) #[false, false, false, false, false, false, false, false, false, false, false] (by kernel_rfl) rfl rfl ⟨bcu BK649 0, bcu BK649 1, bcu BK649 2, bcu BK640 0, bcu BK640 1, bcu BK640 2, (hcu HB hw655_0)⟩ (fun hHeld => ?_); refine with_tabW spec_WithoutRests.tab9 spec_WithoutRests.bits9 (fun HT_ HW_ => ?_)
     generalize w36.drew = w37 at HO_650002 HO654 BK640 BK641 BK649 HB hx655_0 hHeld ⊢
     refine pu_ 0 38 (bl 11 1) HT_ ?_
     refine pu_ 2 40 (bl 11 5) HT_ ?_
     refine pu_ 4 42 (bl 11 21) HT_ ?_
     refine ta_ 1 39 (bl 11 23) HT_ HW_ hHeld ?_
     refine ta_ 3 41 (bl 11 31) HT_ HW_ hHeld ?_
     refine pu_ 5 43 (bl 11 63) HT_ ?_
     refine ta_ 6 44 (bl 11 127) HT_ HW_ hHeld ?_
     refine on_ 7 (some 45) (bl 11 255) HT_ (fun K hK => ?_)
     refine value_ (w1 := ?_) (v := ?_) (by rfl) rfl ?_ ?_
     rotate_left 2
     ·go_simp
      constructor
      ·rfl
      ·rfl
     refine hK.out _ _ ⟨(blk_cell (blk_alloc BK649.out _) 0).trans rfl, (blk_cell (blk_alloc BK649.out _) 1).trans rfl, (blk_cell (blk_alloc BK649.out _) 2).trans rfl, (blk_cell (blk_alloc BK640.out _) 0).trans rfl, (blk_cell (blk_alloc BK640.out _) 1).trans rfl, (blk_cell (blk_alloc BK640.out _) 2).trans rfl, (World.cell?_alloc_lt _ _ _ (World.block_lt_of_cell? _ _ ((hcu HB hw655_0)))).trans ((hcu HB hw655_0))⟩ (fun hHeld => ?_)
     clear hK K
     refine no_ 45 ?_
     refine on_ 8 (some 46) (bl 11 511) HT_ (fun K hK => ?_)
     refine Kd.R_append_step (Kd.int .i64) (w0 := w) w.heap.size (by rfl) (.tmp 39) (.tmp 45) 22 2 (.int .i64 0) 8 rfl Try.underlying22 info2 rfl (by decide) (by omega) u650002 x650002_1 (rd l0_2 x5_1) [.int .i64 (rd l0_2 x5_1)] (fun k_ => ax k_ (.slice Ao34 y652.length co34)) (fun _ => False) rfl rfl ?aP (fun _ hk => hk.elim) ?aF ?aO ?aB ?aS ?aL ?_
     (case aP => exact rfl)
     (case aB => exact (uH HB.out))
     (case aF => exact (fun k_ hk => Kd.fresh' (Kd.R_lt (uR HO654.out)) k_ hk))
     (case aO => exact (uR HO_650002.out))
     (case aS => exact (below_size (uH HB.out)))
     (case aL => have := LMc28.out; omega)
     intro v657 w38 ho hb hg hat
     rw [← Ny656.out] at ho
     replace BK640 := zA (blk_grown (g := gb640) (o := .cells #[.int .i64 a0_0, .slice (some ad651) l0_1.length c0_1, .slice (some ad650) l0_2.length c0_2] 46 (0, 0)) (uB BK640.out) hg (Kd.R_ne HO_650002.out BK640.out (by decide)))
     replace BK641 := zA (blk_grown (g := gb641) (o := .cells #[.int .i64 0, .slice none 0 0, .slice none 0 0] 46 (0, 0)) (uB BK641.out) hg (Kd.R_ne HO_650002.out BK641.out (by decide)))
     replace BK649 := zA (blk_grown (g := gb649) (o := .cells #[.int .i64 a0_0, .slice Ao34 y652.length co34, u650002] 46 (0, 0)) (uB BK649.out) hg (Kd.R_ne HO_650002.out BK649.out (by decide)))
     replace HO654 := zA (Kd.R_after (ok := (fun _ => True)) (uR (Kd.R_mono HO654.out (fun _ hk => ⟨trivial, hk⟩))) hg hat)
     replace HB := zA (hb)
     have HO658 := zA (ho)
     clear HO_650002
     clear ho hb hg hat
     obtain ⟨Ao39, co39, eo39⟩ := Kd.R_slice HO658.out
     (first | subst eo39 | (injection eo39 with f1_ f2_ f3_; have f4_ := f1_.symm; have f5_ := f3_.symm; clear f1_ f2_ f3_; subst f4_; subst f5_))
     refine hK.out _ _ ⟨bcu BK649 0, bcu BK649 1, bcu BK649 2, bcu BK640 0, bcu BK640 1, bcu BK640 2, (hcu HB hw655_0)⟩ (fun hHeld => ?_)
     clear hK K
     refine no_ 46 ?_
     refine pu_ 9 47 (bl 11 1023) HT_ ?_
     refine last_ (i := 10) (N := none) (bl 11 2047) rfl rfl (one_of HT_.out (by kernel_rfl)) (by decide) (fun K hK => ?_)
     have hs40 : w38.cell? ⟨gb649, 2, none⟩ = some (u650002) := (blk_cell BK649.out 2).trans rfl
     have hfs40 := bf BK649 2
     have hns40_0 := NB640_649.out; have hns40_1 := NB641_649.out; have hms40_0 := NB649_640.out; have hms40_1 := NB649_641.out
     refine skip_ (w1 := ?_) (by rfl) rfl ?_ ?_
     rotate_left
     ·go_simp
      rfl
     refine hK.out _ _ ?_
     clear hK K
     refine done_ (done_of HT_.out (by kernel_rfl)) ?_
     try go_wp2
     go_roundg k1
     case measure => have := HK1.out; omega
     case rel => exact ⟨(wrap64 (x5_1 + 1)), (y652), (y656), (.slice Ao34 y652.length co34), (.slice Ao39 y656.length co39), (by first | rfl | (simp; done) | (simp [*]; done)), H', ⟨by have := HK1.out; omega⟩, ⟨uR (Kd.R_mono (Kd.R_far (p := ⟨gb649, 2, none⟩) (Kd.R_types HO654.out BK649.out (by decide)) (fun _ hk => hk.2) (.slice Ao39 y656.length co39)) (fun _ hk => hk.1.2))⟩, ⟨uR (Kd.R_mono (Kd.R_far (p := ⟨gb649, 2, none⟩) (Kd.R_types HO658.out BK649.out (by decide)) (fun _ hk => hk.2) (.slice Ao39 y656.length co39)) (fun _ hk => hk.1))⟩, ⟨by (repeat refine up1 ?_); refine blk_far ?_ NB640_649.out _; (repeat refine up1 ?_); exact BK640.out⟩, ⟨by (repeat refine up1 ?_); refine blk_far ?_ NB641_649.out _; (repeat refine up1 ?_); exact BK641.out⟩, ⟨by (repeat refine up1 ?_); refine blk_put (cs := #[.int .i64 a0_0, .slice Ao34 y652.length co34, u650002]) ?_ 2 _ rfl; (repeat refine up1 ?_); exact BK649.out⟩, ⟨uH HB.out⟩⟩
    rw [if_pos c23] at H
    have c23b0 : ((rd l0_2 x5_1) == 0) = true := beq_iff_eq.mpr c23
    have c23b1 : ((rd l0_2 x5_1) != 0) = false := bne_eq_false_iff_eq.mpr c23
    clear c23
    have H' := zA H
    clear H
    have hnb24 := NB640_641.out; have hnc24 := NB641_640.out; have hnb25 := NB640_649.out; have hnc25 := NB649_640.out
    have hcz26_0 := bc BK640 0
    have hcz26_1 := bc BK640 1
    have hcz26_2 := bc BK640 2
    have hfz26_0 := bf BK640 0
    have hfz26_1 := bf BK640 1
    have hfz26_2 := bf BK640 2
    have p650 : 0 ≤ (x5_1 : Int) := of_decide_eq_true (by first | (with_reducible assumption) | assumption)
    have q650 : x5_1 < (l0_2.length : Int) := of_decide_eq_true (by first | (with_reducible assumption) | assumption)
    obtain ⟨ad650, e650, hx650_0⟩ := Kd.at_int HR0_2.out x5_1 p650 q650
    cases e650
    replace hx650_0 := hc HB hx650_0
    replace p650 := eq_true p650
    replace q650 := eq_true q650
    go_wp2
    go_roundg k1
    case measure => have := HK1.out; omega
    case rel => exact ⟨(wrap64 (x5_1 + 1)), (x650001_1), (x650002_1), (u650001), (u650002), (by first | rfl | (simp; done) | (simp [*]; done)), H', ⟨by have := HK1.out; omega⟩, ⟨uR HO_650001.out⟩, ⟨uR HO_650002.out⟩, ⟨uB BK640.out⟩, ⟨uB BK641.out⟩, ⟨uB BK649.out⟩, ⟨uH HB.out⟩⟩
 ·replace c3 := Bool.eq_false_iff.mpr c3
  subst c3
  have H1 : (some (0, ([] : List Int), ([] : List Int), 1)) = some (r1, r2, r3, r4) := by rw [if_neg (show ¬ (false = true) by decide)] at H; exact H
  clear H
  have H := H1
  clear H1
  simp only [Option.some.injEq, Prod.mk.injEq] at H
  obtain ⟨rfl, rfl, rfl, rfl⟩ := H
  go_enter Try.func30, Try.ntmps30
  go_wp2_with (first | ((with_reducible refine gate_dst (N := 1) rfl ?_); refine bx 1 #[.int .i64 a0_0, .slice A0_1 l0_1.length c0_1, .slice A0_2 l0_2.length c0_2] 46 ?_; intro gb640 hg w49 hbox hb; have BK640 := zA (hbox); have GW640 := gq HB hg; have GE640 := gq HB hg; replace HB := xH HB hb; have := geI GE640; clear hb hbox hg) | ((with_reducible refine gate_dst (N := 2) rfl ?_); refine bx 2 #[.int .i64 0, .slice none 0 0, .slice none 0 0] 46 ?_; intro gb641 hg w50 hbox hb; have BK641 := zA (hbox); have GW641 := gq HB hg; have GE641 := gq HB hg; replace HB := xH HB hb; have NB640_641 := zA ((by rw [hg]; exact neL BK640 : gb640 ≠ gb641)); have NB641_640 := zA ((by rw [hg]; exact neG BK640 : gb641 ≠ gb640)); replace BK640 := xB BK640 hb; have := geI GE641; clear hb hbox hg; have hnb51 := NB640_641.out; have hnc51 := NB641_640.out; have hcz52_0 := bc BK640 0; have hcz52_1 := bc BK640 1; have hcz52_2 := bc BK640 2; have hfz52_0 := bf BK640 0; have hfz52_1 := bf BK640 1; have hfz52_2 := bf BK640 2) | ((with_reducible refine gate_callee (f := 59) rfl ?_); refine gL (some 7) Try.func59 #[.agg #[.int .i64 a0_0, .slice A0_1 l0_1.length c0_1, .slice A0_2 l0_2.length c0_2]] ?_; (with_reducible refine (spec_l07Is.calls k a0_0 _ _ l0_1 _ _ l0_2 false _ ?side1 ?side2 ?side3 ?side4 A2.out).mono ?_); (case side1 => exact uC ((Kd.C_below HR0_1.out HB.out))); (case side2 => exact HC0_1.out); (case side3 => exact uC ((Kd.C_below HR0_2.out HB.out))); (case side4 => exact HC0_2.out); rintro e w53 ⟨rfl, hb⟩; refine ⟨_, rfl, ?_⟩; replace BK640 := xB BK640 hb; replace BK641 := xB BK641 hb; replace HB := xH HB hb; (try clear hb); (try clear hb2); (try clear hk); (try clear hi); have hcz54_0 := bc BK641 0; have hcz54_1 := bc BK641 1; have hcz54_2 := bc BK641 2; have hfz54_0 := bf BK641 0; have hfz54_1 := bf BK641 1; have hfz54_2 := bf BK641 2))
  refine bodyPost_ret (results_ct rfl _ _ gb641 46 #[.int .i64 0, .slice none 0 0, .slice none 0 0] (0, 0) _ rfl (by (repeat refine up1 ?_); refine blk_put (cs := #[.int .i64 0, .slice none 0 0, .slice none 0 0]) ?_ 2 _ rfl; (repeat refine up1 ?_); refine blk_put (cs := #[.int .i64 0, .slice none 0 0, .slice none 0 0]) ?_ 1 _ rfl; (repeat refine up1 ?_); refine blk_put (cs := #[.int .i64 0, .slice none 0 0, .slice none 0 0]) ?_ 0 _ rfl; (repeat refine up1 ?_); exact BK641.out) Try.underlying46 rfl (by kernel_rfl)) rfl ?_
  exact ⟨_, _, by first | rfl | (simp [errW_none, errW_some] <;> rfl) | (simp [*, errW_none, errW_some] <;> rfl), by first | exact Kd.R_nil _ _ _ _ _ | exact Kd.N_nil _ _ _ _ _ | exact Kd.V_nil _ _ _ _ _ | exact Kd.Q_nil _ _ _ _ _ | exact Kd.S_nil _ _ _ _ _, by first | exact Kd.R_nil _ _ _ _ _ | exact Kd.N_nil _ _ _ _ _ | exact Kd.V_nil _ _ _ _ _ | exact Kd.Q_nil _ _ _ _ _ | exact Kd.S_nil _ _ _ _ _, uH HB.out⟩
/- Rules: what the program and the reference take for one. -/
def ascFrom (l : List Int) (i : Nat) : Prop := ∀ j, j < l.length → i ≤ j → l.getD (j - 1) 0 < l.getD j 0
instance (l : List Int) (i : Nat) : Decidable (ascFrom l i) := by unfold ascFrom; infer_instance
theorem asc_l0 (l : List Int) (hl : Sm l.length) (d : Nat) : ∀ i, 1 ≤ i → (i + d = l.length ∨ d = 0 ∧ l.length ≤ i) → i ≤ l.length + 1 → Ev (fun k => impl_areAscending.l0 k l (i : Int)) (decide (ascFrom l i)) := by
  induction d with
  | zero =>
    intro i hi hd _
    refine Ev.step (fun k => by rw [impl_areAscending.l0]) ?_
    refine Ev.neg (by omega) (Ev.some' ?_)
    exact (decide_eq_true (fun j h1 h2 => by omega)).symm
  | succ d ih =>
    intro i hi hd _
    unfold Sm at hl
    refine Ev.step (fun k => by rw [impl_areAscending.l0]) ?_
    refine Ev.pos (by omega) (Ev.pos (by omega) ?_)
    rw [wpred (by omega) (by omega)]
    refine Ev.pos (by omega) (Ev.pos (by omega) ?_)
    rw [rd_nat, rd_nat, wsucc (i := i) (n := l.length) (by omega) (by omega)]
    by_cases h : l.getD i 0 ≤ l.getD (i - 1) 0
    · refine Ev.pos h (Ev.some' (decide_eq_false (fun g => ?_)).symm)
      have := g i (by omega) (by omega)
      omega
    · refine Ev.neg h (Ev.cast (ih (i + 1) (by omega) (by omega) (by omega)) ?_)
      apply decide_eq_decide.2
      constructor
      · intro g j h1 h2
        by_cases e : j = i
        · subst e; omega
        · exact g j h1 (by omega)
      · exact fun g j h1 h2 => g j h1 (by omega)
theorem asc_ev (l : List Int) (hl : Sm l.length) : Ev (fun k => impl_areAscending.f k l) (decide (ascFrom l 1)) := by
  unfold impl_areAscending.f
  by_cases h : 1 ≤ l.length
  · exact asc_l0 l hl (l.length - 1) 1 (by omega) (by omega) (by omega)
  · exact asc_l0 l hl 0 1 (by omega) (by omega) (by omega)
theorem numbers_eq (p : Int) (l : List Int) (hl : Sm l.length) (a b : Int) : Ev (fun k => impl_areNumbers.f k p l a b) (primeB p && (decide (a ≤ (l.length : Int) ∧ (l.length : Int) ≤ b) && decide (Nm p l))) := by
  unfold impl_areNumbers.f
  refine Ev.bind (implPrime_ev p) ?_
  by_cases hp : primeB p = true
  · rw [hp, Bool.true_and]
    refine Ev.pos rfl (Ev.bindE (a := (l.length : Int)) rfl (Ev.bindE (within_eq _ _ _) ?_))
    by_cases h : a ≤ (l.length : Int) ∧ (l.length : Int) ≤ b
    · refine Ev.pos (decide_eq_true h) (Ev.bindE (areAll_has p l (by unfold Sm at hl; omega)) (Ev.some' ?_))
      rw [decide_eq_true h, Bool.true_and]
    · refine Ev.neg (by simpa using h) (Ev.some' ?_)
      rw [decide_eq_false h, Bool.false_and]
  · rw [Bool.eq_false_iff.2 hp, Bool.false_and]
    exact Ev.neg (by simp) (Ev.now _)

def okFrom (p : Int) (n w : List Int) (i : Nat) : Prop := ∀ j, j < n.length → i ≤ j → (0 ≤ n.getD j 0 ∧ n.getD j 0 < p) ∧ (0 ≤ w.getD j 0 ∧ w.getD j 0 < p) ∧ (0 < j → n.getD (j - 1) 0 < n.getD j 0)
instance (p : Int) (n w : List Int) (i : Nat) : Decidable (okFrom p n w i) := by unfold okFrom; infer_instance
def ruleB (p : Int) (n w : List Int) : Bool := primeB p && decide (n.length ≤ 24 ∧ w.length = n.length ∧ okFrom p n w 0)
theorem Nm_iff (p : Int) (l : List Int) : Nm p l ↔ ∀ j, j < l.length → 0 ≤ l.getD j 0 ∧ l.getD j 0 < p := by
  constructor
  · exact fun h j hj => h.get hj
  · intro h x hx
    obtain ⟨j, hj, rfl⟩ := List.getElem_of_mem hx
    have := h j hj
    simpa [List.getD, hj] using this
theorem okFrom_iff (p : Int) (n w : List Int) (h : w.length = n.length) : okFrom p n w 0 ↔ Nm p n ∧ ascFrom n 1 ∧ Nm p w := by
  rw [Nm_iff, Nm_iff]
  constructor
  · exact fun g => ⟨fun j hj => (g j hj (by omega)).1, fun j hj h1 => (g j hj (by omega)).2.2 (by omega), fun j hj => (g j (by omega) (by omega)).2.1⟩
  · exact fun g j hj _ => ⟨g.1 j hj, g.2.2 j (by omega), fun h0 => g.2.1 j hj (by omega)⟩
theorem specRule_l0 {p : Int} (hp : Pm p) (n w : List Int) (hl : Sm n.length) (hw : w.length = n.length) (d : Nat) : ∀ i, i + d = n.length → Ev (fun k => spec_l07Is.l0 k (i : Int) p n w) (decide (okFrom p n w i)) := by
  have h2 := hp.two
  have ht := hp.top
  induction d with
  | zero =>
    intro i hi
    refine Ev.step (fun k => by rw [spec_l07Is.l0]) ?_
    refine Ev.neg (by omega) (Ev.some' ?_)
    exact (decide_eq_true (fun j h1 h2 => by omega)).symm
  | succ d ih =>
    intro i hi
    unfold Sm at hl
    have next : (0 ≤ n.getD i 0 ∧ n.getD i 0 < p) → (0 ≤ w.getD i 0 ∧ w.getD i 0 < p) → (0 < i → n.getD (i - 1) 0 < n.getD i 0) → Ev (fun k => spec_l07Is.l0 k (wrap64 ((i : Int) + 1)) p n w) (decide (okFrom p n w i)) := by
      intro g1 g2 g3
      rw [wsucc (i := i) (n := n.length) (by omega) (by omega)]
      refine Ev.cast (ih (i + 1) (by omega)) ?_
      apply decide_eq_decide.2
      constructor
      · intro g j h1 h2
        by_cases e : j = i
        · subst e; exact ⟨g1, g2, g3⟩
        · exact g j h1 (by omega)
      · exact fun g j h1 h2 => g j h1 (by omega)
    refine Ev.step (fun k => by rw [spec_l07Is.l0]) ?_
    refine Ev.pos (by omega) (Ev.pos (by omega) (Ev.bindE (in_eq _ _ _) ?_))
    rw [rd_nat, rd_nat, wrap_id (x := p - 1) (by omega) (by omega)]
    by_cases h1 : 0 ≤ n.getD i 0 ∧ n.getD i 0 ≤ p - 1
    · refine Ev.pos (decide_eq_true h1) (Ev.pos (by omega) (Ev.bindE (in_eq _ _ _) ?_))
      by_cases h3 : 0 ≤ w.getD i 0 ∧ w.getD i 0 ≤ p - 1
      · refine Ev.pos (decide_eq_true h3) ?_
        by_cases h0 : 0 < i
        · refine Ev.pos (by omega) ?_
          rw [wpred (by omega) (by omega), rd_nat]
          refine Ev.pos (by omega) (Ev.pos (by omega) ?_)
          by_cases h4 : n.getD i 0 ≤ n.getD (i - 1) 0
          · refine Ev.pos h4 (Ev.some' (decide_eq_false (fun g => ?_)).symm)
            have := (g i (by omega) (by omega)).2.2 h0
            omega
          · exact Ev.neg h4 (next ⟨h1.1, by omega⟩ ⟨h3.1, by omega⟩ (fun _ => by omega))
        · exact Ev.neg (by omega) (next ⟨h1.1, by omega⟩ ⟨h3.1, by omega⟩ (fun h => absurd h h0))
      · refine Ev.neg (by simpa using h3) (Ev.some' (decide_eq_false (fun g => h3 ?_)).symm)
        have := (g i (by omega) (by omega)).2.1
        exact ⟨this.1, by omega⟩
    · refine Ev.neg (by simpa using h1) (Ev.some' (decide_eq_false (fun g => h1 ?_)).symm)
      have := (g i (by omega) (by omega)).1
      exact ⟨this.1, by omega⟩
theorem specRule_ev (p : Int) (n w : List Int) (hn : Sm n.length) (_hw : Sm w.length) : Ev (fun k => spec_l07Is.f k p n w) (ruleB p n w) := by
  unfold spec_l07Is.f ruleB
  refine Ev.bind (specPrime_ev p) ?_
  by_cases hp : primeB p = true
  · rw [hp, Bool.true_and]
    refine Ev.pos rfl ?_
    by_cases h1 : n.length ≤ 24
    · refine Ev.neg (by omega) ?_
      by_cases h2 : w.length = n.length
      · rw [show (((w.length : Int) != (n.length : Int)) : Bool) = false from by simp [h2]]
        refine Ev.step (fun k => by rw [spec_l07Is.j0]) ?_
        refine Ev.neg (by decide) ?_
        refine Ev.cast (specRule_l0 (primeB.pm hp) n w hn h2 n.length 0 (by omega)) ?_
        apply decide_eq_decide.2
        exact ⟨fun g => ⟨h1, h2, g⟩, fun g => g.2.2⟩
      · rw [show (((w.length : Int) != (n.length : Int)) : Bool) = true from by simp; omega]
        refine Ev.step (fun k => by rw [spec_l07Is.j0]) ?_
        refine Ev.pos rfl (Ev.some' (decide_eq_false (fun g => h2 g.2.1)).symm)
    · refine Ev.pos (by omega) ?_
      refine Ev.step (fun k => by rw [spec_l07Is.j0]) ?_
      refine Ev.pos rfl (Ev.some' (decide_eq_false (fun g => h1 g.1)).symm)
  · rw [Bool.eq_false_iff.2 hp, Bool.false_and]
    refine Ev.neg (by simp) ?_
    refine Ev.step (fun k => by rw [spec_l07Is.j0]) ?_
    exact Ev.pos rfl (Ev.now _)
theorem implRule_ev (p : Int) (n w : List Int) (hn : Sm n.length) (hw : Sm w.length) : Ev (fun k => impl_IsRule.f k p n w) (ruleB p n w) := by
  unfold impl_IsRule.f ruleB
  refine Ev.bind (numbers_eq p n hn 0 24) ?_
  by_cases hp : primeB p = true
  · rw [hp, Bool.true_and, Bool.true_and]
    by_cases h1 : n.length ≤ 24 ∧ Nm p n
    · refine Ev.pos (by rw [decide_eq_true (by omega), decide_eq_true h1.2]; rfl) (Ev.bind (asc_ev n hn) ?_)
      by_cases h2 : ascFrom n 1
      · refine Ev.pos (decide_eq_true h2) (Ev.bindE (a := (n.length : Int)) rfl (Ev.bindE (a := (n.length : Int)) rfl (Ev.bind (numbers_eq p w hw _ _) (Ev.some' ?_))))
        rw [hp, Bool.true_and]
        by_cases h3 : w.length = n.length
        · rw [decide_eq_true (by omega), Bool.true_and]
          apply decide_eq_decide.2
          rw [okFrom_iff p n w h3]
          exact ⟨fun g => ⟨h1.1, h3, h1.2, h2, g⟩, fun g => g.2.2.2.2⟩
        · rw [decide_eq_false (by omega), Bool.false_and]
          exact (decide_eq_false (fun g => h3 g.2.1)).symm
      · refine Ev.neg (by simpa using h2) (Ev.some' (decide_eq_false (fun g => h2 ?_)).symm)
        exact ((okFrom_iff p n w g.2.1).1 g.2.2).2.1
    · refine Ev.neg ?_ (Ev.some' (decide_eq_false (fun g => h1 ⟨g.1, ((okFrom_iff p n w g.2.1).1 g.2.2).1⟩)).symm)
      simp only [Bool.and_eq_true, decide_eq_true_eq]
      exact fun g => h1 ⟨by omega, g.2⟩
  · rw [Bool.eq_false_iff.2 hp, Bool.false_and, Bool.false_and]
    exact Ev.neg (by simp) (Ev.now _)
theorem ruleB.pm {p : Int} {n w : List Int} (h : ruleB p n w = true) : Pm p := by
  simp only [ruleB, Bool.and_eq_true] at h; exact primeB.pm h.1
/- What a rule is made of; no condition. -/
theorem ruleB.prime {p : Int} {n w : List Int} (h : ruleB p n w = true) : primeB p = true := by
  simp only [ruleB, Bool.and_eq_true] at h; exact h.1
theorem ruleB.lens {p : Int} {n w : List Int} (h : ruleB p n w = true) : n.length ≤ 24 ∧ w.length = n.length := by
  simp only [ruleB, Bool.and_eq_true, decide_eq_true_eq] at h; exact ⟨h.2.1, h.2.2.1⟩
theorem ruleB.nodes {p : Int} {n w : List Int} (h : ruleB p n w = true) : Nm p n := by
  simp only [ruleB, Bool.and_eq_true, decide_eq_true_eq] at h
  exact (Nm_iff p n).2 fun j hj => (h.2.2.2 j hj (Nat.zero_le _)).1
theorem ruleB.weights {p : Int} {n w : List Int} (h : ruleB p n w = true) : Nm p w := by
  simp only [ruleB, Bool.and_eq_true, decide_eq_true_eq] at h
  exact (Nm_iff p w).2 fun j hj => (h.2.2.2 j (by have := h.2.2.1; omega) (Nat.zero_le _)).2.1
/- The codes of a rule; no condition. -/
theorem ruleCode_ev (p : Int) (n w : List Int) (b : Bool) (hn : Sm n.length) (hw : Sm w.length) :
    Ev (fun k => impl_ruleCode.f k p n w b []) (if ruleB p n w = true then (if b = true then 0 else 2) else 1) := by
  unfold impl_ruleCode.f
  refine Ev.bind (implRule_ev p n w hn hw) ?_
  by_cases h : ruleB p n w = true
  · rw [if_pos h]
    refine Ev.pos h (Ev.cast (Ev.bind (polyCode_ev p b [] (by simp [Sm]) (fun l hl => by cases hl)) (Ev.now _)) ?_)
    rw [ruleB.prime h]
    cases b <;> rfl
  · rw [if_neg h]
    exact Ev.neg h (Ev.now _)
/- WithoutRests: for all arguments the program and the reference come to one value; no condition. -/
/-- Of the first i numbers of l those whose weight is not 0. -/
def keepL (l w : List Int) : Nat → List Int
  | 0 => []
  | i + 1 => if w.getD i 0 = 0 then keepL l w i else keepL l w i ++ [l.getD i 0]
theorem keepL_len (l w : List Int) (i : Nat) : (keepL l w i).length ≤ i := by
  induction i with
  | zero => exact Nat.le_refl _
  | succ i ih =>
    rw [keepL]
    split
    · omega
    · rw [List.length_append]; simp; exact ih
theorem specWith_l0 (p : Int) (n w : List Int) (hl : n.length ≤ 24) (hw : w.length = n.length) (d : Nat) : ∀ i : Nat, i + d = n.length →
    Ev (fun k => spec_WithoutRests.l0 k (i : Int) p n w p (keepL n w i) (keepL w w i)) (p, keepL n w n.length, keepL w w n.length, 0) := by
  induction d with
  | zero =>
    intro i hi
    refine Ev.step (fun k => by rw [spec_WithoutRests.l0]) ?_
    refine Ev.neg (by omega) (Ev.some' ?_)
    rw [show i = n.length from by omega]
  | succ d ih =>
    intro i hi
    have h1 := keepL_len n w i
    have h2 := keepL_len w w i
    have hn := ih (i + 1) (by omega)
    refine Ev.step (fun k => by rw [spec_WithoutRests.l0]) ?_
    rw [rd_nat, rd_nat, wsucc (i := i) (n := n.length) (by omega) (by omega)]
    refine Ev.pos (by omega) (Ev.pos (by omega) (Ev.pos (by omega) ?_))
    by_cases c : w.getD i 0 = 0
    · rw [keepL, keepL, if_pos c, if_pos c] at hn
      exact Ev.pos c hn
    · rw [keepL, keepL, if_neg c, if_neg c] at hn
      exact Ev.neg c (Ev.pos (by omega) (Ev.pos (by omega) hn))
theorem implWith_l0 (p : Int) (n w : List Int) (hl : n.length ≤ 24) (hw : w.length = n.length) (d : Nat) : ∀ i : Nat, i + d = n.length →
    Ev (fun k => impl_WithoutRests.l0 k w (w.length : Int) (i : Int) p n w p (keepL n w i) (keepL w w i)) (p, keepL n w n.length, keepL w w n.length, 0) := by
  induction d with
  | zero =>
    intro i hi
    refine Ev.step (fun k => by rw [impl_WithoutRests.l0]) ?_
    refine Ev.neg (by omega) (Ev.some' ?_)
    rw [show i = n.length from by omega]
  | succ d ih =>
    intro i hi
    have h1 := keepL_len n w i
    have h2 := keepL_len w w i
    have hn := ih (i + 1) (by omega)
    refine Ev.step (fun k => by rw [impl_WithoutRests.l0]) ?_
    rw [rd_nat, rd_nat, wsucc (i := i) (n := n.length) (by omega) (by omega)]
    refine Ev.pos (by omega) (Ev.pos (by omega) (Ev.pos (by omega) ?_))
    by_cases c : w.getD i 0 = 0
    · rw [keepL, keepL, if_pos c, if_pos c] at hn
      exact Ev.pos c hn
    · rw [keepL, keepL, if_neg c, if_neg c] at hn
      exact Ev.neg c (Ev.pos (by omega) (Ev.bindE (a := [n.getD i 0]) rfl (Ev.pos (by simp; omega) (Ev.bindE (a := [w.getD i 0]) rfl (Ev.pos (by simp; omega) hn)))))
theorem WithoutRests_both (p : Int) (n w : List Int) (hn : Sm n.length) (hw : Sm w.length) :
    ∃ v : Int × List Int × List Int × Int, Ev (fun k => spec_WithoutRests.f k p n w) v ∧ Ev (fun k => impl_WithoutRests.f k p n w) v ∧ Sm v.2.1.length ∧ Sm v.2.2.1.length := by
  have hc := ruleCode_ev p n w true hn hw
  by_cases h : ruleB p n w = true
  · have hl := ruleB.lens h
    rw [if_pos h] at hc
    have k1 := keepL_len n w n.length
    have k2 := keepL_len w w n.length
    refine ⟨(p, keepL n w n.length, keepL w w n.length, 0), ?_, ?_, by dsimp only; unfold Sm; omega, by dsimp only; unfold Sm; omega⟩
    · unfold spec_WithoutRests.f
      exact Ev.bind (specRule_ev p n w hn hw) (Ev.pos h (specWith_l0 p n w hl.1 hl.2 n.length 0 (by omega)))
    · unfold impl_WithoutRests.f
      exact Ev.bind hc (Ev.pos rfl (implWith_l0 p n w hl.1 hl.2 n.length 0 (by omega)))
  · rw [if_neg h] at hc
    refine ⟨(0, [], [], 1), ?_, ?_, Sm0, Sm0⟩
    · unfold spec_WithoutRests.f
      exact Ev.bind (specRule_ev p n w hn hw) (Ev.neg h (Ev.now _))
    · unfold impl_WithoutRests.f
      exact Ev.bind hc (Ev.neg (by decide) (Ev.now _))
end Go.Proofs.Ytijkfbnjcebfaaa.Pr
