/- Printed by a program of this session out of the translation: what these functions of the program compute, under the conditions that each theorem names. -/
import Derived.Test.YtijkfbnjcebfaaaKC01
import Derived.Test.YtijkfbnjcebfaaaKWithoutRests2
import Derived.Test.YtijkfbnjcebfaaaKWithoutRests1
namespace Go.Proofs.Ytijkfbnjcebfaaa.Pr
open Go.RowKit Go.Proofs.YtijkfbnjcebfaaaW.PrintWords Go.Proofs.YtijkfbnjcebfaaaW.PrintLast Go.Proofs.YtijkfbnjcebfaaaW.PrintMore
attribute [local go_sem] max2_int min2_int max_two min_two max_three min_three max_four min_four   -- for this text's walks alone
set_option linter.unusedVariables false
set_option linter.unusedSimpArgs false

/-! ### impl_WithoutRests: function 32 -/
def impl_WithoutRests.l0 : Nat → List Int → Int → Int → Int → List Int → List Int → Int → List Int → List Int → Option (Int × List Int × List Int × Int)
 | 0, _, _, _, _, _, _, _, _, _ => none
 | k + 1, x18, x19, x20, x696000, x696001, x696002, x699000, x699001, x699002 => if x20 < x19 then (if 0 ≤ x20 then (if x20 < (x18.length : Int) then (if (rd x18 x20) = 0 then (impl_WithoutRests.l0 k x18 x19 (wrap64 (x20 + 1)) x696000 x696001 x696002 x699000 x699001 x699002) else (if x20 < (x696001.length : Int) then ((some (([rd x696001 x20] : List Int) : List Int)).bind fun y701 => (if x699001.length + y701.length < 17592186044416 then ((some (([rd x18 x20] : List Int) : List Int)).bind fun y707 => (if x699002.length + y707.length < 17592186044416 then (impl_WithoutRests.l0 k x18 x19 (wrap64 (x20 + 1)) x696000 x696001 x696002 x699000 (x699001 ++ y701) (x699002 ++ y707)) else (none))) else (none))) else (none))) else (none)) else (none)) else (some (x699000, x699001, x699002, 0))
def impl_WithoutRests.f (k : Nat) (a0_0 : Int) (l0_1 : List Int) (l0_2 : List Int) : Option (Int × List Int × List Int × Int) := (impl_ruleCode.f k a0_0 l0_1 l0_2 (impl_always.f.getD false) ([] : List (List Int))).bind fun t697 => (if t697 = 0 then (impl_WithoutRests.l0 k l0_2 (l0_2.length : Int) 0 a0_0 l0_1 l0_2 a0_0 ([] : List Int) ([] : List Int)) else (some (0, ([] : List Int), ([] : List Int), t697)))
theorem impl_WithoutRests.mono_l : ∀ k, (∀ y0 y1 y2 y3 y4 y5 y6 y7 y8, LeO (impl_WithoutRests.l0 k y0 y1 y2 y3 y4 y5 y6 y7 y8) (impl_WithoutRests.l0 (k + 1) y0 y1 y2 y3 y4 y5 y6 y7 y8))
 | 0 => fun _ _ _ _ _ _ _ _ _ r h => by simp [impl_WithoutRests.l0] at h
 | k + 1 => by
  have ih0 := impl_WithoutRests.mono_l k
  ·intro y0 y1 y2 y3 y4 y5 y6 y7 y8
   unfold impl_WithoutRests.l0
   repeat' first
   | (with_reducible exact ih0 _ _ _ _ _ _ _ _ _)
   | (with_reducible exact impl_ruleCode.mono _ _ _ _ _ _)
   | (with_reducible exact LeO.refl _)
   | (with_reducible exact LeO.none _)
   | (with_reducible refine LeO.ite ?_ ?_)
   | (with_reducible refine LeO.bind ?_ (fun _ => ?_))
   | exact ih0 _ _ _ _ _ _ _ _ _
   | exact impl_ruleCode.mono _ _ _ _ _ _
   | exact LeO.none _
   | refine LeO.ite ?_ ?_
   | refine LeO.bind ?_ (fun _ => ?_)
theorem impl_WithoutRests.mono : ∀ a0 a1 a2 k, LeO (impl_WithoutRests.f k a0 a1 a2) (impl_WithoutRests.f (k + 1) a0 a1 a2) := by
 intro a0 a1 a2 k
 have ih0 := impl_WithoutRests.mono_l k
 unfold impl_WithoutRests.f
 repeat' first
   | (with_reducible exact ih0 _ _ _ _ _ _ _ _ _)
   | (with_reducible exact impl_ruleCode.mono _ _ _ _ _ _)
   | (with_reducible exact LeO.refl _)
   | (with_reducible exact LeO.none _)
   | (with_reducible refine LeO.ite ?_ ?_)
   | (with_reducible refine LeO.bind ?_ (fun _ => ?_))
   | exact ih0 _ _ _ _ _ _ _ _ _
   | exact impl_ruleCode.mono _ _ _ _ _ _
   | exact LeO.none _
   | refine LeO.ite ?_ ?_
   | refine LeO.bind ?_ (fun _ => ?_)
def impl_WithoutRests.T9 : Bool × List (List Nat × List Nat) := (true, [([], []), ([0], [0]), ([], []), ([2], [2]), ([], []), ([3, 4], [3, 4]), ([5], [5]), ([6], [6]), ([1, 7], [1, 7]), ([], []), ([9], [9]), ([], []), ([11], [11]), ([10, 12, 8], [10, 12]), ([0, 1, 2, 3, 4, 5, 6, 7, 8, 9, 10], []), ([14, 8, 13, 0, 1, 2, 3, 4, 5, 6, 7, 8, 9, 10], [8, 14]), ([0, 1, 2, 3, 4, 5, 6, 7, 8, 9, 10, 11, 12, 13, 14, 15], []), ([16, 13, 15, 0, 1, 2, 3, 4, 5, 6, 7, 8, 9, 10, 11, 12, 13, 14, 15], [13, 16])])
def impl_WithoutRests.B9 : List Nat := [0, 1, 0, 4, 0, 28, 60, 124, 255, 0, 512, 0, 2048, 8191, 2047, 32767, 65535, 131071]
theorem impl_WithoutRests.tab9 : rtab .any (opsOf Try.f32 9) = impl_WithoutRests.T9 := by kernel_rfl
theorem impl_WithoutRests.bits9 : waitsOk impl_WithoutRests.T9.2 impl_WithoutRests.B9 = true := by kernel_rfl
set_option maxHeartbeats 8000000 in
set_option maxRecDepth 100000 in
theorem impl_WithoutRests.calls (k : Nat) (a0_0 : Int) (A0_1 : Option Addr) (c0_1 : Nat) (l0_1 : List Int) (A0_2 : Option Addr) (c0_2 : Nat) (l0_2 : List Int) (r1 : Int) (r2 : List Int) (r3 : List Int) (r4 : Int) (w : World) (hr0_1 : Kd.C (Kd.int .i64) w A0_1 l0_1.length l0_1) (hc0_1 : l0_1.length ≤ c0_1) (hr0_2 : Kd.C (Kd.int .i64) w A0_2 l0_2.length l0_2) (hc0_2 : l0_2.length ≤ c0_2) (h : impl_WithoutRests.f k a0_0 l0_1 l0_2 = some (r1, r2, r3, r4)) :
  Calls Try.prog 32 #[.agg #[.int .i64 a0_0, .slice A0_1 l0_1.length c0_1, .slice A0_2 l0_2.length c0_2]] w fun e w' => ∃ v1_ v2_ : Value, e = .returned (.tuple #[.agg #[.int .i64 r1, v1_, v2_], .int .i64 r4]) ∧ Kd.R (Kd.int .i64) 2 w' w.heap.size (fun k_ => some k_ ≠ (v2_ : Value).ownBlock) v1_ r2 ∧ Kd.R (Kd.int .i64) 2 w' w.heap.size (fun k_ => some k_ ≠ (v1_ : Value).ownBlock) v2_ r3 ∧ Below w.heap.size w w' := by
 have hu46 := Try.underlying46
 have HR0_1 := zA hr0_1
 have HC0_1 := zA hc0_1
 clear hr0_1 hc0_1
 have HR0_2 := zA hr0_2
 have HC0_2 := zA hc0_2
 clear hr0_2 hc0_2
 have HB := zA (Below.refl w.heap.size w)
 have H : ((impl_ruleCode.f k a0_0 l0_1 l0_2 (impl_always.f.getD false) ([] : List (List Int))).bind fun t697 => (if t697 = 0 then (impl_WithoutRests.l0 k l0_2 (l0_2.length : Int) 0 a0_0 l0_1 l0_2 a0_0 ([] : List Int) ([] : List Int)) else (some (0, ([] : List Int), ([] : List Int), t697)))) = some (r1, r2, r3, r4) := h
 clear h
 replace H := Option.bind_eq_some_iff.mp H
 obtain ⟨t697, A20, H⟩ := H
 replace H : (if t697 = 0 then (impl_WithoutRests.l0 k l0_2 (l0_2.length : Int) 0 a0_0 l0_1 l0_2 a0_0 ([] : List Int) ([] : List Int)) else (some (0, ([] : List Int), ([] : List Int), t697))) = some (r1, r2, r3, r4) := H
 have A2 := zA A20
 clear A20
 by_cases c3 : t697 = 0
 rotate_left
 ·rw [if_neg c3] at H
  have c3b0 : (t697 == 0) = false := beq_eq_false_iff_ne.mpr c3
  have c3b1 : (t697 != 0) = true := bne_iff_ne.mpr c3
  simp only [Option.some.injEq, Prod.mk.injEq] at H
  obtain ⟨rfl, rfl, rfl, rfl⟩ := H
  go_enter Try.func32, Try.ntmps32
  go_wp2_with (first | ((with_reducible refine gate_dst (N := 1) rfl ?_); refine bx 1 #[.int .i64 a0_0, .slice A0_1 l0_1.length c0_1, .slice A0_2 l0_2.length c0_2] 46 ?_; intro gb695 hg w45 hbox hb; have BK695 := zA (hbox); have GW695 := gq HB hg; have GE695 := gq HB hg; replace HB := xH HB hb; have := geI GE695; clear hb hbox hg) | ((with_reducible refine gate_dst (N := 2) rfl ?_); refine bx 2 #[.int .i64 0, .slice none 0 0, .slice none 0 0] 46 ?_; intro gb696 hg w46 hbox hb; have BK696 := zA (hbox); have GW696 := gq HB hg; have GE696 := gq HB hg; replace HB := xH HB hb; have NB695_696 := zA ((by rw [hg]; exact neL BK695 : gb695 ≠ gb696)); have NB696_695 := zA ((by rw [hg]; exact neG BK695 : gb696 ≠ gb695)); replace BK695 := xB BK695 hb; have := geI GE696; clear hb hbox hg; have hnb47 := NB695_696.out; have hnc47 := NB696_695.out; have hcz48_0 := bc BK695 0; have hcz48_1 := bc BK695 1; have hcz48_2 := bc BK695 2; have hfz48_0 := bf BK695 0; have hfz48_1 := bf BK695 1; have hfz48_2 := bf BK695 2) | ((with_reducible refine gate_callee (f := 60) rfl ?_); refine gL (some 9) Try.func60 #[.agg #[.int .i64 a0_0, .slice A0_1 l0_1.length c0_1, .slice A0_2 l0_2.length c0_2], (.func (.func 61) #[] #[]), .slice none 0 0] ?_; (refine (impl_ruleCode.calls k a0_0 _ _ l0_1 _ _ l0_2 _ (impl_always.f.getD false) _ _ ([] : List (List Int)) t697 _ ?side1 ?side2 ?side3 ?side4 ?side5 ?side6 ?side7 A2.out).mono ?_); (case side1 => exact uC ((Kd.C_below HR0_1.out HB.out))); (case side2 => exact HC0_1.out); (case side3 => exact uC ((Kd.C_below HR0_2.out HB.out))); (case side4 => exact HC0_2.out); (case side5 => exact FnB.of Try.func61 (by kernel_rfl) rfl (fun W_ hW_ => calls_of_args (args' := #[]) (by simp) ((impl_always.calls  _ W_  rfl).mono fun e_ W2_ h_ => ⟨h_.1, h_.2.below⟩))); (case side6 => exact Kd.C_nil _ _); (case side7 => exact Nat.le_refl _); rintro e w49 ⟨rfl, hb⟩; refine ⟨_, rfl, ?_⟩; replace BK695 := xB BK695 hb; replace BK696 := xB BK696 hb; replace HB := xH HB hb; (try clear hb); (try clear hb2); (try clear hk); (try clear hi); have hcz50_0 := bc BK696 0; have hcz50_1 := bc BK696 1; have hcz50_2 := bc BK696 2; have hfz50_0 := bf BK696 0; have hfz50_1 := bf BK696 1; have hfz50_2 := bf BK696 2))
  refine bodyPost_ret (results_ct rfl _ _ gb696 46 #[.int .i64 0, .slice none 0 0, .slice none 0 0] (0, 0) _ rfl (by (repeat refine up1 ?_); refine blk_put (cs := #[.int .i64 0, .slice none 0 0, .slice none 0 0]) ?_ 2 _ rfl; (repeat refine up1 ?_); refine blk_put (cs := #[.int .i64 0, .slice none 0 0, .slice none 0 0]) ?_ 1 _ rfl; (repeat refine up1 ?_); refine blk_put (cs := #[.int .i64 0, .slice none 0 0, .slice none 0 0]) ?_ 0 _ rfl; (repeat refine up1 ?_); exact BK696.out) Try.underlying46 rfl (by kernel_rfl)) rfl ?_
  exact ⟨_, _, by first | rfl | (simp [errW_none, errW_some] <;> rfl) | (simp [*, errW_none, errW_some] <;> rfl), by first | exact Kd.R_nil _ _ _ _ _ | exact Kd.N_nil _ _ _ _ _ | exact Kd.V_nil _ _ _ _ _ | exact Kd.Q_nil _ _ _ _ _ | exact Kd.S_nil _ _ _ _ _, by first | exact Kd.R_nil _ _ _ _ _ | exact Kd.N_nil _ _ _ _ _ | exact Kd.V_nil _ _ _ _ _ | exact Kd.Q_nil _ _ _ _ _ | exact Kd.S_nil _ _ _ _ _, uH HB.out⟩

 rw [if_pos c3] at H
 have c3b0 : (t697 == 0) = true := beq_iff_eq.mpr c3
 have c3b1 : (t697 != 0) = false := bne_eq_false_iff_eq.mpr c3
 clear c3
 have H' := zA H
 clear H
 go_enter Try.func32, Try.ntmps32
 go_wp2_with (first | ((with_reducible refine gate_dst (N := 1) rfl ?_); refine bx 1 #[.int .i64 a0_0, .slice A0_1 l0_1.length c0_1, .slice A0_2 l0_2.length c0_2] 46 ?_; intro gb695 hg w4 hbox hb; have BK695 := zA (hbox); have GW695 := gq HB hg; have GE695 := gq HB hg; replace HB := xH HB hb; have := geI GE695; clear hb hbox hg) | ((with_reducible refine gate_dst (N := 2) rfl ?_); refine bx 2 #[.int .i64 0, .slice none 0 0, .slice none 0 0] 46 ?_; intro gb696 hg w5 hbox hb; have BK696 := zA (hbox); have GW696 := gq HB hg; have GE696 := gq HB hg; replace HB := xH HB hb; have NB695_696 := zA ((by rw [hg]; exact neL BK695 : gb695 ≠ gb696)); have NB696_695 := zA ((by rw [hg]; exact neG BK695 : gb696 ≠ gb695)); replace BK695 := xB BK695 hb; have := geI GE696; clear hb hbox hg; have hnb6 := NB695_696.out; have hnc6 := NB696_695.out; have hcz7_0 := bc BK695 0; have hcz7_1 := bc BK695 1; have hcz7_2 := bc BK695 2; have hfz7_0 := bf BK695 0; have hfz7_1 := bf BK695 1; have hfz7_2 := bf BK695 2) | ((with_reducible refine gate_callee (f := 60) rfl ?_); refine gL (some 9) Try.func60 #[.agg #[.int .i64 a0_0, .slice A0_1 l0_1.length c0_1, .slice A0_2 l0_2.length c0_2], (.func (.func 61) #[] #[]), .slice none 0 0] ?_; (refine (impl_ruleCode.calls k a0_0 _ _ l0_1 _ _ l0_2 _ (impl_always.f.getD false) _ _ ([] : List (List Int)) t697 _ ?side1 ?side2 ?side3 ?side4 ?side5 ?side6 ?side7 A2.out).mono ?_); (case side1 => exact uC ((Kd.C_below HR0_1.out HB.out))); (case side2 => exact HC0_1.out); (case side3 => exact uC ((Kd.C_below HR0_2.out HB.out))); (case side4 => exact HC0_2.out); (case side5 => exact FnB.of Try.func61 (by kernel_rfl) rfl (fun W_ hW_ => calls_of_args (args' := #[]) (by simp) ((impl_always.calls  _ W_  rfl).mono fun e_ W2_ h_ => ⟨h_.1, h_.2.below⟩))); (case side6 => exact Kd.C_nil _ _); (case side7 => exact Nat.le_refl _); rintro e w8 ⟨rfl, hb⟩; refine ⟨_, rfl, ?_⟩; replace BK695 := xB BK695 hb; replace BK696 := xB BK696 hb; replace HB := xH HB hb; (try clear hb); (try clear hb2); (try clear hk); (try clear hi); have hcz9_0 := bc BK695 0; have hcz9_1 := bc BK695 1; have hcz9_2 := bc BK695 2; have hfz9_0 := bf BK695 0; have hfz9_1 := bf BK695 1; have hfz9_2 := bf BK695 2) | ((with_reducible refine gate_dst (N := 5) rfl ?_); refine bx 5 #[.int .i64 0, .slice none 0 0, .slice none 0 0] 46 ?_; intro gb698 hg w10 hbox hb; have BK698 := zA (hbox); have GW698 := gq HB hg; have GE698 := gq HB hg; replace HB := xH HB hb; have NB695_698 := zA ((by rw [hg]; exact neL BK695 : gb695 ≠ gb698)); have NB698_695 := zA ((by rw [hg]; exact neG BK695 : gb698 ≠ gb695)); replace BK695 := xB BK695 hb; have NB696_698 := zA ((by rw [hg]; exact neL BK696 : gb696 ≠ gb698)); have NB698_696 := zA ((by rw [hg]; exact neG BK696 : gb698 ≠ gb696)); replace BK696 := xB BK696 hb; have := geI GE698; clear hb hbox hg; have hnb11 := NB698_695.out; have hnc11 := NB695_698.out; have hnb12 := NB698_696.out; have hnc12 := NB696_698.out; have hcz13_0 := bc BK698 0; have hcz13_1 := bc BK698 1; have hcz13_2 := bc BK698 2; have hfz13_0 := bf BK698 0; have hfz13_1 := bf BK698 1; have hfz13_2 := bf BK698 2; have hcz14_0 := bc BK695 0; have hcz14_1 := bc BK695 1; have hcz14_2 := bc BK695 2; have hfz14_0 := bf BK695 0; have hfz14_1 := bf BK695 1; have hfz14_2 := bf BK695 2))
 go_loopg [20] k (fun kq v20 w' => ∃ (x20_1 : Int) (x699001_1 : List Int) (x699002_1 : List Int) (u699001 : Value) (u699002 : Value), v20 = .int .i64 x20_1 ∧ Aside0 (impl_WithoutRests.l0 kq l0_2 (l0_2.length : Int) x20_1 a0_0 l0_1 l0_2 a0_0 x699001_1 x699002_1 = some (r1, r2, r3, r4)) ∧ Aside0 (kq ≤ k) ∧ Aside0 (Kd.R (Kd.int .i64) 2 w' w.heap.size (fun k_ => some k_ ≠ (u699002 : Value).ownBlock) u699001 x699001_1) ∧ Aside0 (Kd.R (Kd.int .i64) 2 w' w.heap.size (fun k_ => some k_ ≠ (u699001 : Value).ownBlock) u699002 x699002_1) ∧ Aside0 (w'.heap[gb695]? = some (.cells #[.int .i64 a0_0, (.slice A0_1 l0_1.length c0_1), (.slice A0_2 l0_2.length c0_2)] 46 (0, 0))) ∧ Aside0 (w'.heap[gb696]? = some (.cells #[.int .i64 0, (.slice none 0 0), (.slice none 0 0)] 46 (0, 0))) ∧ Aside0 (w'.heap[gb698]? = some (.cells #[.int .i64 a0_0, u699001, u699002] 46 (0, 0))) ∧ Aside0 (Below w.heap.size w w'))
 case atStart => exact ⟨(0), (([] : List Int)), (([] : List Int)), (.slice none 0 0), (.slice none 0 0), (by first | rfl | (simp; done) | (simp [*]; done)), H', ⟨Nat.le_refl _⟩, ⟨by first | exact Kd.R_nil _ _ _ _ _ | exact Kd.N_nil _ _ _ _ _ | exact Kd.V_nil _ _ _ _ _ | exact Kd.Q_nil _ _ _ _ _ | exact Kd.S_nil _ _ _ _ _⟩, ⟨by first | exact Kd.R_nil _ _ _ _ _ | exact Kd.N_nil _ _ _ _ _ | exact Kd.V_nil _ _ _ _ _ | exact Kd.Q_nil _ _ _ _ _ | exact Kd.S_nil _ _ _ _ _⟩, ⟨by (repeat refine up1 ?_); refine blk_far ?_ NB695_698.out _; (repeat refine up1 ?_); refine blk_far ?_ NB695_698.out _; (repeat refine up1 ?_); refine blk_far ?_ NB695_698.out _; (repeat refine up1 ?_); exact BK695.out⟩, ⟨by (repeat refine up1 ?_); refine blk_far ?_ NB696_698.out _; (repeat refine up1 ?_); refine blk_far ?_ NB696_698.out _; (repeat refine up1 ?_); refine blk_far ?_ NB696_698.out _; (repeat refine up1 ?_); exact BK696.out⟩, ⟨by (repeat refine up1 ?_); refine blk_put (cs := #[.int .i64 a0_0, .slice none 0 0, .slice none 0 0]) ?_ 2 _ rfl; (repeat refine up1 ?_); refine blk_put (cs := #[.int .i64 a0_0, .slice none 0 0, .slice none 0 0]) ?_ 1 _ rfl; (repeat refine up1 ?_); refine blk_put (cs := #[.int .i64 0, .slice none 0 0, .slice none 0 0]) ?_ 0 _ rfl; (repeat refine up1 ?_); exact BK698.out⟩, ⟨uH HB.out⟩⟩
 case round =>
  clear H'
  (try clear c1);(try clear p2);(try clear c3);(try clear c3b0);(try clear c3b1);(try clear c6);(try clear c11);(try clear c12);(try clear hcz13_0);(try clear hcz13_1);(try clear hcz13_2);(try clear hcz14_0);(try clear hcz14_1);(try clear hcz14_2);(try clear hcz7_0);(try clear hcz7_1);(try clear hcz7_2);(try clear hcz9_0);(try clear hcz9_1);(try clear hcz9_2);(try clear hfz13_0);(try clear hfz13_1)
  (try clear hfz13_2);(try clear hfz14_0);(try clear hfz14_1);(try clear hfz14_2);(try clear hfz7_0);(try clear hfz7_1);(try clear hfz7_2);(try clear hfz9_0);(try clear hfz9_1);(try clear hfz9_2)
  obtain ⟨x20_1, x699001_1, x699002_1, u699001, u699002, rfl, HA, HK1, HO_699001, HO_699002, BK695, BK696, BK698, HB⟩ := hrel
  cases gk with
  | zero => exact absurd HA.out (by simp [impl_WithoutRests.l0])
  | succ k1 =>
   have H := HA.out
   clear HA
   simp only [impl_WithoutRests.l0] at H
   by_cases c15 : x20_1 < (l0_2.length : Int)
   rotate_left
   ·rw [if_neg c15] at H
    have c15b0 : decide (x20_1 < (l0_2.length : Int)) = false := decide_eq_false c15
    clear c15
    simp only [Option.some.injEq, Prod.mk.injEq] at H
    obtain ⟨rfl, rfl, rfl, rfl⟩ := H
    have hnb38 := NB698_695.out; have hnc38 := NB695_698.out; have hnb39 := NB698_696.out; have hnc39 := NB696_698.out
    have hcz40_0 := bc BK698 0
    have hcz40_1 := bc BK698 1
    have hcz40_2 := bc BK698 2
    have hfz40_0 := bf BK698 0
    have hfz40_1 := bf BK698 1
    have hfz40_2 := bf BK698 2
    have hnb41 := NB696_695.out; have hnc41 := NB695_696.out
    have hcz42_0 := bc BK696 0
    have hcz42_1 := bc BK696 1
    have hcz42_2 := bc BK696 2
    have hfz42_0 := bf BK696 0
    have hfz42_1 := bf BK696 1
    have hfz42_2 := bf BK696 2
    obtain ⟨Ao43, co43, eo43⟩ := Kd.R_slice HO_699001.out
    subst eo43
    obtain ⟨Ao44, co44, eo44⟩ := Kd.R_slice HO_699002.out
    subst eo44
    go_wp2
    refine bodyPost_ret (results_ct rfl _ _ gb696 46 #[.int .i64 a0_0, .slice Ao43 x699001_1.length co43, .slice Ao44 x699002_1.length co44] (0, 0) _ rfl (by (repeat refine up1 ?_); refine blk_put (cs := #[.int .i64 a0_0, .slice Ao43 x699001_1.length co43, .slice none 0 0]) ?_ 2 _ rfl; (repeat refine up1 ?_); refine blk_put (cs := #[.int .i64 a0_0, .slice none 0 0, .slice none 0 0]) ?_ 1 _ rfl; (repeat refine up1 ?_); refine blk_put (cs := #[.int .i64 0, .slice none 0 0, .slice none 0 0]) ?_ 0 _ rfl; (repeat refine up1 ?_); exact BK696.out) Try.underlying46 rfl (by kernel_rfl)) rfl ?_
    exact ⟨_, _, by first | rfl | (simp [errW_none, errW_some] <;> rfl) | (simp [*, errW_none, errW_some] <;> rfl), uR (rf3 HO_699001 BK696 (by decide) (.int .i64 a0_0) (.slice Ao43 x699001_1.length co43) (.slice Ao44 x699002_1.length co44)), uR (rf3 HO_699002 BK696 (by decide) (.int .i64 a0_0) (.slice Ao43 x699001_1.length co43) (.slice Ao44 x699002_1.length co44)), uH HB.out⟩
   rw [if_pos c15] at H
   have c15b0 : decide (x20_1 < (l0_2.length : Int)) = true := decide_eq_true c15
   clear c15
   by_cases c16 : 0 ≤ x20_1
   rotate_left
   ·rw [if_neg c16] at H
    exact absurd H (by simp)
   rw [if_pos c16] at H
   have c16b0 : decide (0 ≤ x20_1) = true := decide_eq_true c16
   clear c16
   by_cases c17 : x20_1 < (l0_2.length : Int)
   rotate_left
   ·rw [if_neg c17] at H
    exact absurd H (by simp)
   rw [if_pos c17] at H
   have c17b0 : decide (x20_1 < (l0_2.length : Int)) = true := decide_eq_true c17
   clear c17
   by_cases c18 : (rd l0_2 x20_1) = 0
   rotate_left
   ·rw [if_neg c18] at H
    have c18b0 : ((rd l0_2 x20_1) == 0) = false := beq_eq_false_iff_ne.mpr c18
    have c18b1 : ((rd l0_2 x20_1) != 0) = true := bne_iff_ne.mpr c18
    by_cases c19 : x20_1 < (l0_1.length : Int)
    rotate_left
    ·rw [if_neg c19] at H
     exact absurd H (by simp)
    rw [if_pos c19] at H
    have c19b0 : decide (x20_1 < (l0_1.length : Int)) = true := decide_eq_true c19
    clear c19
    obtain ⟨y701, hy701⟩ : ∃ y_ : List Int, y_ = (([rd l0_1 x20_1] : List Int)) := ⟨_, rfl⟩
    replace H : (if x699001_1.length + y701.length < 17592186044416 then ((some (([rd l0_2 x20_1] : List Int) : List Int)).bind fun y707 => (if x699002_1.length + y707.length < 17592186044416 then (impl_WithoutRests.l0 k1 l0_2 (l0_2.length : Int) (wrap64 (x20_1 + 1)) a0_0 l0_1 l0_2 a0_0 (x699001_1 ++ y701) (x699002_1 ++ y707)) else (none))) else (none)) = some (r1, r2, r3, r4) := by first | (rw [hy701]; exact H) | exact H
    have Ny701 := zA hy701
    clear hy701
    by_cases c20 : x699001_1.length + y701.length < 17592186044416
    rotate_left
    ·rw [if_neg c20] at H
     exact absurd H (by simp)
    rw [if_pos c20] at H
    have LMc20 := zA c20
    clear c20
    obtain ⟨y704, hy704⟩ : ∃ y_ : List Int, y_ = (x699001_1 ++ y701) := ⟨_, rfl⟩
    replace H : ((some (([rd l0_2 x20_1] : List Int) : List Int)).bind fun y707 => (if x699002_1.length + y707.length < 17592186044416 then (impl_WithoutRests.l0 k1 l0_2 (l0_2.length : Int) (wrap64 (x20_1 + 1)) a0_0 l0_1 l0_2 a0_0 y704 (x699002_1 ++ y707)) else (none))) = some (r1, r2, r3, r4) := by first | (rw [hy704]; exact H) | exact H
    have Ny704 := zA hy704
    clear hy704
    obtain ⟨y707, hy707⟩ : ∃ y_ : List Int, y_ = (([rd l0_2 x20_1] : List Int)) := ⟨_, rfl⟩
    replace H : (if x699002_1.length + y707.length < 17592186044416 then (impl_WithoutRests.l0 k1 l0_2 (l0_2.length : Int) (wrap64 (x20_1 + 1)) a0_0 l0_1 l0_2 a0_0 y704 (x699002_1 ++ y707)) else (none)) = some (r1, r2, r3, r4) := by first | (rw [hy707]; exact H) | exact H
    have Ny707 := zA hy707
    clear hy707
    by_cases c21 : x699002_1.length + y707.length < 17592186044416
    rotate_left
    ·rw [if_neg c21] at H
     exact absurd H (by simp)
    rw [if_pos c21] at H
    have LMc21 := zA c21
    clear c21
    obtain ⟨y710, hy710⟩ : ∃ y_ : List Int, y_ = (x699002_1 ++ y707) := ⟨_, rfl⟩
    replace H : (impl_WithoutRests.l0 k1 l0_2 (l0_2.length : Int) (wrap64 (x20_1 + 1)) a0_0 l0_1 l0_2 a0_0 y704 y710) = some (r1, r2, r3, r4) := by first | (rw [hy710]; exact H) | exact H
    have Ny710 := zA hy710
    clear hy710
    have H' := zA H
    clear H
    have p699 : 0 ≤ (x20_1 : Int) := of_decide_eq_true (by first | (with_reducible assumption) | assumption)
    have q699 : x20_1 < (l0_2.length : Int) := of_decide_eq_true (by first | (with_reducible assumption) | assumption)
    obtain ⟨ad699, e699, hx699_0⟩ := Kd.at_int HR0_2.out x20_1 p699 q699
    cases e699
    replace hx699_0 := hc HB hx699_0
    replace p699 := eq_true p699
    replace q699 := eq_true q699
    obtain ⟨Ao22, co22, eo22⟩ := Kd.R_slice HO_699001.out
    subst eo22
    obtain ⟨Ao23, co23, eo23⟩ := Kd.R_slice HO_699002.out
    subst eo23
    try go_wp2
    replace HO_699001 := zA (Kd.R_drew HO_699001.out)
    replace HO_699002 := zA (Kd.R_drew HO_699002.out)
    replace BK695 := zA (blk_drew BK695.out)
    replace BK696 := zA (blk_drew BK696.out)
    replace BK698 := zA (blk_drew BK698.out)
    replace HB := zA (below_drew1 HB.out)
    have p700 : 0 ≤ (x20_1 : Int) := of_decide_eq_true (by first | (with_reducible assumption) | assumption)
    have q700 : x20_1 < (l0_1.length : Int) := of_decide_eq_true (by first | (with_reducible assumption) | assumption)
    obtain ⟨ad700, e700, hx700_0⟩ := Kd.at_int HR0_1.out x20_1 p700 q700
    have hw700_0 := hx700_0
    cases e700
    replace hx700_0 := hc HB hx700_0
    replace p700 := eq_true p700
    replace q700 := eq_true q700
    refine start_ (n := 18) (S := fun w' => w'.cell? ⟨gb698, 0, none⟩ = some (.int .i64 a0_0) ∧ w'.cell? ⟨gb698, 1, none⟩ = some (.slice Ao22 x699001_1.length co22) ∧ w'.cell? ⟨gb698, 2, none⟩ = some (.slice Ao23 x699002_1.length co23) ∧ w'.cell? ⟨gb695, 0, none⟩ = some (.int .i64 a0_0) ∧ w'.cell? ⟨gb695, 1, none⟩ = some (.slice (some ad700) l0_1.length c0_1) ∧ w'.cell? ⟨gb695, 2, none⟩ = some (.slice (some ad699) l0_2.length c0_2) ∧ w'.cell? (ad700.add (x20_1).toNat) = some (.int .i64 (rd l0_1 x20_1))) (ds := [15, 17]) #[false, false, false, false, false, false, false, false, false, false, false, false, false, false, false, false, false, false] (by kernel_rfl) rfl rfl ⟨bcu BK698 0, bcu BK698 1, bcu BK698 2, bcu BK695 0, bcu BK695 1, bcu BK695 2, (hcu HB hw700_0)⟩ (fun hHeld => ?_); refine with_tabW impl_WithoutRests.tab9 impl_WithoutRests.bits9 (fun HT_ HW_ => ?_)
    generalize wr.drew = w24 at HO_699001 HO_699002 BK695 BK696 BK698 HB hx700_0 hHeld ⊢
    refine pu_ 0 27 (bl 18 1) HT_ ?_
    refine pu_ 2 29 (bl 18 5) HT_ ?_
    refine pu_ 4 31 (bl 18 21) HT_ ?_
    refine pu_ 9 36 (bl 18 533) HT_ ?_
    refine pu_ 11 38 (bl 18 2581) HT_ ?_
    refine ta_ 1 28 (bl 18 2583) HT_ HW_ hHeld ?_
    refine ta_ 3 30 (bl 18 2591) HT_ HW_ hHeld ?_
    refine pu_ 5 32 (bl 18 2623) HT_ ?_
    refine ta_ 6 33 (bl 18 2687) HT_ HW_ hHeld ?_
    refine ta_ 10 37 (bl 18 3711) HT_ HW_ hHeld ?_
    refine join_ (σ := Value × Value × Value) 4 (bl 18 24575) (fun s_ => [(34, s_.1), (35, s_.2.1), (39, s_.2.2), (41, .pointer (some ⟨gb698, 1, none⟩))]) (fun s_ w' => (w'.cell? ⟨gb698, 0, none⟩ = some (.int .i64 a0_0) ∧ w'.cell? ⟨gb698, 1, none⟩ = some (.slice Ao22 x699001_1.length co22) ∧ w'.cell? ⟨gb698, 2, none⟩ = some (.slice Ao23 x699002_1.length co23) ∧ w'.cell? ⟨gb695, 0, none⟩ = some (.int .i64 a0_0) ∧ w'.cell? ⟨gb695, 1, none⟩ = some (.slice (some ad700) l0_1.length c0_1) ∧ w'.cell? ⟨gb695, 2, none⟩ = some (.slice (some ad699) l0_2.length c0_2) ∧ w'.cell? (ad700.add (x20_1).toNat) = some (.int .i64 (rd l0_1 x20_1))) ∧ (Kd.R (Kd.int .i64) 2 w' w.heap.size (fun k_ => some k_ ≠ (s_.2.1 : Value).ownBlock ∧ some k_ ≠ (s_.2.2 : Value).ownBlock ∧ ax k_ (.slice Ao23 x699002_1.length co23)) s_.1 y701) ∧ (Kd.R (Kd.int .i64) 2 w' w.heap.size (fun k_ => some k_ ≠ (s_.1 : Value).ownBlock ∧ some k_ ≠ (s_.2.2 : Value).ownBlock ∧ ax k_ (.slice Ao23 x699002_1.length co23)) s_.2.1 y704) ∧ (Kd.R (Kd.int .i64) 2 w' w.heap.size (fun k_ => some k_ ≠ (s_.1 : Value).ownBlock ∧ some k_ ≠ (s_.2.1 : Value).ownBlock ∧ ax k_ (.slice Ao23 x699002_1.length co23)) s_.2.2 y707) ∧ (Kd.R (Kd.int .i64) 2 w' w.heap.size (fun k_ => some k_ ≠ (s_.1 : Value).ownBlock ∧ some k_ ≠ (s_.2.1 : Value).ownBlock ∧ some k_ ≠ (s_.2.2 : Value).ownBlock) (.slice Ao23 x699002_1.length co23) x699002_1) ∧ (w'.heap[gb695]? = some (.cells #[.int .i64 a0_0, .slice (some ad700) l0_1.length c0_1, .slice (some ad699) l0_2.length c0_2] 46 (0, 0))) ∧ (w'.heap[gb696]? = some (.cells #[.int .i64 0, .slice none 0 0, .slice none 0 0] 46 (0, 0))) ∧ (w'.heap[gb698]? = some (.cells #[.int .i64 a0_0, .slice Ao22 x699001_1.length co22, .slice Ao23 x699002_1.length co23] 46 (0, 0))) ∧ (Below w.heap.size w w')) ?_ ?_
    rotate_left
    ·intro hCont
     refine two_ (i := 7) (j := 12) (Ni := some 34) (Nj := some 39) (bl 18 3839) (bl 18 7807) rfl rfl rfl rfl (two_of HT_.out (by kernel_rfl)) (by decide) (by decide) (fun K hK => ?_) (fun K hK => ?_)
     ·skip
      refine Kd.R_lit_step (Kd.int .i64) _ 2 ?hg (N := 34) ?hd (xs := ([rd l0_1 x20_1] : List Int)) (inner := [.int .i64 (rd l0_1 x20_1)]) (ok := fun _ => True) (okp := fun _ => True) ?hr ?hp (fun _ hk => hk) trivial (Below.refl _ _) (Nat.le_refl _) (by simp) ?_; (case hd => rfl); (case hg => rfl); (case hr => first | (go_simp; done) | (go_simp; rfl)); (case hp => exact (Reps.one (show Kd.M (Kd.int .i64) _ _ _ (rd l0_1 x20_1) [.int .i64 (rd l0_1 x20_1)] from rfl) (Reps.none _ _)))
      intro v702 w25 ho26 hb hg_ hnew_
      clear hg_ hnew_
      (first | rw [← Ny701.out] at ho26 | (simp only [Int.reduceToNat] at ho26; rw [← Ny701.out] at ho26))
      have HO703 := zA (Kd.R_lower (Kd.R_new' (Kd.R_new' ho26 (Kd.R_lt (uR HO_699001.out))) (Kd.R_lt (uR HO_699002.out))) (below_size (uH HB.out)))
      replace HO_699001 := zA (Kd.R_elder' (uR HO_699001.out) (Kd.R_base ho26) hb)
      replace HO_699002 := zA (Kd.R_elder' (uR HO_699002.out) (Kd.R_base ho26) hb)
      replace BK695 := xB BK695 hb
      replace BK696 := xB BK696 hb
      replace BK698 := xB BK698 hb
      replace HB := xH HB hb
      clear hb ho26
      obtain ⟨Ao28, co28, eo28⟩ := Kd.R_slice HO703.out
      (first | subst eo28 | (injection eo28 with f1_ f2_ f3_; have f4_ := f1_.symm; have f5_ := f3_.symm; clear f1_ f2_ f3_; subst f4_; subst f5_))
      refine hK.out _ _ ⟨bcu BK698 0, bcu BK698 1, bcu BK698 2, bcu BK695 0, bcu BK695 1, bcu BK695 2, (hcu HB hw700_0)⟩ (fun hHeld => ?_)
      clear hK K
      refine no_ 34 ?_
      refine two_ (i := 8) (j := 12) (Ni := some 35) (Nj := some 39) (bl 18 4095) (bl 18 7935) rfl rfl rfl rfl (two_of HT_.out (by kernel_rfl)) (by decide) (by decide) (fun K hK => ?_) (fun K hK => ?_)
      ·skip
       refine Kd.R_append_rows_step (Kd.int .i64) (w0 := w) w.heap.size (by rfl) (.tmp 28) (.tmp 34) 22 2 (.int .i64 0) 8 rfl Try.underlying22 info2 rfl (by decide) (by omega) (.slice Ao22 x699001_1.length co22) x699001_1 y701 _ _ _ (fun k_ => ax k_ (.slice Ao23 x699002_1.length co23) ∧ ax k_ (.slice Ao28 y701.length co28)) (fun _ => False) rfl rfl ?aO ?aR (fun _ _ h => h) (fun _ h => h.elim) ?aF ?aB ?aS ?aL ?_
       (case aR => exact uC ((Kd.R_reads' HO703.out).2.2))
       (case aB => exact (uH HB.out))
       (case aF => exact (fun k_ hk => ⟨Kd.fresh' (Kd.R_lt (uR HO_699002.out)) k_ hk, Kd.fresh' (Kd.R_lt (uR HO703.out)) k_ hk⟩))
       (case aO => exact (uR HO_699001.out))
       (case aS => exact (below_size (uH HB.out)))
       (case aL => have := LMc20.out; omega)
       intro v705 w27 ho hb hg hat
       rw [← Ny704.out] at ho
       replace HO_699002 := zA (Kd.R_after (ok := (fun k_ => ax k_ (.slice Ao28 y701.length co28))) (uR (Kd.R_mono HO_699002.out (fun _ hk => ⟨hk.2, hk.1⟩))) hg hat)
       replace BK695 := zA (blk_grown (g := gb695) (o := .cells #[.int .i64 a0_0, .slice (some ad700) l0_1.length c0_1, .slice (some ad699) l0_2.length c0_2] 46 (0, 0)) (uB BK695.out) hg (Kd.R_ne HO_699001.out BK695.out (by decide)))
       replace BK696 := zA (blk_grown (g := gb696) (o := .cells #[.int .i64 0, .slice none 0 0, .slice none 0 0] 46 (0, 0)) (uB BK696.out) hg (Kd.R_ne HO_699001.out BK696.out (by decide)))
       replace BK698 := zA (blk_grown (g := gb698) (o := .cells #[.int .i64 a0_0, .slice Ao22 x699001_1.length co22, .slice Ao23 x699002_1.length co23] 46 (0, 0)) (uB BK698.out) hg (Kd.R_ne HO_699001.out BK698.out (by decide)))
       replace HO703 := zA (Kd.R_after (ok := (fun k_ => ax k_ (.slice Ao23 x699002_1.length co23))) (uR (Kd.R_mono HO703.out (fun _ hk => ⟨hk.2, hk.1.2⟩))) hg hat)
       replace HB := zA (hb)
       have HO706 := zA (ho)
       clear HO_699001
       clear ho hb hg hat
       refine hK.out _ _ ⟨bcu BK698 0, bcu BK698 1, bcu BK698 2, bcu BK695 0, bcu BK695 1, bcu BK695 2, (hcu HB hw700_0)⟩ (fun hHeld => ?_)
       clear hK K
       refine no_ 35 ?_
       refine pu_ 14 41 (bl 18 20479) HT_ ?_
       refine on_ 12 (some 39) (bl 18 24575) HT_ (fun K hK => ?_)
       refine Kd.R_lit_step (Kd.int .i64) _ 2 ?hg (N := 39) ?hd (xs := ([rd l0_2 x20_1] : List Int)) (inner := [.int .i64 (rd l0_2 x20_1)]) (ok := fun _ => True) (okp := fun _ => True) ?hr ?hp (fun _ hk => hk) trivial (Below.refl _ _) (Nat.le_refl _) (by simp) ?_; (case hd => rfl); (case hg => rfl); (case hr => first | (go_simp; done) | (go_simp; rfl)); (case hp => exact (Reps.one (show Kd.M (Kd.int .i64) _ _ _ (rd l0_2 x20_1) [.int .i64 (rd l0_2 x20_1)] from rfl) (Reps.none _ _)))
       intro v708 w29 ho30 hb hg_ hnew_
       clear hg_ hnew_
       (first | rw [← Ny707.out] at ho30 | (simp only [Int.reduceToNat] at ho30; rw [← Ny707.out] at ho30))
       have HO709 := zA (Kd.R_lower (Kd.R_new' (Kd.R_new' (Kd.R_new' ho30 (Kd.R_lt (uR HO_699002.out))) (Kd.R_lt (uR HO703.out))) (Kd.R_lt (uR HO706.out))) (below_size (uH HB.out)))
       replace HO_699002 := zA (Kd.R_elder' (uR HO_699002.out) (Kd.R_base ho30) hb)
       replace HO703 := zA (Kd.R_elder' (uR HO703.out) (Kd.R_base ho30) hb)
       replace HO706 := zA (Kd.R_elder' (uR HO706.out) (Kd.R_base ho30) hb)
       replace BK695 := xB BK695 hb
       replace BK696 := xB BK696 hb
       replace BK698 := xB BK698 hb
       replace HB := xH HB hb
       clear hb ho30
       refine hK.out _ _ ⟨bcu BK698 0, bcu BK698 1, bcu BK698 2, bcu BK695 0, bcu BK695 1, bcu BK695 2, (hcu HB hw700_0)⟩ (fun hHeld => ?_)
       clear hK K
       refine no_ 39 ?_
       exact norm_ (by simp only [putAll, Act.put, ls, lz, ln]) (hCont (.slice Ao28 y701.length co28, v705, v708) _ ⟨hHeld, (uR (Kd.R_mono HO703.out (fun _ hk => ⟨hk.1.2, ⟨hk.2, hk.1.1⟩⟩))), (uR (Kd.R_mono HO706.out (fun _ hk => ⟨hk.1.2, ⟨hk.2, hk.1.1⟩⟩))), (uR (Kd.R_mono HO709.out (fun _ hk => ⟨hk.1.2, ⟨hk.2, hk.1.1.2⟩⟩))), (uR (Kd.R_mono HO_699002.out (fun _ hk => ⟨hk.1.1, ⟨hk.1.2, hk.2⟩⟩))), (uB BK695.out), (uB BK696.out), (uB BK698.out), (uH HB.out)⟩)
      ·skip
       refine Kd.R_lit_step (Kd.int .i64) _ 2 ?hg (N := 39) ?hd (xs := ([rd l0_2 x20_1] : List Int)) (inner := [.int .i64 (rd l0_2 x20_1)]) (ok := fun _ => True) (okp := fun _ => True) ?hr ?hp (fun _ hk => hk) trivial (Below.refl _ _) (Nat.le_refl _) (by simp) ?_; (case hd => rfl); (case hg => rfl); (case hr => first | (go_simp; done) | (go_simp; rfl)); (case hp => exact (Reps.one (show Kd.M (Kd.int .i64) _ _ _ (rd l0_2 x20_1) [.int .i64 (rd l0_2 x20_1)] from rfl) (Reps.none _ _)))
       intro v708 w27 ho28 hb hg_ hnew_
       clear hg_ hnew_
       (first | rw [← Ny707.out] at ho28 | (simp only [Int.reduceToNat] at ho28; rw [← Ny707.out] at ho28))
       have HO709 := zA (Kd.R_lower (Kd.R_new' (Kd.R_new' (Kd.R_new' ho28 (Kd.R_lt (uR HO_699001.out))) (Kd.R_lt (uR HO_699002.out))) (Kd.R_lt (uR HO703.out))) (below_size (uH HB.out)))
       replace HO_699001 := zA (Kd.R_elder' (uR HO_699001.out) (Kd.R_base ho28) hb)
       replace HO_699002 := zA (Kd.R_elder' (uR HO_699002.out) (Kd.R_base ho28) hb)
       replace HO703 := zA (Kd.R_elder' (uR HO703.out) (Kd.R_base ho28) hb)
       replace BK695 := xB BK695 hb
       replace BK696 := xB BK696 hb
       replace BK698 := xB BK698 hb
       replace HB := xH HB hb
       clear hb ho28
       obtain ⟨Ao30, co30, eo30⟩ := Kd.R_slice HO703.out
       (first | subst eo30 | (injection eo30 with f1_ f2_ f3_; have f4_ := f1_.symm; have f5_ := f3_.symm; clear f1_ f2_ f3_; subst f4_; subst f5_))
       refine hK.out _ _ ⟨bcu BK698 0, bcu BK698 1, bcu BK698 2, bcu BK695 0, bcu BK695 1, bcu BK695 2, (hcu HB hw700_0)⟩ (fun hHeld => ?_)
       clear hK K
       refine no_ 39 ?_
       refine on_ 8 (some 35) (bl 18 8191) HT_ (fun K hK => ?_)
       refine Kd.R_append_rows_step (Kd.int .i64) (w0 := w) w.heap.size (by rfl) (.tmp 28) (.tmp 34) 22 2 (.int .i64 0) 8 rfl Try.underlying22 info2 rfl (by decide) (by omega) (.slice Ao22 x699001_1.length co22) x699001_1 y701 _ _ _ (fun k_ => ax k_ (.slice Ao23 x699002_1.length co23) ∧ ax k_ (.slice Ao30 y701.length co30) ∧ some k_ ≠ (v708 : Value).ownBlock) (fun _ => False) rfl rfl ?aO ?aR (fun _ _ h => h) (fun _ h => h.elim) ?aF ?aB ?aS ?aL ?_
       (case aR => exact uC ((Kd.R_reads' HO703.out).2.2))
       (case aB => exact (uH HB.out))
       (case aF => exact (fun k_ hk => ⟨Kd.fresh' (Kd.R_lt (uR HO_699002.out)) k_ hk, Kd.fresh' (Kd.R_lt (uR HO703.out)) k_ hk, Kd.fresh' (Kd.R_lt (uR HO709.out)) k_ hk⟩))
       (case aO => exact (uR (Kd.R_mono HO_699001.out (fun _ hk => ⟨hk.1.1, ⟨hk.1.2, hk.2⟩⟩))))
       (case aS => exact (below_size (uH HB.out)))
       (case aL => have := LMc20.out; omega)
       intro v705 w29 ho hb hg hat
       rw [← Ny704.out] at ho
       replace HO_699002 := zA (Kd.R_after (ok := (fun k_ => ax k_ (.slice Ao30 y701.length co30) ∧ some k_ ≠ (v708 : Value).ownBlock)) (uR (Kd.R_mono HO_699002.out (fun _ hk => ⟨⟨hk.1.2, hk.2⟩, hk.1.1⟩))) hg hat)
       replace BK695 := zA (blk_grown (g := gb695) (o := .cells #[.int .i64 a0_0, .slice (some ad700) l0_1.length c0_1, .slice (some ad699) l0_2.length c0_2] 46 (0, 0)) (uB BK695.out) hg (Kd.R_ne HO_699001.out BK695.out (by decide)))
       replace BK696 := zA (blk_grown (g := gb696) (o := .cells #[.int .i64 0, .slice none 0 0, .slice none 0 0] 46 (0, 0)) (uB BK696.out) hg (Kd.R_ne HO_699001.out BK696.out (by decide)))
       replace BK698 := zA (blk_grown (g := gb698) (o := .cells #[.int .i64 a0_0, .slice Ao22 x699001_1.length co22, .slice Ao23 x699002_1.length co23] 46 (0, 0)) (uB BK698.out) hg (Kd.R_ne HO_699001.out BK698.out (by decide)))
       replace HO703 := zA (Kd.R_after (ok := (fun k_ => ax k_ (.slice Ao23 x699002_1.length co23) ∧ some k_ ≠ (v708 : Value).ownBlock)) (uR (Kd.R_mono HO703.out (fun _ hk => ⟨⟨hk.1.2, hk.2⟩, hk.1.1.2⟩))) hg hat)
       replace HO709 := zA (Kd.R_after (ok := (fun k_ => ax k_ (.slice Ao23 x699002_1.length co23) ∧ ax k_ (.slice Ao30 y701.length co30))) (uR (Kd.R_mono HO709.out (fun _ hk => ⟨⟨hk.1.2, hk.2⟩, hk.1.1.2⟩))) hg hat)
       replace HB := zA (hb)
       have HO706 := zA (ho)
       clear HO_699001
       clear ho hb hg hat
       refine hK.out _ _ ⟨bcu BK698 0, bcu BK698 1, bcu BK698 2, bcu BK695 0, bcu BK695 1, bcu BK695 2, (hcu HB hw700_0)⟩ (fun hHeld => ?_)
       clear hK K
       refine no_ 35 ?_
       refine pu_ 14 41 (bl 18 24575) HT_ ?_
       exact norm_ (by simp only [putAll, Act.put, ls, lz, ln]) (hCont (.slice Ao30 y701.length co30, v705, v708) _ ⟨hHeld, (uR (Kd.R_mono HO703.out (fun _ hk => ⟨hk.2, ⟨hk.1.2, hk.1.1⟩⟩))), (uR (Kd.R_mono HO706.out (fun _ hk => ⟨hk.2.1, ⟨hk.2.2, hk.1⟩⟩))), (uR (Kd.R_mono HO709.out (fun _ hk => ⟨hk.1.2, ⟨hk.2, hk.1.1⟩⟩))), (uR (Kd.R_mono HO_699002.out (fun _ hk => ⟨hk.1.1, ⟨hk.2, hk.1.2⟩⟩))), (uB BK695.out), (uB BK696.out), (uB BK698.out), (uH HB.out)⟩)
     ·skip
      refine Kd.R_lit_step (Kd.int .i64) _ 2 ?hg (N := 39) ?hd (xs := ([rd l0_2 x20_1] : List Int)) (inner := [.int .i64 (rd l0_2 x20_1)]) (ok := fun _ => True) (okp := fun _ => True) ?hr ?hp (fun _ hk => hk) trivial (Below.refl _ _) (Nat.le_refl _) (by simp) ?_; (case hd => rfl); (case hg => rfl); (case hr => first | (go_simp; done) | (go_simp; rfl)); (case hp => exact (Reps.one (show Kd.M (Kd.int .i64) _ _ _ (rd l0_2 x20_1) [.int .i64 (rd l0_2 x20_1)] from rfl) (Reps.none _ _)))
      intro v708 w25 ho26 hb hg_ hnew_
      clear hg_ hnew_
      (first | rw [← Ny707.out] at ho26 | (simp only [Int.reduceToNat] at ho26; rw [← Ny707.out] at ho26))
      have HO709 := zA (Kd.R_lower (Kd.R_new' (Kd.R_new' ho26 (Kd.R_lt (uR HO_699001.out))) (Kd.R_lt (uR HO_699002.out))) (below_size (uH HB.out)))
      replace HO_699001 := zA (Kd.R_elder' (uR HO_699001.out) (Kd.R_base ho26) hb)
      replace HO_699002 := zA (Kd.R_elder' (uR HO_699002.out) (Kd.R_base ho26) hb)
      replace BK695 := xB BK695 hb
      replace BK696 := xB BK696 hb
      replace BK698 := xB BK698 hb
      replace HB := xH HB hb
      clear hb ho26
      refine hK.out _ _ ⟨bcu BK698 0, bcu BK698 1, bcu BK698 2, bcu BK695 0, bcu BK695 1, bcu BK695 2, (hcu HB hw700_0)⟩ (fun hHeld => ?_)
      clear hK K
      refine no_ 39 ?_
      refine on_ 7 (some 34) (bl 18 7935) HT_ (fun K hK => ?_)
      refine Kd.R_lit_step (Kd.int .i64) _ 2 ?hg (N := 34) ?hd (xs := ([rd l0_1 x20_1] : List Int)) (inner := [.int .i64 (rd l0_1 x20_1)]) (ok := fun _ => True) (okp := fun _ => True) ?hr ?hp (fun _ hk => hk) trivial (Below.refl _ _) (Nat.le_refl _) (by simp) ?_; (case hd => rfl); (case hg => rfl); (case hr => first | (go_simp; done) | (go_simp; rfl)); (case hp => exact (Reps.one (show Kd.M (Kd.int .i64) _ _ _ (rd l0_1 x20_1) [.int .i64 (rd l0_1 x20_1)] from rfl) (Reps.none _ _)))
      intro v702 w27 ho28 hb hg_ hnew_
      clear hg_ hnew_
      (first | rw [← Ny701.out] at ho28 | (simp only [Int.reduceToNat] at ho28; rw [← Ny701.out] at ho28))
      have HO703 := zA (Kd.R_lower (Kd.R_new' (Kd.R_new' (Kd.R_new' ho28 (Kd.R_lt (uR HO_699001.out))) (Kd.R_lt (uR HO_699002.out))) (Kd.R_lt (uR HO709.out))) (below_size (uH HB.out)))
      replace HO_699001 := zA (Kd.R_elder' (uR HO_699001.out) (Kd.R_base ho28) hb)
      replace HO_699002 := zA (Kd.R_elder' (uR HO_699002.out) (Kd.R_base ho28) hb)
      replace HO709 := zA (Kd.R_elder' (uR HO709.out) (Kd.R_base ho28) hb)
      replace BK695 := xB BK695 hb
      replace BK696 := xB BK696 hb
      replace BK698 := xB BK698 hb
      replace HB := xH HB hb
      clear hb ho28
      obtain ⟨Ao30, co30, eo30⟩ := Kd.R_slice HO703.out
      (first | subst eo30 | (injection eo30 with f1_ f2_ f3_; have f4_ := f1_.symm; have f5_ := f3_.symm; clear f1_ f2_ f3_; subst f4_; subst f5_))
      refine hK.out _ _ ⟨bcu BK698 0, bcu BK698 1, bcu BK698 2, bcu BK695 0, bcu BK695 1, bcu BK695 2, (hcu HB hw700_0)⟩ (fun hHeld => ?_)
      clear hK K
      refine no_ 34 ?_
      refine on_ 8 (some 35) (bl 18 8191) HT_ (fun K hK => ?_)
      refine Kd.R_append_rows_step (Kd.int .i64) (w0 := w) w.heap.size (by rfl) (.tmp 28) (.tmp 34) 22 2 (.int .i64 0) 8 rfl Try.underlying22 info2 rfl (by decide) (by omega) (.slice Ao22 x699001_1.length co22) x699001_1 y701 _ _ _ (fun k_ => ax k_ (.slice Ao23 x699002_1.length co23) ∧ some k_ ≠ (v708 : Value).ownBlock ∧ ax k_ (.slice Ao30 y701.length co30)) (fun _ => False) rfl rfl ?aO ?aR (fun _ _ h => h) (fun _ h => h.elim) ?aF ?aB ?aS ?aL ?_
      (case aR => exact uC ((Kd.R_reads' HO703.out).2.2))
      (case aB => exact (uH HB.out))
      (case aF => exact (fun k_ hk => ⟨Kd.fresh' (Kd.R_lt (uR HO_699002.out)) k_ hk, Kd.fresh' (Kd.R_lt (uR HO709.out)) k_ hk, Kd.fresh' (Kd.R_lt (uR HO703.out)) k_ hk⟩))
      (case aO => exact (uR (Kd.R_mono HO_699001.out (fun _ hk => ⟨hk.1.1, ⟨hk.1.2, hk.2⟩⟩))))
      (case aS => exact (below_size (uH HB.out)))
      (case aL => have := LMc20.out; omega)
      intro v705 w29 ho hb hg hat
      rw [← Ny704.out] at ho
      replace HO_699002 := zA (Kd.R_after (ok := (fun k_ => some k_ ≠ (v708 : Value).ownBlock ∧ ax k_ (.slice Ao30 y701.length co30))) (uR (Kd.R_mono HO_699002.out (fun _ hk => ⟨⟨hk.1.2, hk.2⟩, hk.1.1⟩))) hg hat)
      replace BK695 := zA (blk_grown (g := gb695) (o := .cells #[.int .i64 a0_0, .slice (some ad700) l0_1.length c0_1, .slice (some ad699) l0_2.length c0_2] 46 (0, 0)) (uB BK695.out) hg (Kd.R_ne HO_699001.out BK695.out (by decide)))
      replace BK696 := zA (blk_grown (g := gb696) (o := .cells #[.int .i64 0, .slice none 0 0, .slice none 0 0] 46 (0, 0)) (uB BK696.out) hg (Kd.R_ne HO_699001.out BK696.out (by decide)))
      replace BK698 := zA (blk_grown (g := gb698) (o := .cells #[.int .i64 a0_0, .slice Ao22 x699001_1.length co22, .slice Ao23 x699002_1.length co23] 46 (0, 0)) (uB BK698.out) hg (Kd.R_ne HO_699001.out BK698.out (by decide)))
      replace HO709 := zA (Kd.R_after (ok := (fun k_ => ax k_ (.slice Ao23 x699002_1.length co23) ∧ ax k_ (.slice Ao30 y701.length co30))) (uR (Kd.R_mono HO709.out (fun _ hk => ⟨⟨hk.1.2, hk.2⟩, hk.1.1.2⟩))) hg hat)
      replace HO703 := zA (Kd.R_after (ok := (fun k_ => ax k_ (.slice Ao23 x699002_1.length co23) ∧ some k_ ≠ (v708 : Value).ownBlock)) (uR (Kd.R_mono HO703.out (fun _ hk => ⟨⟨hk.1.2, hk.2⟩, hk.1.1.2⟩))) hg hat)
      replace HB := zA (hb)
      have HO706 := zA (ho)
      clear HO_699001
      clear ho hb hg hat
      refine hK.out _ _ ⟨bcu BK698 0, bcu BK698 1, bcu BK698 2, bcu BK695 0, bcu BK695 1, bcu BK695 2, (hcu HB hw700_0)⟩ (fun hHeld => ?_)
      clear hK K
      refine no_ 35 ?_
      refine pu_ 14 41 (bl 18 24575) HT_ ?_
      exact norm_ (by simp only [putAll, Act.put, ls, lz, ln]) (hCont (.slice Ao30 y701.length co30, v705, v708) _ ⟨hHeld, (uR (Kd.R_mono HO703.out (fun _ hk => ⟨hk.2, ⟨hk.1.2, hk.1.1⟩⟩))), (uR (Kd.R_mono HO706.out (fun _ hk => ⟨hk.2.2, ⟨hk.2.1, hk.1⟩⟩))), (uR (Kd.R_mono HO709.out (fun _ hk => ⟨hk.1.2, ⟨hk.2, hk.1.1⟩⟩))), (uR (Kd.R_mono HO_699002.out (fun _ hk => ⟨hk.1.2, ⟨hk.2, hk.1.1⟩⟩))), (uB BK695.out), (uB BK696.out), (uB BK698.out), (uH HB.out)⟩)
    rintro ⟨v702, v705, v708⟩ w31 ⟨hS_, h0_, h1_, h2_, h3_, h4_, h5_, h6_, h7_⟩
    have n0_ : Aside0 (Kd.R (Kd.int .i64) 2 w31 w.heap.size (fun k_ => some k_ ≠ (v705 : Value).ownBlock ∧ some k_ ≠ (v708 : Value).ownBlock ∧ ax k_ (.slice Ao23 x699002_1.length co23)) v702 y701) := ⟨h0_⟩
    have n1_ : Aside0 (Kd.R (Kd.int .i64) 2 w31 w.heap.size (fun k_ => some k_ ≠ (v702 : Value).ownBlock ∧ some k_ ≠ (v708 : Value).ownBlock ∧ ax k_ (.slice Ao23 x699002_1.length co23)) v705 y704) := ⟨h1_⟩
    have n2_ : Aside0 (Kd.R (Kd.int .i64) 2 w31 w.heap.size (fun k_ => some k_ ≠ (v702 : Value).ownBlock ∧ some k_ ≠ (v705 : Value).ownBlock ∧ ax k_ (.slice Ao23 x699002_1.length co23)) v708 y707) := ⟨h2_⟩
    have n3_ : Aside0 (Kd.R (Kd.int .i64) 2 w31 w.heap.size (fun k_ => some k_ ≠ (v702 : Value).ownBlock ∧ some k_ ≠ (v705 : Value).ownBlock ∧ some k_ ≠ (v708 : Value).ownBlock) (.slice Ao23 x699002_1.length co23) x699002_1) := ⟨h3_⟩
    have n4_ : Aside0 (w31.heap[gb695]? = some (.cells #[.int .i64 a0_0, .slice (some ad700) l0_1.length c0_1, .slice (some ad699) l0_2.length c0_2] 46 (0, 0))) := ⟨h4_⟩
    have n5_ : Aside0 (w31.heap[gb696]? = some (.cells #[.int .i64 0, .slice none 0 0, .slice none 0 0] 46 (0, 0))) := ⟨h5_⟩
    have n6_ : Aside0 (w31.heap[gb698]? = some (.cells #[.int .i64 a0_0, .slice Ao22 x699001_1.length co22, .slice Ao23 x699002_1.length co23] 46 (0, 0))) := ⟨h6_⟩
    have n7_ : Aside0 (Below w.heap.size w w31) := ⟨h7_⟩
    clear HO_699001 HO_699002 BK695 BK696 BK698 HB
    clear h0_ h1_ h2_ h3_ h4_ h5_ h6_ h7_
    have HO703 := n0_
    have HO706 := n1_
    have HO709 := n2_
    have HO_699002 := n3_
    have BK695 := n4_
    have BK696 := n5_
    have BK698 := n6_
    have HB := n7_
    clear n0_ n1_ n2_ n3_ n4_ n5_ n6_ n7_
    have hHeld : w31.cell? ⟨gb698, 0, none⟩ = some (.int .i64 a0_0) ∧ w31.cell? ⟨gb698, 1, none⟩ = some (.slice Ao22 x699001_1.length co22) ∧ w31.cell? ⟨gb698, 2, none⟩ = some (.slice Ao23 x699002_1.length co23) ∧ w31.cell? ⟨gb695, 0, none⟩ = some (.int .i64 a0_0) ∧ w31.cell? ⟨gb695, 1, none⟩ = some (.slice (some ad700) l0_1.length c0_1) ∧ w31.cell? ⟨gb695, 2, none⟩ = some (.slice (some ad699) l0_2.length c0_2) ∧ w31.cell? (ad700.add (x20_1).toNat) = some (.int .i64 (rd l0_1 x20_1)) := hS_
    obtain ⟨Ao33, co33, eo33⟩ := Kd.R_slice HO709.out
    (first | subst eo33 | (injection eo33 with f1_ f2_ f3_; have f4_ := f1_.symm; have f5_ := f3_.symm; clear f1_ f2_ f3_; subst f4_; subst f5_))
    refine norm_ (a' := ?_) ?_ ?_
    rotate_left
    ·simp only [putAll, Act.put, ls, lz, ln]
     rfl
    refine on_ 13 (some 40) (bl 18 32767) HT_ (fun K hK => ?_)
    refine Kd.R_append_rows_step (Kd.int .i64) (w0 := w) w.heap.size (by rfl) (.tmp 37) (.tmp 39) 22 2 (.int .i64 0) 8 rfl Try.underlying22 info2 rfl (by decide) (by omega) (.slice Ao23 x699002_1.length co23) x699002_1 y707 _ _ _ (fun k_ => some k_ ≠ (v702 : Value).ownBlock ∧ some k_ ≠ (v705 : Value).ownBlock ∧ ax k_ (.slice Ao33 y707.length co33)) (fun _ => False) rfl rfl ?aO ?aR (fun _ _ h => h) (fun _ h => h.elim) ?aF ?aB ?aS ?aL ?_
    (case aR => exact uC ((Kd.R_reads' HO709.out).2.2))
    (case aB => exact (uH HB.out))
    (case aF => exact (fun k_ hk => ⟨Kd.fresh' (Kd.R_lt (uR HO703.out)) k_ hk, Kd.fresh' (Kd.R_lt (uR HO706.out)) k_ hk, Kd.fresh' (Kd.R_lt (uR HO709.out)) k_ hk⟩))
    (case aO => exact (uR HO_699002.out))
    (case aS => exact (below_size (uH HB.out)))
    (case aL => have := LMc21.out; omega)
    intro v711 w32 ho hb hg hat
    rw [← Ny710.out] at ho
    replace BK695 := zA (blk_grown (g := gb695) (o := .cells #[.int .i64 a0_0, .slice (some ad700) l0_1.length c0_1, .slice (some ad699) l0_2.length c0_2] 46 (0, 0)) (uB BK695.out) hg (Kd.R_ne HO_699002.out BK695.out (by decide)))
    replace BK696 := zA (blk_grown (g := gb696) (o := .cells #[.int .i64 0, .slice none 0 0, .slice none 0 0] 46 (0, 0)) (uB BK696.out) hg (Kd.R_ne HO_699002.out BK696.out (by decide)))
    replace BK698 := zA (blk_grown (g := gb698) (o := .cells #[.int .i64 a0_0, .slice Ao22 x699001_1.length co22, .slice Ao23 x699002_1.length co23] 46 (0, 0)) (uB BK698.out) hg (Kd.R_ne HO_699002.out BK698.out (by decide)))
    replace HO703 := zA (Kd.R_after (ok := (fun k_ => some k_ ≠ (v705 : Value).ownBlock ∧ ax k_ (.slice Ao33 y707.length co33))) (uR (Kd.R_mono HO703.out (fun _ hk => ⟨⟨hk.1, hk.2.1⟩, hk.2.2⟩))) hg hat)
    replace HO706 := zA (Kd.R_after (ok := (fun k_ => some k_ ≠ (v702 : Value).ownBlock ∧ ax k_ (.slice Ao33 y707.length co33))) (uR (Kd.R_mono HO706.out (fun _ hk => ⟨⟨hk.1, hk.2.1⟩, hk.2.2⟩))) hg hat)
    replace HO709 := zA (Kd.R_after (ok := (fun k_ => some k_ ≠ (v702 : Value).ownBlock ∧ some k_ ≠ (v705 : Value).ownBlock)) (uR (Kd.R_mono HO709.out (fun _ hk => ⟨⟨hk.1, hk.2.1⟩, hk.2.2⟩))) hg hat)
    replace HB := zA (hb)
    have HO712 := zA (ho)
    clear HO_699002
    clear ho hb hg hat
    obtain ⟨Ao34, co34, eo34⟩ := Kd.R_slice HO706.out
    (first | subst eo34 | (injection eo34 with f1_ f2_ f3_; have f4_ := f1_.symm; have f5_ := f3_.symm; clear f1_ f2_ f3_; subst f4_; subst f5_))
    obtain ⟨Ao36, co36, eo36⟩ := Kd.R_slice HO712.out
    (first | subst eo36 | (injection eo36 with f1_ f2_ f3_; have f4_ := f1_.symm; have f5_ := f3_.symm; clear f1_ f2_ f3_; subst f4_; subst f5_))
    refine hK.out _ _ ⟨bcu BK698 0, bcu BK698 1, bcu BK698 2, bcu BK695 0, bcu BK695 1, bcu BK695 2, (hcu HB hw700_0)⟩ (fun hHeld => ?_)
    clear hK K
    refine no_ 40 ?_
    refine last_ (i := 15) (N := none) (bl 18 65535) rfl rfl (one_of HT_.out (by kernel_rfl)) (by decide) (fun K hK => ?_)
    have hs35 : w32.cell? ⟨gb698, 1, none⟩ = some (.slice Ao22 x699001_1.length co22) := (blk_cell BK698.out 1).trans rfl
    have hfs35 := bf BK698 1
    have hns35_0 := NB695_698.out; have hns35_1 := NB696_698.out; have hms35_0 := NB698_695.out; have hms35_1 := NB698_696.out
    refine skip_ (w1 := ?_) (by rfl) rfl ?_ ?_
    rotate_left
    ·go_simp
     rfl
    refine hK.out _ _ ?_
    clear hK K
    refine pu_ 16 42 (bl 18 131071) HT_ ?_
    refine last_ (i := 17) (N := none) (bl 18 262143) rfl rfl (one_of HT_.out (by kernel_rfl)) (by decide) (fun K hK => ?_)
    have hs37 : w32.cell? ⟨gb698, 2, none⟩ = some (.slice Ao23 x699002_1.length co23) := (blk_cell BK698.out 2).trans rfl
    have hfs37 := bf BK698 2
    have hns37_0 := NB695_698.out; have hns37_1 := NB696_698.out; have hms37_0 := NB698_695.out; have hms37_1 := NB698_696.out
    refine skip_ (w1 := ?_) (by rfl) rfl ?_ ?_
    rotate_left
    ·go_simp
     rfl
    refine hK.out _ _ ?_
    clear hK K
    refine done_ (done_of HT_.out (by kernel_rfl)) ?_
    try go_wp2
    go_roundg k1
    case measure => have := HK1.out; omega
    case rel => exact ⟨(wrap64 (x20_1 + 1)), (y704), (y710), (.slice Ao34 y704.length co34), (.slice Ao36 y710.length co36), (by first | rfl | (simp; done) | (simp [*]; done)), H', ⟨by have := HK1.out; omega⟩, ⟨uR (Kd.R_mono (Kd.R_far (p := ⟨gb698, 2, none⟩) (Kd.R_far (p := ⟨gb698, 1, none⟩) (Kd.R_types HO706.out BK698.out (by decide)) (fun _ hk => hk.2) (.slice Ao34 y704.length co34)) (fun _ hk => hk.2) (.slice Ao36 y710.length co36)) (fun _ hk => hk.1.2))⟩, ⟨uR (Kd.R_mono (Kd.R_far (p := ⟨gb698, 2, none⟩) (Kd.R_far (p := ⟨gb698, 1, none⟩) (Kd.R_types HO712.out BK698.out (by decide)) (fun _ hk => hk.2) (.slice Ao34 y704.length co34)) (fun _ hk => hk.2) (.slice Ao36 y710.length co36)) (fun _ hk => hk.1.2.1))⟩, ⟨by (repeat refine up1 ?_); refine blk_far ?_ NB695_698.out _; (repeat refine up1 ?_); refine blk_far ?_ NB695_698.out _; (repeat refine up1 ?_); exact BK695.out⟩, ⟨by (repeat refine up1 ?_); refine blk_far ?_ NB696_698.out _; (repeat refine up1 ?_); refine blk_far ?_ NB696_698.out _; (repeat refine up1 ?_); exact BK696.out⟩, ⟨by (repeat refine up1 ?_); refine blk_put (cs := #[.int .i64 a0_0, .slice Ao34 y704.length co34, .slice Ao23 x699002_1.length co23]) ?_ 2 _ rfl; (repeat refine up1 ?_); refine blk_put (cs := #[.int .i64 a0_0, .slice Ao22 x699001_1.length co22, .slice Ao23 x699002_1.length co23]) ?_ 1 _ rfl; (repeat refine up1 ?_); exact BK698.out⟩, ⟨uH HB.out⟩⟩
   rw [if_pos c18] at H
   have c18b0 : ((rd l0_2 x20_1) == 0) = true := beq_iff_eq.mpr c18
   have c18b1 : ((rd l0_2 x20_1) != 0) = false := bne_eq_false_iff_eq.mpr c18
   clear c18
   have H' := zA H
   clear H
   have p699 : 0 ≤ (x20_1 : Int) := of_decide_eq_true (by first | (with_reducible assumption) | assumption)
   have q699 : x20_1 < (l0_2.length : Int) := of_decide_eq_true (by first | (with_reducible assumption) | assumption)
   obtain ⟨ad699, e699, hx699_0⟩ := Kd.at_int HR0_2.out x20_1 p699 q699
   cases e699
   replace hx699_0 := hc HB hx699_0
   replace p699 := eq_true p699
   replace q699 := eq_true q699
   go_wp2
   go_roundg k1
   case measure => have := HK1.out; omega
   case rel => exact ⟨(wrap64 (x20_1 + 1)), (x699001_1), (x699002_1), (u699001), (u699002), (by first | rfl | (simp; done) | (simp [*]; done)), H', ⟨by have := HK1.out; omega⟩, ⟨uR HO_699001.out⟩, ⟨uR HO_699002.out⟩, ⟨uB BK695.out⟩, ⟨uB BK696.out⟩, ⟨uB BK698.out⟩, ⟨uH HB.out⟩⟩
end Go.Proofs.Ytijkfbnjcebfaaa.Pr
