/- Printed by a program of this session out of the translation: what these functions of the program compute, under the conditions that each theorem names. -/
import Derived.Test.YtjdannndpfkadaaKMergeRules1
import Derived.Test.YtjdannndpfkadaaKMergeRules2
import Derived.Test.YtjdannndpfkadaaKFspecl07Is
import Derived.Test.YtjdannndpfkadaaKFspecl07Put
namespace Go.Proofs.Ytjdannndpfkadaa.Pr
open Go.RowKit Go.Proofs.YtjdannndpfkadaaW.PrintWords Go.Proofs.YtjdannndpfkadaaW.PrintLast Go.Proofs.YtjdannndpfkadaaW.PrintMore
attribute [local go_sem] max2_int min2_int max_two min_two max_three min_three max_four min_four   -- for this text's walks alone
set_option linter.unusedVariables false
set_option linter.unusedSimpArgs false

/-! ### spec_MergeRules: function 26 -/
mutual
def spec_MergeRules.j0 : Nat → Int → Bool → Int → List Int → List Int → Int → List Int → List Int → Option (Int × List Int × List Int × Int)
 | 0, _, _, _, _, _, _, _, _ => none
 | k + 1, x2, x10, x399000, x399001, x399002, x400000, x400001, x400002 => if x10 = true then (some (0, ([] : List Int), ([] : List Int), 1)) else (if x399000 = x400000 then ((spec_l01In.f x2 0 (wrap64 (x399000 - 1))).bind fun t403 => (if t403 = true then ((spec_l01Own.f x399001).bind fun t404 => ((spec_l01Own.f x399002).bind fun t407 => (spec_MergeRules.l0 k x2 0 x399000 x399001 x399002 x400000 x400001 x400002 x399000 t404 t407))) else (some (0, ([] : List Int), ([] : List Int), 2)))) else (some (0, ([] : List Int), ([] : List Int), 2)))
def spec_MergeRules.l0 : Nat → Int → Int → Int → List Int → List Int → Int → List Int → List Int → Int → List Int → List Int → Option (Int × List Int × List Int × Int)
 | 0, _, _, _, _, _, _, _, _, _, _, _ => none
 | k + 1, x2, x9, x399000, x399001, x399002, x400000, x400001, x400002, x411000, x411001, x411002 => if x9 < (x400001.length : Int) then (if 0 ≤ x9 then (if x9 < (x400002.length : Int) then (if x399000 = 0 then (none) else ((spec_l07Put.f k x411000 x411001 x411002 (rd x400001 x9) (Int.tmod (wrap64 (x2 * (rd x400002 x9))) x399000)).bind fun bt413 => (spec_MergeRules.l0 k x2 (wrap64 (x9 + 1)) x399000 x399001 x399002 x400000 x400001 x400002 bt413.1 bt413.2.1 bt413.2.2))) else (none)) else (none)) else (if (x411001.length : Int) > 24 then (some (0, ([] : List Int), ([] : List Int), 3)) else (some (x411000, x411001, x411002, 0)))
end
def spec_MergeRules.f (k : Nat) (a0_0 : Int) (l0_1 : List Int) (l0_2 : List Int) (a1_0 : Int) (l1_1 : List Int) (l1_2 : List Int) (a2 : Int) : Option (Int × List Int × List Int × Int) := (spec_l07Is.f k a0_0 l0_1 l0_2).bind fun t401 => (if t401 = true then ((spec_l07Is.f k a1_0 l1_1 l1_2).bind fun t402 => (spec_MergeRules.j0 k a2 (!t402) a0_0 l0_1 l0_2 a1_0 l1_1 l1_2)) else (spec_MergeRules.j0 k a2 true a0_0 l0_1 l0_2 a1_0 l1_1 l1_2))
def spec_MergeRules.T5 : Bool × List (List Nat × List Nat) := (true, [([], []), ([0], [0]), ([], []), ([2], [2]), ([3], [3]), ([], []), ([5], [5]), ([6, 4], [6]), ([1, 4, 7], [1, 4, 7]), ([], []), ([9, 8, 7, 0, 1, 2, 3, 4, 5, 6, 7, 8, 9], [8, 9])])
def spec_MergeRules.B5 : List Nat := [0, 1, 0, 4, 12, 0, 32, 124, 255, 0, 1023]
theorem spec_MergeRules.tab5 : rtab .any (opsOf Try.f26 5) = spec_MergeRules.T5 := by kernel_rfl
theorem spec_MergeRules.bits5 : waitsOk spec_MergeRules.T5.2 spec_MergeRules.B5 = true := by kernel_rfl
def spec_MergeRules.T9 : Bool × List (List Nat × List Nat) := (true, [([], []), ([], []), ([1], [1]), ([], []), ([2, 3], [2, 3]), ([4], [4]), ([], []), ([], []), ([7], [7]), ([], []), ([8, 9], [8, 9]), ([10], [10]), ([6, 11], [6, 11]), ([], []), ([13], [13]), ([12, 14], [12, 14]), ([0, 5, 15], [0, 5, 15]), ([16, 16, 0, 1, 2, 3, 4, 5, 6, 7, 8, 9, 10, 11, 12, 13, 14, 15, 16], [16])])
def spec_MergeRules.B9 : List Nat := [0, 0, 2, 0, 14, 30, 0, 0, 128, 0, 896, 1920, 4032, 0, 8192, 32704, 65535, 131071]
theorem spec_MergeRules.tab9 : rtab .any (opsOf Try.f26 9) = spec_MergeRules.T9 := by kernel_rfl
theorem spec_MergeRules.bits9 : waitsOk spec_MergeRules.T9.2 spec_MergeRules.B9 = true := by kernel_rfl
set_option maxHeartbeats 8000000 in
set_option maxRecDepth 100000 in
theorem spec_MergeRules.calls (k : Nat) (a0_0 : Int) (A0_1 : Option Addr) (c0_1 : Nat) (l0_1 : List Int) (A0_2 : Option Addr) (c0_2 : Nat) (l0_2 : List Int) (a1_0 : Int) (A1_1 : Option Addr) (c1_1 : Nat) (l1_1 : List Int) (A1_2 : Option Addr) (c1_2 : Nat) (l1_2 : List Int) (a2 : Int) (r1 : Int) (r2 : List Int) (r3 : List Int) (r4 : Int) (w : World) (hr0_1 : Kd.C (Kd.int .i64) w A0_1 l0_1.length l0_1) (hc0_1 : l0_1.length ≤ c0_1) (hr0_2 : Kd.C (Kd.int .i64) w A0_2 l0_2.length l0_2) (hc0_2 : l0_2.length ≤ c0_2) (hr1_1 : Kd.C (Kd.int .i64) w A1_1 l1_1.length l1_1) (hc1_1 : l1_1.length ≤ c1_1) (hr1_2 : Kd.C (Kd.int .i64) w A1_2 l1_2.length l1_2) (hc1_2 : l1_2.length ≤ c1_2) (h : spec_MergeRules.f k a0_0 l0_1 l0_2 a1_0 l1_1 l1_2 a2 = some (r1, r2, r3, r4)) :
  Calls Try.prog 26 #[.agg #[.int .i64 a0_0, .slice A0_1 l0_1.length c0_1, .slice A0_2 l0_2.length c0_2], .agg #[.int .i64 a1_0, .slice A1_1 l1_1.length c1_1, .slice A1_2 l1_2.length c1_2], .int .i64 a2] w fun e w' => ∃ v1_ v2_ : Value, e = .returned (.tuple #[.agg #[.int .i64 r1, v1_, v2_], .int .i64 r4]) ∧ Kd.R (Kd.int .i64) 2 w' w.heap.size (fun k_ => some k_ ≠ (v2_ : Value).ownBlock) v1_ r2 ∧ Kd.R (Kd.int .i64) 2 w' w.heap.size (fun k_ => some k_ ≠ (v1_ : Value).ownBlock) v2_ r3 ∧ Below w.heap.size w w' := by
 have hu51 := Try.underlying51
 have HR0_1 := zA hr0_1
 have HC0_1 := zA hc0_1
 clear hr0_1 hc0_1
 have HR0_2 := zA hr0_2
 have HC0_2 := zA hc0_2
 clear hr0_2 hc0_2
 have HR1_1 := zA hr1_1
 have HC1_1 := zA hc1_1
 clear hr1_1 hc1_1
 have HR1_2 := zA hr1_2
 have HC1_2 := zA hc1_2
 clear hr1_2 hc1_2
 have HB := zA (Below.refl w.heap.size w)
 have H : ((spec_l07Is.f k a0_0 l0_1 l0_2).bind fun t401 => (if t401 = true then ((spec_l07Is.f k a1_0 l1_1 l1_2).bind fun t402 => (spec_MergeRules.j0 k a2 (!t402) a0_0 l0_1 l0_2 a1_0 l1_1 l1_2)) else (spec_MergeRules.j0 k a2 true a0_0 l0_1 l0_2 a1_0 l1_1 l1_2))) = some (r1, r2, r3, r4) := h
 clear h
 have HC4 := zA H
 clear H
 go_enter Try.func26, Try.ntmps26
 go_upto_region 1 with (first | ((with_reducible refine gate_dst (N := 3) rfl ?_); refine bx 3 #[.int .i64 a0_0, .slice A0_1 l0_1.length c0_1, .slice A0_2 l0_2.length c0_2] 51 ?_; intro gb398 hg w5 hbox hb; have BK398 := zA (hbox); have GW398 := gq HB hg; have GE398 := gq HB hg; replace HB := xH HB hb; have := geI GE398; clear hb hbox hg) | ((with_reducible refine gate_dst (N := 4) rfl ?_); refine bx 4 #[.int .i64 a1_0, .slice A1_1 l1_1.length c1_1, .slice A1_2 l1_2.length c1_2] 51 ?_; intro gb399 hg w6 hbox hb; have BK399 := zA (hbox); have GW399 := gq HB hg; have GE399 := gq HB hg; replace HB := xH HB hb; have NB398_399 := zA ((by rw [hg]; exact neL BK398 : gb398 ≠ gb399)); have NB399_398 := zA ((by rw [hg]; exact neG BK398 : gb399 ≠ gb398)); replace BK398 := xB BK398 hb; have := geI GE399; clear hb hbox hg) | ((with_reducible refine gate_dst (N := 6) rfl ?_); refine bx 6 #[.int .i64 0, .slice none 0 0, .slice none 0 0] 51 ?_; intro gb400 hg w7 hbox hb; have BK400 := zA (hbox); have GW400 := gq HB hg; have GE400 := gq HB hg; replace HB := xH HB hb; have NB398_400 := zA ((by rw [hg]; exact neL BK398 : gb398 ≠ gb400)); have NB400_398 := zA ((by rw [hg]; exact neG BK398 : gb400 ≠ gb398)); replace BK398 := xB BK398 hb; have NB399_400 := zA ((by rw [hg]; exact neL BK399 : gb399 ≠ gb400)); have NB400_399 := zA ((by rw [hg]; exact neG BK399 : gb400 ≠ gb399)); replace BK399 := xB BK399 hb; have := geI GE400; clear hb hbox hg))
 (try simp only [Act.put, ls, lz, ln])
 go_cut [10] (fun v10 wc => ∃ (kq : Nat) (x10_3 : Bool), v10 = .bool x10_3 ∧ Aside0 (spec_MergeRules.j0 kq a2 x10_3 a0_0 l0_1 l0_2 a1_0 l1_1 l1_2 = some (r1, r2, r3, r4)) ∧ Aside0 (kq ≤ k) ∧ Aside0 (wc.heap[gb398]? = some (.cells #[.int .i64 a0_0, (.slice A0_1 l0_1.length c0_1), (.slice A0_2 l0_2.length c0_2)] 51 (0, 0))) ∧ Aside0 (wc.heap[gb399]? = some (.cells #[.int .i64 a1_0, (.slice A1_1 l1_1.length c1_1), (.slice A1_2 l1_2.length c1_2)] 51 (0, 0))) ∧ Aside0 (wc.heap[gb400]? = some (.cells #[.int .i64 0, (.slice none 0 0), (.slice none 0 0)] 51 (0, 0))) ∧ Aside0 (Below w.heap.size w wc))
 case first =>
  have H := HC4.out
  clear HC4
  replace H := Option.bind_eq_some_iff.mp H
  obtain ⟨t401, A80, H⟩ := H
  replace H : (if t401 = true then ((spec_l07Is.f k a1_0 l1_1 l1_2).bind fun t402 => (spec_MergeRules.j0 k a2 (!t402) a0_0 l0_1 l0_2 a1_0 l1_1 l1_2)) else (spec_MergeRules.j0 k a2 true a0_0 l0_1 l0_2 a1_0 l1_1 l1_2)) = some (r1, r2, r3, r4) := H
  have A8 := zA A80
  clear A80
  by_cases c9 : t401 = true
  ·subst c9
   have H1 : ((spec_l07Is.f k a1_0 l1_1 l1_2).bind fun t402 => (spec_MergeRules.j0 k a2 (!t402) a0_0 l0_1 l0_2 a1_0 l1_1 l1_2)) = some (r1, r2, r3, r4) := by rw [if_pos rfl] at H; exact H
   clear H
   have H := H1
   clear H1
   replace H := Option.bind_eq_some_iff.mp H
   obtain ⟨t402, A100, H⟩ := H
   replace H : (spec_MergeRules.j0 k a2 (!t402) a0_0 l0_1 l0_2 a1_0 l1_1 l1_2) = some (r1, r2, r3, r4) := H
   have A10 := zA A100
   clear A100
   have H' := zA H
   clear H
   have hnb11 := NB398_399.out; have hnc11 := NB399_398.out; have hnb12 := NB398_400.out; have hnc12 := NB400_398.out
   have hcz13_0 := bc BK398 0
   have hcz13_1 := bc BK398 1
   have hcz13_2 := bc BK398 2
   have hfz13_0 := bf BK398 0
   have hfz13_1 := bf BK398 1
   have hfz13_2 := bf BK398 2
   go_wp2_with (first | ((with_reducible refine gate_callee (f := 52) rfl ?_); refine gL (some 12) Try.func52 #[.agg #[.int .i64 a0_0, .slice A0_1 l0_1.length c0_1, .slice A0_2 l0_2.length c0_2]] ?_; (with_reducible refine (spec_l07Is.calls k a0_0 _ _ l0_1 _ _ l0_2 true _ ?side1 ?side2 ?side3 ?side4 A8.out).mono ?_); (case side1 => exact uC ((Kd.C_below HR0_1.out HB.out))); (case side2 => exact HC0_1.out); (case side3 => exact uC ((Kd.C_below HR0_2.out HB.out))); (case side4 => exact HC0_2.out); rintro e w14 ⟨rfl, hb⟩; refine ⟨_, rfl, ?_⟩; replace BK398 := xB BK398 hb; replace BK399 := xB BK399 hb; replace BK400 := xB BK400 hb; replace HB := xH HB hb; (try clear hb); (try clear hb2); (try clear hk); (try clear hi); have hnb15 := NB399_400.out; have hnc15 := NB400_399.out; have hcz16_0 := bc BK399 0; have hcz16_1 := bc BK399 1; have hcz16_2 := bc BK399 2; have hfz16_0 := bf BK399 0; have hfz16_1 := bf BK399 1; have hfz16_2 := bf BK399 2) | (go_at_call 52; (with_reducible refine (spec_l07Is.calls k a1_0 _ _ l1_1 _ _ l1_2 t402 _ ?side1 ?side2 ?side3 ?side4 A10.out).mono ?_); (case side1 => exact uC ((Kd.C_below HR1_1.out HB.out))); (case side2 => exact HC1_1.out); (case side3 => exact uC ((Kd.C_below HR1_2.out HB.out))); (case side4 => exact HC1_2.out); rintro e w17 ⟨rfl, hb⟩; replace BK398 := xB BK398 hb; replace BK399 := xB BK399 hb; replace BK400 := xB BK400 hb; replace HB := xH HB hb; (try clear hb); (try clear hb2); (try clear hk); (try clear hi)))
   go_meet
   case rel => exact ⟨_, (!t402), (by first | rfl | (simp; done) | (simp [*]; done)), H', ⟨by first | omega | exact Nat.le_refl _⟩, ⟨uB BK398.out⟩, ⟨uB BK399.out⟩, ⟨uB BK400.out⟩, ⟨uH HB.out⟩⟩
  ·replace c9 := Bool.eq_false_iff.mpr c9
   subst c9
   have H1 : (spec_MergeRules.j0 k a2 true a0_0 l0_1 l0_2 a1_0 l1_1 l1_2) = some (r1, r2, r3, r4) := by rw [if_neg (show ¬ (false = true) by decide)] at H; exact H
   clear H
   have H := H1
   clear H1
   have H' := zA H
   clear H
   have hnb18 := NB398_399.out; have hnc18 := NB399_398.out; have hnb19 := NB398_400.out; have hnc19 := NB400_398.out
   have hcz20_0 := bc BK398 0
   have hcz20_1 := bc BK398 1
   have hcz20_2 := bc BK398 2
   have hfz20_0 := bf BK398 0
   have hfz20_1 := bf BK398 1
   have hfz20_2 := bf BK398 2
   go_wp2_with (first | ((with_reducible refine gate_callee (f := 52) rfl ?_); refine gL (some 12) Try.func52 #[.agg #[.int .i64 a0_0, .slice A0_1 l0_1.length c0_1, .slice A0_2 l0_2.length c0_2]] ?_; (with_reducible refine (spec_l07Is.calls k a0_0 _ _ l0_1 _ _ l0_2 false _ ?side1 ?side2 ?side3 ?side4 A8.out).mono ?_); (case side1 => exact uC ((Kd.C_below HR0_1.out HB.out))); (case side2 => exact HC0_1.out); (case side3 => exact uC ((Kd.C_below HR0_2.out HB.out))); (case side4 => exact HC0_2.out); rintro e w21 ⟨rfl, hb⟩; refine ⟨_, rfl, ?_⟩; replace BK398 := xB BK398 hb; replace BK399 := xB BK399 hb; replace BK400 := xB BK400 hb; replace HB := xH HB hb; (try clear hb); (try clear hb2); (try clear hk); (try clear hi)))
   go_meet
   case rel => exact ⟨_, (true), (by first | rfl | (simp; done) | (simp [*]; done)), H', ⟨by first | omega | exact Nat.le_refl _⟩, ⟨uB BK398.out⟩, ⟨uB BK399.out⟩, ⟨uB BK400.out⟩, ⟨uH HB.out⟩⟩
 case rest =>
  clear HC4
  (try clear c1);(try clear c2);(try clear p2);(try clear c5);(try clear c9);(try clear c11);(try clear c12);(try clear c15);(try clear c18);(try clear c19);(try clear hcz13_0);(try clear hcz13_1);(try clear hcz13_2);(try clear hcz16_0);(try clear hcz16_1);(try clear hcz16_2);(try clear hcz20_0);(try clear hcz20_1);(try clear hcz20_2);(try clear hfz13_0);(try clear hfz13_1);(try clear hfz13_2);(try clear hfz16_0)
  (try clear hfz16_1);(try clear hfz16_2);(try clear hfz20_0);(try clear hfz20_1);(try clear hfz20_2)
  obtain ⟨kq, x10_3, rfl, HA, HJ3, BK398, BK399, BK400, HB⟩ := hcut
  cases kq with
  | zero => exact absurd HA.out (by simp [spec_MergeRules.j0])
  | succ kj3 =>
   have H := HA.out
   clear HA
   simp only [spec_MergeRules.j0] at H
   by_cases c22 : x10_3 = true
   ·subst c22
    have H1 : (some (0, ([] : List Int), ([] : List Int), 1)) = some (r1, r2, r3, r4) := by rw [if_pos rfl] at H; exact H
    clear H
    have H := H1
    clear H1
    simp only [Option.some.injEq, Prod.mk.injEq] at H
    obtain ⟨rfl, rfl, rfl, rfl⟩ := H
    have hnb23 := NB400_398.out; have hnc23 := NB398_400.out; have hnb24 := NB400_399.out; have hnc24 := NB399_400.out
    have hcz25_0 := bc BK400 0
    have hcz25_1 := bc BK400 1
    have hcz25_2 := bc BK400 2
    have hfz25_0 := bf BK400 0
    have hfz25_1 := bf BK400 1
    have hfz25_2 := bf BK400 2
    go_wp2
    refine bodyPost_ret (results_ct rfl _ _ gb400 51 #[.int .i64 0, .slice none 0 0, .slice none 0 0] (0, 0) _ rfl (by (repeat refine up1 ?_); refine blk_put (cs := #[.int .i64 0, .slice none 0 0, .slice none 0 0]) ?_ 2 _ rfl; (repeat refine up1 ?_); refine blk_put (cs := #[.int .i64 0, .slice none 0 0, .slice none 0 0]) ?_ 1 _ rfl; (repeat refine up1 ?_); refine blk_put (cs := #[.int .i64 0, .slice none 0 0, .slice none 0 0]) ?_ 0 _ rfl; (repeat refine up1 ?_); exact BK400.out) Try.underlying51 rfl (by kernel_rfl)) rfl ?_
    exact ⟨_, _, by first | rfl | (simp [errW_none, errW_some] <;> rfl) | (simp [*, errW_none, errW_some] <;> rfl), by first | exact Kd.R_nil _ _ _ _ _ | exact Kd.N_nil _ _ _ _ _ | exact Kd.V_nil _ _ _ _ _ | exact Kd.Q_nil _ _ _ _ _ | exact Kd.S_nil _ _ _ _ _, by first | exact Kd.R_nil _ _ _ _ _ | exact Kd.N_nil _ _ _ _ _ | exact Kd.V_nil _ _ _ _ _ | exact Kd.Q_nil _ _ _ _ _ | exact Kd.S_nil _ _ _ _ _, uH HB.out⟩
   ·replace c22 := Bool.eq_false_iff.mpr c22
    subst c22
    have H1 : (if a0_0 = a1_0 then ((spec_l01In.f a2 0 (wrap64 (a0_0 - 1))).bind fun t403 => (if t403 = true then ((spec_l01Own.f l0_1).bind fun t404 => ((spec_l01Own.f l0_2).bind fun t407 => (spec_MergeRules.l0 kj3 a2 0 a0_0 l0_1 l0_2 a1_0 l1_1 l1_2 a0_0 t404 t407))) else (some (0, ([] : List Int), ([] : List Int), 2)))) else (some (0, ([] : List Int), ([] : List Int), 2))) = some (r1, r2, r3, r4) := by rw [if_neg (show ¬ (false = true) by decide)] at H; exact H
    clear H
    have H := H1
    clear H1
    by_cases c26 : a0_0 = a1_0
    rotate_left
    ·rw [if_neg c26] at H
     have c26b0 : (a0_0 == a1_0) = false := beq_eq_false_iff_ne.mpr c26
     have c26b1 : (a0_0 != a1_0) = true := bne_iff_ne.mpr c26
     simp only [Option.some.injEq, Prod.mk.injEq] at H
     obtain ⟨rfl, rfl, rfl, rfl⟩ := H
     have hnb98 := NB398_399.out; have hnc98 := NB399_398.out; have hnb99 := NB398_400.out; have hnc99 := NB400_398.out
     have hcz100_0 := bc BK398 0
     have hcz100_1 := bc BK398 1
     have hcz100_2 := bc BK398 2
     have hfz100_0 := bf BK398 0
     have hfz100_1 := bf BK398 1
     have hfz100_2 := bf BK398 2
     have hnb101 := NB399_400.out; have hnc101 := NB400_399.out
     have hcz102_0 := bc BK399 0
     have hcz102_1 := bc BK399 1
     have hcz102_2 := bc BK399 2
     have hfz102_0 := bf BK399 0
     have hfz102_1 := bf BK399 1
     have hfz102_2 := bf BK399 2
     have hcz103_0 := bc BK400 0
     have hcz103_1 := bc BK400 1
     have hcz103_2 := bc BK400 2
     have hfz103_0 := bf BK400 0
     have hfz103_1 := bf BK400 1
     have hfz103_2 := bf BK400 2
     go_wp2
     refine bodyPost_ret (results_ct rfl _ _ gb400 51 #[.int .i64 0, .slice none 0 0, .slice none 0 0] (0, 0) _ rfl (by (repeat refine up1 ?_); refine blk_put (cs := #[.int .i64 0, .slice none 0 0, .slice none 0 0]) ?_ 2 _ rfl; (repeat refine up1 ?_); refine blk_put (cs := #[.int .i64 0, .slice none 0 0, .slice none 0 0]) ?_ 1 _ rfl; (repeat refine up1 ?_); refine blk_put (cs := #[.int .i64 0, .slice none 0 0, .slice none 0 0]) ?_ 0 _ rfl; (repeat refine up1 ?_); exact BK400.out) Try.underlying51 rfl (by kernel_rfl)) rfl ?_
     exact ⟨_, _, by first | rfl | (simp [errW_none, errW_some] <;> rfl) | (simp [*, errW_none, errW_some] <;> rfl), by first | exact Kd.R_nil _ _ _ _ _ | exact Kd.N_nil _ _ _ _ _ | exact Kd.V_nil _ _ _ _ _ | exact Kd.Q_nil _ _ _ _ _ | exact Kd.S_nil _ _ _ _ _, by first | exact Kd.R_nil _ _ _ _ _ | exact Kd.N_nil _ _ _ _ _ | exact Kd.V_nil _ _ _ _ _ | exact Kd.Q_nil _ _ _ _ _ | exact Kd.S_nil _ _ _ _ _, uH HB.out⟩

    rw [if_pos c26] at H
    have c26b0 : (a0_0 == a1_0) = true := beq_iff_eq.mpr c26
    have c26b1 : (a0_0 != a1_0) = false := bne_eq_false_iff_eq.mpr c26
    clear c26
    replace H := Option.bind_eq_some_iff.mp H
    obtain ⟨t403, A270, H⟩ := H
    replace H : (if t403 = true then ((spec_l01Own.f l0_1).bind fun t404 => ((spec_l01Own.f l0_2).bind fun t407 => (spec_MergeRules.l0 kj3 a2 0 a0_0 l0_1 l0_2 a1_0 l1_1 l1_2 a0_0 t404 t407))) else (some (0, ([] : List Int), ([] : List Int), 2))) = some (r1, r2, r3, r4) := H
    have A27 := zA A270
    clear A270
    by_cases c28 : t403 = true
    ·subst c28
     have H1 : ((spec_l01Own.f l0_1).bind fun t404 => ((spec_l01Own.f l0_2).bind fun t407 => (spec_MergeRules.l0 kj3 a2 0 a0_0 l0_1 l0_2 a1_0 l1_1 l1_2 a0_0 t404 t407))) = some (r1, r2, r3, r4) := by rw [if_pos rfl] at H; exact H
     clear H
     have H := H1
     clear H1
     replace H := Option.bind_eq_some_iff.mp H
     obtain ⟨t404, A290, H⟩ := H
     replace H : ((spec_l01Own.f l0_2).bind fun t407 => (spec_MergeRules.l0 kj3 a2 0 a0_0 l0_1 l0_2 a1_0 l1_1 l1_2 a0_0 t404 t407)) = some (r1, r2, r3, r4) := H
     have A29 := zA A290
     clear A290
     replace H := Option.bind_eq_some_iff.mp H
     obtain ⟨t407, A300, H⟩ := H
     replace H : (spec_MergeRules.l0 kj3 a2 0 a0_0 l0_1 l0_2 a1_0 l1_1 l1_2 a0_0 t404 t407) = some (r1, r2, r3, r4) := H
     have A30 := zA A300
     clear A300
     have H' := zA H
     clear H
     have hnb31 := NB398_399.out; have hnc31 := NB399_398.out; have hnb32 := NB398_400.out; have hnc32 := NB400_398.out
     have hcz33_0 := bc BK398 0
     have hcz33_1 := bc BK398 1
     have hcz33_2 := bc BK398 2
     have hfz33_0 := bf BK398 0
     have hfz33_1 := bf BK398 1
     have hfz33_2 := bf BK398 2
     have hnb34 := NB399_400.out; have hnc34 := NB400_399.out
     have hcz35_0 := bc BK399 0
     have hcz35_1 := bc BK399 1
     have hcz35_2 := bc BK399 2
     have hfz35_0 := bf BK399 0
     have hfz35_1 := bf BK399 1
     have hfz35_2 := bf BK399 2
     try go_wp2_with (first | (go_at_call 53; (with_reducible refine (spec_l01In.calls a2 0 (wrap64 (a0_0 - 1)) true _ A27.out).mono ?_); rintro e w' ⟨rfl, ⟨nd, rfl⟩⟩; (try (rw [drewN_self wc]; generalize hq_ : World.drewN wc _ = wc; have n0_ : Aside0 (wc.heap[gb398]? = some (.cells #[.int .i64 a0_0, .slice A0_1 l0_1.length c0_1, .slice A0_2 l0_2.length c0_2] 51 (0, 0))) := ⟨by rw [← hq_]; exact (uB BK398.out)⟩; have n1_ : Aside0 (wc.heap[gb399]? = some (.cells #[.int .i64 a1_0, .slice A1_1 l1_1.length c1_1, .slice A1_2 l1_2.length c1_2] 51 (0, 0))) := ⟨by rw [← hq_]; exact (uB BK399.out)⟩; have n2_ : Aside0 (wc.heap[gb400]? = some (.cells #[.int .i64 0, .slice none 0 0, .slice none 0 0] 51 (0, 0))) := ⟨by rw [← hq_]; exact (uB BK400.out)⟩; have n3_ : Aside0 (Below w.heap.size w wc) := ⟨by rw [← hq_]; exact (uH HB.out)⟩; clear BK398 BK399 BK400 HB hq_; have BK398 := n0_; have BK399 := n1_; have BK400 := n2_; have HB := n3_; clear n0_ n1_ n2_ n3_)); (try have hcuy36_0 : wc.cell? ⟨gb398, 0, none⟩ = some (.int .i64 a0_0) := (blk_cell BK398.out 0).trans rfl); (try have hcuy36_1 : wc.cell? ⟨gb398, 1, none⟩ = some (.slice A0_1 l0_1.length c0_1) := (blk_cell BK398.out 1).trans rfl); (try have hcuy36_2 : wc.cell? ⟨gb398, 2, none⟩ = some (.slice A0_2 l0_2.length c0_2) := (blk_cell BK398.out 2).trans rfl); (try have hcuy37_0 : wc.cell? ⟨gb399, 0, none⟩ = some (.int .i64 a1_0) := (blk_cell BK399.out 0).trans rfl); (try have hcuy37_1 : wc.cell? ⟨gb399, 1, none⟩ = some (.slice A1_1 l1_1.length c1_1) := (blk_cell BK399.out 1).trans rfl); (try have hcuy37_2 : wc.cell? ⟨gb399, 2, none⟩ = some (.slice A1_2 l1_2.length c1_2) := (blk_cell BK399.out 2).trans rfl)))
     replace BK398 := zA (blk_drew BK398.out)
     replace BK399 := zA (blk_drew BK399.out)
     replace BK400 := zA (blk_drew BK400.out)
     replace HB := zA (below_drew1 HB.out)
     refine start_ (n := 11) (S := fun w' => w'.cell? ⟨gb398, 0, none⟩ = some (.int .i64 a0_0) ∧ w'.cell? ⟨gb398, 1, none⟩ = some (.slice A0_1 l0_1.length c0_1) ∧ w'.cell? ⟨gb398, 2, none⟩ = some (.slice A0_2 l0_2.length c0_2)) (ds := []) #[false, false, false, false, false, false, false, false, false, false, false] (by kernel_rfl) rfl rfl ⟨bcu BK398 0, bcu BK398 1, bcu BK398 2⟩ (fun hHeld => ?_); refine with_tabW spec_MergeRules.tab5 spec_MergeRules.bits5 (fun HT_ HW_ => ?_)
     generalize wc.drew = w38 at BK398 BK399 BK400 HB hHeld ⊢
     refine pu_ 0 35 (bl 11 1) HT_ ?_
     refine pu_ 2 37 (bl 11 5) HT_ ?_
     refine pu_ 5 40 (bl 11 37) HT_ ?_
     refine ta_ 1 36 (bl 11 39) HT_ HW_ hHeld ?_
     refine ta_ 3 38 (bl 11 47) HT_ HW_ hHeld ?_
     refine ta_ 6 41 (bl 11 111) HT_ HW_ hHeld ?_
     refine join_ (σ := Value × Value × Nat) 1 (bl 11 1023) (fun s_ => [(39, s_.1), (42, s_.2.1), (8, .pointer (some ⟨s_.2.2, 0, none⟩)), (43, .agg #[.int .i64 a0_0, s_.1, s_.2.1])]) (fun s_ w' => (w'.cell? ⟨gb398, 0, none⟩ = some (.int .i64 a0_0) ∧ w'.cell? ⟨gb398, 1, none⟩ = some (.slice A0_1 l0_1.length c0_1) ∧ w'.cell? ⟨gb398, 2, none⟩ = some (.slice A0_2 l0_2.length c0_2)) ∧ (Kd.R (Kd.int .i64) 2 w' w.heap.size (fun k_ => some k_ ≠ (s_.2.1 : Value).ownBlock) s_.1 t404) ∧ (Kd.R (Kd.int .i64) 2 w' w.heap.size (fun k_ => some k_ ≠ (s_.1 : Value).ownBlock) s_.2.1 t407) ∧ (w'.heap[gb398]? = some (.cells #[.int .i64 a0_0, .slice A0_1 l0_1.length c0_1, .slice A0_2 l0_2.length c0_2] 51 (0, 0))) ∧ (w'.heap[gb399]? = some (.cells #[.int .i64 a1_0, .slice A1_1 l1_1.length c1_1, .slice A1_2 l1_2.length c1_2] 51 (0, 0))) ∧ (w'.heap[gb400]? = some (.cells #[.int .i64 0, .slice none 0 0, .slice none 0 0] 51 (0, 0))) ∧ (w'.heap[s_.2.2]? = some (.cells #[.int .i64 0, .slice none 0 0, .slice none 0 0] 51 (0, 0))) ∧ (w.heap.size ≤ s_.2.2) ∧ (w.heap.size ≤ s_.2.2) ∧ (gb398 ≠ s_.2.2) ∧ (s_.2.2 ≠ gb398) ∧ (gb399 ≠ s_.2.2) ∧ (s_.2.2 ≠ gb399) ∧ (gb400 ≠ s_.2.2) ∧ (s_.2.2 ≠ gb400) ∧ (Below w.heap.size w w')) ?_ ?_
     rotate_left
     ·intro hCont
      refine two_ (i := 4) (j := 9) (Ni := some 39) (Nj := some 8) (bl 11 127) (bl 11 623) rfl rfl rfl rfl (two_of HT_.out (by kernel_rfl)) (by decide) (by decide) (fun K hK => ?_) (fun K hK => ?_)
      ·skip
       refine gS Try.func41 #[.slice A0_1 l0_1.length c0_1] ?_
       with_reducible refine (spec_l01Own.calls _ _ l0_1 t404 _ ?side1 ?side2 A29.out).mono ?_
       (case side1 => exact uC ((Kd.C_below HR0_1.out HB.out)))
       (case side2 => exact HC0_1.out)
       rintro e w39 ⟨v405, rfl, ho0, hb⟩
       refine ⟨_, rfl, ?_⟩
       have HO406 := zA (Kd.R_lower ho0 (below_size (uH HB.out)))
       replace BK398 := xB BK398 hb
       replace BK399 := xB BK399 hb
       replace BK400 := xB BK400 hb
       replace HB := xH HB hb
       (try clear hb); (try clear hb2); (try clear hk); (try clear hi); (try clear ho0)
       refine hK.out _ _ ⟨bcu BK398 0, bcu BK398 1, bcu BK398 2⟩ (fun hHeld => ?_)
       clear hK K
       refine no_ 39 ?_
       refine two_ (i := 7) (j := 9) (Ni := some 42) (Nj := some 8) (bl 11 255) (bl 11 639) rfl rfl rfl rfl (two_of HT_.out (by kernel_rfl)) (by decide) (by decide) (fun K hK => ?_) (fun K hK => ?_)
       ·skip
        refine gS Try.func41 #[.slice A0_2 l0_2.length c0_2] ?_
        with_reducible refine (spec_l01Own.calls _ _ l0_2 t407 _ ?side1 ?side2 A30.out).mono ?_
        (case side1 => exact uC ((Kd.C_below HR0_2.out HB.out)))
        (case side2 => exact HC0_2.out)
        rintro e w40 ⟨v408, rfl, ho0, hb⟩
        refine ⟨_, rfl, ?_⟩
        have HO409 := zA (Kd.R_lower (Kd.R_new' ho0 (Kd.R_lt (uR HO406.out))) (below_size (uH HB.out)))
        replace HO406 := zA (Kd.R_elder' (uR HO406.out) (Kd.R_base ho0) hb)
        replace BK398 := xB BK398 hb
        replace BK399 := xB BK399 hb
        replace BK400 := xB BK400 hb
        replace HB := xH HB hb
        (try clear hb); (try clear hb2); (try clear hk); (try clear hi); (try clear ho0)
        obtain ⟨Ao41, co41, eo41⟩ := Kd.R_slice HO409.out
        (first | subst eo41 | (injection eo41 with f1_ f2_ f3_; have f4_ := f1_.symm; have f5_ := f3_.symm; clear f1_ f2_ f3_; subst f4_; subst f5_))
        obtain ⟨Ao42, co42, eo42⟩ := Kd.R_slice HO406.out
        (first | subst eo42 | (injection eo42 with f1_ f2_ f3_; have f4_ := f1_.symm; have f5_ := f3_.symm; clear f1_ f2_ f3_; subst f4_; subst f5_))
        refine hK.out _ _ ⟨bcu BK398 0, bcu BK398 1, bcu BK398 2⟩ (fun hHeld => ?_)
        clear hK K
        refine no_ 42 ?_
        refine pu_ 8 43 (bl 11 511) HT_ ?_
        refine on_ 9 (some 8) (bl 11 1023) HT_ (fun K hK => ?_)
        refine box_step ?hg (N := 8) ?hd (cs := #[.int .i64 0, .slice none 0 0, .slice none 0 0]) (t := 51) ?hr ?_; (case hd => rfl); (case hg => rfl); (case hr => first | (go_simp; done) | (go_simp; rfl))
        intro gb410 hg w43 hbox hb
        replace HO406 := xR HO406 hb
        replace HO409 := xR HO409 hb
        have BK410 := zA (hbox)
        have GW410 := gq HB hg
        have GE410 := gq HB hg
        replace HB := xH HB hb
        have NB398_410 := zA ((by rw [hg]; exact neL BK398 : gb398 ≠ gb410))
        have NB410_398 := zA ((by rw [hg]; exact neG BK398 : gb410 ≠ gb398))
        replace BK398 := xB BK398 hb
        have NB399_410 := zA ((by rw [hg]; exact neL BK399 : gb399 ≠ gb410))
        have NB410_399 := zA ((by rw [hg]; exact neG BK399 : gb410 ≠ gb399))
        replace BK399 := xB BK399 hb
        have NB400_410 := zA ((by rw [hg]; exact neL BK400 : gb400 ≠ gb410))
        have NB410_400 := zA ((by rw [hg]; exact neG BK400 : gb410 ≠ gb400))
        replace BK400 := xB BK400 hb
        have := geI GE410
        clear hb hbox hg
        refine hK.out _ _ ⟨bcu BK398 0, bcu BK398 1, bcu BK398 2⟩ (fun hHeld => ?_)
        clear hK K
        refine no_ 8 ?_
        exact norm_ (by simp only [putAll, Act.put, ls, lz, ln]) (hCont (.slice Ao42 t404.length co42, .slice Ao41 t407.length co41, gb410) _ ⟨hHeld, (uR (Kd.R_mono HO406.out (fun _ hk => hk.2))), (uR (Kd.R_mono HO409.out (fun _ hk => hk.2))), (uB BK398.out), (uB BK399.out), (uB BK400.out), (uB BK410.out), GW410.out, GE410.out, NB398_410.out, NB410_398.out, NB399_410.out, NB410_399.out, NB400_410.out, NB410_400.out, (uH HB.out)⟩)
       ·skip
        refine box_step ?hg (N := 8) ?hd (cs := #[.int .i64 0, .slice none 0 0, .slice none 0 0]) (t := 51) ?hr ?_; (case hd => rfl); (case hg => rfl); (case hr => first | (go_simp; done) | (go_simp; rfl))
        intro gb410 hg w40 hbox hb
        replace HO406 := xR HO406 hb
        have BK410 := zA (hbox)
        have GW410 := gq HB hg
        have GE410 := gq HB hg
        replace HB := xH HB hb
        have NB398_410 := zA ((by rw [hg]; exact neL BK398 : gb398 ≠ gb410))
        have NB410_398 := zA ((by rw [hg]; exact neG BK398 : gb410 ≠ gb398))
        replace BK398 := xB BK398 hb
        have NB399_410 := zA ((by rw [hg]; exact neL BK399 : gb399 ≠ gb410))
        have NB410_399 := zA ((by rw [hg]; exact neG BK399 : gb410 ≠ gb399))
        replace BK399 := xB BK399 hb
        have NB400_410 := zA ((by rw [hg]; exact neL BK400 : gb400 ≠ gb410))
        have NB410_400 := zA ((by rw [hg]; exact neG BK400 : gb410 ≠ gb400))
        replace BK400 := xB BK400 hb
        have := geI GE410
        clear hb hbox hg
        refine hK.out _ _ ⟨bcu BK398 0, bcu BK398 1, bcu BK398 2⟩ (fun hHeld => ?_)
        clear hK K
        refine no_ 8 ?_
        refine on_ 7 (some 42) (bl 11 767) HT_ (fun K hK => ?_)
        refine gS Try.func41 #[.slice A0_2 l0_2.length c0_2] ?_
        with_reducible refine (spec_l01Own.calls _ _ l0_2 t407 _ ?side1 ?side2 A30.out).mono ?_
        (case side1 => exact uC ((Kd.C_below HR0_2.out HB.out)))
        (case side2 => exact HC0_2.out)
        rintro e w41 ⟨v408, rfl, ho0, hb⟩
        refine ⟨_, rfl, ?_⟩
        have HO409 := zA (Kd.R_lower (Kd.R_new' ho0 (Kd.R_lt (uR HO406.out))) (below_size (uH HB.out)))
        replace HO406 := zA (Kd.R_elder' (uR HO406.out) (Kd.R_base ho0) hb)
        replace BK398 := xB BK398 hb
        replace BK399 := xB BK399 hb
        replace BK400 := xB BK400 hb
        replace BK410 := xB BK410 hb
        replace HB := xH HB hb
        (try clear hb); (try clear hb2); (try clear hk); (try clear hi); (try clear ho0)
        obtain ⟨Ao42, co42, eo42⟩ := Kd.R_slice HO409.out
        (first | subst eo42 | (injection eo42 with f1_ f2_ f3_; have f4_ := f1_.symm; have f5_ := f3_.symm; clear f1_ f2_ f3_; subst f4_; subst f5_))
        obtain ⟨Ao43, co43, eo43⟩ := Kd.R_slice HO406.out
        (first | subst eo43 | (injection eo43 with f1_ f2_ f3_; have f4_ := f1_.symm; have f5_ := f3_.symm; clear f1_ f2_ f3_; subst f4_; subst f5_))
        refine hK.out _ _ ⟨bcu BK398 0, bcu BK398 1, bcu BK398 2⟩ (fun hHeld => ?_)
        clear hK K
        refine no_ 42 ?_
        refine pu_ 8 43 (bl 11 1023) HT_ ?_
        exact norm_ (by simp only [putAll, Act.put, ls, lz, ln]) (hCont (.slice Ao43 t404.length co43, .slice Ao42 t407.length co42, gb410) _ ⟨hHeld, (uR (Kd.R_mono HO406.out (fun _ hk => hk.2))), (uR (Kd.R_mono HO409.out (fun _ hk => hk.2))), (uB BK398.out), (uB BK399.out), (uB BK400.out), (uB BK410.out), GW410.out, GE410.out, NB398_410.out, NB410_398.out, NB399_410.out, NB410_399.out, NB400_410.out, NB410_400.out, (uH HB.out)⟩)
      ·skip
       refine box_step ?hg (N := 8) ?hd (cs := #[.int .i64 0, .slice none 0 0, .slice none 0 0]) (t := 51) ?hr ?_; (case hd => rfl); (case hg => rfl); (case hr => first | (go_simp; done) | (go_simp; rfl))
       intro gb410 hg w39 hbox hb
       have BK410 := zA (hbox)
       have GW410 := gq HB hg
       have GE410 := gq HB hg
       replace HB := xH HB hb
       have NB398_410 := zA ((by rw [hg]; exact neL BK398 : gb398 ≠ gb410))
       have NB410_398 := zA ((by rw [hg]; exact neG BK398 : gb410 ≠ gb398))
       replace BK398 := xB BK398 hb
       have NB399_410 := zA ((by rw [hg]; exact neL BK399 : gb399 ≠ gb410))
       have NB410_399 := zA ((by rw [hg]; exact neG BK399 : gb410 ≠ gb399))
       replace BK399 := xB BK399 hb
       have NB400_410 := zA ((by rw [hg]; exact neL BK400 : gb400 ≠ gb410))
       have NB410_400 := zA ((by rw [hg]; exact neG BK400 : gb410 ≠ gb400))
       replace BK400 := xB BK400 hb
       have := geI GE410
       clear hb hbox hg
       refine hK.out _ _ ⟨bcu BK398 0, bcu BK398 1, bcu BK398 2⟩ (fun hHeld => ?_)
       clear hK K
       refine no_ 8 ?_
       refine on_ 4 (some 39) (bl 11 639) HT_ (fun K hK => ?_)
       refine gS Try.func41 #[.slice A0_1 l0_1.length c0_1] ?_
       with_reducible refine (spec_l01Own.calls _ _ l0_1 t404 _ ?side1 ?side2 A29.out).mono ?_
       (case side1 => exact uC ((Kd.C_below HR0_1.out HB.out)))
       (case side2 => exact HC0_1.out)
       rintro e w40 ⟨v405, rfl, ho0, hb⟩
       refine ⟨_, rfl, ?_⟩
       have HO406 := zA (Kd.R_lower ho0 (below_size (uH HB.out)))
       replace BK398 := xB BK398 hb
       replace BK399 := xB BK399 hb
       replace BK400 := xB BK400 hb
       replace BK410 := xB BK410 hb
       replace HB := xH HB hb
       (try clear hb); (try clear hb2); (try clear hk); (try clear hi); (try clear ho0)
       refine hK.out _ _ ⟨bcu BK398 0, bcu BK398 1, bcu BK398 2⟩ (fun hHeld => ?_)
       clear hK K
       refine no_ 39 ?_
       refine on_ 7 (some 42) (bl 11 767) HT_ (fun K hK => ?_)
       refine gS Try.func41 #[.slice A0_2 l0_2.length c0_2] ?_
       with_reducible refine (spec_l01Own.calls _ _ l0_2 t407 _ ?side1 ?side2 A30.out).mono ?_
       (case side1 => exact uC ((Kd.C_below HR0_2.out HB.out)))
       (case side2 => exact HC0_2.out)
       rintro e w41 ⟨v408, rfl, ho0, hb⟩
       refine ⟨_, rfl, ?_⟩
       have HO409 := zA (Kd.R_lower (Kd.R_new' ho0 (Kd.R_lt (uR HO406.out))) (below_size (uH HB.out)))
       replace HO406 := zA (Kd.R_elder' (uR HO406.out) (Kd.R_base ho0) hb)
       replace BK398 := xB BK398 hb
       replace BK399 := xB BK399 hb
       replace BK400 := xB BK400 hb
       replace BK410 := xB BK410 hb
       replace HB := xH HB hb
       (try clear hb); (try clear hb2); (try clear hk); (try clear hi); (try clear ho0)
       obtain ⟨Ao42, co42, eo42⟩ := Kd.R_slice HO409.out
       (first | subst eo42 | (injection eo42 with f1_ f2_ f3_; have f4_ := f1_.symm; have f5_ := f3_.symm; clear f1_ f2_ f3_; subst f4_; subst f5_))
       obtain ⟨Ao43, co43, eo43⟩ := Kd.R_slice HO406.out
       (first | subst eo43 | (injection eo43 with f1_ f2_ f3_; have f4_ := f1_.symm; have f5_ := f3_.symm; clear f1_ f2_ f3_; subst f4_; subst f5_))
       refine hK.out _ _ ⟨bcu BK398 0, bcu BK398 1, bcu BK398 2⟩ (fun hHeld => ?_)
       clear hK K
       refine no_ 42 ?_
       refine pu_ 8 43 (bl 11 1023) HT_ ?_
       exact norm_ (by simp only [putAll, Act.put, ls, lz, ln]) (hCont (.slice Ao43 t404.length co43, .slice Ao42 t407.length co42, gb410) _ ⟨hHeld, (uR (Kd.R_mono HO406.out (fun _ hk => hk.2))), (uR (Kd.R_mono HO409.out (fun _ hk => hk.2))), (uB BK398.out), (uB BK399.out), (uB BK400.out), (uB BK410.out), GW410.out, GE410.out, NB398_410.out, NB410_398.out, NB399_410.out, NB410_399.out, NB400_410.out, NB410_400.out, (uH HB.out)⟩)
     rintro ⟨v405, v408, gb410⟩ w44 ⟨hS_, h0_, h1_, h2_, h3_, h4_, h5_, h6_, h7_, h8_, h9_, h10_, h11_, h12_, h13_, h14_⟩
     have n0_ : Aside0 (Kd.R (Kd.int .i64) 2 w44 w.heap.size (fun k_ => some k_ ≠ (v408 : Value).ownBlock) v405 t404) := ⟨h0_⟩
     have n1_ : Aside0 (Kd.R (Kd.int .i64) 2 w44 w.heap.size (fun k_ => some k_ ≠ (v405 : Value).ownBlock) v408 t407) := ⟨h1_⟩
     have n2_ : Aside0 (w44.heap[gb398]? = some (.cells #[.int .i64 a0_0, .slice A0_1 l0_1.length c0_1, .slice A0_2 l0_2.length c0_2] 51 (0, 0))) := ⟨h2_⟩
     have n3_ : Aside0 (w44.heap[gb399]? = some (.cells #[.int .i64 a1_0, .slice A1_1 l1_1.length c1_1, .slice A1_2 l1_2.length c1_2] 51 (0, 0))) := ⟨h3_⟩
     have n4_ : Aside0 (w44.heap[gb400]? = some (.cells #[.int .i64 0, .slice none 0 0, .slice none 0 0] 51 (0, 0))) := ⟨h4_⟩
     have n5_ : Aside0 (w44.heap[gb410]? = some (.cells #[.int .i64 0, .slice none 0 0, .slice none 0 0] 51 (0, 0))) := ⟨h5_⟩
     have n6_ : Aside0 (w.heap.size ≤ gb410) := ⟨h6_⟩
     have n7_ : Aside0 (w.heap.size ≤ gb410) := ⟨h7_⟩
     have n8_ : Aside0 (gb398 ≠ gb410) := ⟨h8_⟩
     have n9_ : Aside0 (gb410 ≠ gb398) := ⟨h9_⟩
     have n10_ : Aside0 (gb399 ≠ gb410) := ⟨h10_⟩
     have n11_ : Aside0 (gb410 ≠ gb399) := ⟨h11_⟩
     have n12_ : Aside0 (gb400 ≠ gb410) := ⟨h12_⟩
     have n13_ : Aside0 (gb410 ≠ gb400) := ⟨h13_⟩
     have n14_ : Aside0 (Below w.heap.size w w44) := ⟨h14_⟩
     clear BK398 BK399 BK400 HB
     clear h0_ h1_ h2_ h3_ h4_ h5_ h6_ h7_ h8_ h9_ h10_ h11_ h12_ h13_ h14_
     have HO406 := n0_
     have HO409 := n1_
     have BK398 := n2_
     have BK399 := n3_
     have BK400 := n4_
     have BK410 := n5_
     have GW410 := n6_
     have GE410 := n7_
     have := geI GE410
     have NB398_410 := n8_
     have NB410_398 := n9_
     have NB399_410 := n10_
     have NB410_399 := n11_
     have NB400_410 := n12_
     have NB410_400 := n13_
     have HB := n14_
     clear n0_ n1_ n2_ n3_ n4_ n5_ n6_ n7_ n8_ n9_ n10_ n11_ n12_ n13_ n14_
     have hHeld : w44.cell? ⟨gb398, 0, none⟩ = some (.int .i64 a0_0) ∧ w44.cell? ⟨gb398, 1, none⟩ = some (.slice A0_1 l0_1.length c0_1) ∧ w44.cell? ⟨gb398, 2, none⟩ = some (.slice A0_2 l0_2.length c0_2) := hS_
     obtain ⟨Ao45, co45, eo45⟩ := Kd.R_slice HO409.out
     (first | subst eo45 | (injection eo45 with f1_ f2_ f3_; have f4_ := f1_.symm; have f5_ := f3_.symm; clear f1_ f2_ f3_; subst f4_; subst f5_))
     obtain ⟨Ao46, co46, eo46⟩ := Kd.R_slice HO406.out
     (first | subst eo46 | (injection eo46 with f1_ f2_ f3_; have f4_ := f1_.symm; have f5_ := f3_.symm; clear f1_ f2_ f3_; subst f4_; subst f5_))
     refine norm_ (a' := ?_) ?_ ?_
     rotate_left
     ·simp only [putAll, Act.put, ls, lz, ln]
      rfl
     refine on_ 10 (none) (bl 11 2047) HT_ (fun K hK => ?_)
     have hs47 : w44.cell? ⟨gb410, 0, none⟩ = some (.int .i64 0) := (blk_cell BK410.out 0).trans rfl
     have hfs47 := bf BK410 0
     have hns47_0 := NB398_410.out; have hns47_1 := NB399_410.out; have hns47_2 := NB400_410.out; have hms47_0 := NB410_398.out; have hms47_1 := NB410_399.out; have hms47_2 := NB410_400.out
     have hs48 : w44.cell? ⟨gb410, 1, none⟩ = some (.slice none 0 0) := (blk_cell BK410.out 1).trans rfl
     have hfs48 := bf BK410 1
     have hns48_0 := NB398_410.out; have hns48_1 := NB399_410.out; have hns48_2 := NB400_410.out; have hms48_0 := NB410_398.out; have hms48_1 := NB410_399.out; have hms48_2 := NB410_400.out
     have hs49 : w44.cell? ⟨gb410, 2, none⟩ = some (.slice none 0 0) := (blk_cell BK410.out 2).trans rfl
     have hfs49 := bf BK410 2
     have hns49_0 := NB398_410.out; have hns49_1 := NB399_410.out; have hns49_2 := NB400_410.out; have hms49_0 := NB410_398.out; have hms49_1 := NB410_399.out; have hms49_2 := NB410_400.out
     refine skip_ (w1 := ?_) (by rfl) rfl ?_ ?_
     rotate_left
     ·go_simp
      rfl
     refine hK.out _ _ ⟨((cell_far (p := ⟨gb410, _, none⟩) NB398_410.out _).trans (((cell_far (p := ⟨gb410, _, none⟩) NB398_410.out _).trans (((cell_far (p := ⟨gb410, _, none⟩) NB398_410.out _).trans (hHeld.1)))))), ((cell_far (p := ⟨gb410, _, none⟩) NB398_410.out _).trans (((cell_far (p := ⟨gb410, _, none⟩) NB398_410.out _).trans (((cell_far (p := ⟨gb410, _, none⟩) NB398_410.out _).trans (hHeld.2.1)))))), ((cell_far (p := ⟨gb410, _, none⟩) NB398_410.out _).trans (((cell_far (p := ⟨gb410, _, none⟩) NB398_410.out _).trans (((cell_far (p := ⟨gb410, _, none⟩) NB398_410.out _).trans (hHeld.2.2))))))⟩ (fun hHeld => ?_)
     clear hK K
     refine done_ (done_of HT_.out (by kernel_rfl)) ?_
     try go_wp2
     go_loopg [9] kj3 (fun kq v9 w' => ∃ (x9_2 : Int) (x411000_2 : Int) (x411001_2 : List Int) (x411002_2 : List Int) (u411001 : Value) (u411002 : Value), v9 = .int .i64 x9_2 ∧ Aside0 (spec_MergeRules.l0 kq a2 x9_2 a0_0 l0_1 l0_2 a1_0 l1_1 l1_2 x411000_2 x411001_2 x411002_2 = some (r1, r2, r3, r4)) ∧ Aside0 (kq ≤ kj3) ∧ Aside0 (Kd.R (Kd.int .i64) 2 w' w.heap.size (fun k_ => some k_ ≠ (u411002 : Value).ownBlock) u411001 x411001_2) ∧ Aside0 (Kd.R (Kd.int .i64) 2 w' w.heap.size (fun k_ => some k_ ≠ (u411001 : Value).ownBlock) u411002 x411002_2) ∧ Aside0 (w'.heap[gb398]? = some (.cells #[.int .i64 a0_0, (.slice A0_1 l0_1.length c0_1), (.slice A0_2 l0_2.length c0_2)] 51 (0, 0))) ∧ Aside0 (w'.heap[gb399]? = some (.cells #[.int .i64 a1_0, (.slice A1_1 l1_1.length c1_1), (.slice A1_2 l1_2.length c1_2)] 51 (0, 0))) ∧ Aside0 (w'.heap[gb400]? = some (.cells #[.int .i64 0, (.slice none 0 0), (.slice none 0 0)] 51 (0, 0))) ∧ Aside0 (w'.heap[gb410]? = some (.cells #[.int .i64 x411000_2, u411001, u411002] 51 (0, 0))) ∧ Aside0 (Below w.heap.size w w'))
     case atStart => exact ⟨(0), (a0_0), (t404), (t407), (.slice Ao46 t404.length co46), (.slice Ao45 t407.length co45), (by first | rfl | (simp; done) | (simp [*]; done)), H', ⟨Nat.le_refl _⟩, ⟨uR (rf3 HO406 BK410 (by decide) (.int .i64 a0_0) (.slice Ao46 t404.length co46) (.slice Ao45 t407.length co45))⟩, ⟨uR (rf3 HO409 BK410 (by decide) (.int .i64 a0_0) (.slice Ao46 t404.length co46) (.slice Ao45 t407.length co45))⟩, ⟨by (repeat refine up1 ?_); refine blk_far ?_ NB398_410.out _; (repeat refine up1 ?_); refine blk_far ?_ NB398_410.out _; (repeat refine up1 ?_); refine blk_far ?_ NB398_410.out _; (repeat refine up1 ?_); exact BK398.out⟩, ⟨by (repeat refine up1 ?_); refine blk_far ?_ NB399_410.out _; (repeat refine up1 ?_); refine blk_far ?_ NB399_410.out _; (repeat refine up1 ?_); refine blk_far ?_ NB399_410.out _; (repeat refine up1 ?_); exact BK399.out⟩, ⟨by (repeat refine up1 ?_); refine blk_far ?_ NB400_410.out _; (repeat refine up1 ?_); refine blk_far ?_ NB400_410.out _; (repeat refine up1 ?_); refine blk_far ?_ NB400_410.out _; (repeat refine up1 ?_); exact BK400.out⟩, ⟨by (repeat refine up1 ?_); refine blk_put (cs := #[.int .i64 a0_0, .slice Ao46 t404.length co46, .slice none 0 0]) ?_ 2 _ rfl; (repeat refine up1 ?_); refine blk_put (cs := #[.int .i64 a0_0, .slice none 0 0, .slice none 0 0]) ?_ 1 _ rfl; (repeat refine up1 ?_); refine blk_put (cs := #[.int .i64 0, .slice none 0 0, .slice none 0 0]) ?_ 0 _ rfl; (repeat refine up1 ?_); exact BK410.out⟩, ⟨uH HB.out⟩⟩
     case round =>
      clear H'
      (try clear c1);(try clear c2);(try clear p2);(try clear c3);(try clear c4);(try clear p6);(try clear c22);(try clear c23);(try clear c24);(try clear c26);(try clear c26b0);(try clear c26b1);(try clear c28);(try clear c31);(try clear c32);(try clear c34);(try clear c41);(try clear hcz25_0);(try clear hcz25_1);(try clear hcz25_2);(try clear hcz33_0);(try clear hcz33_1);(try clear hcz33_2);(try clear hcz35_0)
      (try clear hcz35_1);(try clear hcz35_2);(try clear hfz16_0);(try clear hfz16_1);(try clear hfz16_2);(try clear hfz20_0);(try clear hfz20_1);(try clear hfz20_2);(try clear hfz25_0);(try clear hfz25_1);(try clear hfz25_2);(try clear hfz33_0);(try clear hfz33_1);(try clear hfz33_2);(try clear hfz35_0);(try clear hfz35_1);(try clear hfz35_2)
      obtain ⟨x9_2, x411000_2, x411001_2, x411002_2, u411001, u411002, rfl, HA, HK2, HO_411001, HO_411002, BK398, BK399, BK400, BK410, HB⟩ := hrel
      cases gk with
      | zero => exact absurd HA.out (by simp [spec_MergeRules.l0])
      | succ k2 =>
       have H := HA.out
       clear HA
       simp only [spec_MergeRules.l0] at H
       by_cases c50 : x9_2 < (l1_1.length : Int)
       rotate_left
       ·rw [if_neg c50] at H
        have c50b0 : decide (x9_2 < (l1_1.length : Int)) = false := decide_eq_false c50
        clear c50
        by_cases c68 : (x411001_2.length : Int) > 24
        rotate_left
        ·rw [if_neg c68] at H
         have c68b0 : decide (24 < (x411001_2.length : Int)) = false := decide_eq_false c68
         have c68b1 : decide (24 < x411001_2.length) = false := decide_eq_false (by omega)
         clear c68
         simp only [Option.some.injEq, Prod.mk.injEq] at H
         obtain ⟨rfl, rfl, rfl, rfl⟩ := H
         have hnb79 := NB399_398.out; have hnc79 := NB398_399.out; have hnb80 := NB399_400.out; have hnc80 := NB400_399.out; have hnb81 := NB399_410.out; have hnc81 := NB410_399.out
         have hcz82_0 := bc BK399 0
         have hcz82_1 := bc BK399 1
         have hcz82_2 := bc BK399 2
         have hfz82_0 := bf BK399 0
         have hfz82_1 := bf BK399 1
         have hfz82_2 := bf BK399 2
         have hnb83 := NB410_398.out; have hnc83 := NB398_410.out; have hnb84 := NB410_400.out; have hnc84 := NB400_410.out
         have hcz85_0 := bc BK410 0
         have hcz85_1 := bc BK410 1
         have hcz85_2 := bc BK410 2
         have hfz85_0 := bf BK410 0
         have hfz85_1 := bf BK410 1
         have hfz85_2 := bf BK410 2
         obtain ⟨Ao86, co86, eo86⟩ := Kd.R_slice HO_411001.out
         subst eo86
         have hnb87 := NB400_398.out; have hnc87 := NB398_400.out
         have hcz88_0 := bc BK400 0
         have hcz88_1 := bc BK400 1
         have hcz88_2 := bc BK400 2
         have hfz88_0 := bf BK400 0
         have hfz88_1 := bf BK400 1
         have hfz88_2 := bf BK400 2
         obtain ⟨Ao89, co89, eo89⟩ := Kd.R_slice HO_411002.out
         subst eo89
         go_wp2
         refine bodyPost_ret (results_ct rfl _ _ gb400 51 #[.int .i64 x411000_2, .slice Ao86 x411001_2.length co86, .slice Ao89 x411002_2.length co89] (0, 0) _ rfl (by (repeat refine up1 ?_); refine blk_put (cs := #[.int .i64 x411000_2, .slice Ao86 x411001_2.length co86, .slice none 0 0]) ?_ 2 _ rfl; (repeat refine up1 ?_); refine blk_put (cs := #[.int .i64 x411000_2, .slice none 0 0, .slice none 0 0]) ?_ 1 _ rfl; (repeat refine up1 ?_); refine blk_put (cs := #[.int .i64 0, .slice none 0 0, .slice none 0 0]) ?_ 0 _ rfl; (repeat refine up1 ?_); exact BK400.out) Try.underlying51 rfl (by kernel_rfl)) rfl ?_
         exact ⟨_, _, by first | rfl | (simp [errW_none, errW_some] <;> rfl) | (simp [*, errW_none, errW_some] <;> rfl), uR (rf3 HO_411001 BK400 (by decide) (.int .i64 x411000_2) (.slice Ao86 x411001_2.length co86) (.slice Ao89 x411002_2.length co89)), uR (rf3 HO_411002 BK400 (by decide) (.int .i64 x411000_2) (.slice Ao86 x411001_2.length co86) (.slice Ao89 x411002_2.length co89)), uH HB.out⟩
        rw [if_pos c68] at H
        have c68b0 : decide (24 < (x411001_2.length : Int)) = true := decide_eq_true c68
        have c68b1 : decide (24 < x411001_2.length) = true := decide_eq_true (by omega)
        clear c68
        simp only [Option.some.injEq, Prod.mk.injEq] at H
        obtain ⟨rfl, rfl, rfl, rfl⟩ := H
        have hnb69 := NB399_398.out; have hnc69 := NB398_399.out; have hnb70 := NB399_400.out; have hnc70 := NB400_399.out; have hnb71 := NB399_410.out; have hnc71 := NB410_399.out
        have hcz72_0 := bc BK399 0
        have hcz72_1 := bc BK399 1
        have hcz72_2 := bc BK399 2
        have hfz72_0 := bf BK399 0
        have hfz72_1 := bf BK399 1
        have hfz72_2 := bf BK399 2
        have hnb73 := NB410_398.out; have hnc73 := NB398_410.out; have hnb74 := NB410_400.out; have hnc74 := NB400_410.out
        have hcz75_0 := bc BK410 0
        have hcz75_1 := bc BK410 1
        have hcz75_2 := bc BK410 2
        have hfz75_0 := bf BK410 0
        have hfz75_1 := bf BK410 1
        have hfz75_2 := bf BK410 2
        obtain ⟨Ao76, co76, eo76⟩ := Kd.R_slice HO_411001.out
        subst eo76
        have hnb77 := NB400_398.out; have hnc77 := NB398_400.out
        have hcz78_0 := bc BK400 0
        have hcz78_1 := bc BK400 1
        have hcz78_2 := bc BK400 2
        have hfz78_0 := bf BK400 0
        have hfz78_1 := bf BK400 1
        have hfz78_2 := bf BK400 2
        go_wp2
        refine bodyPost_ret (results_ct rfl _ _ gb400 51 #[.int .i64 0, .slice none 0 0, .slice none 0 0] (0, 0) _ rfl (by (repeat refine up1 ?_); refine blk_put (cs := #[.int .i64 0, .slice none 0 0, .slice none 0 0]) ?_ 2 _ rfl; (repeat refine up1 ?_); refine blk_put (cs := #[.int .i64 0, .slice none 0 0, .slice none 0 0]) ?_ 1 _ rfl; (repeat refine up1 ?_); refine blk_put (cs := #[.int .i64 0, .slice none 0 0, .slice none 0 0]) ?_ 0 _ rfl; (repeat refine up1 ?_); exact BK400.out) Try.underlying51 rfl (by kernel_rfl)) rfl ?_
        exact ⟨_, _, by first | rfl | (simp [errW_none, errW_some] <;> rfl) | (simp [*, errW_none, errW_some] <;> rfl), by first | exact Kd.R_nil _ _ _ _ _ | exact Kd.N_nil _ _ _ _ _ | exact Kd.V_nil _ _ _ _ _ | exact Kd.Q_nil _ _ _ _ _ | exact Kd.S_nil _ _ _ _ _, by first | exact Kd.R_nil _ _ _ _ _ | exact Kd.N_nil _ _ _ _ _ | exact Kd.V_nil _ _ _ _ _ | exact Kd.Q_nil _ _ _ _ _ | exact Kd.S_nil _ _ _ _ _, uH HB.out⟩
       rw [if_pos c50] at H
       have c50b0 : decide (x9_2 < (l1_1.length : Int)) = true := decide_eq_true c50
       clear c50
       by_cases c51 : 0 ≤ x9_2
       rotate_left
       ·rw [if_neg c51] at H
        exact absurd H (by simp)
       rw [if_pos c51] at H
       have c51b0 : decide (0 ≤ x9_2) = true := decide_eq_true c51
       clear c51
       by_cases c52 : x9_2 < (l1_2.length : Int)
       rotate_left
       ·rw [if_neg c52] at H
        exact absurd H (by simp)
       rw [if_pos c52] at H
       have c52b0 : decide (x9_2 < (l1_2.length : Int)) = true := decide_eq_true c52
       clear c52
       by_cases c53 : a0_0 = 0
       rotate_left
       ·rw [if_neg c53] at H
        have c53b0 : (a0_0 == 0) = false := beq_eq_false_iff_ne.mpr c53
        have c53b1 : (a0_0 != 0) = true := bne_iff_ne.mpr c53
        replace H := Option.bind_eq_some_iff.mp H
        obtain ⟨⟨t413, t414, t417⟩, A540, H⟩ := H
        replace H : (spec_MergeRules.l0 k2 a2 (wrap64 (x9_2 + 1)) a0_0 l0_1 l0_2 a1_0 l1_1 l1_2 t413 t414 t417) = some (r1, r2, r3, r4) := H
        have A54 := zA A540
        clear A540
        have H' := zA H
        clear H
        have hnb55 := NB399_398.out; have hnc55 := NB398_399.out; have hnb56 := NB399_400.out; have hnc56 := NB400_399.out; have hnb57 := NB399_410.out; have hnc57 := NB410_399.out
        have hcz58_0 := bc BK399 0
        have hcz58_1 := bc BK399 1
        have hcz58_2 := bc BK399 2
        have hfz58_0 := bf BK399 0
        have hfz58_1 := bf BK399 1
        have hfz58_2 := bf BK399 2
        try go_wp2
        replace HO_411001 := zA (Kd.R_drew HO_411001.out)
        replace HO_411002 := zA (Kd.R_drew HO_411002.out)
        replace BK398 := zA (blk_drew BK398.out)
        replace BK399 := zA (blk_drew BK399.out)
        replace BK400 := zA (blk_drew BK400.out)
        replace BK410 := zA (blk_drew BK410.out)
        replace HB := zA (below_drew1 HB.out)
        have p411 : 0 ≤ (x9_2 : Int) := of_decide_eq_true (by first | (with_reducible assumption) | assumption)
        have q411 : x9_2 < (l1_1.length : Int) := of_decide_eq_true (by first | (with_reducible assumption) | assumption)
        obtain ⟨ad411, e411, hx411_0⟩ := Kd.at_int HR1_1.out x9_2 p411 q411
        have hw411_0 := hx411_0
        cases e411
        replace hx411_0 := hc HB hx411_0
        replace p411 := eq_true p411
        replace q411 := eq_true q411
        have p412 : 0 ≤ (x9_2 : Int) := of_decide_eq_true (by first | (with_reducible assumption) | assumption)
        have q412 : x9_2 < (l1_2.length : Int) := of_decide_eq_true (by first | (with_reducible assumption) | assumption)
        obtain ⟨ad412, e412, hx412_0⟩ := Kd.at_int HR1_2.out x9_2 p412 q412
        have hw412_0 := hx412_0
        cases e412
        replace hx412_0 := hc HB hx412_0
        replace p412 := eq_true p412
        replace q412 := eq_true q412
        obtain ⟨Ao60, co60, eo60⟩ := Kd.R_slice HO_411001.out
        (first | subst eo60 | (injection eo60 with f1_ f2_ f3_; have f4_ := f1_.symm; have f5_ := f3_.symm; clear f1_ f2_ f3_; subst f4_; subst f5_))
        obtain ⟨Ao61, co61, eo61⟩ := Kd.R_slice HO_411002.out
        (first | subst eo61 | (injection eo61 with f1_ f2_ f3_; have f4_ := f1_.symm; have f5_ := f3_.symm; clear f1_ f2_ f3_; subst f4_; subst f5_))
        refine start_ (n := 18) (S := fun w' => w'.cell? ⟨gb410, 0, none⟩ = some (.int .i64 x411000_2) ∧ w'.cell? ⟨gb410, 1, none⟩ = some (.slice Ao60 x411001_2.length co60) ∧ w'.cell? ⟨gb410, 2, none⟩ = some (.slice Ao61 x411002_2.length co61) ∧ w'.cell? ⟨gb399, 0, none⟩ = some (.int .i64 a1_0) ∧ w'.cell? ⟨gb399, 1, none⟩ = some (.slice (some ad411) l1_1.length c1_1) ∧ w'.cell? ⟨gb399, 2, none⟩ = some (.slice (some ad412) l1_2.length c1_2) ∧ w'.cell? ⟨gb398, 0, none⟩ = some (.int .i64 a0_0) ∧ w'.cell? ⟨gb398, 1, none⟩ = some (.slice A0_1 l0_1.length c0_1) ∧ w'.cell? ⟨gb398, 2, none⟩ = some (.slice A0_2 l0_2.length c0_2) ∧ w'.cell? (ad411.add (x9_2).toNat) = some (.int .i64 (rd l1_1 x9_2)) ∧ w'.cell? (ad412.add (x9_2).toNat) = some (.int .i64 (rd l1_2 x9_2))) (ds := [17]) #[false, false, false, false, false, false, false, false, false, false, false, false, false, false, false, false, false, false] (by kernel_rfl) rfl rfl ⟨bcu BK410 0, bcu BK410 1, bcu BK410 2, bcu BK399 0, bcu BK399 1, bcu BK399 2, bcu BK398 0, bcu BK398 1, bcu BK398 2, (hcu HB hw411_0), (hcu HB hw412_0)⟩ (fun hHeld => ?_); refine with_tabW spec_MergeRules.tab9 spec_MergeRules.bits9 (fun HT_ HW_ => ?_)
        generalize wr.drew = w59 at HO_411001 HO_411002 BK398 BK399 BK400 BK410 HB hx411_0 hx412_0 hHeld ⊢
        refine pu_ 1 52 (bl 18 2) HT_ ?_
        refine pu_ 3 54 (bl 18 10) HT_ ?_
        refine pu_ 6 57 (bl 18 74) HT_ ?_
        refine pu_ 7 58 (bl 18 202) HT_ ?_
        refine pu_ 9 60 (bl 18 714) HT_ ?_
        refine pu_ 13 64 (bl 18 8906) HT_ ?_
        refine ta_ 0 51 (bl 18 8907) HT_ HW_ hHeld ?_
        refine ta_ 2 53 (bl 18 8911) HT_ HW_ hHeld ?_
        refine pu_ 4 55 (bl 18 8927) HT_ ?_
        refine ta_ 5 56 (bl 18 8959) HT_ HW_ hHeld ?_
        refine ta_ 8 59 (bl 18 9215) HT_ HW_ hHeld ?_
        refine pu_ 10 61 (bl 18 10239) HT_ ?_
        refine ta_ 11 62 (bl 18 12287) HT_ HW_ hHeld ?_
        refine pu_ 12 63 (bl 18 16383) HT_ ?_
        refine ta_ 14 65 (bl 18 32767) HT_ HW_ hHeld ?_
        refine pu_ 15 66 (bl 18 65535) HT_ ?_
        refine on_ 16 (some 67) (bl 18 131071) HT_ (fun K hK => ?_)
        refine gS Try.func54 #[.agg #[.int .i64 x411000_2, .slice Ao60 x411001_2.length co60, .slice Ao61 x411002_2.length co61], .int .i64 (rd l1_1 x9_2), .int .i64 (Int.tmod (wrap64 (a2 * (rd l1_2 x9_2))) a0_0)] ?_
        with_reducible refine (spec_l07Put.calls k2 x411000_2 (fun k_ => some k_ = (.slice Ao60 x411001_2.length co60 : Value).ownBlock) (.slice Ao60 x411001_2.length co60) x411001_2 _ _ x411002_2 (rd l1_1 x9_2) (Int.tmod (wrap64 (a2 * (rd l1_2 x9_2))) a0_0) t413 t414 t417 w _ ?side1 ?side2 ?side3 ?side4 A54.out).mono ?_
        (case side1 => repeat (first | (with_reducible first | exact HB.out | apply below_alloc | apply pw_below_drewN | apply below_drew1 | refine below_set ?_ GE398.out | refine below_set ?_ GE399.out | refine below_set ?_ GE400.out | refine below_set ?_ GE410.out) | exact HB.out))
        (case side2 => exact Kd.R_tight rfl HO_411001.out)
        (case side3 => exact Kd.C_kept_own (HO_411002.out) (fun k_ hk_ hs_ => (hk_) hs_))
        (case side4 => exact (Kd.R_reads' HO_411002.out).2.1)
        rintro e w62 ⟨v415, v418, rfl, ho0, ho1, hb, hkp⟩
        refine ⟨_, rfl, ?_⟩
        replace BK398 := zA (blk_kept (uB BK398.out) hkp (fun hs_ => (fun e_ => (Kd.R_ne HO_411001.out BK398.out (by decide)) e_) hs_))
        replace BK399 := zA (blk_kept (uB BK399.out) hkp (fun hs_ => (fun e_ => (Kd.R_ne HO_411001.out BK399.out (by decide)) e_) hs_))
        replace BK400 := zA (blk_kept (uB BK400.out) hkp (fun hs_ => (fun e_ => (Kd.R_ne HO_411001.out BK400.out (by decide)) e_) hs_))
        replace BK410 := zA (blk_kept (uB BK410.out) hkp (fun hs_ => (fun e_ => (Kd.R_ne HO_411001.out BK410.out (by decide)) e_) hs_))
        have HO416 := zA (Kd.R_mono (ok' := fun k_ => some k_ ≠ (v418 : Value).ownBlock ∧ ax k_ (.slice Ao61 x411002_2.length co61)) ho0 (fun k_ hk_ => ⟨hk_.2, Or.elim hk_.1 (fun hs_ => fun e_ => (((HO_411002.out).1 k_ e_.symm)) hs_) (fun hn_ => (Kd.fresh' (Kd.R_lt (uR HO_411002.out)) k_ hn_))⟩))
        have HO419 := zA (Kd.R_mono (ok' := fun k_ => some k_ ≠ (v415 : Value).ownBlock ∧ ax k_ (.slice Ao61 x411002_2.length co61)) ho1 (fun k_ hk_ => ⟨hk_.2, Or.elim hk_.1 (fun hs_ => fun e_ => (((HO_411002.out).1 k_ e_.symm)) hs_) (fun hn_ => (Kd.fresh' (Kd.R_lt (uR HO_411002.out)) k_ hn_))⟩))
        replace HO_411002 := zA (Kd.R_mono (ok' := fun k_ => some k_ ≠ (v415 : Value).ownBlock ∧ some k_ ≠ (v418 : Value).ownBlock) (Kd.R_keptB (HO_411002.out) hkp (fun k_ hk_ hs_ => (hk_) hs_)) (fun k_ hk_ => ⟨fun e_ => Or.elim (ho0.1 k_ e_.symm).1 (fun hs_ => hk_.2.1 hs_) (fun hn_ => Nat.not_le.2 hk_.2.2 hn_), fun e_ => Or.elim (ho1.1 k_ e_.symm).1 (fun hs_ => hk_.2.1 hs_) (fun hn_ => Nat.not_le.2 hk_.2.2 hn_)⟩))
        replace HB := zA (hb)
        clear HO_411001
        (try clear hb); (try clear hkp); (try clear ho0); (try clear ho1)
        obtain ⟨Ao64, co64, eo64⟩ := Kd.R_slice HO416.out
        (first | subst eo64 | (injection eo64 with f1_ f2_ f3_; have f4_ := f1_.symm; have f5_ := f3_.symm; clear f1_ f2_ f3_; subst f4_; subst f5_))
        obtain ⟨Ao66, co66, eo66⟩ := Kd.R_slice HO419.out
        (first | subst eo66 | (injection eo66 with f1_ f2_ f3_; have f4_ := f1_.symm; have f5_ := f3_.symm; clear f1_ f2_ f3_; subst f4_; subst f5_))
        refine hK.out _ _ ⟨bcu BK410 0, bcu BK410 1, bcu BK410 2, bcu BK399 0, bcu BK399 1, bcu BK399 2, bcu BK398 0, bcu BK398 1, bcu BK398 2, (hcu HB hw411_0), (hcu HB hw412_0)⟩ (fun hHeld => ?_)
        clear hK K
        refine no_ 67 ?_
        refine last_ (i := 17) (N := none) (bl 18 262143) rfl rfl (one_of HT_.out (by kernel_rfl)) (by decide) (fun K hK => ?_)
        have hs63 : w62.cell? ⟨gb410, 0, none⟩ = some (.int .i64 x411000_2) := (blk_cell BK410.out 0).trans rfl
        have hfs63 := bf BK410 0
        have hns63_0 := NB398_410.out; have hns63_1 := NB399_410.out; have hns63_2 := NB400_410.out; have hms63_0 := NB410_398.out; have hms63_1 := NB410_399.out; have hms63_2 := NB410_400.out
        have hs65 : w62.cell? ⟨gb410, 1, none⟩ = some (.slice Ao60 x411001_2.length co60) := (blk_cell BK410.out 1).trans rfl
        have hfs65 := bf BK410 1
        have hns65_0 := NB398_410.out; have hns65_1 := NB399_410.out; have hns65_2 := NB400_410.out; have hms65_0 := NB410_398.out; have hms65_1 := NB410_399.out; have hms65_2 := NB410_400.out
        have hs67 : w62.cell? ⟨gb410, 2, none⟩ = some (.slice Ao61 x411002_2.length co61) := (blk_cell BK410.out 2).trans rfl
        have hfs67 := bf BK410 2
        have hns67_0 := NB398_410.out; have hns67_1 := NB399_410.out; have hns67_2 := NB400_410.out; have hms67_0 := NB410_398.out; have hms67_1 := NB410_399.out; have hms67_2 := NB410_400.out
        refine skip_ (w1 := ?_) (by rfl) rfl ?_ ?_
        rotate_left
        ·go_simp
         rfl
        refine hK.out _ _ ?_
        clear hK K
        refine done_ (done_of HT_.out (by kernel_rfl)) ?_
        try go_wp2
        go_roundg k2
        case measure => have := HJ3.out; have := HK2.out; omega
        case rel => exact ⟨(wrap64 (x9_2 + 1)), (t413), (t414), (t417), (.slice Ao64 t414.length co64), (.slice Ao66 t417.length co66), (by first | rfl | (simp; done) | (simp [*]; done)), H', ⟨by have := HJ3.out; have := HK2.out; omega⟩, ⟨uR (Kd.R_mono (Kd.R_far (p := ⟨gb410, 2, none⟩) (Kd.R_far (p := ⟨gb410, 1, none⟩) (Kd.R_far (p := ⟨gb410, 0, none⟩) (Kd.R_types HO416.out BK410.out (by decide)) (fun _ hk => hk.2) (.int .i64 t413)) (fun _ hk => hk.2) (.slice Ao64 t414.length co64)) (fun _ hk => hk.2) (.slice Ao66 t417.length co66)) (fun _ hk => hk.1.1))⟩, ⟨uR (Kd.R_mono (Kd.R_far (p := ⟨gb410, 2, none⟩) (Kd.R_far (p := ⟨gb410, 1, none⟩) (Kd.R_far (p := ⟨gb410, 0, none⟩) (Kd.R_types HO419.out BK410.out (by decide)) (fun _ hk => hk.2) (.int .i64 t413)) (fun _ hk => hk.2) (.slice Ao64 t414.length co64)) (fun _ hk => hk.2) (.slice Ao66 t417.length co66)) (fun _ hk => hk.1.1))⟩, ⟨by (repeat refine up1 ?_); refine blk_far ?_ NB398_410.out _; (repeat refine up1 ?_); refine blk_far ?_ NB398_410.out _; (repeat refine up1 ?_); refine blk_far ?_ NB398_410.out _; (repeat refine up1 ?_); exact BK398.out⟩, ⟨by (repeat refine up1 ?_); refine blk_far ?_ NB399_410.out _; (repeat refine up1 ?_); refine blk_far ?_ NB399_410.out _; (repeat refine up1 ?_); refine blk_far ?_ NB399_410.out _; (repeat refine up1 ?_); exact BK399.out⟩, ⟨by (repeat refine up1 ?_); refine blk_far ?_ NB400_410.out _; (repeat refine up1 ?_); refine blk_far ?_ NB400_410.out _; (repeat refine up1 ?_); refine blk_far ?_ NB400_410.out _; (repeat refine up1 ?_); exact BK400.out⟩, ⟨by (repeat refine up1 ?_); refine blk_put (cs := #[.int .i64 t413, .slice Ao64 t414.length co64, .slice Ao61 x411002_2.length co61]) ?_ 2 _ rfl; (repeat refine up1 ?_); refine blk_put (cs := #[.int .i64 t413, .slice Ao60 x411001_2.length co60, .slice Ao61 x411002_2.length co61]) ?_ 1 _ rfl; (repeat refine up1 ?_); refine blk_put (cs := #[.int .i64 x411000_2, .slice Ao60 x411001_2.length co60, .slice Ao61 x411002_2.length co61]) ?_ 0 _ rfl; (repeat refine up1 ?_); exact BK410.out⟩, ⟨uH HB.out⟩⟩
       rw [if_pos c53] at H
       exact absurd H (by simp)
    ·replace c28 := Bool.eq_false_iff.mpr c28
     subst c28
     have H1 : (some (0, ([] : List Int), ([] : List Int), 2)) = some (r1, r2, r3, r4) := by rw [if_neg (show ¬ (false = true) by decide)] at H; exact H
     clear H
     have H := H1
     clear H1
     simp only [Option.some.injEq, Prod.mk.injEq] at H
     obtain ⟨rfl, rfl, rfl, rfl⟩ := H
     have hnb90 := NB398_399.out; have hnc90 := NB399_398.out; have hnb91 := NB398_400.out; have hnc91 := NB400_398.out
     have hcz92_0 := bc BK398 0
     have hcz92_1 := bc BK398 1
     have hcz92_2 := bc BK398 2
     have hfz92_0 := bf BK398 0
     have hfz92_1 := bf BK398 1
     have hfz92_2 := bf BK398 2
     have hnb93 := NB399_400.out; have hnc93 := NB400_399.out
     have hcz94_0 := bc BK399 0
     have hcz94_1 := bc BK399 1
     have hcz94_2 := bc BK399 2
     have hfz94_0 := bf BK399 0
     have hfz94_1 := bf BK399 1
     have hfz94_2 := bf BK399 2
     go_wp2_with (first | (go_at_call 53; (with_reducible refine (spec_l01In.calls a2 0 (wrap64 (a0_0 - 1)) false _ A27.out).mono ?_); rintro e w' ⟨rfl, ⟨nd, rfl⟩⟩; (try (rw [drewN_self wc]; generalize hq_ : World.drewN wc _ = wc; have n0_ : Aside0 (wc.heap[gb398]? = some (.cells #[.int .i64 a0_0, .slice A0_1 l0_1.length c0_1, .slice A0_2 l0_2.length c0_2] 51 (0, 0))) := ⟨by rw [← hq_]; exact (uB BK398.out)⟩; have n1_ : Aside0 (wc.heap[gb399]? = some (.cells #[.int .i64 a1_0, .slice A1_1 l1_1.length c1_1, .slice A1_2 l1_2.length c1_2] 51 (0, 0))) := ⟨by rw [← hq_]; exact (uB BK399.out)⟩; have n2_ : Aside0 (wc.heap[gb400]? = some (.cells #[.int .i64 0, .slice none 0 0, .slice none 0 0] 51 (0, 0))) := ⟨by rw [← hq_]; exact (uB BK400.out)⟩; have n3_ : Aside0 (Below w.heap.size w wc) := ⟨by rw [← hq_]; exact (uH HB.out)⟩; clear BK398 BK399 BK400 HB hq_; have BK398 := n0_; have BK399 := n1_; have BK400 := n2_; have HB := n3_; clear n0_ n1_ n2_ n3_)); (try have hcuy95_0 : wc.cell? ⟨gb398, 0, none⟩ = some (.int .i64 a0_0) := (blk_cell BK398.out 0).trans rfl); (try have hcuy95_1 : wc.cell? ⟨gb398, 1, none⟩ = some (.slice A0_1 l0_1.length c0_1) := (blk_cell BK398.out 1).trans rfl); (try have hcuy95_2 : wc.cell? ⟨gb398, 2, none⟩ = some (.slice A0_2 l0_2.length c0_2) := (blk_cell BK398.out 2).trans rfl); (try have hcuy96_0 : wc.cell? ⟨gb399, 0, none⟩ = some (.int .i64 a1_0) := (blk_cell BK399.out 0).trans rfl); (try have hcuy96_1 : wc.cell? ⟨gb399, 1, none⟩ = some (.slice A1_1 l1_1.length c1_1) := (blk_cell BK399.out 1).trans rfl); (try have hcuy96_2 : wc.cell? ⟨gb399, 2, none⟩ = some (.slice A1_2 l1_2.length c1_2) := (blk_cell BK399.out 2).trans rfl); have hcz97_0 := bc BK400 0; have hcz97_1 := bc BK400 1; have hcz97_2 := bc BK400 2; have hfz97_0 := bf BK400 0; have hfz97_1 := bf BK400 1; have hfz97_2 := bf BK400 2))
     refine bodyPost_ret (results_ct rfl _ _ gb400 51 #[.int .i64 0, .slice none 0 0, .slice none 0 0] (0, 0) _ rfl (by (repeat refine up1 ?_); refine blk_put (cs := #[.int .i64 0, .slice none 0 0, .slice none 0 0]) ?_ 2 _ rfl; (repeat refine up1 ?_); refine blk_put (cs := #[.int .i64 0, .slice none 0 0, .slice none 0 0]) ?_ 1 _ rfl; (repeat refine up1 ?_); refine blk_put (cs := #[.int .i64 0, .slice none 0 0, .slice none 0 0]) ?_ 0 _ rfl; (repeat refine up1 ?_); exact BK400.out) Try.underlying51 rfl (by kernel_rfl)) rfl ?_
     exact ⟨_, _, by first | rfl | (simp [errW_none, errW_some] <;> rfl) | (simp [*, errW_none, errW_some] <;> rfl), by first | exact Kd.R_nil _ _ _ _ _ | exact Kd.N_nil _ _ _ _ _ | exact Kd.V_nil _ _ _ _ _ | exact Kd.Q_nil _ _ _ _ _ | exact Kd.S_nil _ _ _ _ _, by first | exact Kd.R_nil _ _ _ _ _ | exact Kd.N_nil _ _ _ _ _ | exact Kd.V_nil _ _ _ _ _ | exact Kd.Q_nil _ _ _ _ _ | exact Kd.S_nil _ _ _ _ _, uH HB.out⟩
end Go.Proofs.Ytjdannndpfkadaa.Pr
