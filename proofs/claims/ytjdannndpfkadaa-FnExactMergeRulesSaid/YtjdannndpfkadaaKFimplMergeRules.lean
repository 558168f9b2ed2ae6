/- Printed by a program of this session out of the translation: what these functions of the program compute, under the conditions that each theorem names. -/
import Derived.Test.YtjdannndpfkadaaKMergeRules1
import Derived.Test.YtjdannndpfkadaaKMergeRules2
import Derived.Test.YtjdannndpfkadaaKMergeRules3
namespace Go.Proofs.Ytjdannndpfkadaa.Pr
open Go.RowKit Go.Proofs.YtjdannndpfkadaaW.PrintWords Go.Proofs.YtjdannndpfkadaaW.PrintLast Go.Proofs.YtjdannndpfkadaaW.PrintMore
attribute [local go_sem] max2_int min2_int max_two min_two max_three min_three max_four min_four   -- for this text's walks alone
set_option linter.unusedVariables false
set_option linter.unusedSimpArgs false

/-! ### impl_MergeRules: function 28 -/
mutual
def impl_MergeRules.j0 : Nat → Int → Bool → Int → List Int → List Int → Int → List Int → List Int → Option (Int × List Int × List Int × Int)
 | 0, _, _, _, _, _, _, _, _ => none
 | k + 1, x2, x13, x481000, x481001, x481002, x482000, x482001, x482002 => if x13 = true then (some (0, ([] : List Int), ([] : List Int), 1)) else (if x481000 = x482000 then ((impl_Rule_field.f x481000 x481001 x481002).bind fun t485 => ((impl_field_has.f t485 x2).bind fun t486 => (if t486 = true then (impl_MergeRules.l0 k x2 (([] : List (Int × Int))) x481001 (x481001.length : Int) 0 x481000 x481001 x481002 x482000 x482001 x482002) else (some (0, ([] : List Int), ([] : List Int), 2))))) else (some (0, ([] : List Int), ([] : List Int), 2)))
def impl_MergeRules.l0 : Nat → Int → List (Int × Int) → List Int → Int → Int → Int → List Int → List Int → Int → List Int → List Int → Option (Int × List Int × List Int × Int)
 | 0, _, _, _, _, _, _, _, _, _, _, _ => none
 | k + 1, x2, x8, x39, x40, x41, x481000, x481001, x481002, x482000, x482001, x482002 => if x41 < x40 then (if 0 ≤ x41 then (if x41 < (x39.length : Int) then (if x41 < (x481002.length : Int) then ((mput x8 (rd x39 x41) (rd x481002 x41)).bind fun t492 => (impl_MergeRules.l0 k x2 t492 x39 x40 (wrap64 (x41 + 1)) x481000 x481001 x481002 x482000 x482001 x482002)) else (none)) else (none)) else (none)) else (impl_MergeRules.l1 k x2 x8 x482001 (x482001.length : Int) 0 x481000 x481001 x481002 x482000 x482001 x482002)
def impl_MergeRules.l1 : Nat → Int → List (Int × Int) → List Int → Int → Int → Int → List Int → List Int → Int → List Int → List Int → Option (Int × List Int × List Int × Int)
 | 0, _, _, _, _, _, _, _, _, _, _, _ => none
 | k + 1, x2, x8, x55, x56, x57, x481000, x481001, x481002, x482000, x482001, x482002 => if x57 < x56 then (if 0 ≤ x57 then (if x57 < (x55.length : Int) then ((impl_Rule_field.f x481000 x481001 x481002).bind fun t494 => (if x57 < (x482002.length : Int) then ((impl_field_mod.f t494 (wrap64 ((getZ x8 (rd x55 x57)) + (wrap64 (x2 * (rd x482002 x57)))))).bind fun t496 => ((mput x8 (rd x55 x57) t496).bind fun t497 => (impl_MergeRules.l1 k x2 t497 x55 x56 (wrap64 (x57 + 1)) x481000 x481001 x481002 x482000 x482001 x482002))) else (none))) else (none)) else (none)) else (if (x8.length : Int) > 24 then (some (0, ([] : List Int), ([] : List Int), 3)) else ((mrule x481000 x8).bind fun bt498 => (some (bt498.1, bt498.2.1, bt498.2.2, 0))))
end
def impl_MergeRules.f (k : Nat) (a0_0 : Int) (l0_1 : List Int) (l0_2 : List Int) (a1_0 : Int) (l1_1 : List Int) (l1_2 : List Int) (a2 : Int) : Option (Int × List Int × List Int × Int) := (impl_IsRule.f k a0_0 l0_1 l0_2).bind fun t483 => (if t483 = true then ((impl_IsRule.f k a1_0 l1_1 l1_2).bind fun t484 => (impl_MergeRules.j0 k a2 (!t484) a0_0 l0_1 l0_2 a1_0 l1_1 l1_2)) else (impl_MergeRules.j0 k a2 true a0_0 l0_1 l0_2 a1_0 l1_1 l1_2))
def impl_MergeRules.T14 : Bool × List (List Nat × List Nat) := (true, [([], []), ([], []), ([], []), ([2], [2]), ([], []), ([], []), ([4, 5], [4, 5]), ([], []), ([], []), ([8], [8]), ([], []), ([9, 10], [9, 10]), ([11], [11]), ([7, 12], [7, 12]), ([6, 13], [6, 13]), ([3, 14, 3], [3, 14]), ([0, 1, 15, 15, 0, 1, 2, 3, 4, 5, 6, 7, 8, 9, 10, 11, 12, 13, 14, 15], [0, 1, 15])])
def impl_MergeRules.B14 : List Nat := [0, 0, 0, 4, 0, 0, 48, 0, 0, 256, 0, 1792, 3840, 8064, 16368, 32764, 65535]
theorem impl_MergeRules.tab14 : rtab .any (opsOf Try.f28 14) = impl_MergeRules.T14 := by kernel_rfl
theorem impl_MergeRules.bits14 : waitsOk impl_MergeRules.T14.2 impl_MergeRules.B14 = true := by kernel_rfl
set_option maxHeartbeats 8000000 in
set_option maxRecDepth 100000 in
theorem impl_MergeRules.calls (k : Nat) (a0_0 : Int) (A0_1 : Option Addr) (c0_1 : Nat) (l0_1 : List Int) (A0_2 : Option Addr) (c0_2 : Nat) (l0_2 : List Int) (a1_0 : Int) (A1_1 : Option Addr) (c1_1 : Nat) (l1_1 : List Int) (A1_2 : Option Addr) (c1_2 : Nat) (l1_2 : List Int) (a2 : Int) (r1 : Int) (r2 : List Int) (r3 : List Int) (r4 : Int) (w : World) (hr0_1 : Kd.C (Kd.int .i64) w A0_1 l0_1.length l0_1) (hc0_1 : l0_1.length ≤ c0_1) (hr0_2 : Kd.C (Kd.int .i64) w A0_2 l0_2.length l0_2) (hc0_2 : l0_2.length ≤ c0_2) (hr1_1 : Kd.C (Kd.int .i64) w A1_1 l1_1.length l1_1) (hc1_1 : l1_1.length ≤ c1_1) (hr1_2 : Kd.C (Kd.int .i64) w A1_2 l1_2.length l1_2) (hc1_2 : l1_2.length ≤ c1_2) (h : impl_MergeRules.f k a0_0 l0_1 l0_2 a1_0 l1_1 l1_2 a2 = some (r1, r2, r3, r4)) :
  Calls Try.prog 28 #[.agg #[.int .i64 a0_0, .slice A0_1 l0_1.length c0_1, .slice A0_2 l0_2.length c0_2], .agg #[.int .i64 a1_0, .slice A1_1 l1_1.length c1_1, .slice A1_2 l1_2.length c1_2], .int .i64 a2] w fun e w' => ∃ v1_ v2_ : Value, e = .returned (.tuple #[.agg #[.int .i64 r1, v1_, v2_], .int .i64 r4]) ∧ Kd.R (Kd.int .i64) 2 w' w.heap.size (fun k_ => some k_ ≠ (v2_ : Value).ownBlock) v1_ r2 ∧ Kd.R (Kd.int .i64) 2 w' w.heap.size (fun k_ => some k_ ≠ (v1_ : Value).ownBlock) v2_ r3 ∧ Below w.heap.size w w' := by
 have hu51 := Try.underlying51
 have HR0_1 := zA hr0_1
 have HC0_1 := zA hc0_1
 clear hr0_1 hc0_1
 have HR0_2 := zA hr0_2
 have HC0_2 := zA hc0_2
 clear hr0_2 hc0_2
 have HR1_1 := zA hr1_1
 have HC1_1 := zA hc1_1
 clear hr1_1 hc1_1
 have HR1_2 := zA hr1_2
 have HC1_2 := zA hc1_2
 clear hr1_2 hc1_2
 have HB := zA (Below.refl w.heap.size w)
 have H : ((impl_IsRule.f k a0_0 l0_1 l0_2).bind fun t483 => (if t483 = true then ((impl_IsRule.f k a1_0 l1_1 l1_2).bind fun t484 => (impl_MergeRules.j0 k a2 (!t484) a0_0 l0_1 l0_2 a1_0 l1_1 l1_2)) else (impl_MergeRules.j0 k a2 true a0_0 l0_1 l0_2 a1_0 l1_1 l1_2))) = some (r1, r2, r3, r4) := h
 clear h
 have HC4 := zA H
 clear H
 go_enter Try.func28, Try.ntmps28
 go_upto_region 1 with (first | ((with_reducible refine gate_dst (N := 3) rfl ?_); refine bx 3 #[.int .i64 a0_0, .slice A0_1 l0_1.length c0_1, .slice A0_2 l0_2.length c0_2] 51 ?_; intro gb480 hg w5 hbox hb; have BK480 := zA (hbox); have GW480 := gq HB hg; have GE480 := gq HB hg; replace HB := xH HB hb; have := geI GE480; clear hb hbox hg) | ((with_reducible refine gate_dst (N := 4) rfl ?_); refine bx 4 #[.int .i64 a1_0, .slice A1_1 l1_1.length c1_1, .slice A1_2 l1_2.length c1_2] 51 ?_; intro gb481 hg w6 hbox hb; have BK481 := zA (hbox); have GW481 := gq HB hg; have GE481 := gq HB hg; replace HB := xH HB hb; have NB480_481 := zA ((by rw [hg]; exact neL BK480 : gb480 ≠ gb481)); have NB481_480 := zA ((by rw [hg]; exact neG BK480 : gb481 ≠ gb480)); replace BK480 := xB BK480 hb; have := geI GE481; clear hb hbox hg) | ((with_reducible refine gate_dst (N := 6) rfl ?_); refine bx 6 #[.int .i64 0, .slice none 0 0, .slice none 0 0] 51 ?_; intro gb482 hg w7 hbox hb; have BK482 := zA (hbox); have GW482 := gq HB hg; have GE482 := gq HB hg; replace HB := xH HB hb; have NB480_482 := zA ((by rw [hg]; exact neL BK480 : gb480 ≠ gb482)); have NB482_480 := zA ((by rw [hg]; exact neG BK480 : gb482 ≠ gb480)); replace BK480 := xB BK480 hb; have NB481_482 := zA ((by rw [hg]; exact neL BK481 : gb481 ≠ gb482)); have NB482_481 := zA ((by rw [hg]; exact neG BK481 : gb482 ≠ gb481)); replace BK481 := xB BK481 hb; have := geI GE482; clear hb hbox hg))
 (try simp only [Act.put, ls, lz, ln])
 go_cut [13] (fun v13 wc => ∃ (kq : Nat) (x13_3 : Bool), v13 = .bool x13_3 ∧ Aside0 (impl_MergeRules.j0 kq a2 x13_3 a0_0 l0_1 l0_2 a1_0 l1_1 l1_2 = some (r1, r2, r3, r4)) ∧ Aside0 (kq ≤ k) ∧ Aside0 (wc.heap[gb480]? = some (.cells #[.int .i64 a0_0, (.slice A0_1 l0_1.length c0_1), (.slice A0_2 l0_2.length c0_2)] 51 (0, 0))) ∧ Aside0 (wc.heap[gb481]? = some (.cells #[.int .i64 a1_0, (.slice A1_1 l1_1.length c1_1), (.slice A1_2 l1_2.length c1_2)] 51 (0, 0))) ∧ Aside0 (wc.heap[gb482]? = some (.cells #[.int .i64 0, (.slice none 0 0), (.slice none 0 0)] 51 (0, 0))) ∧ Aside0 (Below w.heap.size w wc))
 case first =>
  have H := HC4.out
  clear HC4
  replace H := Option.bind_eq_some_iff.mp H
  obtain ⟨t483, A80, H⟩ := H
  replace H : (if t483 = true then ((impl_IsRule.f k a1_0 l1_1 l1_2).bind fun t484 => (impl_MergeRules.j0 k a2 (!t484) a0_0 l0_1 l0_2 a1_0 l1_1 l1_2)) else (impl_MergeRules.j0 k a2 true a0_0 l0_1 l0_2 a1_0 l1_1 l1_2)) = some (r1, r2, r3, r4) := H
  have A8 := zA A80
  clear A80
  by_cases c9 : t483 = true
  ·subst c9
   have H1 : ((impl_IsRule.f k a1_0 l1_1 l1_2).bind fun t484 => (impl_MergeRules.j0 k a2 (!t484) a0_0 l0_1 l0_2 a1_0 l1_1 l1_2)) = some (r1, r2, r3, r4) := by rw [if_pos rfl] at H; exact H
   clear H
   have H := H1
   clear H1
   replace H := Option.bind_eq_some_iff.mp H
   obtain ⟨t484, A100, H⟩ := H
   replace H : (impl_MergeRules.j0 k a2 (!t484) a0_0 l0_1 l0_2 a1_0 l1_1 l1_2) = some (r1, r2, r3, r4) := H
   have A10 := zA A100
   clear A100
   have H' := zA H
   clear H
   have hnb11 := NB480_481.out; have hnc11 := NB481_480.out; have hnb12 := NB480_482.out; have hnc12 := NB482_480.out
   have hcz13_0 := bc BK480 0
   have hcz13_1 := bc BK480 1
   have hcz13_2 := bc BK480 2
   have hfz13_0 := bf BK480 0
   have hfz13_1 := bf BK480 1
   have hfz13_2 := bf BK480 2
   go_wp2_with (first | ((with_reducible refine gate_callee (f := 55) rfl ?_); refine gL (some 15) Try.func55 #[.agg #[.int .i64 a0_0, .slice A0_1 l0_1.length c0_1, .slice A0_2 l0_2.length c0_2]] ?_; (with_reducible refine (impl_IsRule.calls k a0_0 _ _ l0_1 _ _ l0_2 true _ ?side1 ?side2 ?side3 ?side4 A8.out).mono ?_); (case side1 => exact uC ((Kd.C_below HR0_1.out HB.out))); (case side2 => exact HC0_1.out); (case side3 => exact uC ((Kd.C_below HR0_2.out HB.out))); (case side4 => exact HC0_2.out); rintro e w14 ⟨rfl, hb⟩; refine ⟨_, rfl, ?_⟩; replace BK480 := xB BK480 hb; replace BK481 := xB BK481 hb; replace BK482 := xB BK482 hb; replace HB := xH HB hb; (try clear hb); (try clear hb2); (try clear hk); (try clear hi); have hnb15 := NB481_482.out; have hnc15 := NB482_481.out; have hcz16_0 := bc BK481 0; have hcz16_1 := bc BK481 1; have hcz16_2 := bc BK481 2; have hfz16_0 := bf BK481 0; have hfz16_1 := bf BK481 1; have hfz16_2 := bf BK481 2) | (go_at_call 55; (with_reducible refine (impl_IsRule.calls k a1_0 _ _ l1_1 _ _ l1_2 t484 _ ?side1 ?side2 ?side3 ?side4 A10.out).mono ?_); (case side1 => exact uC ((Kd.C_below HR1_1.out HB.out))); (case side2 => exact HC1_1.out); (case side3 => exact uC ((Kd.C_below HR1_2.out HB.out))); (case side4 => exact HC1_2.out); rintro e w17 ⟨rfl, hb⟩; replace BK480 := xB BK480 hb; replace BK481 := xB BK481 hb; replace BK482 := xB BK482 hb; replace HB := xH HB hb; (try clear hb); (try clear hb2); (try clear hk); (try clear hi)))
   go_meet
   case rel => exact ⟨_, (!t484), (by first | rfl | (simp; done) | (simp [*]; done)), H', ⟨by first | omega | exact Nat.le_refl _⟩, ⟨uB BK480.out⟩, ⟨uB BK481.out⟩, ⟨uB BK482.out⟩, ⟨uH HB.out⟩⟩
  ·replace c9 := Bool.eq_false_iff.mpr c9
   subst c9
   have H1 : (impl_MergeRules.j0 k a2 true a0_0 l0_1 l0_2 a1_0 l1_1 l1_2) = some (r1, r2, r3, r4) := by rw [if_neg (show ¬ (false = true) by decide)] at H; exact H
   clear H
   have H := H1
   clear H1
   have H' := zA H
   clear H
   have hnb18 := NB480_481.out; have hnc18 := NB481_480.out; have hnb19 := NB480_482.out; have hnc19 := NB482_480.out
   have hcz20_0 := bc BK480 0
   have hcz20_1 := bc BK480 1
   have hcz20_2 := bc BK480 2
   have hfz20_0 := bf BK480 0
   have hfz20_1 := bf BK480 1
   have hfz20_2 := bf BK480 2
   go_wp2_with (first | ((with_reducible refine gate_callee (f := 55) rfl ?_); refine gL (some 15) Try.func55 #[.agg #[.int .i64 a0_0, .slice A0_1 l0_1.length c0_1, .slice A0_2 l0_2.length c0_2]] ?_; (with_reducible refine (impl_IsRule.calls k a0_0 _ _ l0_1 _ _ l0_2 false _ ?side1 ?side2 ?side3 ?side4 A8.out).mono ?_); (case side1 => exact uC ((Kd.C_below HR0_1.out HB.out))); (case side2 => exact HC0_1.out); (case side3 => exact uC ((Kd.C_below HR0_2.out HB.out))); (case side4 => exact HC0_2.out); rintro e w21 ⟨rfl, hb⟩; refine ⟨_, rfl, ?_⟩; replace BK480 := xB BK480 hb; replace BK481 := xB BK481 hb; replace BK482 := xB BK482 hb; replace HB := xH HB hb; (try clear hb); (try clear hb2); (try clear hk); (try clear hi)))
   go_meet
   case rel => exact ⟨_, (true), (by first | rfl | (simp; done) | (simp [*]; done)), H', ⟨by first | omega | exact Nat.le_refl _⟩, ⟨uB BK480.out⟩, ⟨uB BK481.out⟩, ⟨uB BK482.out⟩, ⟨uH HB.out⟩⟩
 case rest =>
  clear HC4
  (try clear c1);(try clear c2);(try clear p2);(try clear c5);(try clear c9);(try clear c11);(try clear c12);(try clear c15);(try clear c18);(try clear c19);(try clear hcz13_0);(try clear hcz13_1);(try clear hcz13_2);(try clear hcz16_0);(try clear hcz16_1);(try clear hcz16_2);(try clear hcz20_0);(try clear hcz20_1);(try clear hcz20_2);(try clear hfz13_0);(try clear hfz13_1);(try clear hfz13_2);(try clear hfz16_0)
  (try clear hfz16_1);(try clear hfz16_2);(try clear hfz20_0);(try clear hfz20_1);(try clear hfz20_2)
  obtain ⟨kq, x13_3, rfl, HA, HJ3, BK480, BK481, BK482, HB⟩ := hcut
  cases kq with
  | zero => exact absurd HA.out (by simp [impl_MergeRules.j0])
  | succ kj3 =>
   have H := HA.out
   clear HA
   simp only [impl_MergeRules.j0] at H
   by_cases c22 : x13_3 = true
   ·subst c22
    have H1 : (some (0, ([] : List Int), ([] : List Int), 1)) = some (r1, r2, r3, r4) := by rw [if_pos rfl] at H; exact H
    clear H
    have H := H1
    clear H1
    simp only [Option.some.injEq, Prod.mk.injEq] at H
    obtain ⟨rfl, rfl, rfl, rfl⟩ := H
    have hnb23 := NB482_480.out; have hnc23 := NB480_482.out; have hnb24 := NB482_481.out; have hnc24 := NB481_482.out
    have hcz25_0 := bc BK482 0
    have hcz25_1 := bc BK482 1
    have hcz25_2 := bc BK482 2
    have hfz25_0 := bf BK482 0
    have hfz25_1 := bf BK482 1
    have hfz25_2 := bf BK482 2
    go_wp2
    refine bodyPost_ret (results_ct rfl _ _ gb482 51 #[.int .i64 0, .slice none 0 0, .slice none 0 0] (0, 0) _ rfl (by (repeat refine up1 ?_); refine blk_put (cs := #[.int .i64 0, .slice none 0 0, .slice none 0 0]) ?_ 2 _ rfl; (repeat refine up1 ?_); refine blk_put (cs := #[.int .i64 0, .slice none 0 0, .slice none 0 0]) ?_ 1 _ rfl; (repeat refine up1 ?_); refine blk_put (cs := #[.int .i64 0, .slice none 0 0, .slice none 0 0]) ?_ 0 _ rfl; (repeat refine up1 ?_); exact BK482.out) Try.underlying51 rfl (by kernel_rfl)) rfl ?_
    exact ⟨_, _, by first | rfl | (simp [errW_none, errW_some] <;> rfl) | (simp [*, errW_none, errW_some] <;> rfl), by first | exact Kd.R_nil _ _ _ _ _ | exact Kd.N_nil _ _ _ _ _ | exact Kd.V_nil _ _ _ _ _ | exact Kd.Q_nil _ _ _ _ _ | exact Kd.S_nil _ _ _ _ _, by first | exact Kd.R_nil _ _ _ _ _ | exact Kd.N_nil _ _ _ _ _ | exact Kd.V_nil _ _ _ _ _ | exact Kd.Q_nil _ _ _ _ _ | exact Kd.S_nil _ _ _ _ _, uH HB.out⟩
   ·replace c22 := Bool.eq_false_iff.mpr c22
    subst c22
    have H1 : (if a0_0 = a1_0 then ((impl_Rule_field.f a0_0 l0_1 l0_2).bind fun t485 => ((impl_field_has.f t485 a2).bind fun t486 => (if t486 = true then (impl_MergeRules.l0 kj3 a2 (([] : List (Int × Int))) l0_1 (l0_1.length : Int) 0 a0_0 l0_1 l0_2 a1_0 l1_1 l1_2) else (some (0, ([] : List Int), ([] : List Int), 2))))) else (some (0, ([] : List Int), ([] : List Int), 2))) = some (r1, r2, r3, r4) := by rw [if_neg (show ¬ (false = true) by decide)] at H; exact H
    clear H
    have H := H1
    clear H1
    by_cases c26 : a0_0 = a1_0
    rotate_left
    ·rw [if_neg c26] at H
     have c26b0 : (a0_0 == a1_0) = false := beq_eq_false_iff_ne.mpr c26
     have c26b1 : (a0_0 != a1_0) = true := bne_iff_ne.mpr c26
     simp only [Option.some.injEq, Prod.mk.injEq] at H
     obtain ⟨rfl, rfl, rfl, rfl⟩ := H
     have hnb85 := NB480_481.out; have hnc85 := NB481_480.out; have hnb86 := NB480_482.out; have hnc86 := NB482_480.out
     have hcz87_0 := bc BK480 0
     have hcz87_1 := bc BK480 1
     have hcz87_2 := bc BK480 2
     have hfz87_0 := bf BK480 0
     have hfz87_1 := bf BK480 1
     have hfz87_2 := bf BK480 2
     have hnb88 := NB481_482.out; have hnc88 := NB482_481.out
     have hcz89_0 := bc BK481 0
     have hcz89_1 := bc BK481 1
     have hcz89_2 := bc BK481 2
     have hfz89_0 := bf BK481 0
     have hfz89_1 := bf BK481 1
     have hfz89_2 := bf BK481 2
     have hcz90_0 := bc BK482 0
     have hcz90_1 := bc BK482 1
     have hcz90_2 := bc BK482 2
     have hfz90_0 := bf BK482 0
     have hfz90_1 := bf BK482 1
     have hfz90_2 := bf BK482 2
     go_wp2
     refine bodyPost_ret (results_ct rfl _ _ gb482 51 #[.int .i64 0, .slice none 0 0, .slice none 0 0] (0, 0) _ rfl (by (repeat refine up1 ?_); refine blk_put (cs := #[.int .i64 0, .slice none 0 0, .slice none 0 0]) ?_ 2 _ rfl; (repeat refine up1 ?_); refine blk_put (cs := #[.int .i64 0, .slice none 0 0, .slice none 0 0]) ?_ 1 _ rfl; (repeat refine up1 ?_); refine blk_put (cs := #[.int .i64 0, .slice none 0 0, .slice none 0 0]) ?_ 0 _ rfl; (repeat refine up1 ?_); exact BK482.out) Try.underlying51 rfl (by kernel_rfl)) rfl ?_
     exact ⟨_, _, by first | rfl | (simp [errW_none, errW_some] <;> rfl) | (simp [*, errW_none, errW_some] <;> rfl), by first | exact Kd.R_nil _ _ _ _ _ | exact Kd.N_nil _ _ _ _ _ | exact Kd.V_nil _ _ _ _ _ | exact Kd.Q_nil _ _ _ _ _ | exact Kd.S_nil _ _ _ _ _, by first | exact Kd.R_nil _ _ _ _ _ | exact Kd.N_nil _ _ _ _ _ | exact Kd.V_nil _ _ _ _ _ | exact Kd.Q_nil _ _ _ _ _ | exact Kd.S_nil _ _ _ _ _, uH HB.out⟩

    rw [if_pos c26] at H
    have c26b0 : (a0_0 == a1_0) = true := beq_iff_eq.mpr c26
    have c26b1 : (a0_0 != a1_0) = false := bne_eq_false_iff_eq.mpr c26
    clear c26
    replace H := Option.bind_eq_some_iff.mp H
    obtain ⟨t485, A270, H⟩ := H
    replace H : ((impl_field_has.f t485 a2).bind fun t486 => (if t486 = true then (impl_MergeRules.l0 kj3 a2 (([] : List (Int × Int))) l0_1 (l0_1.length : Int) 0 a0_0 l0_1 l0_2 a1_0 l1_1 l1_2) else (some (0, ([] : List Int), ([] : List Int), 2)))) = some (r1, r2, r3, r4) := H
    have A27 := zA A270
    clear A270
    replace H := Option.bind_eq_some_iff.mp H
    obtain ⟨t486, A280, H⟩ := H
    replace H : (if t486 = true then (impl_MergeRules.l0 kj3 a2 (([] : List (Int × Int))) l0_1 (l0_1.length : Int) 0 a0_0 l0_1 l0_2 a1_0 l1_1 l1_2) else (some (0, ([] : List Int), ([] : List Int), 2))) = some (r1, r2, r3, r4) := H
    have A28 := zA A280
    clear A280
    by_cases c29 : t486 = true
    ·subst c29
     have H1 : (impl_MergeRules.l0 kj3 a2 (([] : List (Int × Int))) l0_1 (l0_1.length : Int) 0 a0_0 l0_1 l0_2 a1_0 l1_1 l1_2) = some (r1, r2, r3, r4) := by rw [if_pos rfl] at H; exact H
     clear H
     have H := H1
     clear H1
     obtain ⟨y487, hy487⟩ : ∃ y_ : List (Int × Int), y_ = (([] : List (Int × Int))) := ⟨_, rfl⟩
     replace H : (impl_MergeRules.l0 kj3 a2 y487 l0_1 (l0_1.length : Int) 0 a0_0 l0_1 l0_2 a1_0 l1_1 l1_2) = some (r1, r2, r3, r4) := by first | (rw [hy487]; exact H) | exact H
     have Ny487 := zA hy487
     clear hy487
     have H' := zA H
     clear H
     have hnb30 := NB480_481.out; have hnc30 := NB481_480.out; have hnb31 := NB480_482.out; have hnc31 := NB482_480.out
     have hcz32_0 := bc BK480 0
     have hcz32_1 := bc BK480 1
     have hcz32_2 := bc BK480 2
     have hfz32_0 := bf BK480 0
     have hfz32_1 := bf BK480 1
     have hfz32_2 := bf BK480 2
     have hnb33 := NB481_482.out; have hnc33 := NB482_481.out
     have hcz34_0 := bc BK481 0
     have hcz34_1 := bc BK481 1
     have hcz34_2 := bc BK481 2
     have hfz34_0 := bf BK481 0
     have hfz34_1 := bf BK481 1
     have hfz34_2 := bf BK481 2
     go_wp2_with (first | (go_at_call 56; (with_reducible refine (impl_Rule_field.calls a0_0 _ _ l0_1 _ _ l0_2 t485 _ ?side1 ?side2 ?side3 ?side4 A27.out).mono ?_); (case side1 => exact uC ((Kd.C_below HR0_1.out HB.out))); (case side2 => exact HC0_1.out); (case side3 => exact uC ((Kd.C_below HR0_2.out HB.out))); (case side4 => exact HC0_2.out); rintro e w35 ⟨rfl, hb⟩; replace BK480 := xB BK480 hb; replace BK481 := xB BK481 hb; replace BK482 := xB BK482 hb; replace HB := xH HB hb; (try clear hb); (try clear hb2); (try clear hk); (try clear hi)) | (go_at_call 57; (with_reducible refine (impl_field_has.calls t485 a2 true _ A28.out).mono ?_); rintro e w' ⟨rfl, ⟨nd, rfl⟩⟩) | ((with_reducible refine gate_dst (N := 37) rfl ?_); refine made_event (base := w.heap.size) ?hg (N := 37) ?hd (t := 80) ?hr ?hbase ?_; (case hd => rfl); (case hg => rfl); (case hr => rfl); (case hbase => exact below_size (uH HB.out)); intro v488 w36 ho37 hb; rw [← Ny487.out] at ho37; have HO489 := zA (ho37); replace BK480 := xB BK480 hb; replace BK481 := xB BK481 hb; replace BK482 := xB BK482 hb; replace HB := xH HB hb; clear hb ho37; have hcz38_0 := bc BK480 0; have hcz38_1 := bc BK480 1; have hcz38_2 := bc BK480 2; have hfz38_0 := bf BK480 0; have hfz38_1 := bf BK480 1; have hfz38_2 := bf BK480 2))
     go_loopg [41] kj3 (fun kq v41 w' => ∃ (x8_2 : List (Int × Int)) (x41_2 : Int), v41 = .int .i64 x41_2 ∧ Aside0 (impl_MergeRules.l0 kq a2 x8_2 l0_1 (l0_1.length : Int) x41_2 a0_0 l0_1 l0_2 a1_0 l1_1 l1_2 = some (r1, r2, r3, r4)) ∧ Aside0 (kq ≤ kj3) ∧ Aside0 (MapOK w' w.heap.size v488 x8_2) ∧ Aside0 (w'.heap[gb480]? = some (.cells #[.int .i64 a0_0, (.slice A0_1 l0_1.length c0_1), (.slice A0_2 l0_2.length c0_2)] 51 (0, 0))) ∧ Aside0 (w'.heap[gb481]? = some (.cells #[.int .i64 a1_0, (.slice A1_1 l1_1.length c1_1), (.slice A1_2 l1_2.length c1_2)] 51 (0, 0))) ∧ Aside0 (w'.heap[gb482]? = some (.cells #[.int .i64 0, (.slice none 0 0), (.slice none 0 0)] 51 (0, 0))) ∧ Aside0 (Below w.heap.size w w'))
     case atStart => exact ⟨(y487), (0), (by first | rfl | (simp; done) | (simp [*]; done)), H', ⟨Nat.le_refl _⟩, ⟨HO489.out⟩, ⟨uB BK480.out⟩, ⟨uB BK481.out⟩, ⟨uB BK482.out⟩, ⟨uH HB.out⟩⟩
     case round =>
      clear H'
      (try clear c1);(try clear c2);(try clear p2);(try clear c3);(try clear c5);(try clear c9);(try clear c11);(try clear c12);(try clear c15);(try clear c18);(try clear c19);(try clear c22);(try clear c23);(try clear c24);(try clear c26);(try clear c26b0);(try clear c26b1);(try clear c28);(try clear c29);(try clear c30);(try clear c31);(try clear c33);(try clear hcz13_0);(try clear hcz13_1);(try clear hcz13_2)
      (try clear hcz16_0);(try clear hcz16_1);(try clear hcz16_2);(try clear hcz20_0);(try clear hcz20_1);(try clear hcz20_2);(try clear hcz25_0);(try clear hcz25_1);(try clear hcz25_2);(try clear hcz32_0);(try clear hcz32_1);(try clear hcz32_2);(try clear hcz34_0);(try clear hcz34_1);(try clear hcz34_2);(try clear hcz38_0);(try clear hcz38_1);(try clear hcz38_2);(try clear hfz13_0);(try clear hfz13_1)
      (try clear hfz13_2);(try clear hfz16_0);(try clear hfz16_1);(try clear hfz16_2);(try clear hfz20_0);(try clear hfz20_1);(try clear hfz20_2);(try clear hfz25_0);(try clear hfz25_1);(try clear hfz25_2);(try clear hfz32_0);(try clear hfz32_1);(try clear hfz32_2);(try clear hfz34_0);(try clear hfz34_1);(try clear hfz34_2);(try clear hfz38_0);(try clear hfz38_1);(try clear hfz38_2);(try clear p2)
      obtain ⟨x8_2, x41_2, rfl, HA, HK2, HO_8, BK480, BK481, BK482, HB⟩ := hrel
      cases gk with
      | zero => exact absurd HA.out (by simp [impl_MergeRules.l0])
      | succ k2 =>
       have H := HA.out
       clear HA
       simp only [impl_MergeRules.l0] at H
       by_cases c39 : x41_2 < (l0_1.length : Int)
       rotate_left
       ·rw [if_neg c39] at H
        have c39b0 : decide (x41_2 < (l0_1.length : Int)) = false := decide_eq_false c39
        clear c39
        have H' := zA H
        clear H
        have hnb49 := NB481_480.out; have hnc49 := NB480_481.out; have hnb50 := NB481_482.out; have hnc50 := NB482_481.out
        have hcz51_0 := bc BK481 0
        have hcz51_1 := bc BK481 1
        have hcz51_2 := bc BK481 2
        have hfz51_0 := bf BK481 0
        have hfz51_1 := bf BK481 1
        have hfz51_2 := bf BK481 2
        go_wp2
        go_loopg [57] k2 (fun kq v57 w' => ∃ (x8_3 : List (Int × Int)) (x57_3 : Int), v57 = .int .i64 x57_3 ∧ Aside0 (impl_MergeRules.l1 kq a2 x8_3 l1_1 (l1_1.length : Int) x57_3 a0_0 l0_1 l0_2 a1_0 l1_1 l1_2 = some (r1, r2, r3, r4)) ∧ Aside0 (kq ≤ k2) ∧ Aside0 (MapOK w' w.heap.size v488 x8_3) ∧ Aside0 (w'.heap[gb480]? = some (.cells #[.int .i64 a0_0, (.slice A0_1 l0_1.length c0_1), (.slice A0_2 l0_2.length c0_2)] 51 (0, 0))) ∧ Aside0 (w'.heap[gb481]? = some (.cells #[.int .i64 a1_0, (.slice A1_1 l1_1.length c1_1), (.slice A1_2 l1_2.length c1_2)] 51 (0, 0))) ∧ Aside0 (w'.heap[gb482]? = some (.cells #[.int .i64 0, (.slice none 0 0), (.slice none 0 0)] 51 (0, 0))) ∧ Aside0 (Below w.heap.size w w'))
        case atStart => exact ⟨(x8_2), (0), (by first | rfl | (simp; done) | (simp [*]; done)), H', ⟨Nat.le_refl _⟩, ⟨HO_8.out⟩, ⟨uB BK480.out⟩, ⟨uB BK481.out⟩, ⟨uB BK482.out⟩, ⟨uH HB.out⟩⟩
        case round =>
         clear H'
         (try clear c1);(try clear c2);(try clear p2);(try clear c3);(try clear c4);(try clear p4);(try clear q4);(try clear hx4);(try clear c5);(try clear p6);(try clear c9);(try clear c11);(try clear c12);(try clear c15);(try clear c18);(try clear c19);(try clear c22);(try clear c23);(try clear c24);(try clear c26);(try clear c26b0);(try clear c26b1);(try clear c28);(try clear c29);(try clear c30)
         (try clear c31);(try clear c33);(try clear c39);(try clear c39b0);(try clear c40);(try clear c40b0);(try clear c41);(try clear c41b0);(try clear c42);(try clear c42b0);(try clear c44);(try clear c45);(try clear c49);(try clear p49);(try clear q49);(try clear hx49);(try clear c50);(try clear hcz13_0);(try clear hcz13_1);(try clear hcz13_2);(try clear hcz16_0);(try clear hcz16_1);(try clear hcz16_2)
         (try clear hcz20_0);(try clear hcz20_1);(try clear hcz20_2);(try clear hcz25_0);(try clear hcz25_1);(try clear hcz25_2);(try clear hcz32_0);(try clear hcz32_1);(try clear hcz32_2);(try clear hcz34_0);(try clear hcz34_1);(try clear hcz34_2);(try clear hcz38_0);(try clear hcz38_1);(try clear hcz38_2);(try clear hcz46_0);(try clear hcz46_1);(try clear hcz46_2);(try clear hcz51_0);(try clear hcz51_1)
         (try clear hcz51_2);(try clear hfz13_0);(try clear hfz13_1);(try clear hfz13_2);(try clear hfz16_0);(try clear hfz16_1);(try clear hfz16_2);(try clear hfz20_0);(try clear hfz20_1);(try clear hfz20_2);(try clear hfz25_0);(try clear hfz25_1);(try clear hfz25_2);(try clear hfz32_0);(try clear hfz32_1);(try clear hfz32_2);(try clear hfz34_0);(try clear hfz34_1);(try clear hfz34_2);(try clear hfz38_0)
         (try clear hfz38_1);(try clear hfz38_2);(try clear hfz46_0);(try clear hfz46_1);(try clear hfz46_2);(try clear hfz51_0);(try clear hfz51_1);(try clear hfz51_2);(try clear hx490_0);(try clear hx491_0);(try clear p2);(try clear p490);(try clear p491);(try clear q490);(try clear q491)
         obtain ⟨x8_3, x57_3, rfl, HA, HK3, HO_8, BK480, BK481, BK482, HB⟩ := hrel
         cases gk with
         | zero => exact absurd HA.out (by simp [impl_MergeRules.l1])
         | succ k3 =>
          have H := HA.out
          clear HA
          simp only [impl_MergeRules.l1] at H
          by_cases c52 : x57_3 < (l1_1.length : Int)
          rotate_left
          ·rw [if_neg c52] at H
           have c52b0 : decide (x57_3 < (l1_1.length : Int)) = false := decide_eq_false c52
           clear c52
           by_cases c63 : (x8_3.length : Int) > 24
           rotate_left
           ·rw [if_neg c63] at H
            have c63b0 : decide (24 < (x8_3.length : Int)) = false := decide_eq_false c63
            have c63b1 : decide (24 < x8_3.length) = false := decide_eq_false (by omega)
            clear c63
            replace H := Option.bind_eq_some_iff.mp H
            obtain ⟨⟨t498, t499, t502⟩, A680, H⟩ := H
            replace H : (some (t498, t499, t502, 0)) = some (r1, r2, r3, r4) := H
            have A68 := zA A680
            clear A680
            simp only [Option.some.injEq, Prod.mk.injEq] at H
            obtain ⟨rfl, rfl, rfl, rfl⟩ := H
            obtain ⟨bm69, eo69⟩ := MapOK.form HO_8.out
            subst eo69
            have hlen_ := MapOK.lenrun HO_8.out
            have hnb70 := NB480_481.out; have hnc70 := NB481_480.out; have hnb71 := NB480_482.out; have hnc71 := NB482_480.out
            have hcz72_0 := bc BK480 0
            have hcz72_1 := bc BK480 1
            have hcz72_2 := bc BK480 2
            have hfz72_0 := bf BK480 0
            have hfz72_1 := bf BK480 1
            have hfz72_2 := bf BK480 2
            go_wp2_with (first | ((with_reducible refine gate_callee (f := 58) rfl ?_); refine gL (some 86) Try.func58 #[.int .i64 a0_0, .map (some bm69)] ?_; (with_reducible refine (mrule_calls HO_8.out A68.out).mono ?_); rintro e w73 ⟨v500, v503, rfl, ho0, ho1, hb⟩; refine ⟨_, rfl, ?_⟩; replace HO_8 := zA (MapOK.below HO_8.out hb); have HO501 := zA (Kd.R_lower (Kd.R_mono ho0 (fun _ h_ => (⟨h_, trivial⟩ : _ ∧ True))) (below_size (uH HB.out))); have HO504 := zA (Kd.R_lower (Kd.R_mono ho1 (fun _ h_ => (⟨h_, trivial⟩ : _ ∧ True))) (below_size (uH HB.out))); replace BK480 := xB BK480 hb; replace BK481 := xB BK481 hb; replace BK482 := xB BK482 hb; replace HB := xH HB hb; (try clear hb); (try clear hb2); (try clear hk); (try clear hi); (try clear ho0); (try clear ho1); have hnb74 := NB482_481.out; have hnc74 := NB481_482.out; have hcz75_0 := bc BK482 0; have hcz75_1 := bc BK482 1; have hcz75_2 := bc BK482 2; have hfz75_0 := bf BK482 0; have hfz75_1 := bf BK482 1; have hfz75_2 := bf BK482 2; obtain ⟨Ao76, co76, eo76⟩ := Kd.R_slice HO501.out; subst eo76; obtain ⟨Ao77, co77, eo77⟩ := Kd.R_slice HO504.out; subst eo77))
            refine bodyPost_ret (results_ct rfl _ _ gb482 51 #[.int .i64 t498, .slice Ao76 t499.length co76, .slice Ao77 t502.length co77] (0, 0) _ rfl (by (repeat refine up1 ?_); refine blk_put (cs := #[.int .i64 t498, .slice Ao76 t499.length co76, .slice none 0 0]) ?_ 2 _ rfl; (repeat refine up1 ?_); refine blk_put (cs := #[.int .i64 t498, .slice none 0 0, .slice none 0 0]) ?_ 1 _ rfl; (repeat refine up1 ?_); refine blk_put (cs := #[.int .i64 0, .slice none 0 0, .slice none 0 0]) ?_ 0 _ rfl; (repeat refine up1 ?_); exact BK482.out) Try.underlying51 rfl (by kernel_rfl)) rfl ?_
            exact ⟨_, _, by first | rfl | (simp [errW_none, errW_some] <;> rfl) | (simp [*, errW_none, errW_some] <;> rfl), uR (Kd.R_mono (Kd.R_far (p := ⟨gb482, 2, none⟩) (Kd.R_far (p := ⟨gb482, 1, none⟩) (Kd.R_far (p := ⟨gb482, 0, none⟩) (Kd.R_types HO501.out BK482.out (by decide)) (fun _ hk => hk.2) (.int .i64 t498)) (fun _ hk => hk.2) (.slice Ao76 t499.length co76)) (fun _ hk => hk.2) (.slice Ao77 t502.length co77)) (fun _ hk => hk.1.1)), uR (Kd.R_mono (Kd.R_far (p := ⟨gb482, 2, none⟩) (Kd.R_far (p := ⟨gb482, 1, none⟩) (Kd.R_far (p := ⟨gb482, 0, none⟩) (Kd.R_types HO504.out BK482.out (by decide)) (fun _ hk => hk.2) (.int .i64 t498)) (fun _ hk => hk.2) (.slice Ao76 t499.length co76)) (fun _ hk => hk.2) (.slice Ao77 t502.length co77)) (fun _ hk => hk.1.1)), uH HB.out⟩
           rw [if_pos c63] at H
           have c63b0 : decide (24 < (x8_3.length : Int)) = true := decide_eq_true c63
           have c63b1 : decide (24 < x8_3.length) = true := decide_eq_true (by omega)
           clear c63
           simp only [Option.some.injEq, Prod.mk.injEq] at H
           obtain ⟨rfl, rfl, rfl, rfl⟩ := H
           obtain ⟨bm64, eo64⟩ := MapOK.form HO_8.out
           subst eo64
           have hlen_ := MapOK.lenrun HO_8.out
           have hnb65 := NB482_480.out; have hnc65 := NB480_482.out; have hnb66 := NB482_481.out; have hnc66 := NB481_482.out
           have hcz67_0 := bc BK482 0
           have hcz67_1 := bc BK482 1
           have hcz67_2 := bc BK482 2
           have hfz67_0 := bf BK482 0
           have hfz67_1 := bf BK482 1
           have hfz67_2 := bf BK482 2
           go_wp2
           refine bodyPost_ret (results_ct rfl _ _ gb482 51 #[.int .i64 0, .slice none 0 0, .slice none 0 0] (0, 0) _ rfl (by (repeat refine up1 ?_); refine blk_put (cs := #[.int .i64 0, .slice none 0 0, .slice none 0 0]) ?_ 2 _ rfl; (repeat refine up1 ?_); refine blk_put (cs := #[.int .i64 0, .slice none 0 0, .slice none 0 0]) ?_ 1 _ rfl; (repeat refine up1 ?_); refine blk_put (cs := #[.int .i64 0, .slice none 0 0, .slice none 0 0]) ?_ 0 _ rfl; (repeat refine up1 ?_); exact BK482.out) Try.underlying51 rfl (by kernel_rfl)) rfl ?_
           exact ⟨_, _, by first | rfl | (simp [errW_none, errW_some] <;> rfl) | (simp [*, errW_none, errW_some] <;> rfl), by first | exact Kd.R_nil _ _ _ _ _ | exact Kd.N_nil _ _ _ _ _ | exact Kd.V_nil _ _ _ _ _ | exact Kd.Q_nil _ _ _ _ _ | exact Kd.S_nil _ _ _ _ _, by first | exact Kd.R_nil _ _ _ _ _ | exact Kd.N_nil _ _ _ _ _ | exact Kd.V_nil _ _ _ _ _ | exact Kd.Q_nil _ _ _ _ _ | exact Kd.S_nil _ _ _ _ _, uH HB.out⟩
          rw [if_pos c52] at H
          have c52b0 : decide (x57_3 < (l1_1.length : Int)) = true := decide_eq_true c52
          clear c52
          by_cases c53 : 0 ≤ x57_3
          rotate_left
          ·rw [if_neg c53] at H
           exact absurd H (by simp)
          rw [if_pos c53] at H
          have c53b0 : decide (0 ≤ x57_3) = true := decide_eq_true c53
          clear c53
          by_cases c54 : x57_3 < (l1_1.length : Int)
          rotate_left
          ·rw [if_neg c54] at H
           exact absurd H (by simp)
          rw [if_pos c54] at H
          have c54b0 : decide (x57_3 < (l1_1.length : Int)) = true := decide_eq_true c54
          clear c54
          replace H := Option.bind_eq_some_iff.mp H
          obtain ⟨t494, A550, H⟩ := H
          replace H : (if x57_3 < (l1_2.length : Int) then ((impl_field_mod.f t494 (wrap64 ((getZ x8_3 (rd l1_1 x57_3)) + (wrap64 (a2 * (rd l1_2 x57_3)))))).bind fun t496 => ((mput x8_3 (rd l1_1 x57_3) t496).bind fun t497 => (impl_MergeRules.l1 k3 a2 t497 l1_1 (l1_1.length : Int) (wrap64 (x57_3 + 1)) a0_0 l0_1 l0_2 a1_0 l1_1 l1_2))) else (none)) = some (r1, r2, r3, r4) := H
          have A55 := zA A550
          clear A550
          by_cases c56 : x57_3 < (l1_2.length : Int)
          rotate_left
          ·rw [if_neg c56] at H
           exact absurd H (by simp)
          rw [if_pos c56] at H
          have c56b0 : decide (x57_3 < (l1_2.length : Int)) = true := decide_eq_true c56
          clear c56
          replace H := Option.bind_eq_some_iff.mp H
          obtain ⟨t496, A570, H⟩ := H
          replace H : ((mput x8_3 (rd l1_1 x57_3) t496).bind fun t497 => (impl_MergeRules.l1 k3 a2 t497 l1_1 (l1_1.length : Int) (wrap64 (x57_3 + 1)) a0_0 l0_1 l0_2 a1_0 l1_1 l1_2)) = some (r1, r2, r3, r4) := H
          have A57 := zA A570
          clear A570
          replace H := Option.bind_eq_some_iff.mp H
          obtain ⟨t497, A580, H⟩ := H
          replace H : (impl_MergeRules.l1 k3 a2 t497 l1_1 (l1_1.length : Int) (wrap64 (x57_3 + 1)) a0_0 l0_1 l0_2 a1_0 l1_1 l1_2) = some (r1, r2, r3, r4) := H
          have A58 := zA A580
          clear A580
          have H' := zA H
          clear H
          have p493 : 0 ≤ (x57_3 : Int) := of_decide_eq_true (by first | (with_reducible assumption) | assumption)
          have q493 : x57_3 < (l1_1.length : Int) := of_decide_eq_true (by first | (with_reducible assumption) | assumption)
          obtain ⟨ad493, e493, hx493_0⟩ := Kd.at_int HR1_1.out x57_3 p493 q493
          cases e493
          replace hx493_0 := hc HB hx493_0
          replace p493 := eq_true p493
          replace q493 := eq_true q493
          try go_wp2
          replace HO_8 := zA (MapOK.drew HO_8.out)
          replace BK480 := zA (blk_drew BK480.out)
          replace BK481 := zA (blk_drew BK481.out)
          replace BK482 := zA (blk_drew BK482.out)
          replace HB := zA (below_drew1 HB.out)
          have p495 : 0 ≤ (x57_3 : Int) := of_decide_eq_true (by first | (with_reducible assumption) | assumption)
          have q495 : x57_3 < (l1_2.length : Int) := of_decide_eq_true (by first | (with_reducible assumption) | assumption)
          obtain ⟨ad495, e495, hx495_0⟩ := Kd.at_int HR1_2.out x57_3 p495 q495
          have hw495_0 := hx495_0
          cases e495
          replace hx495_0 := hc HB hx495_0
          replace p495 := eq_true p495
          replace q495 := eq_true q495
          obtain ⟨bm61, eo61⟩ := MapOK.form HO_8.out
          subst eo61
          have HKW := zA (mput_some A58.out).2.1
          refine start_ (n := 17) (S := fun w' => ((Instr.lookup 80 (.map (some bm61)) (.int .i64 (rd l1_1 x57_3)) false).run Try.prog w' = .ok (.int .i64 (getZ x8_3 (rd l1_1 x57_3))) w') ∧ w'.cell? ⟨gb480, 0, none⟩ = some (.int .i64 a0_0) ∧ w'.cell? ⟨gb480, 1, none⟩ = some (.slice A0_1 l0_1.length c0_1) ∧ w'.cell? ⟨gb480, 2, none⟩ = some (.slice A0_2 l0_2.length c0_2) ∧ w'.cell? ⟨gb481, 0, none⟩ = some (.int .i64 a1_0) ∧ w'.cell? ⟨gb481, 1, none⟩ = some (.slice (some ad493) l1_1.length c1_1) ∧ w'.cell? ⟨gb481, 2, none⟩ = some (.slice (some ad495) l1_2.length c1_2) ∧ w'.cell? (ad495.add (x57_3).toNat) = some (.int .i64 (rd l1_2 x57_3))) (ds := [16]) #[false, false, false, false, false, false, false, false, false, false, false, false, false, false, false, false, false] (by kernel_rfl) rfl rfl ⟨MapOK.get HO_8.out HKW.out, bcu BK480 0, bcu BK480 1, bcu BK480 2, bcu BK481 0, bcu BK481 1, bcu BK481 2, (hcu HB hw495_0)⟩ (fun hHeld => ?_); refine with_tabW impl_MergeRules.tab14 impl_MergeRules.bits14 (fun HT_ HW_ => ?_)
          generalize wr.drew = w59 at HO_8 BK480 BK481 BK482 HB hx495_0 hHeld ⊢
          refine pu_ 0 62 (bl 17 1) HT_ ?_
          refine pu_ 1 63 (bl 17 3) HT_ ?_
          refine pu_ 4 66 (bl 17 19) HT_ ?_
          refine pu_ 5 67 (bl 17 51) HT_ ?_
          refine ta_ 6 68 (bl 17 115) HT_ HW_ hHeld ?_
          refine pu_ 7 69 (bl 17 243) HT_ ?_
          refine pu_ 8 70 (bl 17 499) HT_ ?_
          refine pu_ 10 72 (bl 17 1523) HT_ ?_
          refine ta_ 2 64 (bl 17 1527) HT_ HW_ hHeld ?_
          refine ta_ 9 71 (bl 17 2039) HT_ HW_ hHeld ?_
          refine pu_ 11 73 (bl 17 4087) HT_ ?_
          refine ta_ 12 74 (bl 17 8183) HT_ HW_ hHeld ?_
          refine pu_ 13 75 (bl 17 16375) HT_ ?_
          refine pu_ 14 76 (bl 17 32759) HT_ ?_
          refine on_ 3 (some 65) (bl 17 32767) HT_ (fun K hK => ?_)
          refine gS Try.func56 #[.agg #[.int .i64 a0_0, .slice A0_1 l0_1.length c0_1, .slice A0_2 l0_2.length c0_2]] ?_
          with_reducible refine (impl_Rule_field.calls a0_0 _ _ l0_1 _ _ l0_2 t494 _ ?side1 ?side2 ?side3 ?side4 A55.out).mono ?_
          (case side1 => exact uC ((Kd.C_below HR0_1.out HB.out)))
          (case side2 => exact HC0_1.out)
          (case side3 => exact uC ((Kd.C_below HR0_2.out HB.out)))
          (case side4 => exact HC0_2.out)
          rintro e w60 ⟨rfl, hb⟩
          refine ⟨_, rfl, ?_⟩
          replace HO_8 := zA (MapOK.below HO_8.out hb)
          replace BK480 := xB BK480 hb
          replace BK481 := xB BK481 hb
          replace BK482 := xB BK482 hb
          replace HB := xH HB hb
          (try clear hb); (try clear hb2); (try clear hk); (try clear hi)
          refine hK.out _ _ ⟨MapOK.get (by first | exact MapOK.drewN HO_8.out _ | exact HO_8.out) HKW.out, bcu BK480 0, bcu BK480 1, bcu BK480 2, bcu BK481 0, bcu BK481 1, bcu BK481 2, (hcu HB hw495_0)⟩ (fun hHeld => ?_)
          clear hK K
          refine no_ 65 ?_
          refine on_ 15 (some 77) (bl 17 65535) HT_ (fun K hK => ?_)
          refine gS Try.func51 #[.int .i64 t494, .int .i64 (wrap64 ((getZ x8_3 (rd l1_1 x57_3)) + (wrap64 (a2 * (rd l1_2 x57_3)))))] ?_
          with_reducible refine (impl_field_mod.calls t494 (wrap64 ((getZ x8_3 (rd l1_1 x57_3)) + (wrap64 (a2 * (rd l1_2 x57_3))))) t496 _ A57.out).mono ?_
          rintro e w' ⟨rfl, ⟨nd, rfl⟩⟩
          refine ⟨_, rfl, ?_⟩
          refine hK.out _ _ ⟨MapOK.get (by first | exact MapOK.drewN HO_8.out _ | exact HO_8.out) HKW.out, bcu BK480 0, bcu BK480 1, bcu BK480 2, bcu BK481 0, bcu BK481 1, bcu BK481 2, (hcu HB hw495_0)⟩ (fun hHeld => ?_)
          clear hK K
          refine no_ 77 ?_
          refine last_ (i := 16) (N := none) (bl 17 131071) rfl rfl (one_of HT_.out (by kernel_rfl)) (by decide) (fun K hK => ?_)
          refine put_step (by rfl) _ _ _ rfl rfl rfl rfl rfl (w0 := w) (MapOK.drewN HO_8.out _) A58.out (uH HB.out) ?_
          intro w62 hy0 hg hb
          replace BK480 := zA (blk_grown (uB BK480.out) hg (MapOK.neB HO_8.out BK480.out))
          replace BK481 := zA (blk_grown (uB BK481.out) hg (MapOK.neB HO_8.out BK481.out))
          replace BK482 := zA (blk_grown (uB BK482.out) hg (MapOK.neB HO_8.out BK482.out))
          replace HO_8 := zA (hy0)
          replace HB := zA (hb)
          (try clear hb); (try clear hkp); (try clear hy0)
          refine hK.out _ _ ?_
          clear hK K
          refine done_ (done_of HT_.out (by kernel_rfl)) ?_
          try go_wp2
          go_roundg k3
          case measure => have := HJ3.out; have := HK2.out; have := HK3.out; omega
          case rel => exact ⟨(t497), (wrap64 (x57_3 + 1)), (by first | rfl | (simp; done) | (simp [*]; done)), H', ⟨by have := HJ3.out; have := HK2.out; have := HK3.out; omega⟩, ⟨HO_8.out⟩, ⟨uB BK480.out⟩, ⟨uB BK481.out⟩, ⟨uB BK482.out⟩, ⟨uH HB.out⟩⟩
       rw [if_pos c39] at H
       have c39b0 : decide (x41_2 < (l0_1.length : Int)) = true := decide_eq_true c39
       clear c39
       by_cases c40 : 0 ≤ x41_2
       rotate_left
       ·rw [if_neg c40] at H
        exact absurd H (by simp)
       rw [if_pos c40] at H
       have c40b0 : decide (0 ≤ x41_2) = true := decide_eq_true c40
       clear c40
       by_cases c41 : x41_2 < (l0_1.length : Int)
       rotate_left
       ·rw [if_neg c41] at H
        exact absurd H (by simp)
       rw [if_pos c41] at H
       have c41b0 : decide (x41_2 < (l0_1.length : Int)) = true := decide_eq_true c41
       clear c41
       by_cases c42 : x41_2 < (l0_2.length : Int)
       rotate_left
       ·rw [if_neg c42] at H
        exact absurd H (by simp)
       rw [if_pos c42] at H
       have c42b0 : decide (x41_2 < (l0_2.length : Int)) = true := decide_eq_true c42
       clear c42
       replace H := Option.bind_eq_some_iff.mp H
       obtain ⟨t492, A430, H⟩ := H
       replace H : (impl_MergeRules.l0 k2 a2 t492 l0_1 (l0_1.length : Int) (wrap64 (x41_2 + 1)) a0_0 l0_1 l0_2 a1_0 l1_1 l1_2) = some (r1, r2, r3, r4) := H
       have A43 := zA A430
       clear A430
       have H' := zA H
       clear H
       have p490 : 0 ≤ (x41_2 : Int) := of_decide_eq_true (by first | (with_reducible assumption) | assumption)
       have q490 : x41_2 < (l0_1.length : Int) := of_decide_eq_true (by first | (with_reducible assumption) | assumption)
       obtain ⟨ad490, e490, hx490_0⟩ := Kd.at_int HR0_1.out x41_2 p490 q490
       cases e490
       replace hx490_0 := hc HB hx490_0
       replace p490 := eq_true p490
       replace q490 := eq_true q490
       have hnb44 := NB480_481.out; have hnc44 := NB481_480.out; have hnb45 := NB480_482.out; have hnc45 := NB482_480.out
       have hcz46_0 := bc BK480 0
       have hcz46_1 := bc BK480 1
       have hcz46_2 := bc BK480 2
       have hfz46_0 := bf BK480 0
       have hfz46_1 := bf BK480 1
       have hfz46_2 := bf BK480 2
       have p491 : 0 ≤ (x41_2 : Int) := of_decide_eq_true (by first | (with_reducible assumption) | assumption)
       have q491 : x41_2 < (l0_2.length : Int) := of_decide_eq_true (by first | (with_reducible assumption) | assumption)
       obtain ⟨ad491, e491, hx491_0⟩ := Kd.at_int HR0_2.out x41_2 p491 q491
       cases e491
       replace hx491_0 := hc HB hx491_0
       replace p491 := eq_true p491
       replace q491 := eq_true q491
       obtain ⟨bm47, eo47⟩ := MapOK.form HO_8.out
       subst eo47
       go_wp2_with (first | (at_mapUpdate; refine put_event ?hg _ _ _ rfl rfl rfl rfl rfl (w0 := w) HO_8.out A43.out (uH HB.out) ?_; (case hg => rfl); intro w48 hy0 hg hb; replace BK480 := zA (blk_grown (uB BK480.out) hg (MapOK.neB HO_8.out BK480.out)); replace BK481 := zA (blk_grown (uB BK481.out) hg (MapOK.neB HO_8.out BK481.out)); replace BK482 := zA (blk_grown (uB BK482.out) hg (MapOK.neB HO_8.out BK482.out)); replace HO_8 := zA (hy0); replace HB := zA (hb); (try clear hb); (try clear hkp); (try clear hy0)))
       go_roundg k2
       case measure => have := HJ3.out; have := HK2.out; omega
       case rel => exact ⟨(t492), (wrap64 (x41_2 + 1)), (by first | rfl | (simp; done) | (simp [*]; done)), H', ⟨by have := HJ3.out; have := HK2.out; omega⟩, ⟨HO_8.out⟩, ⟨uB BK480.out⟩, ⟨uB BK481.out⟩, ⟨uB BK482.out⟩, ⟨uH HB.out⟩⟩
    ·replace c29 := Bool.eq_false_iff.mpr c29
     subst c29
     have H1 : (some (0, ([] : List Int), ([] : List Int), 2)) = some (r1, r2, r3, r4) := by rw [if_neg (show ¬ (false = true) by decide)] at H; exact H
     clear H
     have H := H1
     clear H1
     simp only [Option.some.injEq, Prod.mk.injEq] at H
     obtain ⟨rfl, rfl, rfl, rfl⟩ := H
     have hnb78 := NB480_481.out; have hnc78 := NB481_480.out; have hnb79 := NB480_482.out; have hnc79 := NB482_480.out
     have hcz80_0 := bc BK480 0
     have hcz80_1 := bc BK480 1
     have hcz80_2 := bc BK480 2
     have hfz80_0 := bf BK480 0
     have hfz80_1 := bf BK480 1
     have hfz80_2 := bf BK480 2
     have hnb81 := NB481_482.out; have hnc81 := NB482_481.out
     have hcz82_0 := bc BK481 0
     have hcz82_1 := bc BK481 1
     have hcz82_2 := bc BK481 2
     have hfz82_0 := bf BK481 0
     have hfz82_1 := bf BK481 1
     have hfz82_2 := bf BK481 2
     go_wp2_with (first | (go_at_call 56; (with_reducible refine (impl_Rule_field.calls a0_0 _ _ l0_1 _ _ l0_2 t485 _ ?side1 ?side2 ?side3 ?side4 A27.out).mono ?_); (case side1 => exact uC ((Kd.C_below HR0_1.out HB.out))); (case side2 => exact HC0_1.out); (case side3 => exact uC ((Kd.C_below HR0_2.out HB.out))); (case side4 => exact HC0_2.out); rintro e w83 ⟨rfl, hb⟩; replace BK480 := xB BK480 hb; replace BK481 := xB BK481 hb; replace BK482 := xB BK482 hb; replace HB := xH HB hb; (try clear hb); (try clear hb2); (try clear hk); (try clear hi)) | (go_at_call 57; (with_reducible refine (impl_field_has.calls t485 a2 false _ A28.out).mono ?_); rintro e w' ⟨rfl, ⟨nd, rfl⟩⟩; (try (rw [drewN_self w83]; generalize hq_ : World.drewN w83 _ = w83; have n0_ : Aside0 (w83.heap[gb480]? = some (.cells #[.int .i64 a0_0, .slice A0_1 l0_1.length c0_1, .slice A0_2 l0_2.length c0_2] 51 (0, 0))) := ⟨by rw [← hq_]; exact (uB BK480.out)⟩; have n1_ : Aside0 (w83.heap[gb481]? = some (.cells #[.int .i64 a1_0, .slice A1_1 l1_1.length c1_1, .slice A1_2 l1_2.length c1_2] 51 (0, 0))) := ⟨by rw [← hq_]; exact (uB BK481.out)⟩; have n2_ : Aside0 (w83.heap[gb482]? = some (.cells #[.int .i64 0, .slice none 0 0, .slice none 0 0] 51 (0, 0))) := ⟨by rw [← hq_]; exact (uB BK482.out)⟩; have n3_ : Aside0 (Below w.heap.size w w83) := ⟨by rw [← hq_]; exact (uH HB.out)⟩; clear BK480 BK481 BK482 HB hq_; have BK480 := n0_; have BK481 := n1_; have BK482 := n2_; have HB := n3_; clear n0_ n1_ n2_ n3_)); have hcz84_0 := bc BK482 0; have hcz84_1 := bc BK482 1; have hcz84_2 := bc BK482 2; have hfz84_0 := bf BK482 0; have hfz84_1 := bf BK482 1; have hfz84_2 := bf BK482 2))
     refine bodyPost_ret (results_ct rfl _ _ gb482 51 #[.int .i64 0, .slice none 0 0, .slice none 0 0] (0, 0) _ rfl (by (repeat refine up1 ?_); refine blk_put (cs := #[.int .i64 0, .slice none 0 0, .slice none 0 0]) ?_ 2 _ rfl; (repeat refine up1 ?_); refine blk_put (cs := #[.int .i64 0, .slice none 0 0, .slice none 0 0]) ?_ 1 _ rfl; (repeat refine up1 ?_); refine blk_put (cs := #[.int .i64 0, .slice none 0 0, .slice none 0 0]) ?_ 0 _ rfl; (repeat refine up1 ?_); exact BK482.out) Try.underlying51 rfl (by kernel_rfl)) rfl ?_
     exact ⟨_, _, by first | rfl | (simp [errW_none, errW_some] <;> rfl) | (simp [*, errW_none, errW_some] <;> rfl), by first | exact Kd.R_nil _ _ _ _ _ | exact Kd.N_nil _ _ _ _ _ | exact Kd.V_nil _ _ _ _ _ | exact Kd.Q_nil _ _ _ _ _ | exact Kd.S_nil _ _ _ _ _, by first | exact Kd.R_nil _ _ _ _ _ | exact Kd.N_nil _ _ _ _ _ | exact Kd.V_nil _ _ _ _ _ | exact Kd.Q_nil _ _ _ _ _ | exact Kd.S_nil _ _ _ _ _, uH HB.out⟩
end Go.Proofs.Ytjdannndpfkadaa.Pr
